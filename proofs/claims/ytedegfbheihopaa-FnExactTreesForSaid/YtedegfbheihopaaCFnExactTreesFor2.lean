/- Functions, walks and plain lemmas that the law FnExactTreesFor reaches, part 2. -/
import Derived.Test.YtedegfbheihopaaCFnExactTreesFor1
import Derived.WalkKit
import Derived.ProofKit
import Derived.OpenShut
import Derived.ChangeOld
import Derived.Below
import Derived.SizedLaws
import Derived.ChangeArms
import Derived.DataElems
import Derived.Deep.Draws
import Derived.Deep.AppendLies
import Derived.Maps.AppendAt
import Derived.OwnWalk
import Derived.Laws.BytesArg
import Derived.Laws.MakeOwn
import Derived.Laws.OwnMore
import Derived.Deep.OwnRows
import Derived.Tactics
import Derived.Lib.ConvBytes
import Derived.Laws.Slices
import Derived.KernelRfl
import Derived.RowKit3
import Derived.Deep.LoopGhost
import Derived.Deep.QuietTactic
import Derived.BigQuiet
import Derived.WideLaws
import Derived.Deep.DeepCutAuto
import Derived.Deep.CutBlock
import Derived.Deep.RegionHeld3
import Derived.Laws.Rows
import Derived.Lib.AppendStr
import Derived.ArgAppend
import Derived.Laws.IdiomCopy
import Derived.OrdersHeld
import Derived.Laws.BitsLemmas
import Derived.RowKit
import Derived.WalkSpells
import Derived.Lib.SliceRun
import Derived.Shelf.Abstract
import Derived.ShutString
namespace Go.Proofs.Ytedegfbheihopaa.P
open Go.RowKit Go.Proofs.YtedegfbheihopaaW.PrintWords Go.Proofs.YtedegfbheihopaaW.PrintLast Go.Proofs.YtedegfbheihopaaW.PrintMore
attribute [local go_sem] max2_int min2_int max_two min_two max_three min_three max_four min_four   -- for this text's walks alone
set_option linter.unusedVariables false
set_option linter.unusedSimpArgs false
def impl_GoodEdges.l0:Nat→Int→List (S79)→List (S79)→Int→Int→Option (Bool)
 | 0,_,_,_,_,_=>none
 |k+1,x0,x1,x7,x8,x9=>if x9<x8 then(if 0≤x9 then(if x9< (x7.length:Int) then((impl_in.f ((rd_T79 x7 x9).f0) 0 (wrap64 (x0 - 1))).bind fun t259=>(if t259=true then((impl_in.f ((rd_T79 x7 x9).f1) 0 (wrap64 (x0 - 1))).bind fun t260=>(if t260=true then(if ((rd_T79 x7 x9).f0)≥ ((rd_T79 x7 x9).f1) then(some false) else((impl_in.f ((rd_T79 x7 x9).f2) 1 100).bind fun t261=>(if t261=true then(if x9 > 0 then(if 0≤ (wrap64 (x9 - 1)) then(if (wrap64 (x9 - 1))< (x1.length:Int) then((impl_byEnds.f ((rd_T79 x1 (wrap64 (x9 - 1))).f0) ((rd_T79 x1 (wrap64 (x9 - 1))).f1) ((rd_T79 x1 (wrap64 (x9 - 1))).f2) ((rd_T79 x7 x9).f0) ((rd_T79 x7 x9).f1) ((rd_T79 x7 x9).f2)).bind fun t263=>(if t263≥0 then(some false) else(impl_GoodEdges.l0 k x0 x1 x7 x8 (wrap64 (x9+1))))) else(none)) else(none)) else(impl_GoodEdges.l0 k x0 x1 x7 x8 (wrap64 (x9+1)))) else(some false)))) else(some false))) else(some false))) else(none)) else(none)) else((impl_isSpots.f x0).bind fun t256=>(if t256=true then(some (decide ((x1.length:Int)≤40))) else(some false)))
def impl_GoodEdges.f (k:Nat) (a0:Int) (l1:List (S79)):Option (Bool):=impl_GoodEdges.l0 k a0 l1 l1 (l1.length:Int) 0
def impl_GoodEdges.T4:Bool × List (List Nat × List Nat):=(true,[([],[]),([0],[0]),([],[]),([2],[2]),([1,3],[1,3]),([4],[4]),([5,4],[5]),([6],[6]),([7,6],[6,7]),([6],[6]),([9,6],[6,9]),([8,10,6,6],[6,8,10]),([11,6],[6,11]),([6,12],[6,12]),([13,11],[13]),([14],[14]),([15,14],[14,15]),([14],[14]),([17,14],[14,17]),([16,18,14],[14,16,18]),([14,19],[14,19]),([20,14],[20]),([21],[21]),([22,21],[21,22]),([23,21,21],[21,23]),([24,21],[21,24]),([21,25],[21,25]),([26,24],[26]),([27],[27]),([28,27],[27,28]),([29,27,27],[27,29]),([30],[30]),([30],[30]),([32,30],[30,32]),([31,33,30],[30,31,33]),([34,30],[30,34]),([30],[30]),([35,36,30,30],[30,35,36]),([37,30],[30,37]),([30,38,27],[27,30,38]),([27,39],[27,39])])
def impl_GoodEdges.B4:List Nat:= [0,1,0,4,15,31,63,127,255,127,639,2047,4095,8191,16383,32767,65535,32767,163839,524287,1048575,2097151,4194303,8388607,16777215,33554431,67108863,134217727,268435455,536870911,1073741823,2147483647,2147483647,6442450943,17179869183,34359738367,2147483647,137438953471,274877906943,549755813887,1099511627775]
theorem impl_GoodEdges.tab4:rtab .any (opsOf Try.f69 4)=impl_GoodEdges.T4:=by kernel_rfl
theorem impl_GoodEdges.bits4:waitsOk impl_GoodEdges.T4.2 impl_GoodEdges.B4=true:=by kernel_rfl
abbrev f':=false
abbrev t':=true
theorem zq5 {α :Type} (l:List α) (i:Nat) (a: α):l.toArray.setIfInBounds i a= (l.set i a).toArray:=List.setIfInBounds_toArray ..
theorem zq6 {α :Type} (a b: α) (l:List α):(a::l).set 0 b=b::l:=rfl
theorem zq7 {α :Type} (a b: α) (l:List α) (n:Nat):(a::l).set (n+1) b=a::l.set n b:=rfl
set_option maxHeartbeats 8000000 in
set_option maxRecDepth 100000 in
theorem impl_GoodEdges.calls (k:Nat) (a0:Int) (A1:Option Addr) (c1:Nat) (l1:List (S79)) (r:Bool) (w:World) (hr1:Kd.C k79 w A1 l1.length l1) (hc1:l1.length≤c1) (h:impl_GoodEdges.f k a0 l1=some r):
  Calls Try.prog 69 #[.int .i64 a0,.slice A1 l1.length c1] w fun e w'=>e= .returned (.bool r)∧Below w.heap.size w w':=by
 have hu79:=Try.underlying79
 have HR1:=Aside0.mk hr1
 have HC1:=Aside0.mk hc1
 clear hr1 hc1
 have HB:=Aside0.mk (Below.refl w.heap.size w)
 have H:(impl_GoodEdges.l0 k a0 l1 l1 (l1.length:Int) 0)=some r:=h
 clear h
 have H':=Aside0.mk H
 clear H
 go_enter Try.func69,Try.ntmps69
 go_wp2
 go_loopg [9] k (fun kq v9 w'=> ∃ (x9_1:Int),v9= .int .i64 x9_1∧Aside0 (impl_GoodEdges.l0 kq a0 l1 l1 (l1.length:Int) x9_1=some r)∧Aside0 (kq≤k)∧Aside0 (Below w.heap.size w w'))
 case atStart=>exact⟨(0),(by first|rfl|(simp;done)|(simp [*];done)),H',⟨Nat.le_refl _⟩,⟨by repeat(first|(with_reducible first|exact HB.out|apply below_alloc|apply pw_below_drewN|apply below_drew1)|exact HB.out)⟩⟩
 case round=>
  clear H'
  try clear c1
  try clear p2
  obtain⟨x9_1,rfl,HA,HK1,HB⟩:=hrel
  cases gk with
  |zero=>exact absurd HA.out (by simp [impl_GoodEdges.l0])
  |succ k1=>
   have H:=HA.out
   clear HA
   simp only [impl_GoodEdges.l0] at H
   by_cases c3:x9_1< (l1.length:Int)
   ·rw [if_pos c3] at H
    have c3b0:decide (x9_1< (l1.length:Int))=true:=decide_eq_true c3
    clear c3
    by_cases c4: 0≤x9_1
    ·rw [if_pos c4] at H
     have c4b0:decide (0≤x9_1)=true:=decide_eq_true c4
     clear c4
     by_cases c5:x9_1< (l1.length:Int)
     ·rw [if_pos c5] at H
      have c5b0:decide (x9_1< (l1.length:Int))=true:=decide_eq_true c5
      clear c5
      replace H:=Option.bind_eq_some_iff.mp H
      obtain⟨t259,A60,H⟩:=H
      replace H:(if t259=true then((impl_in.f ((rd_T79 l1 x9_1).f1) 0 (wrap64 (a0 - 1))).bind fun t260=>(if t260=true then(if ((rd_T79 l1 x9_1).f0)≥ ((rd_T79 l1 x9_1).f1) then(some false) else((impl_in.f ((rd_T79 l1 x9_1).f2) 1 100).bind fun t261=>(if t261=true then(if x9_1 > 0 then(if 0≤ (wrap64 (x9_1 - 1)) then(if (wrap64 (x9_1 - 1))< (l1.length:Int) then((impl_byEnds.f ((rd_T79 l1 (wrap64 (x9_1 - 1))).f0) ((rd_T79 l1 (wrap64 (x9_1 - 1))).f1) ((rd_T79 l1 (wrap64 (x9_1 - 1))).f2) ((rd_T79 l1 x9_1).f0) ((rd_T79 l1 x9_1).f1) ((rd_T79 l1 x9_1).f2)).bind fun t263=>(if t263≥0 then(some false) else(impl_GoodEdges.l0 k1 a0 l1 l1 (l1.length:Int) (wrap64 (x9_1+1))))) else(none)) else(none)) else(impl_GoodEdges.l0 k1 a0 l1 l1 (l1.length:Int) (wrap64 (x9_1+1)))) else(some false)))) else(some false))) else(some false))=some r:=H
      have A6:=Aside0.mk A60
      clear A60
      by_cases c7:t259=true
      ·subst c7
       have H1:((impl_in.f ((rd_T79 l1 x9_1).f1) 0 (wrap64 (a0 - 1))).bind fun t260=>(if t260=true then(if ((rd_T79 l1 x9_1).f0)≥ ((rd_T79 l1 x9_1).f1) then(some false) else((impl_in.f ((rd_T79 l1 x9_1).f2) 1 100).bind fun t261=>(if t261=true then(if x9_1 > 0 then(if 0≤ (wrap64 (x9_1 - 1)) then(if (wrap64 (x9_1 - 1))< (l1.length:Int) then((impl_byEnds.f ((rd_T79 l1 (wrap64 (x9_1 - 1))).f0) ((rd_T79 l1 (wrap64 (x9_1 - 1))).f1) ((rd_T79 l1 (wrap64 (x9_1 - 1))).f2) ((rd_T79 l1 x9_1).f0) ((rd_T79 l1 x9_1).f1) ((rd_T79 l1 x9_1).f2)).bind fun t263=>(if t263≥0 then(some false) else(impl_GoodEdges.l0 k1 a0 l1 l1 (l1.length:Int) (wrap64 (x9_1+1))))) else(none)) else(none)) else(impl_GoodEdges.l0 k1 a0 l1 l1 (l1.length:Int) (wrap64 (x9_1+1)))) else(some false)))) else(some false)))=some r:=by rw [if_pos rfl] at H;exact H
       clear H
       have H:=H1
       clear H1
       replace H:=Option.bind_eq_some_iff.mp H
       obtain⟨t260,A80,H⟩:=H
       replace H:(if t260=true then(if ((rd_T79 l1 x9_1).f0)≥ ((rd_T79 l1 x9_1).f1) then(some false) else((impl_in.f ((rd_T79 l1 x9_1).f2) 1 100).bind fun t261=>(if t261=true then(if x9_1 > 0 then(if 0≤ (wrap64 (x9_1 - 1)) then(if (wrap64 (x9_1 - 1))< (l1.length:Int) then((impl_byEnds.f ((rd_T79 l1 (wrap64 (x9_1 - 1))).f0) ((rd_T79 l1 (wrap64 (x9_1 - 1))).f1) ((rd_T79 l1 (wrap64 (x9_1 - 1))).f2) ((rd_T79 l1 x9_1).f0) ((rd_T79 l1 x9_1).f1) ((rd_T79 l1 x9_1).f2)).bind fun t263=>(if t263≥0 then(some false) else(impl_GoodEdges.l0 k1 a0 l1 l1 (l1.length:Int) (wrap64 (x9_1+1))))) else(none)) else(none)) else(impl_GoodEdges.l0 k1 a0 l1 l1 (l1.length:Int) (wrap64 (x9_1+1)))) else(some false)))) else(some false))=some r:=H
       have A8:=Aside0.mk A80
       clear A80
       by_cases c9:t260=true
       ·subst c9
        have H1:(if ((rd_T79 l1 x9_1).f0)≥ ((rd_T79 l1 x9_1).f1) then(some false) else((impl_in.f ((rd_T79 l1 x9_1).f2) 1 100).bind fun t261=>(if t261=true then(if x9_1 > 0 then(if 0≤ (wrap64 (x9_1 - 1)) then(if (wrap64 (x9_1 - 1))< (l1.length:Int) then((impl_byEnds.f ((rd_T79 l1 (wrap64 (x9_1 - 1))).f0) ((rd_T79 l1 (wrap64 (x9_1 - 1))).f1) ((rd_T79 l1 (wrap64 (x9_1 - 1))).f2) ((rd_T79 l1 x9_1).f0) ((rd_T79 l1 x9_1).f1) ((rd_T79 l1 x9_1).f2)).bind fun t263=>(if t263≥0 then(some false) else(impl_GoodEdges.l0 k1 a0 l1 l1 (l1.length:Int) (wrap64 (x9_1+1))))) else(none)) else(none)) else(impl_GoodEdges.l0 k1 a0 l1 l1 (l1.length:Int) (wrap64 (x9_1+1)))) else(some false))))=some r:=by rw [if_pos rfl] at H;exact H
        clear H
        have H:=H1
        clear H1
        by_cases c10:((rd_T79 l1 x9_1).f0)≥ ((rd_T79 l1 x9_1).f1)
        ·rw [if_pos c10] at H
         have c10b0:decide (((rd_T79 l1 x9_1).f1)≤ ((rd_T79 l1 x9_1).f0))=true:=decide_eq_true c10
         clear c10
         obtain rfl:=Option.some.inj H
         have p257: 0≤ (x9_1:Int):=of_decide_eq_true zq1
         have q257:x9_1< (l1.length:Int):=of_decide_eq_true zq1
         obtain⟨ad257,e257,hx257_0,hx257_1,hx257_2⟩:=at_T79 HR1.out x9_1 p257 q257
         cases e257
         replace hx257_0:=(HB.out.cell (World.block_lt_of_cell? w _ hx257_0)).trans hx257_0
         replace hx257_1:=(HB.out.cell (World.block_lt_of_cell? w _ hx257_1)).trans hx257_1
         replace hx257_2:=(HB.out.cell (World.block_lt_of_cell? w _ hx257_2)).trans hx257_2
         replace p257:=eq_true p257
         replace q257:=eq_true q257
         try go_wp2_with (first|((with_reducible refine gate_dst (N:=6) rfl ?_);(try(refine gate_guard (by rfl) ?_;dsimp only));refine box_event ?hg (N:=6) ?hd (cs:= #[.int .i64 0,.int .i64 0,.int .i64 0]) (t:=79) ?hr ?_;(case hd=>rfl);(case hg=>rfl);(case hr=>first|(go_simp;done)|(go_simp;rfl));intro gb258 hg w11 hbox hb;have n0_:=Aside0.mk (below_step (zb0 HB) hb);have n1_:=Aside0.mk (hbox);have n2_:=Aside0.mk ((by rw [hg];exact(below_size (zb0 HB)):w.heap.size≤gb258));have n3_:=Aside0.mk ((by rw [hg];exact(below_size (zb0 HB)):w.heap.size≤gb258));clear HB;have HB:=n0_;have BK258:=n1_;have GW258:=n2_;have GE258:=n3_;clear n0_ n1_ n2_ n3_;clear hb hbox hg;have hcz12_0:w11.cell? ⟨gb258,0,none⟩=some (.int .i64 0):=(blk_cell BK258.out 0).trans rfl;have hcz12_1:w11.cell? ⟨gb258,1,none⟩=some (.int .i64 0):=(blk_cell BK258.out 1).trans rfl;have hcz12_2:w11.cell? ⟨gb258,2,none⟩=some (.int .i64 0):=(blk_cell BK258.out 2).trans rfl;have hfz12_0:=blk_frozen BK258.out 0;have hfz12_1:=blk_frozen BK258.out 1;have hfz12_2:=blk_frozen BK258.out 2))
         have n0_:Aside0 ((((w11.setCell ⟨gb258,0,none⟩ (.int .i64 ((rd_T79 l1 x9_1).f0))).setCell ⟨gb258,1,none⟩ (.int .i64 ((rd_T79 l1 x9_1).f1))).setCell ⟨gb258,2,none⟩ (.int .i64 ((rd_T79 l1 x9_1).f2))).heap[gb258]?=some (.cells #[.int .i64 ((rd_T79 l1 x9_1).f0),.int .i64 ((rd_T79 l1 x9_1).f1),.int .i64 ((rd_T79 l1 x9_1).f2)] 79 (0,0))):=⟨by(with_reducible repeat(first|refine blk_drewN ?_ _|refine blk_drew ?_ |refine blk_alloc ?_ _));refine blk_put (cs:= #[.int .i64 ((rd_T79 l1 x9_1).f0),.int .i64 ((rd_T79 l1 x9_1).f1),.int .i64 0]) ?_ 2 _ rfl;(with_reducible repeat(first|refine blk_drewN ?_ _|refine blk_drew ?_ |refine blk_alloc ?_ _));refine blk_put (cs:= #[.int .i64 ((rd_T79 l1 x9_1).f0),.int .i64 0,.int .i64 0]) ?_ 1 _ rfl;(with_reducible repeat(first|refine blk_drewN ?_ _|refine blk_drew ?_ |refine blk_alloc ?_ _));refine blk_put (cs:= #[.int .i64 0,.int .i64 0,.int .i64 0]) ?_ 0 _ rfl;(with_reducible repeat(first|refine blk_drewN ?_ _|refine blk_drew ?_ |refine blk_alloc ?_ _));exact BK258.out⟩
         have n1_:Aside0 (Below w.heap.size w (((w11.setCell ⟨gb258,0,none⟩ (.int .i64 ((rd_T79 l1 x9_1).f0))).setCell ⟨gb258,1,none⟩ (.int .i64 ((rd_T79 l1 x9_1).f1))).setCell ⟨gb258,2,none⟩ (.int .i64 ((rd_T79 l1 x9_1).f2)))):=⟨by repeat(first|(with_reducible first|exact HB.out|apply below_alloc|apply pw_below_drewN|apply below_drew1|refine below_set ?_ GE258.out)|exact HB.out)⟩
         (try clear BK258)
         (try clear HB)
         (try simp only [show ∀ (W_:World) (n_:Nat) (a_:Addr) (v_:Value),(World.drewN W_ n_).setCell a_ v_= (World.setCell W_ a_ v_).drewN n_ from fun _ _ _ _=>rfl])
         generalize (((w11.setCell ⟨gb258,0,none⟩ (.int .i64 ((rd_T79 l1 x9_1).f0))).setCell ⟨gb258,1,none⟩ (.int .i64 ((rd_T79 l1 x9_1).f1))).setCell ⟨gb258,2,none⟩ (.int .i64 ((rd_T79 l1 x9_1).f2)))=w13 at n0_ n1_ ⊢
         have BK258:=n0_
         have HB:=n1_
         clear n0_ n1_
         have n0_:=Aside0.mk (blk_drew BK258.out)
         have n1_:=Aside0.mk (below_drew1 HB.out)
         clear BK258
         clear HB
         have BK258:=n0_
         have HB:=n1_
         clear n0_ n1_
         refine start_ (n:=41) (S:=fun w'=>w'.cell? ⟨gb258,0,none⟩=some (.int .i64 ((rd_T79 l1 x9_1).f0))∧w'.cell? ⟨gb258,1,none⟩=some (.int .i64 ((rd_T79 l1 x9_1).f1))∧w'.cell? ⟨gb258,2,none⟩=some (.int .i64 ((rd_T79 l1 x9_1).f2))) (ds:= []) #[f',f',f',f',f',f',f',f',f',f',f',f',f',f',f',f',f',f',f',f',f',f',f',f',f',f',f',f',f',f',f',f',f',f',f',f',f',f',f',f',f'] (by kernel_rfl) rfl rfl ⟨(blk_cell BK258.out 0).trans rfl,(blk_cell BK258.out 1).trans rfl,(blk_cell BK258.out 2).trans rfl⟩ (fun hHeld=>?_);refine with_tabW impl_GoodEdges.tab4 impl_GoodEdges.bits4 (fun HT_ HW_=>?_)
         generalize w13.drew=w14 at BK258 HB hHeld ⊢
         refine pure_ (i:=0) (N:=some 14) (v:=?_) (a':=?_) #[t',f',f',f',f',f',f',f',f',f',f',f',f',f',f',f',f',f',f',f',f',f',f',f',f',f',f',f',f',f',f',f',f',f',f',f',f',f',f',f',f'] rfl rfl (any_of HT_.out (by kernel_rfl)) (fun _ _ _ h=>h) (Or.inl ⟨by rfl,?_⟩) ?_ ?_
         rotate_left
         ·intro w'
          go_simp
          with_reducible rfl
         rotate_left
         ·simp only [Act.put,zq5,zq6,zq7,i64_w,i32_w]
          rfl
         refine pure_ (i:=2) (N:=some 16) (v:=?_) (a':=?_) #[t',f',t',f',f',f',f',f',f',f',f',f',f',f',f',f',f',f',f',f',f',f',f',f',f',f',f',f',f',f',f',f',f',f',f',f',f',f',f',f',f'] rfl rfl (any_of HT_.out (by kernel_rfl)) (fun _ _ _ h=>h) (Or.inl ⟨by rfl,?_⟩) ?_ ?_
         rotate_left
         ·intro w'
          go_simp
          with_reducible rfl
         rotate_left
         ·simp only [Act.put,zq5,zq6,zq7,i64_w,i32_w]
          rfl
         refine pure_ (i:=3) (N:=some 17) (v:=?_) (a':=?_) #[t',f',t',t',f',f',f',f',f',f',f',f',f',f',f',f',f',f',f',f',f',f',f',f',f',f',f',f',f',f',f',f',f',f',f',f',f',f',f',f',f'] rfl rfl (any_of HT_.out (by kernel_rfl)) (fun _ _ _ h=>h) (Or.inl ⟨by rfl,?_⟩) ?_ ?_
         rotate_left
         ·intro w'
          go_simp
          with_reducible rfl
         rotate_left
         ·simp only [Act.put,zq5,zq6,zq7,i64_w,i32_w]
          rfl
         refine take_ (i:=1) (N:=some 15) (v:=?_) (a':=?_) #[t',t',t',t',f',f',f',f',f',f',f',f',f',f',f',f',f',f',f',f',f',f',f',f',f',f',f',f',f',f',f',f',f',f',f',f',f',f',f',f',f'] rfl rfl (take_ofW HT_.out HW_.out (by kernel_rfl)) (fun _ _ _ h=>h) (Or.inl ⟨by rfl,?_⟩) hHeld ?_ ?_
         rotate_left
         ·rintro w' ⟨s0,s1,s2⟩
          go_simp
          with_reducible rfl
         rotate_left
         ·simp only [Act.put,zq5,zq6,zq7,i64_w,i32_w]
          rfl
         refine one_ (i:=4) (N:=some 18) #[t',t',t',t',t',f',f',f',f',f',f',f',f',f',f',f',f',f',f',f',f',f',f',f',f',f',f',f',f',f',f',f',f',f',f',f',f',f',f',f',f'] rfl rfl (one_of HT_.out (by kernel_rfl)) (by decide) (fun K hK=>?_)
         refine goes_ Try.func78 (by kernel_rfl) rfl #[.int .i64 ((rd_T79 l1 x9_1).f0),.int .i64 0,.int .i64 (wrap64 (a0 - 1))] (by rfl) rfl rfl zq2 ?_
         with_reducible refine(impl_in.calls ((rd_T79 l1 x9_1).f0) 0 (wrap64 (a0 - 1)) true _ A6.out).mono ?_
         rintro e w' ⟨rfl,⟨nd,rfl⟩⟩
         refine⟨_,rfl,?_⟩
         refine hK.out _ _ ⟨(blk_cell BK258.out 0).trans rfl,(blk_cell BK258.out 1).trans rfl,(blk_cell BK258.out 2).trans rfl⟩ (fun hHeld=>?_)
         clear hK K
         refine norm_ (a':=?_) ?_ ?_
         rotate_left
         ·show Act.put _ (some 18) _=_
          simp only [Act.put,zq5,zq6,zq7,i64_w,i32_w]
          rfl
         refine pure_ (i:=5) (N:=some 19) (v:=?_) (a':=?_) #[t',t',t',t',t',t',f',f',f',f',f',f',f',f',f',f',f',f',f',f',f',f',f',f',f',f',f',f',f',f',f',f',f',f',f',f',f',f',f',f',f'] rfl rfl (any_of HT_.out (by kernel_rfl)) (fun _ _ _ h=>h) (Or.inl ⟨by rfl,?_⟩) ?_ ?_
         rotate_left
         ·intro w'
          go_simp
          with_reducible rfl
         rotate_left
         ·simp only [Act.put,zq5,zq6,zq7,i64_w,i32_w]
          rfl
         refine pure_ (i:=6) (N:=some 20) (v:=?_) (a':=?_) #[t',t',t',t',t',t',t',f',f',f',f',f',f',f',f',f',f',f',f',f',f',f',f',f',f',f',f',f',f',f',f',f',f',f',f',f',f',f',f',f',f'] rfl rfl (any_of HT_.out (by kernel_rfl)) (fun _ _ _ h=>h) (Or.inl ⟨by rfl,?_⟩) ?_ ?_
         rotate_left
         ·intro w'
          go_simp
          with_reducible rfl
         rotate_left
         ·simp only [Act.put,zq5,zq6,zq7,i64_w,i32_w]
          rfl
         refine pure_ (i:=7) (N:=some 21) (v:=?_) (a':=?_) #[t',t',t',t',t',t',t',t',f',f',f',f',f',f',f',f',f',f',f',f',f',f',f',f',f',f',f',f',f',f',f',f',f',f',f',f',f',f',f',f',f'] rfl rfl (any_of HT_.out (by kernel_rfl)) (fun _ _ _ h=>h) (Or.inl ⟨by rfl,?_⟩) ?_ ?_
         rotate_left
         ·intro w'
          go_simp
          with_reducible rfl
         rotate_left
         ·simp only [Act.put,zq5,zq6,zq7,i64_w,i32_w]
          rfl
         refine pure_ (i:=9) (N:=some 23) (v:=?_) (a':=?_) #[t',t',t',t',t',t',t',t',f',t',f',f',f',f',f',f',f',f',f',f',f',f',f',f',f',f',f',f',f',f',f',f',f',f',f',f',f',f',f',f',f'] rfl rfl (any_of HT_.out (by kernel_rfl)) (fun _ _ _ h=>h) (Or.inl ⟨by rfl,?_⟩) ?_ ?_
         rotate_left
         ·intro w'
          go_simp
          with_reducible rfl
         rotate_left
         ·simp only [Act.put,zq5,zq6,zq7,i64_w,i32_w]
          rfl
         refine pure_ (i:=10) (N:=some 24) (v:=?_) (a':=?_) #[t',t',t',t',t',t',t',t',f',t',t',f',f',f',f',f',f',f',f',f',f',f',f',f',f',f',f',f',f',f',f',f',f',f',f',f',f',f',f',f',f'] rfl rfl (any_of HT_.out (by kernel_rfl)) (fun _ _ _ h=>h) (Or.inl ⟨by rfl,?_⟩) ?_ ?_
         rotate_left
         ·intro w'
          go_simp
          with_reducible rfl
         rotate_left
         ·simp only [Act.put,zq5,zq6,zq7,i64_w,i32_w]
          rfl
         refine take_ (i:=8) (N:=some 22) (v:=?_) (a':=?_) #[t',t',t',t',t',t',t',t',t',t',t',f',f',f',f',f',f',f',f',f',f',f',f',f',f',f',f',f',f',f',f',f',f',f',f',f',f',f',f',f',f'] rfl rfl (take_ofW HT_.out HW_.out (by kernel_rfl)) (fun _ _ _ h=>h) (Or.inl ⟨by rfl,?_⟩) hHeld ?_ ?_
         rotate_left
         ·rintro w' ⟨s0,s1,s2⟩
          go_simp
          with_reducible rfl
         rotate_left
         ·simp only [Act.put,zq5,zq6,zq7,i64_w,i32_w]
          rfl
         refine one_ (i:=11) (N:=some 25) #[t',t',t',t',t',t',t',t',t',t',t',t',f',f',f',f',f',f',f',f',f',f',f',f',f',f',f',f',f',f',f',f',f',f',f',f',f',f',f',f',f'] rfl rfl (one_of HT_.out (by kernel_rfl)) (by decide) (fun K hK=>?_)
         refine goes_ Try.func78 (by kernel_rfl) rfl #[.int .i64 ((rd_T79 l1 x9_1).f1),.int .i64 0,.int .i64 (wrap64 (a0 - 1))] (by rfl) rfl rfl zq2 ?_
         with_reducible refine(impl_in.calls ((rd_T79 l1 x9_1).f1) 0 (wrap64 (a0 - 1)) true _ A8.out).mono ?_
         rintro e w' ⟨rfl,⟨nd,rfl⟩⟩
         refine⟨_,rfl,?_⟩
         refine hK.out _ _ ⟨(blk_cell BK258.out 0).trans rfl,(blk_cell BK258.out 1).trans rfl,(blk_cell BK258.out 2).trans rfl⟩ (fun hHeld=>?_)
         clear hK K
         refine norm_ (a':=?_) ?_ ?_
         rotate_left
         ·show Act.put _ (some 25) _=_
          simp only [Act.put,zq5,zq6,zq7,i64_w,i32_w]
          rfl
         refine pure_ (i:=12) (N:=some 26) (v:=?_) (a':=?_) #[t',t',t',t',t',t',t',t',t',t',t',t',t',f',f',f',f',f',f',f',f',f',f',f',f',f',f',f',f',f',f',f',f',f',f',f',f',f',f',f',f'] rfl rfl (any_of HT_.out (by kernel_rfl)) (fun _ _ _ h=>h) (Or.inl ⟨by rfl,?_⟩) ?_ ?_
         rotate_left
         ·intro w'
          go_simp
          with_reducible rfl
         rotate_left
         ·simp only [Act.put,zq5,zq6,zq7,i64_w,i32_w]
          rfl
         refine pure_ (i:=13) (N:=some 27) (v:=?_) (a':=?_) #[t',t',t',t',t',t',t',t',t',t',t',t',t',t',f',f',f',f',f',f',f',f',f',f',f',f',f',f',f',f',f',f',f',f',f',f',f',f',f',f',f'] rfl rfl (any_of HT_.out (by kernel_rfl)) (fun _ _ _ h=>h) (Or.inl ⟨by rfl,?_⟩) ?_ ?_
         rotate_left
         ·intro w'
          go_simp
          with_reducible rfl
         rotate_left
         ·simp only [Act.put,zq5,zq6,zq7,i64_w,i32_w]
          rfl
         refine pure_ (i:=14) (N:=some 28) (v:=?_) (a':=?_) #[t',t',t',t',t',t',t',t',t',t',t',t',t',t',t',f',f',f',f',f',f',f',f',f',f',f',f',f',f',f',f',f',f',f',f',f',f',f',f',f',f'] rfl rfl (any_of HT_.out (by kernel_rfl)) (fun _ _ _ h=>h) (Or.inl ⟨by rfl,?_⟩) ?_ ?_
         rotate_left
         ·intro w'
          go_simp
          with_reducible rfl
         rotate_left
         ·simp only [Act.put,zq5,zq6,zq7,i64_w,i32_w]
          rfl
         refine pure_ (i:=15) (N:=some 29) (v:=?_) (a':=?_) #[t',t',t',t',t',t',t',t',t',t',t',t',t',t',t',t',f',f',f',f',f',f',f',f',f',f',f',f',f',f',f',f',f',f',f',f',f',f',f',f',f'] rfl rfl (any_of HT_.out (by kernel_rfl)) (fun _ _ _ h=>h) (Or.inl ⟨by rfl,?_⟩) ?_ ?_
         rotate_left
         ·intro w'
          go_simp
          with_reducible rfl
         rotate_left
         ·simp only [Act.put,zq5,zq6,zq7,i64_w,i32_w]
          rfl
         refine pure_ (i:=17) (N:=some 31) (v:=?_) (a':=?_) #[t',t',t',t',t',t',t',t',t',t',t',t',t',t',t',t',f',t',f',f',f',f',f',f',f',f',f',f',f',f',f',f',f',f',f',f',f',f',f',f',f'] rfl rfl (any_of HT_.out (by kernel_rfl)) (fun _ _ _ h=>h) (Or.inl ⟨by rfl,?_⟩) ?_ ?_
         rotate_left
         ·intro w'
          go_simp
          with_reducible rfl
         rotate_left
         ·simp only [Act.put,zq5,zq6,zq7,i64_w,i32_w]
          rfl
         refine take_ (i:=16) (N:=some 30) (v:=?_) (a':=?_) #[t',t',t',t',t',t',t',t',t',t',t',t',t',t',t',t',t',t',f',f',f',f',f',f',f',f',f',f',f',f',f',f',f',f',f',f',f',f',f',f',f'] rfl rfl (take_ofW HT_.out HW_.out (by kernel_rfl)) (fun _ _ _ h=>h) (Or.inl ⟨by rfl,?_⟩) hHeld ?_ ?_
         rotate_left
         ·rintro w' ⟨s0,s1,s2⟩
          go_simp
          with_reducible rfl
         rotate_left
         ·simp only [Act.put,zq5,zq6,zq7,i64_w,i32_w]
          rfl
         refine take_ (i:=18) (N:=some 32) (v:=?_) (a':=?_) #[t',t',t',t',t',t',t',t',t',t',t',t',t',t',t',t',t',t',t',f',f',f',f',f',f',f',f',f',f',f',f',f',f',f',f',f',f',f',f',f',f'] rfl rfl (take_ofW HT_.out HW_.out (by kernel_rfl)) (fun _ _ _ h=>h) (Or.inl ⟨by rfl,?_⟩) hHeld ?_ ?_
         rotate_left
         ·rintro w' ⟨s0,s1,s2⟩
          go_simp
          with_reducible rfl
         rotate_left
         ·simp only [Act.put,zq5,zq6,zq7,i64_w,i32_w]
          rfl
         refine pure_ (i:=19) (N:=some 33) (v:=?_) (a':=?_) #[t',t',t',t',t',t',t',t',t',t',t',t',t',t',t',t',t',t',t',t',f',f',f',f',f',f',f',f',f',f',f',f',f',f',f',f',f',f',f',f',f'] rfl rfl (any_of HT_.out (by kernel_rfl)) (fun _ _ _ h=>h) (Or.inl ⟨by rfl,?_⟩) ?_ ?_
         rotate_left
         ·intro w'
          go_simp
          with_reducible rfl
         rotate_left
         ·simp only [Act.put,zq5,zq6,zq7,i64_w,i32_w]
          rfl
         refine pure_ (i:=20) (N:=some 34) (v:=?_) (a':=?_) #[t',t',t',t',t',t',t',t',t',t',t',t',t',t',t',t',t',t',t',t',t',f',f',f',f',f',f',f',f',f',f',f',f',f',f',f',f',f',f',f',f'] rfl rfl (any_of HT_.out (by kernel_rfl)) (fun _ _ _ h=>h) (Or.inl ⟨by rfl,?_⟩) ?_ ?_
         rotate_left
         ·intro w'
          go_simp
          with_reducible rfl
         rotate_left
         ·simp only [Act.put,zq5,zq6,zq7,i64_w,i32_w]
          rfl
         refine pure_ (i:=21) (N:=some 35) (v:=?_) (a':=?_) #[t',t',t',t',t',t',t',t',t',t',t',t',t',t',t',t',t',t',t',t',t',t',f',f',f',f',f',f',f',f',f',f',f',f',f',f',f',f',f',f',f'] rfl rfl (any_of HT_.out (by kernel_rfl)) (fun _ _ _ h=>h) (Or.inl ⟨by rfl,?_⟩) ?_ ?_
         rotate_left
         ·intro w'
          go_simp
          with_reducible rfl
         rotate_left
         ·simp only [Act.put,zq5,zq6,zq7,i64_w,i32_w]
          rfl
         refine pure_ (i:=22) (N:=some 36) (v:=undef) (a':=?_) #[t',t',t',t',t',t',t',t',t',t',t',t',t',t',t',t',t',t',t',t',t',t',t',f',f',f',f',f',f',f',f',f',f',f',f',f',f',f',f',f',f'] rfl rfl (any_of HT_.out (by kernel_rfl)) (fun _ _ _ h=>h) (Or.inr ⟨by rfl,rfl⟩) ?_ ?_
         rotate_left
         ·simp only [Act.put,zq5,zq6,zq7,i64_w,i32_w]
          rfl
         refine pure_ (i:=23) (N:=some 37) (v:=undef) (a':=?_) #[t',t',t',t',t',t',t',t',t',t',t',t',t',t',t',t',t',t',t',t',t',t',t',t',f',f',f',f',f',f',f',f',f',f',f',f',f',f',f',f',f'] rfl rfl (any_of HT_.out (by kernel_rfl)) (fun _ _ _ h=>h) (Or.inr ⟨by rfl,rfl⟩) ?_ ?_
         rotate_left
         ·simp only [Act.put,zq5,zq6,zq7,i64_w,i32_w]
          rfl
         refine pure_ (i:=24) (N:=some 38) (v:=undef) (a':=?_) #[t',t',t',t',t',t',t',t',t',t',t',t',t',t',t',t',t',t',t',t',t',t',t',t',t',f',f',f',f',f',f',f',f',f',f',f',f',f',f',f',f'] rfl rfl (any_of HT_.out (by kernel_rfl)) (fun _ _ _ h=>h) (Or.inr ⟨by rfl,rfl⟩) ?_ ?_
         rotate_left
         ·simp only [Act.put,zq5,zq6,zq7,i64_w,i32_w]
          rfl
         refine pure_ (i:=25) (N:=some 39) (v:=undef) (a':=?_) #[t',t',t',t',t',t',t',t',t',t',t',t',t',t',t',t',t',t',t',t',t',t',t',t',t',t',f',f',f',f',f',f',f',f',f',f',f',f',f',f',f'] rfl rfl (any_of HT_.out (by kernel_rfl)) (fun _ _ _ h=>h) (Or.inr ⟨by rfl,rfl⟩) ?_ ?_
         rotate_left
         ·simp only [Act.put,zq5,zq6,zq7,i64_w,i32_w]
          rfl
         refine pure_ (i:=26) (N:=some 40) (v:=?_) (a':=?_) #[t',t',t',t',t',t',t',t',t',t',t',t',t',t',t',t',t',t',t',t',t',t',t',t',t',t',t',f',f',f',f',f',f',f',f',f',f',f',f',f',f'] rfl rfl (any_of HT_.out (by kernel_rfl)) (fun _ _ _ h=>h) (Or.inl ⟨by rfl,?_⟩) ?_ ?_
         rotate_left
         ·intro w'
          go_simp
          with_reducible rfl
         rotate_left
         ·simp only [Act.put,zq5,zq6,zq7,i64_w,i32_w]
          rfl
         refine pure_ (i:=27) (N:=some 41) (v:=?_) (a':=?_) #[t',t',t',t',t',t',t',t',t',t',t',t',t',t',t',t',t',t',t',t',t',t',t',t',t',t',t',t',f',f',f',f',f',f',f',f',f',f',f',f',f'] rfl rfl (any_of HT_.out (by kernel_rfl)) (fun _ _ _ h=>h) (Or.inl ⟨by rfl,?_⟩) ?_ ?_
         rotate_left
         ·intro w'
          go_simp
          with_reducible rfl
         rotate_left
         ·simp only [Act.put,zq5,zq6,zq7,i64_w,i32_w]
          rfl
         refine pure_ (i:=28) (N:=some 42) (v:=undef) (a':=?_) #[t',t',t',t',t',t',t',t',t',t',t',t',t',t',t',t',t',t',t',t',t',t',t',t',t',t',t',t',t',f',f',f',f',f',f',f',f',f',f',f',f'] rfl rfl (any_of HT_.out (by kernel_rfl)) (fun _ _ _ h=>h) (Or.inr ⟨by rfl,rfl⟩) ?_ ?_
         rotate_left
         ·simp only [Act.put,zq5,zq6,zq7,i64_w,i32_w]
          rfl
         refine pure_ (i:=29) (N:=some 43) (v:=undef) (a':=?_) #[t',t',t',t',t',t',t',t',t',t',t',t',t',t',t',t',t',t',t',t',t',t',t',t',t',t',t',t',t',t',f',f',f',f',f',f',f',f',f',f',f'] rfl rfl (any_of HT_.out (by kernel_rfl)) (fun _ _ _ h=>h) (Or.inr ⟨by rfl,rfl⟩) ?_ ?_
         rotate_left
         ·simp only [Act.put,zq5,zq6,zq7,i64_w,i32_w]
          rfl
         refine pure_ (i:=30) (N:=some 44) (v:=undef) (a':=?_) #[t',t',t',t',t',t',t',t',t',t',t',t',t',t',t',t',t',t',t',t',t',t',t',t',t',t',t',t',t',t',t',f',f',f',f',f',f',f',f',f',f'] rfl rfl (any_of HT_.out (by kernel_rfl)) (fun _ _ _ h=>h) (Or.inr ⟨by rfl,rfl⟩) ?_ ?_
         rotate_left
         ·simp only [Act.put,zq5,zq6,zq7,i64_w,i32_w]
          rfl
         refine pure_ (i:=31) (N:=some 45) (v:=undef) (a':=?_) #[t',t',t',t',t',t',t',t',t',t',t',t',t',t',t',t',t',t',t',t',t',t',t',t',t',t',t',t',t',t',t',t',f',f',f',f',f',f',f',f',f'] rfl rfl (any_of HT_.out (by kernel_rfl)) (fun _ _ _ h=>h) (Or.inr ⟨by rfl,rfl⟩) ?_ ?_
         rotate_left
         ·simp only [Act.put,zq5,zq6,zq7,i64_w,i32_w]
          rfl
         refine pure_ (i:=32) (N:=some 46) (v:=undef) (a':=?_) #[t',t',t',t',t',t',t',t',t',t',t',t',t',t',t',t',t',t',t',t',t',t',t',t',t',t',t',t',t',t',t',t',t',f',f',f',f',f',f',f',f'] rfl rfl (any_of HT_.out (by kernel_rfl)) (fun _ _ _ h=>h) (Or.inr ⟨by rfl,rfl⟩) ?_ ?_
         rotate_left
         ·simp only [Act.put,zq5,zq6,zq7,i64_w,i32_w]
          rfl
         refine pure_ (i:=33) (N:=some 47) (v:=undef) (a':=?_) #[t',t',t',t',t',t',t',t',t',t',t',t',t',t',t',t',t',t',t',t',t',t',t',t',t',t',t',t',t',t',t',t',t',t',f',f',f',f',f',f',f'] rfl rfl (any_of HT_.out (by kernel_rfl)) (fun _ _ _ h=>h) (Or.inr ⟨by rfl,rfl⟩) ?_ ?_
         rotate_left
         ·simp only [Act.put,zq5,zq6,zq7,i64_w,i32_w]
          rfl
         refine pure_ (i:=34) (N:=some 48) (v:=undef) (a':=?_) #[t',t',t',t',t',t',t',t',t',t',t',t',t',t',t',t',t',t',t',t',t',t',t',t',t',t',t',t',t',t',t',t',t',t',t',f',f',f',f',f',f'] rfl rfl (any_of HT_.out (by kernel_rfl)) (fun _ _ _ h=>h) (Or.inr ⟨by rfl,rfl⟩) ?_ ?_
         rotate_left
         ·simp only [Act.put,zq5,zq6,zq7,i64_w,i32_w]
          rfl
         refine pure_ (i:=35) (N:=some 49) (v:=undef) (a':=?_) #[t',t',t',t',t',t',t',t',t',t',t',t',t',t',t',t',t',t',t',t',t',t',t',t',t',t',t',t',t',t',t',t',t',t',t',t',f',f',f',f',f'] rfl rfl (any_of HT_.out (by kernel_rfl)) (fun _ _ _ h=>h) (Or.inr ⟨by rfl,rfl⟩) ?_ ?_
         rotate_left
         ·simp only [Act.put,zq5,zq6,zq7,i64_w,i32_w]
          rfl
         refine pure_ (i:=36) (N:=some 50) (v:=undef) (a':=?_) #[t',t',t',t',t',t',t',t',t',t',t',t',t',t',t',t',t',t',t',t',t',t',t',t',t',t',t',t',t',t',t',t',t',t',t',t',t',f',f',f',f'] rfl rfl (any_of HT_.out (by kernel_rfl)) (fun _ _ _ h=>h) (Or.inr ⟨by rfl,rfl⟩) ?_ ?_
         rotate_left
         ·simp only [Act.put,zq5,zq6,zq7,i64_w,i32_w]
          rfl
         refine pure_ (i:=37) (N:=some 51) (v:=undef) (a':=?_) #[t',t',t',t',t',t',t',t',t',t',t',t',t',t',t',t',t',t',t',t',t',t',t',t',t',t',t',t',t',t',t',t',t',t',t',t',t',t',f',f',f'] rfl rfl (any_of HT_.out (by kernel_rfl)) (fun _ _ _ h=>h) (Or.inr ⟨by rfl,rfl⟩) ?_ ?_
         rotate_left
         ·simp only [Act.put,zq5,zq6,zq7,i64_w,i32_w]
          rfl
         refine pure_ (i:=38) (N:=some 52) (v:=undef) (a':=?_) #[t',t',t',t',t',t',t',t',t',t',t',t',t',t',t',t',t',t',t',t',t',t',t',t',t',t',t',t',t',t',t',t',t',t',t',t',t',t',t',f',f'] rfl rfl (any_of HT_.out (by kernel_rfl)) (fun _ _ _ h=>h) (Or.inr ⟨by rfl,rfl⟩) ?_ ?_
         rotate_left
         ·simp only [Act.put,zq5,zq6,zq7,i64_w,i32_w]
          rfl
         refine pure_ (i:=39) (N:=some 53) (v:=undef) (a':=?_) #[t',t',t',t',t',t',t',t',t',t',t',t',t',t',t',t',t',t',t',t',t',t',t',t',t',t',t',t',t',t',t',t',t',t',t',t',t',t',t',t',f'] rfl rfl (any_of HT_.out (by kernel_rfl)) (fun _ _ _ h=>h) (Or.inr ⟨by rfl,rfl⟩) ?_ ?_
         rotate_left
         ·simp only [Act.put,zq5,zq6,zq7,i64_w,i32_w]
          rfl
         refine pure_ (i:=40) (N:=some 54) (v:=?_) (a':=?_) #[t',t',t',t',t',t',t',t',t',t',t',t',t',t',t',t',t',t',t',t',t',t',t',t',t',t',t',t',t',t',t',t',t',t',t',t',t',t',t',t',t'] rfl rfl (any_of HT_.out (by kernel_rfl)) (fun _ _ _ h=>h) (Or.inl ⟨by rfl,?_⟩) ?_ ?_
         rotate_left
         ·intro w'
          go_simp
          with_reducible rfl
         rotate_left
         ·simp only [Act.put,zq5,zq6,zq7,i64_w,i32_w]
          rfl
         refine done_ (done_of HT_.out (by kernel_rfl)) ?_
         try go_wp2
         go_ret
         exact⟨by first|rfl|(simp [errW_none,errW_some]<;>rfl)|(simp [*,errW_none,errW_some]<;>rfl),by repeat(first|(with_reducible first|exact HB.out|apply below_alloc|apply pw_below_drewN|apply below_drew1|refine below_set ?_ GE258.out)|exact HB.out)⟩
        ·rw [if_neg c10] at H
         have c10b0:decide (((rd_T79 l1 x9_1).f1)≤ ((rd_T79 l1 x9_1).f0))=false:=decide_eq_false c10
         clear c10
         replace H:=Option.bind_eq_some_iff.mp H
         obtain⟨t261,A150,H⟩:=H
         replace H:(if t261=true then(if x9_1 > 0 then(if 0≤ (wrap64 (x9_1 - 1)) then(if (wrap64 (x9_1 - 1))< (l1.length:Int) then((impl_byEnds.f ((rd_T79 l1 (wrap64 (x9_1 - 1))).f0) ((rd_T79 l1 (wrap64 (x9_1 - 1))).f1) ((rd_T79 l1 (wrap64 (x9_1 - 1))).f2) ((rd_T79 l1 x9_1).f0) ((rd_T79 l1 x9_1).f1) ((rd_T79 l1 x9_1).f2)).bind fun t263=>(if t263≥0 then(some false) else(impl_GoodEdges.l0 k1 a0 l1 l1 (l1.length:Int) (wrap64 (x9_1+1))))) else(none)) else(none)) else(impl_GoodEdges.l0 k1 a0 l1 l1 (l1.length:Int) (wrap64 (x9_1+1)))) else(some false))=some r:=H
         have A15:=Aside0.mk A150
         clear A150
         by_cases c16:t261=true
         ·subst c16
          have H1:(if x9_1 > 0 then(if 0≤ (wrap64 (x9_1 - 1)) then(if (wrap64 (x9_1 - 1))< (l1.length:Int) then((impl_byEnds.f ((rd_T79 l1 (wrap64 (x9_1 - 1))).f0) ((rd_T79 l1 (wrap64 (x9_1 - 1))).f1) ((rd_T79 l1 (wrap64 (x9_1 - 1))).f2) ((rd_T79 l1 x9_1).f0) ((rd_T79 l1 x9_1).f1) ((rd_T79 l1 x9_1).f2)).bind fun t263=>(if t263≥0 then(some false) else(impl_GoodEdges.l0 k1 a0 l1 l1 (l1.length:Int) (wrap64 (x9_1+1))))) else(none)) else(none)) else(impl_GoodEdges.l0 k1 a0 l1 l1 (l1.length:Int) (wrap64 (x9_1+1))))=some r:=by rw [if_pos rfl] at H;exact H
          clear H
          have H:=H1
          clear H1
          by_cases c17:x9_1 > 0
          ·rw [if_pos c17] at H
           have c17b0:decide (0<x9_1)=true:=decide_eq_true c17
           clear c17
           obtain⟨ji18,hji18⟩ :∃ j_:Int,(wrap64 (x9_1 - 1))=j_:=⟨_,rfl⟩
           replace H:(if 0≤ (ji18) then(if (ji18)< (l1.length:Int) then((impl_byEnds.f ((rd_T79 l1 (ji18)).f0) ((rd_T79 l1 (ji18)).f1) ((rd_T79 l1 (ji18)).f2) ((rd_T79 l1 x9_1).f0) ((rd_T79 l1 x9_1).f1) ((rd_T79 l1 x9_1).f2)).bind fun t263=>(if t263≥0 then(some false) else(impl_GoodEdges.l0 k1 a0 l1 l1 (l1.length:Int) (wrap64 (x9_1+1))))) else(none)) else(none))=some r:=by first|(rw [hji18] at H;exact H)|(simp only [hji18] at H ⊢;exact H)
           (try rw [hji18] at A6)
           (try rw [hji18] at A8)
           (try rw [hji18] at A15)
           have hji18w:(IntKind.i64.wrap (x9_1 - 1))=ji18:=(i64_w _).trans hji18
           by_cases c19: 0≤ (ji18)
           ·rw [if_pos c19] at H
            have c19b0:decide (0≤ (ji18))=true:=decide_eq_true c19
            clear c19
            by_cases c20:(ji18)< (l1.length:Int)
            ·rw [if_pos c20] at H
             have c20b0:decide ((ji18)< (l1.length:Int))=true:=decide_eq_true c20
             clear c20
             replace H:=Option.bind_eq_some_iff.mp H
             obtain⟨t263,A210,H⟩:=H
             replace H:(if t263≥0 then(some false) else(impl_GoodEdges.l0 k1 a0 l1 l1 (l1.length:Int) (wrap64 (x9_1+1))))=some r:=H
             have A21:=Aside0.mk A210
             clear A210
             by_cases c22:t263≥0
             ·rw [if_pos c22] at H
              have c22b0:decide (0≤t263)=true:=decide_eq_true c22
              clear c22
              obtain rfl:=Option.some.inj H
              have p257: 0≤ (x9_1:Int):=of_decide_eq_true zq1
              have q257:x9_1< (l1.length:Int):=of_decide_eq_true zq1
              obtain⟨ad257,e257,hx257_0,hx257_1,hx257_2⟩:=at_T79 HR1.out x9_1 p257 q257
              cases e257
              replace hx257_0:=(HB.out.cell (World.block_lt_of_cell? w _ hx257_0)).trans hx257_0
              replace hx257_1:=(HB.out.cell (World.block_lt_of_cell? w _ hx257_1)).trans hx257_1
              replace hx257_2:=(HB.out.cell (World.block_lt_of_cell? w _ hx257_2)).trans hx257_2
              replace p257:=eq_true p257
              replace q257:=eq_true q257
              try go_wp2_with (first|((with_reducible refine gate_dst (N:=6) rfl ?_);(try(refine gate_guard (by rfl) ?_;dsimp only));refine box_event ?hg (N:=6) ?hd (cs:= #[.int .i64 0,.int .i64 0,.int .i64 0]) (t:=79) ?hr ?_;(case hd=>rfl);(case hg=>rfl);(case hr=>first|(go_simp;done)|(go_simp;rfl));intro gb258 hg w23 hbox hb;have n0_:=Aside0.mk (below_step (zb0 HB) hb);have n1_:=Aside0.mk (hbox);have n2_:=Aside0.mk ((by rw [hg];exact(below_size (zb0 HB)):w.heap.size≤gb258));have n3_:=Aside0.mk ((by rw [hg];exact(below_size (zb0 HB)):w.heap.size≤gb258));clear HB;have HB:=n0_;have BK258:=n1_;have GW258:=n2_;have GE258:=n3_;clear n0_ n1_ n2_ n3_;clear hb hbox hg;have hcz24_0:w23.cell? ⟨gb258,0,none⟩=some (.int .i64 0):=(blk_cell BK258.out 0).trans rfl;have hcz24_1:w23.cell? ⟨gb258,1,none⟩=some (.int .i64 0):=(blk_cell BK258.out 1).trans rfl;have hcz24_2:w23.cell? ⟨gb258,2,none⟩=some (.int .i64 0):=(blk_cell BK258.out 2).trans rfl;have hfz24_0:=blk_frozen BK258.out 0;have hfz24_1:=blk_frozen BK258.out 1;have hfz24_2:=blk_frozen BK258.out 2))
              have n0_:Aside0 ((((w23.setCell ⟨gb258,0,none⟩ (.int .i64 ((rd_T79 l1 x9_1).f0))).setCell ⟨gb258,1,none⟩ (.int .i64 ((rd_T79 l1 x9_1).f1))).setCell ⟨gb258,2,none⟩ (.int .i64 ((rd_T79 l1 x9_1).f2))).heap[gb258]?=some (.cells #[.int .i64 ((rd_T79 l1 x9_1).f0),.int .i64 ((rd_T79 l1 x9_1).f1),.int .i64 ((rd_T79 l1 x9_1).f2)] 79 (0,0))):=⟨by(with_reducible repeat(first|refine blk_drewN ?_ _|refine blk_drew ?_ |refine blk_alloc ?_ _));refine blk_put (cs:= #[.int .i64 ((rd_T79 l1 x9_1).f0),.int .i64 ((rd_T79 l1 x9_1).f1),.int .i64 0]) ?_ 2 _ rfl;(with_reducible repeat(first|refine blk_drewN ?_ _|refine blk_drew ?_ |refine blk_alloc ?_ _));refine blk_put (cs:= #[.int .i64 ((rd_T79 l1 x9_1).f0),.int .i64 0,.int .i64 0]) ?_ 1 _ rfl;(with_reducible repeat(first|refine blk_drewN ?_ _|refine blk_drew ?_ |refine blk_alloc ?_ _));refine blk_put (cs:= #[.int .i64 0,.int .i64 0,.int .i64 0]) ?_ 0 _ rfl;(with_reducible repeat(first|refine blk_drewN ?_ _|refine blk_drew ?_ |refine blk_alloc ?_ _));exact BK258.out⟩
              have n1_:Aside0 (Below w.heap.size w (((w23.setCell ⟨gb258,0,none⟩ (.int .i64 ((rd_T79 l1 x9_1).f0))).setCell ⟨gb258,1,none⟩ (.int .i64 ((rd_T79 l1 x9_1).f1))).setCell ⟨gb258,2,none⟩ (.int .i64 ((rd_T79 l1 x9_1).f2)))):=⟨by repeat(first|(with_reducible first|exact HB.out|apply below_alloc|apply pw_below_drewN|apply below_drew1|refine below_set ?_ GE258.out)|exact HB.out)⟩
              (try clear BK258)
              (try clear HB)
              (try simp only [show ∀ (W_:World) (n_:Nat) (a_:Addr) (v_:Value),(World.drewN W_ n_).setCell a_ v_= (World.setCell W_ a_ v_).drewN n_ from fun _ _ _ _=>rfl])
              generalize (((w23.setCell ⟨gb258,0,none⟩ (.int .i64 ((rd_T79 l1 x9_1).f0))).setCell ⟨gb258,1,none⟩ (.int .i64 ((rd_T79 l1 x9_1).f1))).setCell ⟨gb258,2,none⟩ (.int .i64 ((rd_T79 l1 x9_1).f2)))=w25 at n0_ n1_ ⊢
              have BK258:=n0_
              have HB:=n1_
              clear n0_ n1_
              have n0_:=Aside0.mk (blk_drew BK258.out)
              have n1_:=Aside0.mk (below_drew1 HB.out)
              clear BK258
              clear HB
              have BK258:=n0_
              have HB:=n1_
              clear n0_ n1_
              have p262: 0≤ ((ji18):Int):=of_decide_eq_true zq1
              have q262:(ji18)< (l1.length:Int):=of_decide_eq_true zq1
              obtain⟨ad262,e262,hx262_0,hx262_1,hx262_2⟩:=at_T79 HR1.out (ji18) p262 q262
              have hw262_2:=hx262_2
              have hw262_1:=hx262_1
              have hw262_0:=hx262_0
              obtain rfl:ad257=ad262:=(by injection e262)
              replace hx262_0:=(HB.out.cell (World.block_lt_of_cell? w _ hx262_0)).trans hx262_0
              replace hx262_1:=(HB.out.cell (World.block_lt_of_cell? w _ hx262_1)).trans hx262_1
              replace hx262_2:=(HB.out.cell (World.block_lt_of_cell? w _ hx262_2)).trans hx262_2
              replace p262:=eq_true p262
              replace q262:=eq_true q262
              refine start_ (n:=41) (S:=fun w'=>w'.cell? ⟨gb258,0,none⟩=some (.int .i64 ((rd_T79 l1 x9_1).f0))∧w'.cell? ⟨gb258,1,none⟩=some (.int .i64 ((rd_T79 l1 x9_1).f1))∧w'.cell? ⟨gb258,2,none⟩=some (.int .i64 ((rd_T79 l1 x9_1).f2))∧w'.cell? (ad257.add (((ji18)).toNat * 3))=some (.int .i64 ((rd_T79 l1 (ji18)).f0))∧w'.cell? ⟨(ad257.add (((ji18)).toNat * 3)).block,(ad257.add (((ji18)).toNat * 3)).off+1,none⟩=some (.int .i64 ((rd_T79 l1 (ji18)).f1))∧w'.cell? ⟨(ad257.add (((ji18)).toNat * 3)).block,(ad257.add (((ji18)).toNat * 3)).off+2,none⟩=some (.int .i64 ((rd_T79 l1 (ji18)).f2))) (ds:= []) #[f',f',f',f',f',f',f',f',f',f',f',f',f',f',f',f',f',f',f',f',f',f',f',f',f',f',f',f',f',f',f',f',f',f',f',f',f',f',f',f',f'] (by kernel_rfl) rfl rfl ⟨(blk_cell BK258.out 0).trans rfl,(blk_cell BK258.out 1).trans rfl,(blk_cell BK258.out 2).trans rfl,((HB.out.cell (World.block_lt_of_cell? w _ hw262_0)).trans hw262_0),((HB.out.cell (World.block_lt_of_cell? w _ hw262_1)).trans hw262_1),((HB.out.cell (World.block_lt_of_cell? w _ hw262_2)).trans hw262_2)⟩ (fun hHeld=>?_);refine with_tabW impl_GoodEdges.tab4 impl_GoodEdges.bits4 (fun HT_ HW_=>?_)
              generalize w25.drew=w26 at BK258 HB hx262_0 hx262_1 hx262_2 hHeld ⊢
              refine pure_ (i:=0) (N:=some 14) (v:=?_) (a':=?_) #[t',f',f',f',f',f',f',f',f',f',f',f',f',f',f',f',f',f',f',f',f',f',f',f',f',f',f',f',f',f',f',f',f',f',f',f',f',f',f',f',f'] rfl rfl (any_of HT_.out (by kernel_rfl)) (fun _ _ _ h=>h) (Or.inl ⟨by rfl,?_⟩) ?_ ?_
              rotate_left
              ·intro w'
               go_simp
               with_reducible rfl
              rotate_left
              ·simp only [Act.put,zq5,zq6,zq7,i64_w,i32_w]
               rfl
              refine pure_ (i:=2) (N:=some 16) (v:=?_) (a':=?_) #[t',f',t',f',f',f',f',f',f',f',f',f',f',f',f',f',f',f',f',f',f',f',f',f',f',f',f',f',f',f',f',f',f',f',f',f',f',f',f',f',f'] rfl rfl (any_of HT_.out (by kernel_rfl)) (fun _ _ _ h=>h) (Or.inl ⟨by rfl,?_⟩) ?_ ?_
              rotate_left
              ·intro w'
               go_simp
               with_reducible rfl
              rotate_left
              ·simp only [Act.put,zq5,zq6,zq7,i64_w,i32_w]
               rfl
              refine pure_ (i:=3) (N:=some 17) (v:=?_) (a':=?_) #[t',f',t',t',f',f',f',f',f',f',f',f',f',f',f',f',f',f',f',f',f',f',f',f',f',f',f',f',f',f',f',f',f',f',f',f',f',f',f',f',f'] rfl rfl (any_of HT_.out (by kernel_rfl)) (fun _ _ _ h=>h) (Or.inl ⟨by rfl,?_⟩) ?_ ?_
              rotate_left
              ·intro w'
               go_simp
               with_reducible rfl
              rotate_left
              ·simp only [Act.put,zq5,zq6,zq7,i64_w,i32_w]
               rfl
              refine take_ (i:=1) (N:=some 15) (v:=?_) (a':=?_) #[t',t',t',t',f',f',f',f',f',f',f',f',f',f',f',f',f',f',f',f',f',f',f',f',f',f',f',f',f',f',f',f',f',f',f',f',f',f',f',f',f'] rfl rfl (take_ofW HT_.out HW_.out (by kernel_rfl)) (fun _ _ _ h=>h) (Or.inl ⟨by rfl,?_⟩) hHeld ?_ ?_
              rotate_left
              ·rintro w' ⟨s0,s1,s2,s3,s4,s5⟩
               go_simp
               with_reducible rfl
              rotate_left
              ·simp only [Act.put,zq5,zq6,zq7,i64_w,i32_w]
               rfl
              refine one_ (i:=4) (N:=some 18) #[t',t',t',t',t',f',f',f',f',f',f',f',f',f',f',f',f',f',f',f',f',f',f',f',f',f',f',f',f',f',f',f',f',f',f',f',f',f',f',f',f'] rfl rfl (one_of HT_.out (by kernel_rfl)) (by decide) (fun K hK=>?_)
              refine goes_ Try.func78 (by kernel_rfl) rfl #[.int .i64 ((rd_T79 l1 x9_1).f0),.int .i64 0,.int .i64 (wrap64 (a0 - 1))] (by rfl) rfl rfl zq2 ?_
              with_reducible refine(impl_in.calls ((rd_T79 l1 x9_1).f0) 0 (wrap64 (a0 - 1)) true _ A6.out).mono ?_
              rintro e w' ⟨rfl,⟨nd,rfl⟩⟩
              refine⟨_,rfl,?_⟩
              refine hK.out _ _ ⟨(blk_cell BK258.out 0).trans rfl,(blk_cell BK258.out 1).trans rfl,(blk_cell BK258.out 2).trans rfl,((HB.out.cell (World.block_lt_of_cell? w _ hw262_0)).trans hw262_0),((HB.out.cell (World.block_lt_of_cell? w _ hw262_1)).trans hw262_1),((HB.out.cell (World.block_lt_of_cell? w _ hw262_2)).trans hw262_2)⟩ (fun hHeld=>?_)
              clear hK K
              refine norm_ (a':=?_) ?_ ?_
              rotate_left
              ·show Act.put _ (some 18) _=_
               simp only [Act.put,zq5,zq6,zq7,i64_w,i32_w]
               rfl
              refine pure_ (i:=5) (N:=some 19) (v:=?_) (a':=?_) #[t',t',t',t',t',t',f',f',f',f',f',f',f',f',f',f',f',f',f',f',f',f',f',f',f',f',f',f',f',f',f',f',f',f',f',f',f',f',f',f',f'] rfl rfl (any_of HT_.out (by kernel_rfl)) (fun _ _ _ h=>h) (Or.inl ⟨by rfl,?_⟩) ?_ ?_
              rotate_left
              ·intro w'
               go_simp
               with_reducible rfl
              rotate_left
              ·simp only [Act.put,zq5,zq6,zq7,i64_w,i32_w]
               rfl
              refine pure_ (i:=6) (N:=some 20) (v:=?_) (a':=?_) #[t',t',t',t',t',t',t',f',f',f',f',f',f',f',f',f',f',f',f',f',f',f',f',f',f',f',f',f',f',f',f',f',f',f',f',f',f',f',f',f',f'] rfl rfl (any_of HT_.out (by kernel_rfl)) (fun _ _ _ h=>h) (Or.inl ⟨by rfl,?_⟩) ?_ ?_
              rotate_left
              ·intro w'
               go_simp
               with_reducible rfl
              rotate_left
              ·simp only [Act.put,zq5,zq6,zq7,i64_w,i32_w]
               rfl
              refine pure_ (i:=7) (N:=some 21) (v:=?_) (a':=?_) #[t',t',t',t',t',t',t',t',f',f',f',f',f',f',f',f',f',f',f',f',f',f',f',f',f',f',f',f',f',f',f',f',f',f',f',f',f',f',f',f',f'] rfl rfl (any_of HT_.out (by kernel_rfl)) (fun _ _ _ h=>h) (Or.inl ⟨by rfl,?_⟩) ?_ ?_
              rotate_left
              ·intro w'
               go_simp
               with_reducible rfl
              rotate_left
              ·simp only [Act.put,zq5,zq6,zq7,i64_w,i32_w]
               rfl
              refine pure_ (i:=9) (N:=some 23) (v:=?_) (a':=?_) #[t',t',t',t',t',t',t',t',f',t',f',f',f',f',f',f',f',f',f',f',f',f',f',f',f',f',f',f',f',f',f',f',f',f',f',f',f',f',f',f',f'] rfl rfl (any_of HT_.out (by kernel_rfl)) (fun _ _ _ h=>h) (Or.inl ⟨by rfl,?_⟩) ?_ ?_
              rotate_left
              ·intro w'
               go_simp
               with_reducible rfl
              rotate_left
              ·simp only [Act.put,zq5,zq6,zq7,i64_w,i32_w]
               rfl
              refine pure_ (i:=10) (N:=some 24) (v:=?_) (a':=?_) #[t',t',t',t',t',t',t',t',f',t',t',f',f',f',f',f',f',f',f',f',f',f',f',f',f',f',f',f',f',f',f',f',f',f',f',f',f',f',f',f',f'] rfl rfl (any_of HT_.out (by kernel_rfl)) (fun _ _ _ h=>h) (Or.inl ⟨by rfl,?_⟩) ?_ ?_
              rotate_left
              ·intro w'
               go_simp
               with_reducible rfl
              rotate_left
              ·simp only [Act.put,zq5,zq6,zq7,i64_w,i32_w]
               rfl
              refine take_ (i:=8) (N:=some 22) (v:=?_) (a':=?_) #[t',t',t',t',t',t',t',t',t',t',t',f',f',f',f',f',f',f',f',f',f',f',f',f',f',f',f',f',f',f',f',f',f',f',f',f',f',f',f',f',f'] rfl rfl (take_ofW HT_.out HW_.out (by kernel_rfl)) (fun _ _ _ h=>h) (Or.inl ⟨by rfl,?_⟩) hHeld ?_ ?_
              rotate_left
              ·rintro w' ⟨s0,s1,s2,s3,s4,s5⟩
               go_simp
               with_reducible rfl
              rotate_left
              ·simp only [Act.put,zq5,zq6,zq7,i64_w,i32_w]
               rfl
              refine one_ (i:=11) (N:=some 25) #[t',t',t',t',t',t',t',t',t',t',t',t',f',f',f',f',f',f',f',f',f',f',f',f',f',f',f',f',f',f',f',f',f',f',f',f',f',f',f',f',f'] rfl rfl (one_of HT_.out (by kernel_rfl)) (by decide) (fun K hK=>?_)
              refine goes_ Try.func78 (by kernel_rfl) rfl #[.int .i64 ((rd_T79 l1 x9_1).f1),.int .i64 0,.int .i64 (wrap64 (a0 - 1))] (by rfl) rfl rfl zq2 ?_
              with_reducible refine(impl_in.calls ((rd_T79 l1 x9_1).f1) 0 (wrap64 (a0 - 1)) true _ A8.out).mono ?_
              rintro e w' ⟨rfl,⟨nd,rfl⟩⟩
              refine⟨_,rfl,?_⟩
              refine hK.out _ _ ⟨(blk_cell BK258.out 0).trans rfl,(blk_cell BK258.out 1).trans rfl,(blk_cell BK258.out 2).trans rfl,((HB.out.cell (World.block_lt_of_cell? w _ hw262_0)).trans hw262_0),((HB.out.cell (World.block_lt_of_cell? w _ hw262_1)).trans hw262_1),((HB.out.cell (World.block_lt_of_cell? w _ hw262_2)).trans hw262_2)⟩ (fun hHeld=>?_)
              clear hK K
              refine norm_ (a':=?_) ?_ ?_
              rotate_left
              ·show Act.put _ (some 25) _=_
               simp only [Act.put,zq5,zq6,zq7,i64_w,i32_w]
               rfl
              refine pure_ (i:=12) (N:=some 26) (v:=?_) (a':=?_) #[t',t',t',t',t',t',t',t',t',t',t',t',t',f',f',f',f',f',f',f',f',f',f',f',f',f',f',f',f',f',f',f',f',f',f',f',f',f',f',f',f'] rfl rfl (any_of HT_.out (by kernel_rfl)) (fun _ _ _ h=>h) (Or.inl ⟨by rfl,?_⟩) ?_ ?_
              rotate_left
              ·intro w'
               go_simp
               with_reducible rfl
              rotate_left
              ·simp only [Act.put,zq5,zq6,zq7,i64_w,i32_w]
               rfl
              refine pure_ (i:=13) (N:=some 27) (v:=?_) (a':=?_) #[t',t',t',t',t',t',t',t',t',t',t',t',t',t',f',f',f',f',f',f',f',f',f',f',f',f',f',f',f',f',f',f',f',f',f',f',f',f',f',f',f'] rfl rfl (any_of HT_.out (by kernel_rfl)) (fun _ _ _ h=>h) (Or.inl ⟨by rfl,?_⟩) ?_ ?_
              rotate_left
              ·intro w'
               go_simp
               with_reducible rfl
              rotate_left
              ·simp only [Act.put,zq5,zq6,zq7,i64_w,i32_w]
               rfl
              refine pure_ (i:=14) (N:=some 28) (v:=?_) (a':=?_) #[t',t',t',t',t',t',t',t',t',t',t',t',t',t',t',f',f',f',f',f',f',f',f',f',f',f',f',f',f',f',f',f',f',f',f',f',f',f',f',f',f'] rfl rfl (any_of HT_.out (by kernel_rfl)) (fun _ _ _ h=>h) (Or.inl ⟨by rfl,?_⟩) ?_ ?_
              rotate_left
              ·intro w'
               go_simp
               with_reducible rfl
              rotate_left
              ·simp only [Act.put,zq5,zq6,zq7,i64_w,i32_w]
               rfl
              refine pure_ (i:=15) (N:=some 29) (v:=?_) (a':=?_) #[t',t',t',t',t',t',t',t',t',t',t',t',t',t',t',t',f',f',f',f',f',f',f',f',f',f',f',f',f',f',f',f',f',f',f',f',f',f',f',f',f'] rfl rfl (any_of HT_.out (by kernel_rfl)) (fun _ _ _ h=>h) (Or.inl ⟨by rfl,?_⟩) ?_ ?_
              rotate_left
              ·intro w'
               go_simp
               with_reducible rfl
              rotate_left
              ·simp only [Act.put,zq5,zq6,zq7,i64_w,i32_w]
               rfl
              refine pure_ (i:=17) (N:=some 31) (v:=?_) (a':=?_) #[t',t',t',t',t',t',t',t',t',t',t',t',t',t',t',t',f',t',f',f',f',f',f',f',f',f',f',f',f',f',f',f',f',f',f',f',f',f',f',f',f'] rfl rfl (any_of HT_.out (by kernel_rfl)) (fun _ _ _ h=>h) (Or.inl ⟨by rfl,?_⟩) ?_ ?_
              rotate_left
              ·intro w'
               go_simp
               with_reducible rfl
              rotate_left
              ·simp only [Act.put,zq5,zq6,zq7,i64_w,i32_w]
               rfl
              refine take_ (i:=16) (N:=some 30) (v:=?_) (a':=?_) #[t',t',t',t',t',t',t',t',t',t',t',t',t',t',t',t',t',t',f',f',f',f',f',f',f',f',f',f',f',f',f',f',f',f',f',f',f',f',f',f',f'] rfl rfl (take_ofW HT_.out HW_.out (by kernel_rfl)) (fun _ _ _ h=>h) (Or.inl ⟨by rfl,?_⟩) hHeld ?_ ?_
              rotate_left
              ·rintro w' ⟨s0,s1,s2,s3,s4,s5⟩
               go_simp
               with_reducible rfl
              rotate_left
              ·simp only [Act.put,zq5,zq6,zq7,i64_w,i32_w]
               rfl
              refine take_ (i:=18) (N:=some 32) (v:=?_) (a':=?_) #[t',t',t',t',t',t',t',t',t',t',t',t',t',t',t',t',t',t',t',f',f',f',f',f',f',f',f',f',f',f',f',f',f',f',f',f',f',f',f',f',f'] rfl rfl (take_ofW HT_.out HW_.out (by kernel_rfl)) (fun _ _ _ h=>h) (Or.inl ⟨by rfl,?_⟩) hHeld ?_ ?_
              rotate_left
              ·rintro w' ⟨s0,s1,s2,s3,s4,s5⟩
               go_simp
               with_reducible rfl
              rotate_left
              ·simp only [Act.put,zq5,zq6,zq7,i64_w,i32_w]
               rfl
              refine pure_ (i:=19) (N:=some 33) (v:=?_) (a':=?_) #[t',t',t',t',t',t',t',t',t',t',t',t',t',t',t',t',t',t',t',t',f',f',f',f',f',f',f',f',f',f',f',f',f',f',f',f',f',f',f',f',f'] rfl rfl (any_of HT_.out (by kernel_rfl)) (fun _ _ _ h=>h) (Or.inl ⟨by rfl,?_⟩) ?_ ?_
              rotate_left
              ·intro w'
               go_simp
               with_reducible rfl
              rotate_left
              ·simp only [Act.put,zq5,zq6,zq7,i64_w,i32_w]
               rfl
              refine pure_ (i:=20) (N:=some 34) (v:=?_) (a':=?_) #[t',t',t',t',t',t',t',t',t',t',t',t',t',t',t',t',t',t',t',t',t',f',f',f',f',f',f',f',f',f',f',f',f',f',f',f',f',f',f',f',f'] rfl rfl (any_of HT_.out (by kernel_rfl)) (fun _ _ _ h=>h) (Or.inl ⟨by rfl,?_⟩) ?_ ?_
              rotate_left
              ·intro w'
               go_simp
               with_reducible rfl
              rotate_left
              ·simp only [Act.put,zq5,zq6,zq7,i64_w,i32_w]
               rfl
              refine pure_ (i:=21) (N:=some 35) (v:=?_) (a':=?_) #[t',t',t',t',t',t',t',t',t',t',t',t',t',t',t',t',t',t',t',t',t',t',f',f',f',f',f',f',f',f',f',f',f',f',f',f',f',f',f',f',f'] rfl rfl (any_of HT_.out (by kernel_rfl)) (fun _ _ _ h=>h) (Or.inl ⟨by rfl,?_⟩) ?_ ?_
              rotate_left
              ·intro w'
               go_simp
               with_reducible rfl
              rotate_left
              ·simp only [Act.put,zq5,zq6,zq7,i64_w,i32_w]
               rfl
              refine pure_ (i:=22) (N:=some 36) (v:=?_) (a':=?_) #[t',t',t',t',t',t',t',t',t',t',t',t',t',t',t',t',t',t',t',t',t',t',t',f',f',f',f',f',f',f',f',f',f',f',f',f',f',f',f',f',f'] rfl rfl (any_of HT_.out (by kernel_rfl)) (fun _ _ _ h=>h) (Or.inl ⟨by rfl,?_⟩) ?_ ?_
              rotate_left
              ·intro w'
               go_simp
               with_reducible rfl
              rotate_left
              ·simp only [Act.put,zq5,zq6,zq7,i64_w,i32_w]
               rfl
              refine take_ (i:=23) (N:=some 37) (v:=?_) (a':=?_) #[t',t',t',t',t',t',t',t',t',t',t',t',t',t',t',t',t',t',t',t',t',t',t',t',f',f',f',f',f',f',f',f',f',f',f',f',f',f',f',f',f'] rfl rfl (take_ofW HT_.out HW_.out (by kernel_rfl)) (fun _ _ _ h=>h) (Or.inl ⟨by rfl,?_⟩) hHeld ?_ ?_
              rotate_left
              ·rintro w' ⟨s0,s1,s2,s3,s4,s5⟩
               go_simp
               with_reducible rfl
              rotate_left
              ·simp only [Act.put,zq5,zq6,zq7,i64_w,i32_w]
               rfl
              refine one_ (i:=24) (N:=some 38) #[t',t',t',t',t',t',t',t',t',t',t',t',t',t',t',t',t',t',t',t',t',t',t',t',t',f',f',f',f',f',f',f',f',f',f',f',f',f',f',f',f'] rfl rfl (one_of HT_.out (by kernel_rfl)) (by decide) (fun K hK=>?_)
              refine goes_ Try.func78 (by kernel_rfl) rfl #[.int .i64 ((rd_T79 l1 x9_1).f2),.int .i64 1,.int .i64 100] (by rfl) rfl rfl zq2 ?_
              with_reducible refine(impl_in.calls ((rd_T79 l1 x9_1).f2) 1 100 true _ A15.out).mono ?_
              rintro e w' ⟨rfl,⟨nd,rfl⟩⟩
              refine⟨_,rfl,?_⟩
              refine hK.out _ _ ⟨(blk_cell BK258.out 0).trans rfl,(blk_cell BK258.out 1).trans rfl,(blk_cell BK258.out 2).trans rfl,((HB.out.cell (World.block_lt_of_cell? w _ hw262_0)).trans hw262_0),((HB.out.cell (World.block_lt_of_cell? w _ hw262_1)).trans hw262_1),((HB.out.cell (World.block_lt_of_cell? w _ hw262_2)).trans hw262_2)⟩ (fun hHeld=>?_)
              clear hK K
              refine norm_ (a':=?_) ?_ ?_
              rotate_left
              ·show Act.put _ (some 38) _=_
               simp only [Act.put,zq5,zq6,zq7,i64_w,i32_w]
               rfl
              refine pure_ (i:=25) (N:=some 39) (v:=?_) (a':=?_) #[t',t',t',t',t',t',t',t',t',t',t',t',t',t',t',t',t',t',t',t',t',t',t',t',t',t',f',f',f',f',f',f',f',f',f',f',f',f',f',f',f'] rfl rfl (any_of HT_.out (by kernel_rfl)) (fun _ _ _ h=>h) (Or.inl ⟨by rfl,?_⟩) ?_ ?_
              rotate_left
              ·intro w'
               go_simp
               with_reducible rfl
              rotate_left
              ·simp only [Act.put,zq5,zq6,zq7,i64_w,i32_w]
               rfl
              refine pure_ (i:=26) (N:=some 40) (v:=?_) (a':=?_) #[t',t',t',t',t',t',t',t',t',t',t',t',t',t',t',t',t',t',t',t',t',t',t',t',t',t',t',f',f',f',f',f',f',f',f',f',f',f',f',f',f'] rfl rfl (any_of HT_.out (by kernel_rfl)) (fun _ _ _ h=>h) (Or.inl ⟨by rfl,?_⟩) ?_ ?_
              rotate_left
              ·intro w'
               go_simp
               with_reducible rfl
              rotate_left
              ·simp only [Act.put,zq5,zq6,zq7,i64_w,i32_w]
               rfl
              refine pure_ (i:=27) (N:=some 41) (v:=?_) (a':=?_) #[t',t',t',t',t',t',t',t',t',t',t',t',t',t',t',t',t',t',t',t',t',t',t',t',t',t',t',t',f',f',f',f',f',f',f',f',f',f',f',f',f'] rfl rfl (any_of HT_.out (by kernel_rfl)) (fun _ _ _ h=>h) (Or.inl ⟨by rfl,?_⟩) ?_ ?_
              rotate_left
              ·intro w'
               go_simp
               with_reducible rfl
              rotate_left
              ·simp only [Act.put,zq5,zq6,zq7,i64_w,i32_w]
               rfl
              refine pure_ (i:=28) (N:=some 42) (v:=?_) (a':=?_) #[t',t',t',t',t',t',t',t',t',t',t',t',t',t',t',t',t',t',t',t',t',t',t',t',t',t',t',t',t',f',f',f',f',f',f',f',f',f',f',f',f'] rfl rfl (any_of HT_.out (by kernel_rfl)) (fun _ _ _ h=>h) (Or.inl ⟨by rfl,?_⟩) ?_ ?_
              rotate_left
              ·intro w'
               go_simp
               with_reducible rfl
              rotate_left
              ·simp only [Act.put,zq5,zq6,zq7,i64_w,i32_w]
               rfl
              refine pure_ (i:=29) (N:=some 43) (v:=?_) (a':=?_) #[t',t',t',t',t',t',t',t',t',t',t',t',t',t',t',t',t',t',t',t',t',t',t',t',t',t',t',t',t',t',f',f',f',f',f',f',f',f',f',f',f'] rfl rfl (any_of HT_.out (by kernel_rfl)) (fun _ _ _ h=>h) (Or.inl ⟨by rfl,?_⟩) ?_ ?_
              rotate_left
              ·intro w'
               go_simp
               with_reducible rfl
              rotate_left
              ·simp only [Act.put,zq5,zq6,zq7,i64_w,i32_w]
               rfl
              refine pure_ (i:=30) (N:=some 44) (v:=?_) (a':=?_) #[t',t',t',t',t',t',t',t',t',t',t',t',t',t',t',t',t',t',t',t',t',t',t',t',t',t',t',t',t',t',t',f',f',f',f',f',f',f',f',f',f'] rfl rfl (any_of HT_.out (by kernel_rfl)) (fun _ _ _ h=>h) (Or.inl ⟨by rfl,?_⟩) ?_ ?_
              rotate_left
              ·intro w'
               go_simp
               with_reducible rfl
              rotate_left
              ·simp only [Act.put,zq5,zq6,zq7,i64_w,i32_w]
               rfl
              refine pure_ (i:=31) (N:=some 45) (v:=?_) (a':=?_) #[t',t',t',t',t',t',t',t',t',t',t',t',t',t',t',t',t',t',t',t',t',t',t',t',t',t',t',t',t',t',t',t',f',f',f',f',f',f',f',f',f'] rfl rfl (any_of HT_.out (by kernel_rfl)) (fun _ _ _ h=>h) (Or.inl ⟨by rfl,?_⟩) ?_ ?_
              rotate_left
              ·intro w'
               go_simp
               with_reducible rfl
              rotate_left
              ·simp only [Act.put,zq5,zq6,zq7,i64_w,i32_w]
               rfl
              refine pure_ (i:=32) (N:=some 46) (v:=?_) (a':=?_) #[t',t',t',t',t',t',t',t',t',t',t',t',t',t',t',t',t',t',t',t',t',t',t',t',t',t',t',t',t',t',t',t',t',f',f',f',f',f',f',f',f'] rfl rfl (any_of HT_.out (by kernel_rfl)) (fun _ _ _ h=>h) (Or.inl ⟨by rfl,?_⟩) ?_ ?_
              rotate_left
              ·intro w'
               go_simp
               with_reducible rfl
              rotate_left
              ·simp only [Act.put,zq5,zq6,zq7,i64_w,i32_w]
               rfl
              refine pure_ (i:=33) (N:=some 47) (v:=?_) (a':=?_) #[t',t',t',t',t',t',t',t',t',t',t',t',t',t',t',t',t',t',t',t',t',t',t',t',t',t',t',t',t',t',t',t',t',t',f',f',f',f',f',f',f'] rfl rfl (any_of HT_.out (by kernel_rfl)) (fun _ _ _ h=>h) (Or.inl ⟨by rfl,?_⟩) ?_ ?_
              rotate_left
              ·intro w'
               go_simp
               with_reducible rfl
              rotate_left
              ·simp only [Act.put,zq5,zq6,zq7,i64_w,i32_w]
               rfl
              refine pure_ (i:=34) (N:=some 48) (v:=?_) (a':=?_) #[t',t',t',t',t',t',t',t',t',t',t',t',t',t',t',t',t',t',t',t',t',t',t',t',t',t',t',t',t',t',t',t',t',t',t',f',f',f',f',f',f'] rfl rfl (any_of HT_.out (by kernel_rfl)) (fun _ _ _ h=>h) (Or.inl ⟨by rfl,?_⟩) ?_ ?_
              rotate_left
              ·intro w'
               go_simp
               with_reducible rfl
              rotate_left
              ·simp only [Act.put,zq5,zq6,zq7,i64_w,i32_w]
               rfl
              refine take_ (i:=35) (N:=some 49) (v:=?_) (a':=?_) #[t',t',t',t',t',t',t',t',t',t',t',t',t',t',t',t',t',t',t',t',t',t',t',t',t',t',t',t',t',t',t',t',t',t',t',t',f',f',f',f',f'] rfl rfl (take_ofW HT_.out HW_.out (by kernel_rfl)) (fun _ _ _ h=>h) (Or.inl ⟨by rfl,?_⟩) hHeld ?_ ?_
              rotate_left
              ·rintro w' ⟨s0,s1,s2,s3,s4,s5⟩
               go_simp
               with_reducible rfl
              rotate_left
              ·simp only [Act.put,zq5,zq6,zq7,i64_w,i32_w]
               rfl
              refine take_ (i:=36) (N:=some 50) (v:=?_) (a':=?_) #[t',t',t',t',t',t',t',t',t',t',t',t',t',t',t',t',t',t',t',t',t',t',t',t',t',t',t',t',t',t',t',t',t',t',t',t',t',f',f',f',f'] rfl rfl (take_ofW HT_.out HW_.out (by kernel_rfl)) (fun _ _ _ h=>h) (Or.inl ⟨by rfl,?_⟩) hHeld ?_ ?_
              rotate_left
              ·rintro w' ⟨s0,s1,s2,s3,s4,s5⟩
               go_simp
               with_reducible rfl
              rotate_left
              ·simp only [Act.put,zq5,zq6,zq7,i64_w,i32_w]
               rfl
              refine one_ (i:=37) (N:=some 51) #[t',t',t',t',t',t',t',t',t',t',t',t',t',t',t',t',t',t',t',t',t',t',t',t',t',t',t',t',t',t',t',t',t',t',t',t',t',t',f',f',f'] rfl rfl (one_of HT_.out (by kernel_rfl)) (by decide) (fun K hK=>?_)
              refine goes_ Try.func93 (by kernel_rfl) rfl #[.agg #[.int .i64 ((rd_T79 l1 (ji18)).f0),.int .i64 ((rd_T79 l1 (ji18)).f1),.int .i64 ((rd_T79 l1 (ji18)).f2)],.agg #[.int .i64 ((rd_T79 l1 x9_1).f0),.int .i64 ((rd_T79 l1 x9_1).f1),.int .i64 ((rd_T79 l1 x9_1).f2)]] (by rfl) rfl rfl (by(try simp only [List.map_toArray,List.map_cons,List.map_nil]);first|done|(simp only [hji18];rfl)|rfl|(simp only [List.length_drop,List.length_take];rfl)) ?_
              with_reducible refine(impl_byEnds.calls ((rd_T79 l1 (ji18)).f0) ((rd_T79 l1 (ji18)).f1) ((rd_T79 l1 (ji18)).f2) ((rd_T79 l1 x9_1).f0) ((rd_T79 l1 x9_1).f1) ((rd_T79 l1 x9_1).f2) t263 _ A21.out).mono ?_
              rintro e w27 ⟨rfl,hb⟩
              refine⟨_,rfl,?_⟩
              have n0_:=Aside0.mk (blk_below (g:=gb258) (o:= .cells #[.int .i64 ((rd_T79 l1 x9_1).f0),.int .i64 ((rd_T79 l1 x9_1).f1),.int .i64 ((rd_T79 l1 x9_1).f2)] 79 (0,0)) (zq3 BK258) hb)
              have n1_:=Aside0.mk (below_step (zb1 HB GE258) hb)
              clear BK258
              clear HB
              have BK258:=n0_
              have HB:=n1_
              clear n0_ n1_
              (try clear hb)
              (try clear hb2)
              (try clear hk)
              (try clear hi)
              refine hK.out _ _ ⟨(blk_cell BK258.out 0).trans rfl,(blk_cell BK258.out 1).trans rfl,(blk_cell BK258.out 2).trans rfl,((HB.out.cell (World.block_lt_of_cell? w _ hw262_0)).trans hw262_0),((HB.out.cell (World.block_lt_of_cell? w _ hw262_1)).trans hw262_1),((HB.out.cell (World.block_lt_of_cell? w _ hw262_2)).trans hw262_2)⟩ (fun hHeld=>?_)
              clear hK K
              refine norm_ (a':=?_) ?_ ?_
              rotate_left
              ·show Act.put _ (some 51) _=_
               simp only [Act.put,zq5,zq6,zq7,i64_w,i32_w]
               rfl
              refine pure_ (i:=38) (N:=some 52) (v:=?_) (a':=?_) #[t',t',t',t',t',t',t',t',t',t',t',t',t',t',t',t',t',t',t',t',t',t',t',t',t',t',t',t',t',t',t',t',t',t',t',t',t',t',t',f',f'] rfl rfl (any_of HT_.out (by kernel_rfl)) (fun _ _ _ h=>h) (Or.inl ⟨by rfl,?_⟩) ?_ ?_
              rotate_left
              ·intro w'
               go_simp
               with_reducible rfl
              rotate_left
              ·simp only [Act.put,zq5,zq6,zq7,i64_w,i32_w]
               rfl
              refine pure_ (i:=39) (N:=some 53) (v:=?_) (a':=?_) #[t',t',t',t',t',t',t',t',t',t',t',t',t',t',t',t',t',t',t',t',t',t',t',t',t',t',t',t',t',t',t',t',t',t',t',t',t',t',t',t',f'] rfl rfl (any_of HT_.out (by kernel_rfl)) (fun _ _ _ h=>h) (Or.inl ⟨by rfl,?_⟩) ?_ ?_
              rotate_left
              ·intro w'
               go_simp
               with_reducible rfl
              rotate_left
              ·simp only [Act.put,zq5,zq6,zq7,i64_w,i32_w]
               rfl
              refine pure_ (i:=40) (N:=some 54) (v:=?_) (a':=?_) #[t',t',t',t',t',t',t',t',t',t',t',t',t',t',t',t',t',t',t',t',t',t',t',t',t',t',t',t',t',t',t',t',t',t',t',t',t',t',t',t',t'] rfl rfl (any_of HT_.out (by kernel_rfl)) (fun _ _ _ h=>h) (Or.inl ⟨by rfl,?_⟩) ?_ ?_
              rotate_left
              ·intro w'
               go_simp
               with_reducible rfl
              rotate_left
              ·simp only [Act.put,zq5,zq6,zq7,i64_w,i32_w]
               rfl
              refine done_ (done_of HT_.out (by kernel_rfl)) ?_
              try go_wp2
              go_ret
              exact⟨by first|rfl|(simp [errW_none,errW_some]<;>rfl)|(simp only [← hji18];first|rfl|(simp [errW_none,errW_some]<;>rfl))|(simp [*,errW_none,errW_some]<;>rfl),by repeat(first|(with_reducible first|exact HB.out|apply below_alloc|apply pw_below_drewN|apply below_drew1|refine below_set ?_ GE258.out)|exact HB.out)⟩
             ·rw [if_neg c22] at H
              have c22b0:decide (0≤t263)=false:=decide_eq_false c22
              clear c22
              have H':=Aside0.mk H
              clear H
              have p257: 0≤ (x9_1:Int):=of_decide_eq_true zq1
              have q257:x9_1< (l1.length:Int):=of_decide_eq_true zq1
              obtain⟨ad257,e257,hx257_0,hx257_1,hx257_2⟩:=at_T79 HR1.out x9_1 p257 q257
              cases e257
              replace hx257_0:=(HB.out.cell (World.block_lt_of_cell? w _ hx257_0)).trans hx257_0
              replace hx257_1:=(HB.out.cell (World.block_lt_of_cell? w _ hx257_1)).trans hx257_1
              replace hx257_2:=(HB.out.cell (World.block_lt_of_cell? w _ hx257_2)).trans hx257_2
              replace p257:=eq_true p257
              replace q257:=eq_true q257
              try go_wp2_with (first|((with_reducible refine gate_dst (N:=6) rfl ?_);(try(refine gate_guard (by rfl) ?_;dsimp only));refine box_event ?hg (N:=6) ?hd (cs:= #[.int .i64 0,.int .i64 0,.int .i64 0]) (t:=79) ?hr ?_;(case hd=>rfl);(case hg=>rfl);(case hr=>first|(go_simp;done)|(go_simp;rfl));intro gb258 hg w28 hbox hb;have n0_:=Aside0.mk (below_step (zb0 HB) hb);have n1_:=Aside0.mk (hbox);have n2_:=Aside0.mk ((by rw [hg];exact(below_size (zb0 HB)):w.heap.size≤gb258));have n3_:=Aside0.mk ((by rw [hg];exact(below_size (zb0 HB)):w.heap.size≤gb258));clear HB;have HB:=n0_;have BK258:=n1_;have GW258:=n2_;have GE258:=n3_;clear n0_ n1_ n2_ n3_;clear hb hbox hg;have hcz29_0:w28.cell? ⟨gb258,0,none⟩=some (.int .i64 0):=(blk_cell BK258.out 0).trans rfl;have hcz29_1:w28.cell? ⟨gb258,1,none⟩=some (.int .i64 0):=(blk_cell BK258.out 1).trans rfl;have hcz29_2:w28.cell? ⟨gb258,2,none⟩=some (.int .i64 0):=(blk_cell BK258.out 2).trans rfl;have hfz29_0:=blk_frozen BK258.out 0;have hfz29_1:=blk_frozen BK258.out 1;have hfz29_2:=blk_frozen BK258.out 2))
              have n0_:Aside0 ((((w28.setCell ⟨gb258,0,none⟩ (.int .i64 ((rd_T79 l1 x9_1).f0))).setCell ⟨gb258,1,none⟩ (.int .i64 ((rd_T79 l1 x9_1).f1))).setCell ⟨gb258,2,none⟩ (.int .i64 ((rd_T79 l1 x9_1).f2))).heap[gb258]?=some (.cells #[.int .i64 ((rd_T79 l1 x9_1).f0),.int .i64 ((rd_T79 l1 x9_1).f1),.int .i64 ((rd_T79 l1 x9_1).f2)] 79 (0,0))):=⟨by(with_reducible repeat(first|refine blk_drewN ?_ _|refine blk_drew ?_ |refine blk_alloc ?_ _));refine blk_put (cs:= #[.int .i64 ((rd_T79 l1 x9_1).f0),.int .i64 ((rd_T79 l1 x9_1).f1),.int .i64 0]) ?_ 2 _ rfl;(with_reducible repeat(first|refine blk_drewN ?_ _|refine blk_drew ?_ |refine blk_alloc ?_ _));refine blk_put (cs:= #[.int .i64 ((rd_T79 l1 x9_1).f0),.int .i64 0,.int .i64 0]) ?_ 1 _ rfl;(with_reducible repeat(first|refine blk_drewN ?_ _|refine blk_drew ?_ |refine blk_alloc ?_ _));refine blk_put (cs:= #[.int .i64 0,.int .i64 0,.int .i64 0]) ?_ 0 _ rfl;(with_reducible repeat(first|refine blk_drewN ?_ _|refine blk_drew ?_ |refine blk_alloc ?_ _));exact BK258.out⟩
              have n1_:Aside0 (Below w.heap.size w (((w28.setCell ⟨gb258,0,none⟩ (.int .i64 ((rd_T79 l1 x9_1).f0))).setCell ⟨gb258,1,none⟩ (.int .i64 ((rd_T79 l1 x9_1).f1))).setCell ⟨gb258,2,none⟩ (.int .i64 ((rd_T79 l1 x9_1).f2)))):=⟨by repeat(first|(with_reducible first|exact HB.out|apply below_alloc|apply pw_below_drewN|apply below_drew1|refine below_set ?_ GE258.out)|exact HB.out)⟩
              (try clear BK258)
              (try clear HB)
              (try simp only [show ∀ (W_:World) (n_:Nat) (a_:Addr) (v_:Value),(World.drewN W_ n_).setCell a_ v_= (World.setCell W_ a_ v_).drewN n_ from fun _ _ _ _=>rfl])
              generalize (((w28.setCell ⟨gb258,0,none⟩ (.int .i64 ((rd_T79 l1 x9_1).f0))).setCell ⟨gb258,1,none⟩ (.int .i64 ((rd_T79 l1 x9_1).f1))).setCell ⟨gb258,2,none⟩ (.int .i64 ((rd_T79 l1 x9_1).f2)))=w30 at n0_ n1_ ⊢
              have BK258:=n0_
              have HB:=n1_
              clear n0_ n1_
              have n0_:=Aside0.mk (blk_drew BK258.out)
              have n1_:=Aside0.mk (below_drew1 HB.out)
              clear BK258
              clear HB
              have BK258:=n0_
              have HB:=n1_
              clear n0_ n1_
              have p262: 0≤ ((ji18):Int):=of_decide_eq_true zq1
              have q262:(ji18)< (l1.length:Int):=of_decide_eq_true zq1
              obtain⟨ad262,e262,hx262_0,hx262_1,hx262_2⟩:=at_T79 HR1.out (ji18) p262 q262
              have hw262_2:=hx262_2
              have hw262_1:=hx262_1
              have hw262_0:=hx262_0
              obtain rfl:ad257=ad262:=(by injection e262)
              replace hx262_0:=(HB.out.cell (World.block_lt_of_cell? w _ hx262_0)).trans hx262_0
              replace hx262_1:=(HB.out.cell (World.block_lt_of_cell? w _ hx262_1)).trans hx262_1
              replace hx262_2:=(HB.out.cell (World.block_lt_of_cell? w _ hx262_2)).trans hx262_2
              replace p262:=eq_true p262
              replace q262:=eq_true q262
              refine start_ (n:=41) (S:=fun w'=>w'.cell? ⟨gb258,0,none⟩=some (.int .i64 ((rd_T79 l1 x9_1).f0))∧w'.cell? ⟨gb258,1,none⟩=some (.int .i64 ((rd_T79 l1 x9_1).f1))∧w'.cell? ⟨gb258,2,none⟩=some (.int .i64 ((rd_T79 l1 x9_1).f2))∧w'.cell? (ad257.add (((ji18)).toNat * 3))=some (.int .i64 ((rd_T79 l1 (ji18)).f0))∧w'.cell? ⟨(ad257.add (((ji18)).toNat * 3)).block,(ad257.add (((ji18)).toNat * 3)).off+1,none⟩=some (.int .i64 ((rd_T79 l1 (ji18)).f1))∧w'.cell? ⟨(ad257.add (((ji18)).toNat * 3)).block,(ad257.add (((ji18)).toNat * 3)).off+2,none⟩=some (.int .i64 ((rd_T79 l1 (ji18)).f2))) (ds:= []) #[f',f',f',f',f',f',f',f',f',f',f',f',f',f',f',f',f',f',f',f',f',f',f',f',f',f',f',f',f',f',f',f',f',f',f',f',f',f',f',f',f'] (by kernel_rfl) rfl rfl ⟨(blk_cell BK258.out 0).trans rfl,(blk_cell BK258.out 1).trans rfl,(blk_cell BK258.out 2).trans rfl,((HB.out.cell (World.block_lt_of_cell? w _ hw262_0)).trans hw262_0),((HB.out.cell (World.block_lt_of_cell? w _ hw262_1)).trans hw262_1),((HB.out.cell (World.block_lt_of_cell? w _ hw262_2)).trans hw262_2)⟩ (fun hHeld=>?_);refine with_tabW impl_GoodEdges.tab4 impl_GoodEdges.bits4 (fun HT_ HW_=>?_)
              generalize w30.drew=w31 at BK258 HB hx262_0 hx262_1 hx262_2 hHeld ⊢
              refine pure_ (i:=0) (N:=some 14) (v:=?_) (a':=?_) #[t',f',f',f',f',f',f',f',f',f',f',f',f',f',f',f',f',f',f',f',f',f',f',f',f',f',f',f',f',f',f',f',f',f',f',f',f',f',f',f',f'] rfl rfl (any_of HT_.out (by kernel_rfl)) (fun _ _ _ h=>h) (Or.inl ⟨by rfl,?_⟩) ?_ ?_
              rotate_left
              ·intro w'
               go_simp
               with_reducible rfl
              rotate_left
              ·simp only [Act.put,zq5,zq6,zq7,i64_w,i32_w]
               rfl
              refine pure_ (i:=2) (N:=some 16) (v:=?_) (a':=?_) #[t',f',t',f',f',f',f',f',f',f',f',f',f',f',f',f',f',f',f',f',f',f',f',f',f',f',f',f',f',f',f',f',f',f',f',f',f',f',f',f',f'] rfl rfl (any_of HT_.out (by kernel_rfl)) (fun _ _ _ h=>h) (Or.inl ⟨by rfl,?_⟩) ?_ ?_
              rotate_left
              ·intro w'
               go_simp
               with_reducible rfl
              rotate_left
              ·simp only [Act.put,zq5,zq6,zq7,i64_w,i32_w]
               rfl
              refine pure_ (i:=3) (N:=some 17) (v:=?_) (a':=?_) #[t',f',t',t',f',f',f',f',f',f',f',f',f',f',f',f',f',f',f',f',f',f',f',f',f',f',f',f',f',f',f',f',f',f',f',f',f',f',f',f',f'] rfl rfl (any_of HT_.out (by kernel_rfl)) (fun _ _ _ h=>h) (Or.inl ⟨by rfl,?_⟩) ?_ ?_
              rotate_left
              ·intro w'
               go_simp
               with_reducible rfl
              rotate_left
              ·simp only [Act.put,zq5,zq6,zq7,i64_w,i32_w]
               rfl
              refine take_ (i:=1) (N:=some 15) (v:=?_) (a':=?_) #[t',t',t',t',f',f',f',f',f',f',f',f',f',f',f',f',f',f',f',f',f',f',f',f',f',f',f',f',f',f',f',f',f',f',f',f',f',f',f',f',f'] rfl rfl (take_ofW HT_.out HW_.out (by kernel_rfl)) (fun _ _ _ h=>h) (Or.inl ⟨by rfl,?_⟩) hHeld ?_ ?_
              rotate_left
              ·rintro w' ⟨s0,s1,s2,s3,s4,s5⟩
               go_simp
               with_reducible rfl
              rotate_left
              ·simp only [Act.put,zq5,zq6,zq7,i64_w,i32_w]
               rfl
              refine one_ (i:=4) (N:=some 18) #[t',t',t',t',t',f',f',f',f',f',f',f',f',f',f',f',f',f',f',f',f',f',f',f',f',f',f',f',f',f',f',f',f',f',f',f',f',f',f',f',f'] rfl rfl (one_of HT_.out (by kernel_rfl)) (by decide) (fun K hK=>?_)
              refine goes_ Try.func78 (by kernel_rfl) rfl #[.int .i64 ((rd_T79 l1 x9_1).f0),.int .i64 0,.int .i64 (wrap64 (a0 - 1))] (by rfl) rfl rfl zq2 ?_
              with_reducible refine(impl_in.calls ((rd_T79 l1 x9_1).f0) 0 (wrap64 (a0 - 1)) true _ A6.out).mono ?_
              rintro e w' ⟨rfl,⟨nd,rfl⟩⟩
              refine⟨_,rfl,?_⟩
              refine hK.out _ _ ⟨(blk_cell BK258.out 0).trans rfl,(blk_cell BK258.out 1).trans rfl,(blk_cell BK258.out 2).trans rfl,((HB.out.cell (World.block_lt_of_cell? w _ hw262_0)).trans hw262_0),((HB.out.cell (World.block_lt_of_cell? w _ hw262_1)).trans hw262_1),((HB.out.cell (World.block_lt_of_cell? w _ hw262_2)).trans hw262_2)⟩ (fun hHeld=>?_)
              clear hK K
              refine norm_ (a':=?_) ?_ ?_
              rotate_left
              ·show Act.put _ (some 18) _=_
               simp only [Act.put,zq5,zq6,zq7,i64_w,i32_w]
               rfl
              refine pure_ (i:=5) (N:=some 19) (v:=?_) (a':=?_) #[t',t',t',t',t',t',f',f',f',f',f',f',f',f',f',f',f',f',f',f',f',f',f',f',f',f',f',f',f',f',f',f',f',f',f',f',f',f',f',f',f'] rfl rfl (any_of HT_.out (by kernel_rfl)) (fun _ _ _ h=>h) (Or.inl ⟨by rfl,?_⟩) ?_ ?_
              rotate_left
              ·intro w'
               go_simp
               with_reducible rfl
              rotate_left
              ·simp only [Act.put,zq5,zq6,zq7,i64_w,i32_w]
               rfl
              refine pure_ (i:=6) (N:=some 20) (v:=?_) (a':=?_) #[t',t',t',t',t',t',t',f',f',f',f',f',f',f',f',f',f',f',f',f',f',f',f',f',f',f',f',f',f',f',f',f',f',f',f',f',f',f',f',f',f'] rfl rfl (any_of HT_.out (by kernel_rfl)) (fun _ _ _ h=>h) (Or.inl ⟨by rfl,?_⟩) ?_ ?_
              rotate_left
              ·intro w'
               go_simp
               with_reducible rfl
              rotate_left
              ·simp only [Act.put,zq5,zq6,zq7,i64_w,i32_w]
               rfl
              refine pure_ (i:=7) (N:=some 21) (v:=?_) (a':=?_) #[t',t',t',t',t',t',t',t',f',f',f',f',f',f',f',f',f',f',f',f',f',f',f',f',f',f',f',f',f',f',f',f',f',f',f',f',f',f',f',f',f'] rfl rfl (any_of HT_.out (by kernel_rfl)) (fun _ _ _ h=>h) (Or.inl ⟨by rfl,?_⟩) ?_ ?_
              rotate_left
              ·intro w'
               go_simp
               with_reducible rfl
              rotate_left
              ·simp only [Act.put,zq5,zq6,zq7,i64_w,i32_w]
               rfl
              refine pure_ (i:=9) (N:=some 23) (v:=?_) (a':=?_) #[t',t',t',t',t',t',t',t',f',t',f',f',f',f',f',f',f',f',f',f',f',f',f',f',f',f',f',f',f',f',f',f',f',f',f',f',f',f',f',f',f'] rfl rfl (any_of HT_.out (by kernel_rfl)) (fun _ _ _ h=>h) (Or.inl ⟨by rfl,?_⟩) ?_ ?_
              rotate_left
              ·intro w'
               go_simp
               with_reducible rfl
              rotate_left
              ·simp only [Act.put,zq5,zq6,zq7,i64_w,i32_w]
               rfl
              refine pure_ (i:=10) (N:=some 24) (v:=?_) (a':=?_) #[t',t',t',t',t',t',t',t',f',t',t',f',f',f',f',f',f',f',f',f',f',f',f',f',f',f',f',f',f',f',f',f',f',f',f',f',f',f',f',f',f'] rfl rfl (any_of HT_.out (by kernel_rfl)) (fun _ _ _ h=>h) (Or.inl ⟨by rfl,?_⟩) ?_ ?_
              rotate_left
              ·intro w'
               go_simp
               with_reducible rfl
              rotate_left
              ·simp only [Act.put,zq5,zq6,zq7,i64_w,i32_w]
               rfl
              refine take_ (i:=8) (N:=some 22) (v:=?_) (a':=?_) #[t',t',t',t',t',t',t',t',t',t',t',f',f',f',f',f',f',f',f',f',f',f',f',f',f',f',f',f',f',f',f',f',f',f',f',f',f',f',f',f',f'] rfl rfl (take_ofW HT_.out HW_.out (by kernel_rfl)) (fun _ _ _ h=>h) (Or.inl ⟨by rfl,?_⟩) hHeld ?_ ?_
              rotate_left
              ·rintro w' ⟨s0,s1,s2,s3,s4,s5⟩
               go_simp
               with_reducible rfl
              rotate_left
              ·simp only [Act.put,zq5,zq6,zq7,i64_w,i32_w]
               rfl
              refine one_ (i:=11) (N:=some 25) #[t',t',t',t',t',t',t',t',t',t',t',t',f',f',f',f',f',f',f',f',f',f',f',f',f',f',f',f',f',f',f',f',f',f',f',f',f',f',f',f',f'] rfl rfl (one_of HT_.out (by kernel_rfl)) (by decide) (fun K hK=>?_)
              refine goes_ Try.func78 (by kernel_rfl) rfl #[.int .i64 ((rd_T79 l1 x9_1).f1),.int .i64 0,.int .i64 (wrap64 (a0 - 1))] (by rfl) rfl rfl zq2 ?_
              with_reducible refine(impl_in.calls ((rd_T79 l1 x9_1).f1) 0 (wrap64 (a0 - 1)) true _ A8.out).mono ?_
              rintro e w' ⟨rfl,⟨nd,rfl⟩⟩
              refine⟨_,rfl,?_⟩
              refine hK.out _ _ ⟨(blk_cell BK258.out 0).trans rfl,(blk_cell BK258.out 1).trans rfl,(blk_cell BK258.out 2).trans rfl,((HB.out.cell (World.block_lt_of_cell? w _ hw262_0)).trans hw262_0),((HB.out.cell (World.block_lt_of_cell? w _ hw262_1)).trans hw262_1),((HB.out.cell (World.block_lt_of_cell? w _ hw262_2)).trans hw262_2)⟩ (fun hHeld=>?_)
              clear hK K
              refine norm_ (a':=?_) ?_ ?_
              rotate_left
              ·show Act.put _ (some 25) _=_
               simp only [Act.put,zq5,zq6,zq7,i64_w,i32_w]
               rfl
              refine pure_ (i:=12) (N:=some 26) (v:=?_) (a':=?_) #[t',t',t',t',t',t',t',t',t',t',t',t',t',f',f',f',f',f',f',f',f',f',f',f',f',f',f',f',f',f',f',f',f',f',f',f',f',f',f',f',f'] rfl rfl (any_of HT_.out (by kernel_rfl)) (fun _ _ _ h=>h) (Or.inl ⟨by rfl,?_⟩) ?_ ?_
              rotate_left
              ·intro w'
               go_simp
               with_reducible rfl
              rotate_left
              ·simp only [Act.put,zq5,zq6,zq7,i64_w,i32_w]
               rfl
              refine pure_ (i:=13) (N:=some 27) (v:=?_) (a':=?_) #[t',t',t',t',t',t',t',t',t',t',t',t',t',t',f',f',f',f',f',f',f',f',f',f',f',f',f',f',f',f',f',f',f',f',f',f',f',f',f',f',f'] rfl rfl (any_of HT_.out (by kernel_rfl)) (fun _ _ _ h=>h) (Or.inl ⟨by rfl,?_⟩) ?_ ?_
              rotate_left
              ·intro w'
               go_simp
               with_reducible rfl
              rotate_left
              ·simp only [Act.put,zq5,zq6,zq7,i64_w,i32_w]
               rfl
              refine pure_ (i:=14) (N:=some 28) (v:=?_) (a':=?_) #[t',t',t',t',t',t',t',t',t',t',t',t',t',t',t',f',f',f',f',f',f',f',f',f',f',f',f',f',f',f',f',f',f',f',f',f',f',f',f',f',f'] rfl rfl (any_of HT_.out (by kernel_rfl)) (fun _ _ _ h=>h) (Or.inl ⟨by rfl,?_⟩) ?_ ?_
              rotate_left
              ·intro w'
               go_simp
               with_reducible rfl
              rotate_left
              ·simp only [Act.put,zq5,zq6,zq7,i64_w,i32_w]
               rfl
              refine pure_ (i:=15) (N:=some 29) (v:=?_) (a':=?_) #[t',t',t',t',t',t',t',t',t',t',t',t',t',t',t',t',f',f',f',f',f',f',f',f',f',f',f',f',f',f',f',f',f',f',f',f',f',f',f',f',f'] rfl rfl (any_of HT_.out (by kernel_rfl)) (fun _ _ _ h=>h) (Or.inl ⟨by rfl,?_⟩) ?_ ?_
              rotate_left
              ·intro w'
               go_simp
               with_reducible rfl
              rotate_left
              ·simp only [Act.put,zq5,zq6,zq7,i64_w,i32_w]
               rfl
              refine pure_ (i:=17) (N:=some 31) (v:=?_) (a':=?_) #[t',t',t',t',t',t',t',t',t',t',t',t',t',t',t',t',f',t',f',f',f',f',f',f',f',f',f',f',f',f',f',f',f',f',f',f',f',f',f',f',f'] rfl rfl (any_of HT_.out (by kernel_rfl)) (fun _ _ _ h=>h) (Or.inl ⟨by rfl,?_⟩) ?_ ?_
              rotate_left
              ·intro w'
               go_simp
               with_reducible rfl
              rotate_left
              ·simp only [Act.put,zq5,zq6,zq7,i64_w,i32_w]
               rfl
              refine take_ (i:=16) (N:=some 30) (v:=?_) (a':=?_) #[t',t',t',t',t',t',t',t',t',t',t',t',t',t',t',t',t',t',f',f',f',f',f',f',f',f',f',f',f',f',f',f',f',f',f',f',f',f',f',f',f'] rfl rfl (take_ofW HT_.out HW_.out (by kernel_rfl)) (fun _ _ _ h=>h) (Or.inl ⟨by rfl,?_⟩) hHeld ?_ ?_
              rotate_left
              ·rintro w' ⟨s0,s1,s2,s3,s4,s5⟩
               go_simp
               with_reducible rfl
              rotate_left
              ·simp only [Act.put,zq5,zq6,zq7,i64_w,i32_w]
               rfl
              refine take_ (i:=18) (N:=some 32) (v:=?_) (a':=?_) #[t',t',t',t',t',t',t',t',t',t',t',t',t',t',t',t',t',t',t',f',f',f',f',f',f',f',f',f',f',f',f',f',f',f',f',f',f',f',f',f',f'] rfl rfl (take_ofW HT_.out HW_.out (by kernel_rfl)) (fun _ _ _ h=>h) (Or.inl ⟨by rfl,?_⟩) hHeld ?_ ?_
              rotate_left
              ·rintro w' ⟨s0,s1,s2,s3,s4,s5⟩
               go_simp
               with_reducible rfl
              rotate_left
              ·simp only [Act.put,zq5,zq6,zq7,i64_w,i32_w]
               rfl
              refine pure_ (i:=19) (N:=some 33) (v:=?_) (a':=?_) #[t',t',t',t',t',t',t',t',t',t',t',t',t',t',t',t',t',t',t',t',f',f',f',f',f',f',f',f',f',f',f',f',f',f',f',f',f',f',f',f',f'] rfl rfl (any_of HT_.out (by kernel_rfl)) (fun _ _ _ h=>h) (Or.inl ⟨by rfl,?_⟩) ?_ ?_
              rotate_left
              ·intro w'
               go_simp
               with_reducible rfl
              rotate_left
              ·simp only [Act.put,zq5,zq6,zq7,i64_w,i32_w]
               rfl
              refine pure_ (i:=20) (N:=some 34) (v:=?_) (a':=?_) #[t',t',t',t',t',t',t',t',t',t',t',t',t',t',t',t',t',t',t',t',t',f',f',f',f',f',f',f',f',f',f',f',f',f',f',f',f',f',f',f',f'] rfl rfl (any_of HT_.out (by kernel_rfl)) (fun _ _ _ h=>h) (Or.inl ⟨by rfl,?_⟩) ?_ ?_
              rotate_left
              ·intro w'
               go_simp
               with_reducible rfl
              rotate_left
              ·simp only [Act.put,zq5,zq6,zq7,i64_w,i32_w]
               rfl
              refine pure_ (i:=21) (N:=some 35) (v:=?_) (a':=?_) #[t',t',t',t',t',t',t',t',t',t',t',t',t',t',t',t',t',t',t',t',t',t',f',f',f',f',f',f',f',f',f',f',f',f',f',f',f',f',f',f',f'] rfl rfl (any_of HT_.out (by kernel_rfl)) (fun _ _ _ h=>h) (Or.inl ⟨by rfl,?_⟩) ?_ ?_
              rotate_left
              ·intro w'
               go_simp
               with_reducible rfl
              rotate_left
              ·simp only [Act.put,zq5,zq6,zq7,i64_w,i32_w]
               rfl
              refine pure_ (i:=22) (N:=some 36) (v:=?_) (a':=?_) #[t',t',t',t',t',t',t',t',t',t',t',t',t',t',t',t',t',t',t',t',t',t',t',f',f',f',f',f',f',f',f',f',f',f',f',f',f',f',f',f',f'] rfl rfl (any_of HT_.out (by kernel_rfl)) (fun _ _ _ h=>h) (Or.inl ⟨by rfl,?_⟩) ?_ ?_
              rotate_left
              ·intro w'
               go_simp
               with_reducible rfl
              rotate_left
              ·simp only [Act.put,zq5,zq6,zq7,i64_w,i32_w]
               rfl
              refine take_ (i:=23) (N:=some 37) (v:=?_) (a':=?_) #[t',t',t',t',t',t',t',t',t',t',t',t',t',t',t',t',t',t',t',t',t',t',t',t',f',f',f',f',f',f',f',f',f',f',f',f',f',f',f',f',f'] rfl rfl (take_ofW HT_.out HW_.out (by kernel_rfl)) (fun _ _ _ h=>h) (Or.inl ⟨by rfl,?_⟩) hHeld ?_ ?_
              rotate_left
              ·rintro w' ⟨s0,s1,s2,s3,s4,s5⟩
               go_simp
               with_reducible rfl
              rotate_left
              ·simp only [Act.put,zq5,zq6,zq7,i64_w,i32_w]
               rfl
              refine one_ (i:=24) (N:=some 38) #[t',t',t',t',t',t',t',t',t',t',t',t',t',t',t',t',t',t',t',t',t',t',t',t',t',f',f',f',f',f',f',f',f',f',f',f',f',f',f',f',f'] rfl rfl (one_of HT_.out (by kernel_rfl)) (by decide) (fun K hK=>?_)
              refine goes_ Try.func78 (by kernel_rfl) rfl #[.int .i64 ((rd_T79 l1 x9_1).f2),.int .i64 1,.int .i64 100] (by rfl) rfl rfl zq2 ?_
              with_reducible refine(impl_in.calls ((rd_T79 l1 x9_1).f2) 1 100 true _ A15.out).mono ?_
              rintro e w' ⟨rfl,⟨nd,rfl⟩⟩
              refine⟨_,rfl,?_⟩
              refine hK.out _ _ ⟨(blk_cell BK258.out 0).trans rfl,(blk_cell BK258.out 1).trans rfl,(blk_cell BK258.out 2).trans rfl,((HB.out.cell (World.block_lt_of_cell? w _ hw262_0)).trans hw262_0),((HB.out.cell (World.block_lt_of_cell? w _ hw262_1)).trans hw262_1),((HB.out.cell (World.block_lt_of_cell? w _ hw262_2)).trans hw262_2)⟩ (fun hHeld=>?_)
              clear hK K
              refine norm_ (a':=?_) ?_ ?_
              rotate_left
              ·show Act.put _ (some 38) _=_
               simp only [Act.put,zq5,zq6,zq7,i64_w,i32_w]
               rfl
              refine pure_ (i:=25) (N:=some 39) (v:=?_) (a':=?_) #[t',t',t',t',t',t',t',t',t',t',t',t',t',t',t',t',t',t',t',t',t',t',t',t',t',t',f',f',f',f',f',f',f',f',f',f',f',f',f',f',f'] rfl rfl (any_of HT_.out (by kernel_rfl)) (fun _ _ _ h=>h) (Or.inl ⟨by rfl,?_⟩) ?_ ?_
              rotate_left
              ·intro w'
               go_simp
               with_reducible rfl
              rotate_left
              ·simp only [Act.put,zq5,zq6,zq7,i64_w,i32_w]
               rfl
              refine pure_ (i:=26) (N:=some 40) (v:=?_) (a':=?_) #[t',t',t',t',t',t',t',t',t',t',t',t',t',t',t',t',t',t',t',t',t',t',t',t',t',t',t',f',f',f',f',f',f',f',f',f',f',f',f',f',f'] rfl rfl (any_of HT_.out (by kernel_rfl)) (fun _ _ _ h=>h) (Or.inl ⟨by rfl,?_⟩) ?_ ?_
              rotate_left
              ·intro w'
               go_simp
               with_reducible rfl
              rotate_left
              ·simp only [Act.put,zq5,zq6,zq7,i64_w,i32_w]
               rfl
              refine pure_ (i:=27) (N:=some 41) (v:=?_) (a':=?_) #[t',t',t',t',t',t',t',t',t',t',t',t',t',t',t',t',t',t',t',t',t',t',t',t',t',t',t',t',f',f',f',f',f',f',f',f',f',f',f',f',f'] rfl rfl (any_of HT_.out (by kernel_rfl)) (fun _ _ _ h=>h) (Or.inl ⟨by rfl,?_⟩) ?_ ?_
              rotate_left
              ·intro w'
               go_simp
               with_reducible rfl
              rotate_left
              ·simp only [Act.put,zq5,zq6,zq7,i64_w,i32_w]
               rfl
              refine pure_ (i:=28) (N:=some 42) (v:=?_) (a':=?_) #[t',t',t',t',t',t',t',t',t',t',t',t',t',t',t',t',t',t',t',t',t',t',t',t',t',t',t',t',t',f',f',f',f',f',f',f',f',f',f',f',f'] rfl rfl (any_of HT_.out (by kernel_rfl)) (fun _ _ _ h=>h) (Or.inl ⟨by rfl,?_⟩) ?_ ?_
              rotate_left
              ·intro w'
               go_simp
               with_reducible rfl
              rotate_left
              ·simp only [Act.put,zq5,zq6,zq7,i64_w,i32_w]
               rfl
              refine pure_ (i:=29) (N:=some 43) (v:=?_) (a':=?_) #[t',t',t',t',t',t',t',t',t',t',t',t',t',t',t',t',t',t',t',t',t',t',t',t',t',t',t',t',t',t',f',f',f',f',f',f',f',f',f',f',f'] rfl rfl (any_of HT_.out (by kernel_rfl)) (fun _ _ _ h=>h) (Or.inl ⟨by rfl,?_⟩) ?_ ?_
              rotate_left
              ·intro w'
               go_simp
               with_reducible rfl
              rotate_left
              ·simp only [Act.put,zq5,zq6,zq7,i64_w,i32_w]
               rfl
              refine pure_ (i:=30) (N:=some 44) (v:=?_) (a':=?_) #[t',t',t',t',t',t',t',t',t',t',t',t',t',t',t',t',t',t',t',t',t',t',t',t',t',t',t',t',t',t',t',f',f',f',f',f',f',f',f',f',f'] rfl rfl (any_of HT_.out (by kernel_rfl)) (fun _ _ _ h=>h) (Or.inl ⟨by rfl,?_⟩) ?_ ?_
              rotate_left
              ·intro w'
               go_simp
               with_reducible rfl
              rotate_left
              ·simp only [Act.put,zq5,zq6,zq7,i64_w,i32_w]
               rfl
              refine pure_ (i:=31) (N:=some 45) (v:=?_) (a':=?_) #[t',t',t',t',t',t',t',t',t',t',t',t',t',t',t',t',t',t',t',t',t',t',t',t',t',t',t',t',t',t',t',t',f',f',f',f',f',f',f',f',f'] rfl rfl (any_of HT_.out (by kernel_rfl)) (fun _ _ _ h=>h) (Or.inl ⟨by rfl,?_⟩) ?_ ?_
              rotate_left
              ·intro w'
               go_simp
               with_reducible rfl
              rotate_left
              ·simp only [Act.put,zq5,zq6,zq7,i64_w,i32_w]
               rfl
              refine pure_ (i:=32) (N:=some 46) (v:=?_) (a':=?_) #[t',t',t',t',t',t',t',t',t',t',t',t',t',t',t',t',t',t',t',t',t',t',t',t',t',t',t',t',t',t',t',t',t',f',f',f',f',f',f',f',f'] rfl rfl (any_of HT_.out (by kernel_rfl)) (fun _ _ _ h=>h) (Or.inl ⟨by rfl,?_⟩) ?_ ?_
              rotate_left
              ·intro w'
               go_simp
               with_reducible rfl
              rotate_left
              ·simp only [Act.put,zq5,zq6,zq7,i64_w,i32_w]
               rfl
              refine pure_ (i:=33) (N:=some 47) (v:=?_) (a':=?_) #[t',t',t',t',t',t',t',t',t',t',t',t',t',t',t',t',t',t',t',t',t',t',t',t',t',t',t',t',t',t',t',t',t',t',f',f',f',f',f',f',f'] rfl rfl (any_of HT_.out (by kernel_rfl)) (fun _ _ _ h=>h) (Or.inl ⟨by rfl,?_⟩) ?_ ?_
              rotate_left
              ·intro w'
               go_simp
               with_reducible rfl
              rotate_left
              ·simp only [Act.put,zq5,zq6,zq7,i64_w,i32_w]
               rfl
              refine pure_ (i:=34) (N:=some 48) (v:=?_) (a':=?_) #[t',t',t',t',t',t',t',t',t',t',t',t',t',t',t',t',t',t',t',t',t',t',t',t',t',t',t',t',t',t',t',t',t',t',t',f',f',f',f',f',f'] rfl rfl (any_of HT_.out (by kernel_rfl)) (fun _ _ _ h=>h) (Or.inl ⟨by rfl,?_⟩) ?_ ?_
              rotate_left
              ·intro w'
               go_simp
               with_reducible rfl
              rotate_left
              ·simp only [Act.put,zq5,zq6,zq7,i64_w,i32_w]
               rfl
              refine take_ (i:=35) (N:=some 49) (v:=?_) (a':=?_) #[t',t',t',t',t',t',t',t',t',t',t',t',t',t',t',t',t',t',t',t',t',t',t',t',t',t',t',t',t',t',t',t',t',t',t',t',f',f',f',f',f'] rfl rfl (take_ofW HT_.out HW_.out (by kernel_rfl)) (fun _ _ _ h=>h) (Or.inl ⟨by rfl,?_⟩) hHeld ?_ ?_
              rotate_left
              ·rintro w' ⟨s0,s1,s2,s3,s4,s5⟩
               go_simp
               with_reducible rfl
              rotate_left
              ·simp only [Act.put,zq5,zq6,zq7,i64_w,i32_w]
               rfl
              refine take_ (i:=36) (N:=some 50) (v:=?_) (a':=?_) #[t',t',t',t',t',t',t',t',t',t',t',t',t',t',t',t',t',t',t',t',t',t',t',t',t',t',t',t',t',t',t',t',t',t',t',t',t',f',f',f',f'] rfl rfl (take_ofW HT_.out HW_.out (by kernel_rfl)) (fun _ _ _ h=>h) (Or.inl ⟨by rfl,?_⟩) hHeld ?_ ?_
              rotate_left
              ·rintro w' ⟨s0,s1,s2,s3,s4,s5⟩
               go_simp
               with_reducible rfl
              rotate_left
              ·simp only [Act.put,zq5,zq6,zq7,i64_w,i32_w]
               rfl
              refine one_ (i:=37) (N:=some 51) #[t',t',t',t',t',t',t',t',t',t',t',t',t',t',t',t',t',t',t',t',t',t',t',t',t',t',t',t',t',t',t',t',t',t',t',t',t',t',f',f',f'] rfl rfl (one_of HT_.out (by kernel_rfl)) (by decide) (fun K hK=>?_)
              refine goes_ Try.func93 (by kernel_rfl) rfl #[.agg #[.int .i64 ((rd_T79 l1 (ji18)).f0),.int .i64 ((rd_T79 l1 (ji18)).f1),.int .i64 ((rd_T79 l1 (ji18)).f2)],.agg #[.int .i64 ((rd_T79 l1 x9_1).f0),.int .i64 ((rd_T79 l1 x9_1).f1),.int .i64 ((rd_T79 l1 x9_1).f2)]] (by rfl) rfl rfl (by(try simp only [List.map_toArray,List.map_cons,List.map_nil]);first|done|(simp only [hji18];rfl)|rfl|(simp only [List.length_drop,List.length_take];rfl)) ?_
              with_reducible refine(impl_byEnds.calls ((rd_T79 l1 (ji18)).f0) ((rd_T79 l1 (ji18)).f1) ((rd_T79 l1 (ji18)).f2) ((rd_T79 l1 x9_1).f0) ((rd_T79 l1 x9_1).f1) ((rd_T79 l1 x9_1).f2) t263 _ A21.out).mono ?_
              rintro e w32 ⟨rfl,hb⟩
              refine⟨_,rfl,?_⟩
              have n0_:=Aside0.mk (blk_below (g:=gb258) (o:= .cells #[.int .i64 ((rd_T79 l1 x9_1).f0),.int .i64 ((rd_T79 l1 x9_1).f1),.int .i64 ((rd_T79 l1 x9_1).f2)] 79 (0,0)) (zq3 BK258) hb)
              have n1_:=Aside0.mk (below_step (zb1 HB GE258) hb)
              clear BK258
              clear HB
              have BK258:=n0_
              have HB:=n1_
              clear n0_ n1_
              (try clear hb)
              (try clear hb2)
              (try clear hk)
              (try clear hi)
              refine hK.out _ _ ⟨(blk_cell BK258.out 0).trans rfl,(blk_cell BK258.out 1).trans rfl,(blk_cell BK258.out 2).trans rfl,((HB.out.cell (World.block_lt_of_cell? w _ hw262_0)).trans hw262_0),((HB.out.cell (World.block_lt_of_cell? w _ hw262_1)).trans hw262_1),((HB.out.cell (World.block_lt_of_cell? w _ hw262_2)).trans hw262_2)⟩ (fun hHeld=>?_)
              clear hK K
              refine norm_ (a':=?_) ?_ ?_
              rotate_left
              ·show Act.put _ (some 51) _=_
               simp only [Act.put,zq5,zq6,zq7,i64_w,i32_w]
               rfl
              refine pure_ (i:=38) (N:=some 52) (v:=?_) (a':=?_) #[t',t',t',t',t',t',t',t',t',t',t',t',t',t',t',t',t',t',t',t',t',t',t',t',t',t',t',t',t',t',t',t',t',t',t',t',t',t',t',f',f'] rfl rfl (any_of HT_.out (by kernel_rfl)) (fun _ _ _ h=>h) (Or.inl ⟨by rfl,?_⟩) ?_ ?_
              rotate_left
              ·intro w'
               go_simp
               with_reducible rfl
              rotate_left
              ·simp only [Act.put,zq5,zq6,zq7,i64_w,i32_w]
               rfl
              refine pure_ (i:=39) (N:=some 53) (v:=?_) (a':=?_) #[t',t',t',t',t',t',t',t',t',t',t',t',t',t',t',t',t',t',t',t',t',t',t',t',t',t',t',t',t',t',t',t',t',t',t',t',t',t',t',t',f'] rfl rfl (any_of HT_.out (by kernel_rfl)) (fun _ _ _ h=>h) (Or.inl ⟨by rfl,?_⟩) ?_ ?_
              rotate_left
              ·intro w'
               go_simp
               with_reducible rfl
              rotate_left
              ·simp only [Act.put,zq5,zq6,zq7,i64_w,i32_w]
               rfl
              refine pure_ (i:=40) (N:=some 54) (v:=?_) (a':=?_) #[t',t',t',t',t',t',t',t',t',t',t',t',t',t',t',t',t',t',t',t',t',t',t',t',t',t',t',t',t',t',t',t',t',t',t',t',t',t',t',t',t'] rfl rfl (any_of HT_.out (by kernel_rfl)) (fun _ _ _ h=>h) (Or.inl ⟨by rfl,?_⟩) ?_ ?_
              rotate_left
              ·intro w'
               go_simp
               with_reducible rfl
              rotate_left
              ·simp only [Act.put,zq5,zq6,zq7,i64_w,i32_w]
               rfl
              refine done_ (done_of HT_.out (by kernel_rfl)) ?_
              try go_wp2
              go_roundg k1
              case measure=>have:=HK1.out;omega
              case rel=>exact⟨(wrap64 (x9_1+1)),(by first|rfl|(simp;done)|(simp [*];done)),H',⟨by have:=HK1.out;omega⟩,⟨by repeat(first|(with_reducible first|exact HB.out|apply below_alloc|apply pw_below_drewN|apply below_drew1|refine below_set ?_ GE258.out)|exact HB.out)⟩⟩
            ·rw [if_neg c20] at H
             exact absurd H (by simp)
           ·rw [if_neg c19] at H
            exact absurd H (by simp)
          ·rw [if_neg c17] at H
           have c17b0:decide (0<x9_1)=false:=decide_eq_false c17
           clear c17
           have H':=Aside0.mk H
           clear H
           have p257: 0≤ (x9_1:Int):=of_decide_eq_true zq1
           have q257:x9_1< (l1.length:Int):=of_decide_eq_true zq1
           obtain⟨ad257,e257,hx257_0,hx257_1,hx257_2⟩:=at_T79 HR1.out x9_1 p257 q257
           cases e257
           replace hx257_0:=(HB.out.cell (World.block_lt_of_cell? w _ hx257_0)).trans hx257_0
           replace hx257_1:=(HB.out.cell (World.block_lt_of_cell? w _ hx257_1)).trans hx257_1
           replace hx257_2:=(HB.out.cell (World.block_lt_of_cell? w _ hx257_2)).trans hx257_2
           replace p257:=eq_true p257
           replace q257:=eq_true q257
           try go_wp2_with (first|((with_reducible refine gate_dst (N:=6) rfl ?_);(try(refine gate_guard (by rfl) ?_;dsimp only));refine box_event ?hg (N:=6) ?hd (cs:= #[.int .i64 0,.int .i64 0,.int .i64 0]) (t:=79) ?hr ?_;(case hd=>rfl);(case hg=>rfl);(case hr=>first|(go_simp;done)|(go_simp;rfl));intro gb258 hg w33 hbox hb;have n0_:=Aside0.mk (below_step (zb0 HB) hb);have n1_:=Aside0.mk (hbox);have n2_:=Aside0.mk ((by rw [hg];exact(below_size (zb0 HB)):w.heap.size≤gb258));have n3_:=Aside0.mk ((by rw [hg];exact(below_size (zb0 HB)):w.heap.size≤gb258));clear HB;have HB:=n0_;have BK258:=n1_;have GW258:=n2_;have GE258:=n3_;clear n0_ n1_ n2_ n3_;clear hb hbox hg;have hcz34_0:w33.cell? ⟨gb258,0,none⟩=some (.int .i64 0):=(blk_cell BK258.out 0).trans rfl;have hcz34_1:w33.cell? ⟨gb258,1,none⟩=some (.int .i64 0):=(blk_cell BK258.out 1).trans rfl;have hcz34_2:w33.cell? ⟨gb258,2,none⟩=some (.int .i64 0):=(blk_cell BK258.out 2).trans rfl;have hfz34_0:=blk_frozen BK258.out 0;have hfz34_1:=blk_frozen BK258.out 1;have hfz34_2:=blk_frozen BK258.out 2))
           have n0_:Aside0 ((((w33.setCell ⟨gb258,0,none⟩ (.int .i64 ((rd_T79 l1 x9_1).f0))).setCell ⟨gb258,1,none⟩ (.int .i64 ((rd_T79 l1 x9_1).f1))).setCell ⟨gb258,2,none⟩ (.int .i64 ((rd_T79 l1 x9_1).f2))).heap[gb258]?=some (.cells #[.int .i64 ((rd_T79 l1 x9_1).f0),.int .i64 ((rd_T79 l1 x9_1).f1),.int .i64 ((rd_T79 l1 x9_1).f2)] 79 (0,0))):=⟨by(with_reducible repeat(first|refine blk_drewN ?_ _|refine blk_drew ?_ |refine blk_alloc ?_ _));refine blk_put (cs:= #[.int .i64 ((rd_T79 l1 x9_1).f0),.int .i64 ((rd_T79 l1 x9_1).f1),.int .i64 0]) ?_ 2 _ rfl;(with_reducible repeat(first|refine blk_drewN ?_ _|refine blk_drew ?_ |refine blk_alloc ?_ _));refine blk_put (cs:= #[.int .i64 ((rd_T79 l1 x9_1).f0),.int .i64 0,.int .i64 0]) ?_ 1 _ rfl;(with_reducible repeat(first|refine blk_drewN ?_ _|refine blk_drew ?_ |refine blk_alloc ?_ _));refine blk_put (cs:= #[.int .i64 0,.int .i64 0,.int .i64 0]) ?_ 0 _ rfl;(with_reducible repeat(first|refine blk_drewN ?_ _|refine blk_drew ?_ |refine blk_alloc ?_ _));exact BK258.out⟩
           have n1_:Aside0 (Below w.heap.size w (((w33.setCell ⟨gb258,0,none⟩ (.int .i64 ((rd_T79 l1 x9_1).f0))).setCell ⟨gb258,1,none⟩ (.int .i64 ((rd_T79 l1 x9_1).f1))).setCell ⟨gb258,2,none⟩ (.int .i64 ((rd_T79 l1 x9_1).f2)))):=⟨by repeat(first|(with_reducible first|exact HB.out|apply below_alloc|apply pw_below_drewN|apply below_drew1|refine below_set ?_ GE258.out)|exact HB.out)⟩
           (try clear BK258)
           (try clear HB)
           (try simp only [show ∀ (W_:World) (n_:Nat) (a_:Addr) (v_:Value),(World.drewN W_ n_).setCell a_ v_= (World.setCell W_ a_ v_).drewN n_ from fun _ _ _ _=>rfl])
           generalize (((w33.setCell ⟨gb258,0,none⟩ (.int .i64 ((rd_T79 l1 x9_1).f0))).setCell ⟨gb258,1,none⟩ (.int .i64 ((rd_T79 l1 x9_1).f1))).setCell ⟨gb258,2,none⟩ (.int .i64 ((rd_T79 l1 x9_1).f2)))=w35 at n0_ n1_ ⊢
           have BK258:=n0_
           have HB:=n1_
           clear n0_ n1_
           have n0_:=Aside0.mk (blk_drew BK258.out)
           have n1_:=Aside0.mk (below_drew1 HB.out)
           clear BK258
           clear HB
           have BK258:=n0_
           have HB:=n1_
           clear n0_ n1_
           refine start_ (n:=41) (S:=fun w'=>w'.cell? ⟨gb258,0,none⟩=some (.int .i64 ((rd_T79 l1 x9_1).f0))∧w'.cell? ⟨gb258,1,none⟩=some (.int .i64 ((rd_T79 l1 x9_1).f1))∧w'.cell? ⟨gb258,2,none⟩=some (.int .i64 ((rd_T79 l1 x9_1).f2))) (ds:= []) #[f',f',f',f',f',f',f',f',f',f',f',f',f',f',f',f',f',f',f',f',f',f',f',f',f',f',f',f',f',f',f',f',f',f',f',f',f',f',f',f',f'] (by kernel_rfl) rfl rfl ⟨(blk_cell BK258.out 0).trans rfl,(blk_cell BK258.out 1).trans rfl,(blk_cell BK258.out 2).trans rfl⟩ (fun hHeld=>?_);refine with_tabW impl_GoodEdges.tab4 impl_GoodEdges.bits4 (fun HT_ HW_=>?_)
           generalize w35.drew=w36 at BK258 HB hHeld ⊢
           refine pure_ (i:=0) (N:=some 14) (v:=?_) (a':=?_) #[t',f',f',f',f',f',f',f',f',f',f',f',f',f',f',f',f',f',f',f',f',f',f',f',f',f',f',f',f',f',f',f',f',f',f',f',f',f',f',f',f'] rfl rfl (any_of HT_.out (by kernel_rfl)) (fun _ _ _ h=>h) (Or.inl ⟨by rfl,?_⟩) ?_ ?_
           rotate_left
           ·intro w'
            go_simp
            with_reducible rfl
           rotate_left
           ·simp only [Act.put,zq5,zq6,zq7,i64_w,i32_w]
            rfl
           refine pure_ (i:=2) (N:=some 16) (v:=?_) (a':=?_) #[t',f',t',f',f',f',f',f',f',f',f',f',f',f',f',f',f',f',f',f',f',f',f',f',f',f',f',f',f',f',f',f',f',f',f',f',f',f',f',f',f'] rfl rfl (any_of HT_.out (by kernel_rfl)) (fun _ _ _ h=>h) (Or.inl ⟨by rfl,?_⟩) ?_ ?_
           rotate_left
           ·intro w'
            go_simp
            with_reducible rfl
           rotate_left
           ·simp only [Act.put,zq5,zq6,zq7,i64_w,i32_w]
            rfl
           refine pure_ (i:=3) (N:=some 17) (v:=?_) (a':=?_) #[t',f',t',t',f',f',f',f',f',f',f',f',f',f',f',f',f',f',f',f',f',f',f',f',f',f',f',f',f',f',f',f',f',f',f',f',f',f',f',f',f'] rfl rfl (any_of HT_.out (by kernel_rfl)) (fun _ _ _ h=>h) (Or.inl ⟨by rfl,?_⟩) ?_ ?_
           rotate_left
           ·intro w'
            go_simp
            with_reducible rfl
           rotate_left
           ·simp only [Act.put,zq5,zq6,zq7,i64_w,i32_w]
            rfl
           refine take_ (i:=1) (N:=some 15) (v:=?_) (a':=?_) #[t',t',t',t',f',f',f',f',f',f',f',f',f',f',f',f',f',f',f',f',f',f',f',f',f',f',f',f',f',f',f',f',f',f',f',f',f',f',f',f',f'] rfl rfl (take_ofW HT_.out HW_.out (by kernel_rfl)) (fun _ _ _ h=>h) (Or.inl ⟨by rfl,?_⟩) hHeld ?_ ?_
           rotate_left
           ·rintro w' ⟨s0,s1,s2⟩
            go_simp
            with_reducible rfl
           rotate_left
           ·simp only [Act.put,zq5,zq6,zq7,i64_w,i32_w]
            rfl
           refine one_ (i:=4) (N:=some 18) #[t',t',t',t',t',f',f',f',f',f',f',f',f',f',f',f',f',f',f',f',f',f',f',f',f',f',f',f',f',f',f',f',f',f',f',f',f',f',f',f',f'] rfl rfl (one_of HT_.out (by kernel_rfl)) (by decide) (fun K hK=>?_)
           refine goes_ Try.func78 (by kernel_rfl) rfl #[.int .i64 ((rd_T79 l1 x9_1).f0),.int .i64 0,.int .i64 (wrap64 (a0 - 1))] (by rfl) rfl rfl zq2 ?_
           with_reducible refine(impl_in.calls ((rd_T79 l1 x9_1).f0) 0 (wrap64 (a0 - 1)) true _ A6.out).mono ?_
           rintro e w' ⟨rfl,⟨nd,rfl⟩⟩
           refine⟨_,rfl,?_⟩
           refine hK.out _ _ ⟨(blk_cell BK258.out 0).trans rfl,(blk_cell BK258.out 1).trans rfl,(blk_cell BK258.out 2).trans rfl⟩ (fun hHeld=>?_)
           clear hK K
           refine norm_ (a':=?_) ?_ ?_
           rotate_left
           ·show Act.put _ (some 18) _=_
            simp only [Act.put,zq5,zq6,zq7,i64_w,i32_w]
            rfl
           refine pure_ (i:=5) (N:=some 19) (v:=?_) (a':=?_) #[t',t',t',t',t',t',f',f',f',f',f',f',f',f',f',f',f',f',f',f',f',f',f',f',f',f',f',f',f',f',f',f',f',f',f',f',f',f',f',f',f'] rfl rfl (any_of HT_.out (by kernel_rfl)) (fun _ _ _ h=>h) (Or.inl ⟨by rfl,?_⟩) ?_ ?_
           rotate_left
           ·intro w'
            go_simp
            with_reducible rfl
           rotate_left
           ·simp only [Act.put,zq5,zq6,zq7,i64_w,i32_w]
            rfl
           refine pure_ (i:=6) (N:=some 20) (v:=?_) (a':=?_) #[t',t',t',t',t',t',t',f',f',f',f',f',f',f',f',f',f',f',f',f',f',f',f',f',f',f',f',f',f',f',f',f',f',f',f',f',f',f',f',f',f'] rfl rfl (any_of HT_.out (by kernel_rfl)) (fun _ _ _ h=>h) (Or.inl ⟨by rfl,?_⟩) ?_ ?_
           rotate_left
           ·intro w'
            go_simp
            with_reducible rfl
           rotate_left
           ·simp only [Act.put,zq5,zq6,zq7,i64_w,i32_w]
            rfl
           refine pure_ (i:=7) (N:=some 21) (v:=?_) (a':=?_) #[t',t',t',t',t',t',t',t',f',f',f',f',f',f',f',f',f',f',f',f',f',f',f',f',f',f',f',f',f',f',f',f',f',f',f',f',f',f',f',f',f'] rfl rfl (any_of HT_.out (by kernel_rfl)) (fun _ _ _ h=>h) (Or.inl ⟨by rfl,?_⟩) ?_ ?_
           rotate_left
           ·intro w'
            go_simp
            with_reducible rfl
           rotate_left
           ·simp only [Act.put,zq5,zq6,zq7,i64_w,i32_w]
            rfl
           refine pure_ (i:=9) (N:=some 23) (v:=?_) (a':=?_) #[t',t',t',t',t',t',t',t',f',t',f',f',f',f',f',f',f',f',f',f',f',f',f',f',f',f',f',f',f',f',f',f',f',f',f',f',f',f',f',f',f'] rfl rfl (any_of HT_.out (by kernel_rfl)) (fun _ _ _ h=>h) (Or.inl ⟨by rfl,?_⟩) ?_ ?_
           rotate_left
           ·intro w'
            go_simp
            with_reducible rfl
           rotate_left
           ·simp only [Act.put,zq5,zq6,zq7,i64_w,i32_w]
            rfl
           refine pure_ (i:=10) (N:=some 24) (v:=?_) (a':=?_) #[t',t',t',t',t',t',t',t',f',t',t',f',f',f',f',f',f',f',f',f',f',f',f',f',f',f',f',f',f',f',f',f',f',f',f',f',f',f',f',f',f'] rfl rfl (any_of HT_.out (by kernel_rfl)) (fun _ _ _ h=>h) (Or.inl ⟨by rfl,?_⟩) ?_ ?_
           rotate_left
           ·intro w'
            go_simp
            with_reducible rfl
           rotate_left
           ·simp only [Act.put,zq5,zq6,zq7,i64_w,i32_w]
            rfl
           refine take_ (i:=8) (N:=some 22) (v:=?_) (a':=?_) #[t',t',t',t',t',t',t',t',t',t',t',f',f',f',f',f',f',f',f',f',f',f',f',f',f',f',f',f',f',f',f',f',f',f',f',f',f',f',f',f',f'] rfl rfl (take_ofW HT_.out HW_.out (by kernel_rfl)) (fun _ _ _ h=>h) (Or.inl ⟨by rfl,?_⟩) hHeld ?_ ?_
           rotate_left
           ·rintro w' ⟨s0,s1,s2⟩
            go_simp
            with_reducible rfl
           rotate_left
           ·simp only [Act.put,zq5,zq6,zq7,i64_w,i32_w]
            rfl
           refine one_ (i:=11) (N:=some 25) #[t',t',t',t',t',t',t',t',t',t',t',t',f',f',f',f',f',f',f',f',f',f',f',f',f',f',f',f',f',f',f',f',f',f',f',f',f',f',f',f',f'] rfl rfl (one_of HT_.out (by kernel_rfl)) (by decide) (fun K hK=>?_)
           refine goes_ Try.func78 (by kernel_rfl) rfl #[.int .i64 ((rd_T79 l1 x9_1).f1),.int .i64 0,.int .i64 (wrap64 (a0 - 1))] (by rfl) rfl rfl zq2 ?_
           with_reducible refine(impl_in.calls ((rd_T79 l1 x9_1).f1) 0 (wrap64 (a0 - 1)) true _ A8.out).mono ?_
           rintro e w' ⟨rfl,⟨nd,rfl⟩⟩
           refine⟨_,rfl,?_⟩
           refine hK.out _ _ ⟨(blk_cell BK258.out 0).trans rfl,(blk_cell BK258.out 1).trans rfl,(blk_cell BK258.out 2).trans rfl⟩ (fun hHeld=>?_)
           clear hK K
           refine norm_ (a':=?_) ?_ ?_
           rotate_left
           ·show Act.put _ (some 25) _=_
            simp only [Act.put,zq5,zq6,zq7,i64_w,i32_w]
            rfl
           refine pure_ (i:=12) (N:=some 26) (v:=?_) (a':=?_) #[t',t',t',t',t',t',t',t',t',t',t',t',t',f',f',f',f',f',f',f',f',f',f',f',f',f',f',f',f',f',f',f',f',f',f',f',f',f',f',f',f'] rfl rfl (any_of HT_.out (by kernel_rfl)) (fun _ _ _ h=>h) (Or.inl ⟨by rfl,?_⟩) ?_ ?_
           rotate_left
           ·intro w'
            go_simp
            with_reducible rfl
           rotate_left
           ·simp only [Act.put,zq5,zq6,zq7,i64_w,i32_w]
            rfl
           refine pure_ (i:=13) (N:=some 27) (v:=?_) (a':=?_) #[t',t',t',t',t',t',t',t',t',t',t',t',t',t',f',f',f',f',f',f',f',f',f',f',f',f',f',f',f',f',f',f',f',f',f',f',f',f',f',f',f'] rfl rfl (any_of HT_.out (by kernel_rfl)) (fun _ _ _ h=>h) (Or.inl ⟨by rfl,?_⟩) ?_ ?_
           rotate_left
           ·intro w'
            go_simp
            with_reducible rfl
           rotate_left
           ·simp only [Act.put,zq5,zq6,zq7,i64_w,i32_w]
            rfl
           refine pure_ (i:=14) (N:=some 28) (v:=?_) (a':=?_) #[t',t',t',t',t',t',t',t',t',t',t',t',t',t',t',f',f',f',f',f',f',f',f',f',f',f',f',f',f',f',f',f',f',f',f',f',f',f',f',f',f'] rfl rfl (any_of HT_.out (by kernel_rfl)) (fun _ _ _ h=>h) (Or.inl ⟨by rfl,?_⟩) ?_ ?_
           rotate_left
           ·intro w'
            go_simp
            with_reducible rfl
           rotate_left
           ·simp only [Act.put,zq5,zq6,zq7,i64_w,i32_w]
            rfl
           refine pure_ (i:=15) (N:=some 29) (v:=?_) (a':=?_) #[t',t',t',t',t',t',t',t',t',t',t',t',t',t',t',t',f',f',f',f',f',f',f',f',f',f',f',f',f',f',f',f',f',f',f',f',f',f',f',f',f'] rfl rfl (any_of HT_.out (by kernel_rfl)) (fun _ _ _ h=>h) (Or.inl ⟨by rfl,?_⟩) ?_ ?_
           rotate_left
           ·intro w'
            go_simp
            with_reducible rfl
           rotate_left
           ·simp only [Act.put,zq5,zq6,zq7,i64_w,i32_w]
            rfl
           refine pure_ (i:=17) (N:=some 31) (v:=?_) (a':=?_) #[t',t',t',t',t',t',t',t',t',t',t',t',t',t',t',t',f',t',f',f',f',f',f',f',f',f',f',f',f',f',f',f',f',f',f',f',f',f',f',f',f'] rfl rfl (any_of HT_.out (by kernel_rfl)) (fun _ _ _ h=>h) (Or.inl ⟨by rfl,?_⟩) ?_ ?_
           rotate_left
           ·intro w'
            go_simp
            with_reducible rfl
           rotate_left
           ·simp only [Act.put,zq5,zq6,zq7,i64_w,i32_w]
            rfl
           refine take_ (i:=16) (N:=some 30) (v:=?_) (a':=?_) #[t',t',t',t',t',t',t',t',t',t',t',t',t',t',t',t',t',t',f',f',f',f',f',f',f',f',f',f',f',f',f',f',f',f',f',f',f',f',f',f',f'] rfl rfl (take_ofW HT_.out HW_.out (by kernel_rfl)) (fun _ _ _ h=>h) (Or.inl ⟨by rfl,?_⟩) hHeld ?_ ?_
           rotate_left
           ·rintro w' ⟨s0,s1,s2⟩
            go_simp
            with_reducible rfl
           rotate_left
           ·simp only [Act.put,zq5,zq6,zq7,i64_w,i32_w]
            rfl
           refine take_ (i:=18) (N:=some 32) (v:=?_) (a':=?_) #[t',t',t',t',t',t',t',t',t',t',t',t',t',t',t',t',t',t',t',f',f',f',f',f',f',f',f',f',f',f',f',f',f',f',f',f',f',f',f',f',f'] rfl rfl (take_ofW HT_.out HW_.out (by kernel_rfl)) (fun _ _ _ h=>h) (Or.inl ⟨by rfl,?_⟩) hHeld ?_ ?_
           rotate_left
           ·rintro w' ⟨s0,s1,s2⟩
            go_simp
            with_reducible rfl
           rotate_left
           ·simp only [Act.put,zq5,zq6,zq7,i64_w,i32_w]
            rfl
           refine pure_ (i:=19) (N:=some 33) (v:=?_) (a':=?_) #[t',t',t',t',t',t',t',t',t',t',t',t',t',t',t',t',t',t',t',t',f',f',f',f',f',f',f',f',f',f',f',f',f',f',f',f',f',f',f',f',f'] rfl rfl (any_of HT_.out (by kernel_rfl)) (fun _ _ _ h=>h) (Or.inl ⟨by rfl,?_⟩) ?_ ?_
           rotate_left
           ·intro w'
            go_simp
            with_reducible rfl
           rotate_left
           ·simp only [Act.put,zq5,zq6,zq7,i64_w,i32_w]
            rfl
           refine pure_ (i:=20) (N:=some 34) (v:=?_) (a':=?_) #[t',t',t',t',t',t',t',t',t',t',t',t',t',t',t',t',t',t',t',t',t',f',f',f',f',f',f',f',f',f',f',f',f',f',f',f',f',f',f',f',f'] rfl rfl (any_of HT_.out (by kernel_rfl)) (fun _ _ _ h=>h) (Or.inl ⟨by rfl,?_⟩) ?_ ?_
           rotate_left
           ·intro w'
            go_simp
            with_reducible rfl
           rotate_left
           ·simp only [Act.put,zq5,zq6,zq7,i64_w,i32_w]
            rfl
           refine pure_ (i:=21) (N:=some 35) (v:=?_) (a':=?_) #[t',t',t',t',t',t',t',t',t',t',t',t',t',t',t',t',t',t',t',t',t',t',f',f',f',f',f',f',f',f',f',f',f',f',f',f',f',f',f',f',f'] rfl rfl (any_of HT_.out (by kernel_rfl)) (fun _ _ _ h=>h) (Or.inl ⟨by rfl,?_⟩) ?_ ?_
           rotate_left
           ·intro w'
            go_simp
            with_reducible rfl
           rotate_left
           ·simp only [Act.put,zq5,zq6,zq7,i64_w,i32_w]
            rfl
           refine pure_ (i:=22) (N:=some 36) (v:=?_) (a':=?_) #[t',t',t',t',t',t',t',t',t',t',t',t',t',t',t',t',t',t',t',t',t',t',t',f',f',f',f',f',f',f',f',f',f',f',f',f',f',f',f',f',f'] rfl rfl (any_of HT_.out (by kernel_rfl)) (fun _ _ _ h=>h) (Or.inl ⟨by rfl,?_⟩) ?_ ?_
           rotate_left
           ·intro w'
            go_simp
            with_reducible rfl
           rotate_left
           ·simp only [Act.put,zq5,zq6,zq7,i64_w,i32_w]
            rfl
           refine take_ (i:=23) (N:=some 37) (v:=?_) (a':=?_) #[t',t',t',t',t',t',t',t',t',t',t',t',t',t',t',t',t',t',t',t',t',t',t',t',f',f',f',f',f',f',f',f',f',f',f',f',f',f',f',f',f'] rfl rfl (take_ofW HT_.out HW_.out (by kernel_rfl)) (fun _ _ _ h=>h) (Or.inl ⟨by rfl,?_⟩) hHeld ?_ ?_
           rotate_left
           ·rintro w' ⟨s0,s1,s2⟩
            go_simp
            with_reducible rfl
           rotate_left
           ·simp only [Act.put,zq5,zq6,zq7,i64_w,i32_w]
            rfl
           refine one_ (i:=24) (N:=some 38) #[t',t',t',t',t',t',t',t',t',t',t',t',t',t',t',t',t',t',t',t',t',t',t',t',t',f',f',f',f',f',f',f',f',f',f',f',f',f',f',f',f'] rfl rfl (one_of HT_.out (by kernel_rfl)) (by decide) (fun K hK=>?_)
           refine goes_ Try.func78 (by kernel_rfl) rfl #[.int .i64 ((rd_T79 l1 x9_1).f2),.int .i64 1,.int .i64 100] (by rfl) rfl rfl zq2 ?_
           with_reducible refine(impl_in.calls ((rd_T79 l1 x9_1).f2) 1 100 true _ A15.out).mono ?_
           rintro e w' ⟨rfl,⟨nd,rfl⟩⟩
           refine⟨_,rfl,?_⟩
           refine hK.out _ _ ⟨(blk_cell BK258.out 0).trans rfl,(blk_cell BK258.out 1).trans rfl,(blk_cell BK258.out 2).trans rfl⟩ (fun hHeld=>?_)
           clear hK K
           refine norm_ (a':=?_) ?_ ?_
           rotate_left
           ·show Act.put _ (some 38) _=_
            simp only [Act.put,zq5,zq6,zq7,i64_w,i32_w]
            rfl
           refine pure_ (i:=25) (N:=some 39) (v:=?_) (a':=?_) #[t',t',t',t',t',t',t',t',t',t',t',t',t',t',t',t',t',t',t',t',t',t',t',t',t',t',f',f',f',f',f',f',f',f',f',f',f',f',f',f',f'] rfl rfl (any_of HT_.out (by kernel_rfl)) (fun _ _ _ h=>h) (Or.inl ⟨by rfl,?_⟩) ?_ ?_
           rotate_left
           ·intro w'
            go_simp
            with_reducible rfl
           rotate_left
           ·simp only [Act.put,zq5,zq6,zq7,i64_w,i32_w]
            rfl
           refine pure_ (i:=26) (N:=some 40) (v:=?_) (a':=?_) #[t',t',t',t',t',t',t',t',t',t',t',t',t',t',t',t',t',t',t',t',t',t',t',t',t',t',t',f',f',f',f',f',f',f',f',f',f',f',f',f',f'] rfl rfl (any_of HT_.out (by kernel_rfl)) (fun _ _ _ h=>h) (Or.inl ⟨by rfl,?_⟩) ?_ ?_
           rotate_left
           ·intro w'
            go_simp
            with_reducible rfl
           rotate_left
           ·simp only [Act.put,zq5,zq6,zq7,i64_w,i32_w]
            rfl
           refine pure_ (i:=27) (N:=some 41) (v:=?_) (a':=?_) #[t',t',t',t',t',t',t',t',t',t',t',t',t',t',t',t',t',t',t',t',t',t',t',t',t',t',t',t',f',f',f',f',f',f',f',f',f',f',f',f',f'] rfl rfl (any_of HT_.out (by kernel_rfl)) (fun _ _ _ h=>h) (Or.inl ⟨by rfl,?_⟩) ?_ ?_
           rotate_left
           ·intro w'
            go_simp
            with_reducible rfl
           rotate_left
           ·simp only [Act.put,zq5,zq6,zq7,i64_w,i32_w]
            rfl
           refine pure_ (i:=28) (N:=some 42) (v:=?_) (a':=?_) #[t',t',t',t',t',t',t',t',t',t',t',t',t',t',t',t',t',t',t',t',t',t',t',t',t',t',t',t',t',f',f',f',f',f',f',f',f',f',f',f',f'] rfl rfl (any_of HT_.out (by kernel_rfl)) (fun _ _ _ h=>h) (Or.inl ⟨by rfl,?_⟩) ?_ ?_
           rotate_left
           ·intro w'
            go_simp
            with_reducible rfl
           rotate_left
           ·simp only [Act.put,zq5,zq6,zq7,i64_w,i32_w]
            rfl
           refine pure_ (i:=29) (N:=some 43) (v:=?_) (a':=?_) #[t',t',t',t',t',t',t',t',t',t',t',t',t',t',t',t',t',t',t',t',t',t',t',t',t',t',t',t',t',t',f',f',f',f',f',f',f',f',f',f',f'] rfl rfl (any_of HT_.out (by kernel_rfl)) (fun _ _ _ h=>h) (Or.inl ⟨by rfl,?_⟩) ?_ ?_
           rotate_left
           ·intro w'
            go_simp
            with_reducible rfl
           rotate_left
           ·simp only [Act.put,zq5,zq6,zq7,i64_w,i32_w]
            rfl
           refine pure_ (i:=30) (N:=some 44) (v:=?_) (a':=?_) #[t',t',t',t',t',t',t',t',t',t',t',t',t',t',t',t',t',t',t',t',t',t',t',t',t',t',t',t',t',t',t',f',f',f',f',f',f',f',f',f',f'] rfl rfl (any_of HT_.out (by kernel_rfl)) (fun _ _ _ h=>h) (Or.inl ⟨by rfl,?_⟩) ?_ ?_
           rotate_left
           ·intro w'
            go_simp
            with_reducible rfl
           rotate_left
           ·simp only [Act.put,zq5,zq6,zq7,i64_w,i32_w]
            rfl
           refine pure_ (i:=31) (N:=some 45) (v:=undef) (a':=?_) #[t',t',t',t',t',t',t',t',t',t',t',t',t',t',t',t',t',t',t',t',t',t',t',t',t',t',t',t',t',t',t',t',f',f',f',f',f',f',f',f',f'] rfl rfl (any_of HT_.out (by kernel_rfl)) (fun _ _ _ h=>h) (Or.inr ⟨by rfl,rfl⟩) ?_ ?_
           rotate_left
           ·simp only [Act.put,zq5,zq6,zq7,i64_w,i32_w]
            rfl
           refine pure_ (i:=32) (N:=some 46) (v:=undef) (a':=?_) #[t',t',t',t',t',t',t',t',t',t',t',t',t',t',t',t',t',t',t',t',t',t',t',t',t',t',t',t',t',t',t',t',t',f',f',f',f',f',f',f',f'] rfl rfl (any_of HT_.out (by kernel_rfl)) (fun _ _ _ h=>h) (Or.inr ⟨by rfl,rfl⟩) ?_ ?_
           rotate_left
           ·simp only [Act.put,zq5,zq6,zq7,i64_w,i32_w]
            rfl
           refine pure_ (i:=33) (N:=some 47) (v:=undef) (a':=?_) #[t',t',t',t',t',t',t',t',t',t',t',t',t',t',t',t',t',t',t',t',t',t',t',t',t',t',t',t',t',t',t',t',t',t',f',f',f',f',f',f',f'] rfl rfl (any_of HT_.out (by kernel_rfl)) (fun _ _ _ h=>h) (Or.inr ⟨by rfl,rfl⟩) ?_ ?_
           rotate_left
           ·simp only [Act.put,zq5,zq6,zq7,i64_w,i32_w]
            rfl
           refine pure_ (i:=34) (N:=some 48) (v:=undef) (a':=?_) #[t',t',t',t',t',t',t',t',t',t',t',t',t',t',t',t',t',t',t',t',t',t',t',t',t',t',t',t',t',t',t',t',t',t',t',f',f',f',f',f',f'] rfl rfl (any_of HT_.out (by kernel_rfl)) (fun _ _ _ h=>h) (Or.inr ⟨by rfl,rfl⟩) ?_ ?_
           rotate_left
           ·simp only [Act.put,zq5,zq6,zq7,i64_w,i32_w]
            rfl
           refine pure_ (i:=35) (N:=some 49) (v:=undef) (a':=?_) #[t',t',t',t',t',t',t',t',t',t',t',t',t',t',t',t',t',t',t',t',t',t',t',t',t',t',t',t',t',t',t',t',t',t',t',t',f',f',f',f',f'] rfl rfl (any_of HT_.out (by kernel_rfl)) (fun _ _ _ h=>h) (Or.inr ⟨by rfl,rfl⟩) ?_ ?_
           rotate_left
           ·simp only [Act.put,zq5,zq6,zq7,i64_w,i32_w]
            rfl
           refine pure_ (i:=36) (N:=some 50) (v:=undef) (a':=?_) #[t',t',t',t',t',t',t',t',t',t',t',t',t',t',t',t',t',t',t',t',t',t',t',t',t',t',t',t',t',t',t',t',t',t',t',t',t',f',f',f',f'] rfl rfl (any_of HT_.out (by kernel_rfl)) (fun _ _ _ h=>h) (Or.inr ⟨by rfl,rfl⟩) ?_ ?_
           rotate_left
           ·simp only [Act.put,zq5,zq6,zq7,i64_w,i32_w]
            rfl
           refine pure_ (i:=37) (N:=some 51) (v:=undef) (a':=?_) #[t',t',t',t',t',t',t',t',t',t',t',t',t',t',t',t',t',t',t',t',t',t',t',t',t',t',t',t',t',t',t',t',t',t',t',t',t',t',f',f',f'] rfl rfl (any_of HT_.out (by kernel_rfl)) (fun _ _ _ h=>h) (Or.inr ⟨by rfl,rfl⟩) ?_ ?_
           rotate_left
           ·simp only [Act.put,zq5,zq6,zq7,i64_w,i32_w]
            rfl
           refine pure_ (i:=38) (N:=some 52) (v:=undef) (a':=?_) #[t',t',t',t',t',t',t',t',t',t',t',t',t',t',t',t',t',t',t',t',t',t',t',t',t',t',t',t',t',t',t',t',t',t',t',t',t',t',t',f',f'] rfl rfl (any_of HT_.out (by kernel_rfl)) (fun _ _ _ h=>h) (Or.inr ⟨by rfl,rfl⟩) ?_ ?_
           rotate_left
           ·simp only [Act.put,zq5,zq6,zq7,i64_w,i32_w]
            rfl
           refine pure_ (i:=39) (N:=some 53) (v:=?_) (a':=?_) #[t',t',t',t',t',t',t',t',t',t',t',t',t',t',t',t',t',t',t',t',t',t',t',t',t',t',t',t',t',t',t',t',t',t',t',t',t',t',t',t',f'] rfl rfl (any_of HT_.out (by kernel_rfl)) (fun _ _ _ h=>h) (Or.inl ⟨by rfl,?_⟩) ?_ ?_
           rotate_left
           ·intro w'
            go_simp
            with_reducible rfl
           rotate_left
           ·simp only [Act.put,zq5,zq6,zq7,i64_w,i32_w]
            rfl
           refine pure_ (i:=40) (N:=some 54) (v:=?_) (a':=?_) #[t',t',t',t',t',t',t',t',t',t',t',t',t',t',t',t',t',t',t',t',t',t',t',t',t',t',t',t',t',t',t',t',t',t',t',t',t',t',t',t',t'] rfl rfl (any_of HT_.out (by kernel_rfl)) (fun _ _ _ h=>h) (Or.inl ⟨by rfl,?_⟩) ?_ ?_
           rotate_left
           ·intro w'
            go_simp
            with_reducible rfl
           rotate_left
           ·simp only [Act.put,zq5,zq6,zq7,i64_w,i32_w]
            rfl
           refine done_ (done_of HT_.out (by kernel_rfl)) ?_
           try go_wp2
           go_roundg k1
           case measure=>have:=HK1.out;omega
           case rel=>exact⟨(wrap64 (x9_1+1)),(by first|rfl|(simp;done)|(simp [*];done)),H',⟨by have:=HK1.out;omega⟩,⟨by repeat(first|(with_reducible first|exact HB.out|apply below_alloc|apply pw_below_drewN|apply below_drew1|refine below_set ?_ GE258.out)|exact HB.out)⟩⟩
         ·replace c16:=Bool.eq_false_iff.mpr c16
          subst c16
          have H1:(some false)=some r:=by rw [if_neg (show ¬ (false=true) by decide)] at H;exact H
          clear H
          have H:=H1
          clear H1
          obtain rfl:=Option.some.inj H
          have p257: 0≤ (x9_1:Int):=of_decide_eq_true zq1
          have q257:x9_1< (l1.length:Int):=of_decide_eq_true zq1
          obtain⟨ad257,e257,hx257_0,hx257_1,hx257_2⟩:=at_T79 HR1.out x9_1 p257 q257
          cases e257
          replace hx257_0:=(HB.out.cell (World.block_lt_of_cell? w _ hx257_0)).trans hx257_0
          replace hx257_1:=(HB.out.cell (World.block_lt_of_cell? w _ hx257_1)).trans hx257_1
          replace hx257_2:=(HB.out.cell (World.block_lt_of_cell? w _ hx257_2)).trans hx257_2
          replace p257:=eq_true p257
          replace q257:=eq_true q257
          try go_wp2_with (first|((with_reducible refine gate_dst (N:=6) rfl ?_);(try(refine gate_guard (by rfl) ?_;dsimp only));refine box_event ?hg (N:=6) ?hd (cs:= #[.int .i64 0,.int .i64 0,.int .i64 0]) (t:=79) ?hr ?_;(case hd=>rfl);(case hg=>rfl);(case hr=>first|(go_simp;done)|(go_simp;rfl));intro gb258 hg w37 hbox hb;have n0_:=Aside0.mk (below_step (zb0 HB) hb);have n1_:=Aside0.mk (hbox);have n2_:=Aside0.mk ((by rw [hg];exact(below_size (zb0 HB)):w.heap.size≤gb258));have n3_:=Aside0.mk ((by rw [hg];exact(below_size (zb0 HB)):w.heap.size≤gb258));clear HB;have HB:=n0_;have BK258:=n1_;have GW258:=n2_;have GE258:=n3_;clear n0_ n1_ n2_ n3_;clear hb hbox hg;have hcz38_0:w37.cell? ⟨gb258,0,none⟩=some (.int .i64 0):=(blk_cell BK258.out 0).trans rfl;have hcz38_1:w37.cell? ⟨gb258,1,none⟩=some (.int .i64 0):=(blk_cell BK258.out 1).trans rfl;have hcz38_2:w37.cell? ⟨gb258,2,none⟩=some (.int .i64 0):=(blk_cell BK258.out 2).trans rfl;have hfz38_0:=blk_frozen BK258.out 0;have hfz38_1:=blk_frozen BK258.out 1;have hfz38_2:=blk_frozen BK258.out 2))
          have n0_:Aside0 ((((w37.setCell ⟨gb258,0,none⟩ (.int .i64 ((rd_T79 l1 x9_1).f0))).setCell ⟨gb258,1,none⟩ (.int .i64 ((rd_T79 l1 x9_1).f1))).setCell ⟨gb258,2,none⟩ (.int .i64 ((rd_T79 l1 x9_1).f2))).heap[gb258]?=some (.cells #[.int .i64 ((rd_T79 l1 x9_1).f0),.int .i64 ((rd_T79 l1 x9_1).f1),.int .i64 ((rd_T79 l1 x9_1).f2)] 79 (0,0))):=⟨by(with_reducible repeat(first|refine blk_drewN ?_ _|refine blk_drew ?_ |refine blk_alloc ?_ _));refine blk_put (cs:= #[.int .i64 ((rd_T79 l1 x9_1).f0),.int .i64 ((rd_T79 l1 x9_1).f1),.int .i64 0]) ?_ 2 _ rfl;(with_reducible repeat(first|refine blk_drewN ?_ _|refine blk_drew ?_ |refine blk_alloc ?_ _));refine blk_put (cs:= #[.int .i64 ((rd_T79 l1 x9_1).f0),.int .i64 0,.int .i64 0]) ?_ 1 _ rfl;(with_reducible repeat(first|refine blk_drewN ?_ _|refine blk_drew ?_ |refine blk_alloc ?_ _));refine blk_put (cs:= #[.int .i64 0,.int .i64 0,.int .i64 0]) ?_ 0 _ rfl;(with_reducible repeat(first|refine blk_drewN ?_ _|refine blk_drew ?_ |refine blk_alloc ?_ _));exact BK258.out⟩
          have n1_:Aside0 (Below w.heap.size w (((w37.setCell ⟨gb258,0,none⟩ (.int .i64 ((rd_T79 l1 x9_1).f0))).setCell ⟨gb258,1,none⟩ (.int .i64 ((rd_T79 l1 x9_1).f1))).setCell ⟨gb258,2,none⟩ (.int .i64 ((rd_T79 l1 x9_1).f2)))):=⟨by repeat(first|(with_reducible first|exact HB.out|apply below_alloc|apply pw_below_drewN|apply below_drew1|refine below_set ?_ GE258.out)|exact HB.out)⟩
          (try clear BK258)
          (try clear HB)
          (try simp only [show ∀ (W_:World) (n_:Nat) (a_:Addr) (v_:Value),(World.drewN W_ n_).setCell a_ v_= (World.setCell W_ a_ v_).drewN n_ from fun _ _ _ _=>rfl])
          generalize (((w37.setCell ⟨gb258,0,none⟩ (.int .i64 ((rd_T79 l1 x9_1).f0))).setCell ⟨gb258,1,none⟩ (.int .i64 ((rd_T79 l1 x9_1).f1))).setCell ⟨gb258,2,none⟩ (.int .i64 ((rd_T79 l1 x9_1).f2)))=w39 at n0_ n1_ ⊢
          have BK258:=n0_
          have HB:=n1_
          clear n0_ n1_
          have n0_:=Aside0.mk (blk_drew BK258.out)
          have n1_:=Aside0.mk (below_drew1 HB.out)
          clear BK258
          clear HB
          have BK258:=n0_
          have HB:=n1_
          clear n0_ n1_
          refine start_ (n:=41) (S:=fun w'=>w'.cell? ⟨gb258,0,none⟩=some (.int .i64 ((rd_T79 l1 x9_1).f0))∧w'.cell? ⟨gb258,1,none⟩=some (.int .i64 ((rd_T79 l1 x9_1).f1))∧w'.cell? ⟨gb258,2,none⟩=some (.int .i64 ((rd_T79 l1 x9_1).f2))) (ds:= []) #[f',f',f',f',f',f',f',f',f',f',f',f',f',f',f',f',f',f',f',f',f',f',f',f',f',f',f',f',f',f',f',f',f',f',f',f',f',f',f',f',f'] (by kernel_rfl) rfl rfl ⟨(blk_cell BK258.out 0).trans rfl,(blk_cell BK258.out 1).trans rfl,(blk_cell BK258.out 2).trans rfl⟩ (fun hHeld=>?_);refine with_tabW impl_GoodEdges.tab4 impl_GoodEdges.bits4 (fun HT_ HW_=>?_)
          generalize w39.drew=w40 at BK258 HB hHeld ⊢
          refine pure_ (i:=0) (N:=some 14) (v:=?_) (a':=?_) #[t',f',f',f',f',f',f',f',f',f',f',f',f',f',f',f',f',f',f',f',f',f',f',f',f',f',f',f',f',f',f',f',f',f',f',f',f',f',f',f',f'] rfl rfl (any_of HT_.out (by kernel_rfl)) (fun _ _ _ h=>h) (Or.inl ⟨by rfl,?_⟩) ?_ ?_
          rotate_left
          ·intro w'
           go_simp
           with_reducible rfl
          rotate_left
          ·simp only [Act.put,zq5,zq6,zq7,i64_w,i32_w]
           rfl
          refine pure_ (i:=2) (N:=some 16) (v:=?_) (a':=?_) #[t',f',t',f',f',f',f',f',f',f',f',f',f',f',f',f',f',f',f',f',f',f',f',f',f',f',f',f',f',f',f',f',f',f',f',f',f',f',f',f',f'] rfl rfl (any_of HT_.out (by kernel_rfl)) (fun _ _ _ h=>h) (Or.inl ⟨by rfl,?_⟩) ?_ ?_
          rotate_left
          ·intro w'
           go_simp
           with_reducible rfl
          rotate_left
          ·simp only [Act.put,zq5,zq6,zq7,i64_w,i32_w]
           rfl
          refine pure_ (i:=3) (N:=some 17) (v:=?_) (a':=?_) #[t',f',t',t',f',f',f',f',f',f',f',f',f',f',f',f',f',f',f',f',f',f',f',f',f',f',f',f',f',f',f',f',f',f',f',f',f',f',f',f',f'] rfl rfl (any_of HT_.out (by kernel_rfl)) (fun _ _ _ h=>h) (Or.inl ⟨by rfl,?_⟩) ?_ ?_
          rotate_left
          ·intro w'
           go_simp
           with_reducible rfl
          rotate_left
          ·simp only [Act.put,zq5,zq6,zq7,i64_w,i32_w]
           rfl
          refine take_ (i:=1) (N:=some 15) (v:=?_) (a':=?_) #[t',t',t',t',f',f',f',f',f',f',f',f',f',f',f',f',f',f',f',f',f',f',f',f',f',f',f',f',f',f',f',f',f',f',f',f',f',f',f',f',f'] rfl rfl (take_ofW HT_.out HW_.out (by kernel_rfl)) (fun _ _ _ h=>h) (Or.inl ⟨by rfl,?_⟩) hHeld ?_ ?_
          rotate_left
          ·rintro w' ⟨s0,s1,s2⟩
           go_simp
           with_reducible rfl
          rotate_left
          ·simp only [Act.put,zq5,zq6,zq7,i64_w,i32_w]
           rfl
          refine one_ (i:=4) (N:=some 18) #[t',t',t',t',t',f',f',f',f',f',f',f',f',f',f',f',f',f',f',f',f',f',f',f',f',f',f',f',f',f',f',f',f',f',f',f',f',f',f',f',f'] rfl rfl (one_of HT_.out (by kernel_rfl)) (by decide) (fun K hK=>?_)
          refine goes_ Try.func78 (by kernel_rfl) rfl #[.int .i64 ((rd_T79 l1 x9_1).f0),.int .i64 0,.int .i64 (wrap64 (a0 - 1))] (by rfl) rfl rfl zq2 ?_
          with_reducible refine(impl_in.calls ((rd_T79 l1 x9_1).f0) 0 (wrap64 (a0 - 1)) true _ A6.out).mono ?_
          rintro e w' ⟨rfl,⟨nd,rfl⟩⟩
          refine⟨_,rfl,?_⟩
          refine hK.out _ _ ⟨(blk_cell BK258.out 0).trans rfl,(blk_cell BK258.out 1).trans rfl,(blk_cell BK258.out 2).trans rfl⟩ (fun hHeld=>?_)
          clear hK K
          refine norm_ (a':=?_) ?_ ?_
          rotate_left
          ·show Act.put _ (some 18) _=_
           simp only [Act.put,zq5,zq6,zq7,i64_w,i32_w]
           rfl
          refine pure_ (i:=5) (N:=some 19) (v:=?_) (a':=?_) #[t',t',t',t',t',t',f',f',f',f',f',f',f',f',f',f',f',f',f',f',f',f',f',f',f',f',f',f',f',f',f',f',f',f',f',f',f',f',f',f',f'] rfl rfl (any_of HT_.out (by kernel_rfl)) (fun _ _ _ h=>h) (Or.inl ⟨by rfl,?_⟩) ?_ ?_
          rotate_left
          ·intro w'
           go_simp
           with_reducible rfl
          rotate_left
          ·simp only [Act.put,zq5,zq6,zq7,i64_w,i32_w]
           rfl
          refine pure_ (i:=6) (N:=some 20) (v:=?_) (a':=?_) #[t',t',t',t',t',t',t',f',f',f',f',f',f',f',f',f',f',f',f',f',f',f',f',f',f',f',f',f',f',f',f',f',f',f',f',f',f',f',f',f',f'] rfl rfl (any_of HT_.out (by kernel_rfl)) (fun _ _ _ h=>h) (Or.inl ⟨by rfl,?_⟩) ?_ ?_
          rotate_left
          ·intro w'
           go_simp
           with_reducible rfl
          rotate_left
          ·simp only [Act.put,zq5,zq6,zq7,i64_w,i32_w]
           rfl
          refine pure_ (i:=7) (N:=some 21) (v:=?_) (a':=?_) #[t',t',t',t',t',t',t',t',f',f',f',f',f',f',f',f',f',f',f',f',f',f',f',f',f',f',f',f',f',f',f',f',f',f',f',f',f',f',f',f',f'] rfl rfl (any_of HT_.out (by kernel_rfl)) (fun _ _ _ h=>h) (Or.inl ⟨by rfl,?_⟩) ?_ ?_
          rotate_left
          ·intro w'
           go_simp
           with_reducible rfl
          rotate_left
          ·simp only [Act.put,zq5,zq6,zq7,i64_w,i32_w]
           rfl
          refine pure_ (i:=9) (N:=some 23) (v:=?_) (a':=?_) #[t',t',t',t',t',t',t',t',f',t',f',f',f',f',f',f',f',f',f',f',f',f',f',f',f',f',f',f',f',f',f',f',f',f',f',f',f',f',f',f',f'] rfl rfl (any_of HT_.out (by kernel_rfl)) (fun _ _ _ h=>h) (Or.inl ⟨by rfl,?_⟩) ?_ ?_
          rotate_left
          ·intro w'
           go_simp
           with_reducible rfl
          rotate_left
          ·simp only [Act.put,zq5,zq6,zq7,i64_w,i32_w]
           rfl
          refine pure_ (i:=10) (N:=some 24) (v:=?_) (a':=?_) #[t',t',t',t',t',t',t',t',f',t',t',f',f',f',f',f',f',f',f',f',f',f',f',f',f',f',f',f',f',f',f',f',f',f',f',f',f',f',f',f',f'] rfl rfl (any_of HT_.out (by kernel_rfl)) (fun _ _ _ h=>h) (Or.inl ⟨by rfl,?_⟩) ?_ ?_
          rotate_left
          ·intro w'
           go_simp
           with_reducible rfl
          rotate_left
          ·simp only [Act.put,zq5,zq6,zq7,i64_w,i32_w]
           rfl
          refine take_ (i:=8) (N:=some 22) (v:=?_) (a':=?_) #[t',t',t',t',t',t',t',t',t',t',t',f',f',f',f',f',f',f',f',f',f',f',f',f',f',f',f',f',f',f',f',f',f',f',f',f',f',f',f',f',f'] rfl rfl (take_ofW HT_.out HW_.out (by kernel_rfl)) (fun _ _ _ h=>h) (Or.inl ⟨by rfl,?_⟩) hHeld ?_ ?_
          rotate_left
          ·rintro w' ⟨s0,s1,s2⟩
           go_simp
           with_reducible rfl
          rotate_left
          ·simp only [Act.put,zq5,zq6,zq7,i64_w,i32_w]
           rfl
          refine one_ (i:=11) (N:=some 25) #[t',t',t',t',t',t',t',t',t',t',t',t',f',f',f',f',f',f',f',f',f',f',f',f',f',f',f',f',f',f',f',f',f',f',f',f',f',f',f',f',f'] rfl rfl (one_of HT_.out (by kernel_rfl)) (by decide) (fun K hK=>?_)
          refine goes_ Try.func78 (by kernel_rfl) rfl #[.int .i64 ((rd_T79 l1 x9_1).f1),.int .i64 0,.int .i64 (wrap64 (a0 - 1))] (by rfl) rfl rfl zq2 ?_
          with_reducible refine(impl_in.calls ((rd_T79 l1 x9_1).f1) 0 (wrap64 (a0 - 1)) true _ A8.out).mono ?_
          rintro e w' ⟨rfl,⟨nd,rfl⟩⟩
          refine⟨_,rfl,?_⟩
          refine hK.out _ _ ⟨(blk_cell BK258.out 0).trans rfl,(blk_cell BK258.out 1).trans rfl,(blk_cell BK258.out 2).trans rfl⟩ (fun hHeld=>?_)
          clear hK K
          refine norm_ (a':=?_) ?_ ?_
          rotate_left
          ·show Act.put _ (some 25) _=_
           simp only [Act.put,zq5,zq6,zq7,i64_w,i32_w]
           rfl
          refine pure_ (i:=12) (N:=some 26) (v:=?_) (a':=?_) #[t',t',t',t',t',t',t',t',t',t',t',t',t',f',f',f',f',f',f',f',f',f',f',f',f',f',f',f',f',f',f',f',f',f',f',f',f',f',f',f',f'] rfl rfl (any_of HT_.out (by kernel_rfl)) (fun _ _ _ h=>h) (Or.inl ⟨by rfl,?_⟩) ?_ ?_
          rotate_left
          ·intro w'
           go_simp
           with_reducible rfl
          rotate_left
          ·simp only [Act.put,zq5,zq6,zq7,i64_w,i32_w]
           rfl
          refine pure_ (i:=13) (N:=some 27) (v:=?_) (a':=?_) #[t',t',t',t',t',t',t',t',t',t',t',t',t',t',f',f',f',f',f',f',f',f',f',f',f',f',f',f',f',f',f',f',f',f',f',f',f',f',f',f',f'] rfl rfl (any_of HT_.out (by kernel_rfl)) (fun _ _ _ h=>h) (Or.inl ⟨by rfl,?_⟩) ?_ ?_
          rotate_left
          ·intro w'
           go_simp
           with_reducible rfl
          rotate_left
          ·simp only [Act.put,zq5,zq6,zq7,i64_w,i32_w]
           rfl
          refine pure_ (i:=14) (N:=some 28) (v:=?_) (a':=?_) #[t',t',t',t',t',t',t',t',t',t',t',t',t',t',t',f',f',f',f',f',f',f',f',f',f',f',f',f',f',f',f',f',f',f',f',f',f',f',f',f',f'] rfl rfl (any_of HT_.out (by kernel_rfl)) (fun _ _ _ h=>h) (Or.inl ⟨by rfl,?_⟩) ?_ ?_
          rotate_left
          ·intro w'
           go_simp
           with_reducible rfl
          rotate_left
          ·simp only [Act.put,zq5,zq6,zq7,i64_w,i32_w]
           rfl
          refine pure_ (i:=15) (N:=some 29) (v:=?_) (a':=?_) #[t',t',t',t',t',t',t',t',t',t',t',t',t',t',t',t',f',f',f',f',f',f',f',f',f',f',f',f',f',f',f',f',f',f',f',f',f',f',f',f',f'] rfl rfl (any_of HT_.out (by kernel_rfl)) (fun _ _ _ h=>h) (Or.inl ⟨by rfl,?_⟩) ?_ ?_
          rotate_left
          ·intro w'
           go_simp
           with_reducible rfl
          rotate_left
          ·simp only [Act.put,zq5,zq6,zq7,i64_w,i32_w]
           rfl
          refine pure_ (i:=17) (N:=some 31) (v:=?_) (a':=?_) #[t',t',t',t',t',t',t',t',t',t',t',t',t',t',t',t',f',t',f',f',f',f',f',f',f',f',f',f',f',f',f',f',f',f',f',f',f',f',f',f',f'] rfl rfl (any_of HT_.out (by kernel_rfl)) (fun _ _ _ h=>h) (Or.inl ⟨by rfl,?_⟩) ?_ ?_
          rotate_left
          ·intro w'
           go_simp
           with_reducible rfl
          rotate_left
          ·simp only [Act.put,zq5,zq6,zq7,i64_w,i32_w]
           rfl
          refine take_ (i:=16) (N:=some 30) (v:=?_) (a':=?_) #[t',t',t',t',t',t',t',t',t',t',t',t',t',t',t',t',t',t',f',f',f',f',f',f',f',f',f',f',f',f',f',f',f',f',f',f',f',f',f',f',f'] rfl rfl (take_ofW HT_.out HW_.out (by kernel_rfl)) (fun _ _ _ h=>h) (Or.inl ⟨by rfl,?_⟩) hHeld ?_ ?_
          rotate_left
          ·rintro w' ⟨s0,s1,s2⟩
           go_simp
           with_reducible rfl
          rotate_left
          ·simp only [Act.put,zq5,zq6,zq7,i64_w,i32_w]
           rfl
          refine take_ (i:=18) (N:=some 32) (v:=?_) (a':=?_) #[t',t',t',t',t',t',t',t',t',t',t',t',t',t',t',t',t',t',t',f',f',f',f',f',f',f',f',f',f',f',f',f',f',f',f',f',f',f',f',f',f'] rfl rfl (take_ofW HT_.out HW_.out (by kernel_rfl)) (fun _ _ _ h=>h) (Or.inl ⟨by rfl,?_⟩) hHeld ?_ ?_
          rotate_left
          ·rintro w' ⟨s0,s1,s2⟩
           go_simp
           with_reducible rfl
          rotate_left
          ·simp only [Act.put,zq5,zq6,zq7,i64_w,i32_w]
           rfl
          refine pure_ (i:=19) (N:=some 33) (v:=?_) (a':=?_) #[t',t',t',t',t',t',t',t',t',t',t',t',t',t',t',t',t',t',t',t',f',f',f',f',f',f',f',f',f',f',f',f',f',f',f',f',f',f',f',f',f'] rfl rfl (any_of HT_.out (by kernel_rfl)) (fun _ _ _ h=>h) (Or.inl ⟨by rfl,?_⟩) ?_ ?_
          rotate_left
          ·intro w'
           go_simp
           with_reducible rfl
          rotate_left
          ·simp only [Act.put,zq5,zq6,zq7,i64_w,i32_w]
           rfl
          refine pure_ (i:=20) (N:=some 34) (v:=?_) (a':=?_) #[t',t',t',t',t',t',t',t',t',t',t',t',t',t',t',t',t',t',t',t',t',f',f',f',f',f',f',f',f',f',f',f',f',f',f',f',f',f',f',f',f'] rfl rfl (any_of HT_.out (by kernel_rfl)) (fun _ _ _ h=>h) (Or.inl ⟨by rfl,?_⟩) ?_ ?_
          rotate_left
          ·intro w'
           go_simp
           with_reducible rfl
          rotate_left
          ·simp only [Act.put,zq5,zq6,zq7,i64_w,i32_w]
           rfl
          refine pure_ (i:=21) (N:=some 35) (v:=?_) (a':=?_) #[t',t',t',t',t',t',t',t',t',t',t',t',t',t',t',t',t',t',t',t',t',t',f',f',f',f',f',f',f',f',f',f',f',f',f',f',f',f',f',f',f'] rfl rfl (any_of HT_.out (by kernel_rfl)) (fun _ _ _ h=>h) (Or.inl ⟨by rfl,?_⟩) ?_ ?_
          rotate_left
          ·intro w'
           go_simp
           with_reducible rfl
          rotate_left
          ·simp only [Act.put,zq5,zq6,zq7,i64_w,i32_w]
           rfl
          refine pure_ (i:=22) (N:=some 36) (v:=?_) (a':=?_) #[t',t',t',t',t',t',t',t',t',t',t',t',t',t',t',t',t',t',t',t',t',t',t',f',f',f',f',f',f',f',f',f',f',f',f',f',f',f',f',f',f'] rfl rfl (any_of HT_.out (by kernel_rfl)) (fun _ _ _ h=>h) (Or.inl ⟨by rfl,?_⟩) ?_ ?_
          rotate_left
          ·intro w'
           go_simp
           with_reducible rfl
          rotate_left
          ·simp only [Act.put,zq5,zq6,zq7,i64_w,i32_w]
           rfl
          refine take_ (i:=23) (N:=some 37) (v:=?_) (a':=?_) #[t',t',t',t',t',t',t',t',t',t',t',t',t',t',t',t',t',t',t',t',t',t',t',t',f',f',f',f',f',f',f',f',f',f',f',f',f',f',f',f',f'] rfl rfl (take_ofW HT_.out HW_.out (by kernel_rfl)) (fun _ _ _ h=>h) (Or.inl ⟨by rfl,?_⟩) hHeld ?_ ?_
          rotate_left
          ·rintro w' ⟨s0,s1,s2⟩
           go_simp
           with_reducible rfl
          rotate_left
          ·simp only [Act.put,zq5,zq6,zq7,i64_w,i32_w]
           rfl
          refine one_ (i:=24) (N:=some 38) #[t',t',t',t',t',t',t',t',t',t',t',t',t',t',t',t',t',t',t',t',t',t',t',t',t',f',f',f',f',f',f',f',f',f',f',f',f',f',f',f',f'] rfl rfl (one_of HT_.out (by kernel_rfl)) (by decide) (fun K hK=>?_)
          refine goes_ Try.func78 (by kernel_rfl) rfl #[.int .i64 ((rd_T79 l1 x9_1).f2),.int .i64 1,.int .i64 100] (by rfl) rfl rfl zq2 ?_
          with_reducible refine(impl_in.calls ((rd_T79 l1 x9_1).f2) 1 100 false _ A15.out).mono ?_
          rintro e w' ⟨rfl,⟨nd,rfl⟩⟩
          refine⟨_,rfl,?_⟩
          refine hK.out _ _ ⟨(blk_cell BK258.out 0).trans rfl,(blk_cell BK258.out 1).trans rfl,(blk_cell BK258.out 2).trans rfl⟩ (fun hHeld=>?_)
          clear hK K
          refine norm_ (a':=?_) ?_ ?_
          rotate_left
          ·show Act.put _ (some 38) _=_
           simp only [Act.put,zq5,zq6,zq7,i64_w,i32_w]
           rfl
          refine pure_ (i:=25) (N:=some 39) (v:=?_) (a':=?_) #[t',t',t',t',t',t',t',t',t',t',t',t',t',t',t',t',t',t',t',t',t',t',t',t',t',t',f',f',f',f',f',f',f',f',f',f',f',f',f',f',f'] rfl rfl (any_of HT_.out (by kernel_rfl)) (fun _ _ _ h=>h) (Or.inl ⟨by rfl,?_⟩) ?_ ?_
          rotate_left
          ·intro w'
           go_simp
           with_reducible rfl
          rotate_left
          ·simp only [Act.put,zq5,zq6,zq7,i64_w,i32_w]
           rfl
          refine pure_ (i:=26) (N:=some 40) (v:=?_) (a':=?_) #[t',t',t',t',t',t',t',t',t',t',t',t',t',t',t',t',t',t',t',t',t',t',t',t',t',t',t',f',f',f',f',f',f',f',f',f',f',f',f',f',f'] rfl rfl (any_of HT_.out (by kernel_rfl)) (fun _ _ _ h=>h) (Or.inl ⟨by rfl,?_⟩) ?_ ?_
          rotate_left
          ·intro w'
           go_simp
           with_reducible rfl
          rotate_left
          ·simp only [Act.put,zq5,zq6,zq7,i64_w,i32_w]
           rfl
          refine pure_ (i:=27) (N:=some 41) (v:=?_) (a':=?_) #[t',t',t',t',t',t',t',t',t',t',t',t',t',t',t',t',t',t',t',t',t',t',t',t',t',t',t',t',f',f',f',f',f',f',f',f',f',f',f',f',f'] rfl rfl (any_of HT_.out (by kernel_rfl)) (fun _ _ _ h=>h) (Or.inl ⟨by rfl,?_⟩) ?_ ?_
          rotate_left
          ·intro w'
           go_simp
           with_reducible rfl
          rotate_left
          ·simp only [Act.put,zq5,zq6,zq7,i64_w,i32_w]
           rfl
          refine pure_ (i:=28) (N:=some 42) (v:=undef) (a':=?_) #[t',t',t',t',t',t',t',t',t',t',t',t',t',t',t',t',t',t',t',t',t',t',t',t',t',t',t',t',t',f',f',f',f',f',f',f',f',f',f',f',f'] rfl rfl (any_of HT_.out (by kernel_rfl)) (fun _ _ _ h=>h) (Or.inr ⟨by rfl,rfl⟩) ?_ ?_
          rotate_left
          ·simp only [Act.put,zq5,zq6,zq7,i64_w,i32_w]
           rfl
          refine pure_ (i:=29) (N:=some 43) (v:=undef) (a':=?_) #[t',t',t',t',t',t',t',t',t',t',t',t',t',t',t',t',t',t',t',t',t',t',t',t',t',t',t',t',t',t',f',f',f',f',f',f',f',f',f',f',f'] rfl rfl (any_of HT_.out (by kernel_rfl)) (fun _ _ _ h=>h) (Or.inr ⟨by rfl,rfl⟩) ?_ ?_
          rotate_left
          ·simp only [Act.put,zq5,zq6,zq7,i64_w,i32_w]
           rfl
          refine pure_ (i:=30) (N:=some 44) (v:=undef) (a':=?_) #[t',t',t',t',t',t',t',t',t',t',t',t',t',t',t',t',t',t',t',t',t',t',t',t',t',t',t',t',t',t',t',f',f',f',f',f',f',f',f',f',f'] rfl rfl (any_of HT_.out (by kernel_rfl)) (fun _ _ _ h=>h) (Or.inr ⟨by rfl,rfl⟩) ?_ ?_
          rotate_left
          ·simp only [Act.put,zq5,zq6,zq7,i64_w,i32_w]
           rfl
          refine pure_ (i:=31) (N:=some 45) (v:=undef) (a':=?_) #[t',t',t',t',t',t',t',t',t',t',t',t',t',t',t',t',t',t',t',t',t',t',t',t',t',t',t',t',t',t',t',t',f',f',f',f',f',f',f',f',f'] rfl rfl (any_of HT_.out (by kernel_rfl)) (fun _ _ _ h=>h) (Or.inr ⟨by rfl,rfl⟩) ?_ ?_
          rotate_left
          ·simp only [Act.put,zq5,zq6,zq7,i64_w,i32_w]
           rfl
          refine pure_ (i:=32) (N:=some 46) (v:=undef) (a':=?_) #[t',t',t',t',t',t',t',t',t',t',t',t',t',t',t',t',t',t',t',t',t',t',t',t',t',t',t',t',t',t',t',t',t',f',f',f',f',f',f',f',f'] rfl rfl (any_of HT_.out (by kernel_rfl)) (fun _ _ _ h=>h) (Or.inr ⟨by rfl,rfl⟩) ?_ ?_
          rotate_left
          ·simp only [Act.put,zq5,zq6,zq7,i64_w,i32_w]
           rfl
          refine pure_ (i:=33) (N:=some 47) (v:=undef) (a':=?_) #[t',t',t',t',t',t',t',t',t',t',t',t',t',t',t',t',t',t',t',t',t',t',t',t',t',t',t',t',t',t',t',t',t',t',f',f',f',f',f',f',f'] rfl rfl (any_of HT_.out (by kernel_rfl)) (fun _ _ _ h=>h) (Or.inr ⟨by rfl,rfl⟩) ?_ ?_
          rotate_left
          ·simp only [Act.put,zq5,zq6,zq7,i64_w,i32_w]
           rfl
          refine pure_ (i:=34) (N:=some 48) (v:=undef) (a':=?_) #[t',t',t',t',t',t',t',t',t',t',t',t',t',t',t',t',t',t',t',t',t',t',t',t',t',t',t',t',t',t',t',t',t',t',t',f',f',f',f',f',f'] rfl rfl (any_of HT_.out (by kernel_rfl)) (fun _ _ _ h=>h) (Or.inr ⟨by rfl,rfl⟩) ?_ ?_
          rotate_left
          ·simp only [Act.put,zq5,zq6,zq7,i64_w,i32_w]
           rfl
          refine pure_ (i:=35) (N:=some 49) (v:=undef) (a':=?_) #[t',t',t',t',t',t',t',t',t',t',t',t',t',t',t',t',t',t',t',t',t',t',t',t',t',t',t',t',t',t',t',t',t',t',t',t',f',f',f',f',f'] rfl rfl (any_of HT_.out (by kernel_rfl)) (fun _ _ _ h=>h) (Or.inr ⟨by rfl,rfl⟩) ?_ ?_
          rotate_left
          ·simp only [Act.put,zq5,zq6,zq7,i64_w,i32_w]
           rfl
          refine pure_ (i:=36) (N:=some 50) (v:=undef) (a':=?_) #[t',t',t',t',t',t',t',t',t',t',t',t',t',t',t',t',t',t',t',t',t',t',t',t',t',t',t',t',t',t',t',t',t',t',t',t',t',f',f',f',f'] rfl rfl (any_of HT_.out (by kernel_rfl)) (fun _ _ _ h=>h) (Or.inr ⟨by rfl,rfl⟩) ?_ ?_
          rotate_left
          ·simp only [Act.put,zq5,zq6,zq7,i64_w,i32_w]
           rfl
          refine pure_ (i:=37) (N:=some 51) (v:=undef) (a':=?_) #[t',t',t',t',t',t',t',t',t',t',t',t',t',t',t',t',t',t',t',t',t',t',t',t',t',t',t',t',t',t',t',t',t',t',t',t',t',t',f',f',f'] rfl rfl (any_of HT_.out (by kernel_rfl)) (fun _ _ _ h=>h) (Or.inr ⟨by rfl,rfl⟩) ?_ ?_
          rotate_left
          ·simp only [Act.put,zq5,zq6,zq7,i64_w,i32_w]
           rfl
          refine pure_ (i:=38) (N:=some 52) (v:=undef) (a':=?_) #[t',t',t',t',t',t',t',t',t',t',t',t',t',t',t',t',t',t',t',t',t',t',t',t',t',t',t',t',t',t',t',t',t',t',t',t',t',t',t',f',f'] rfl rfl (any_of HT_.out (by kernel_rfl)) (fun _ _ _ h=>h) (Or.inr ⟨by rfl,rfl⟩) ?_ ?_
          rotate_left
          ·simp only [Act.put,zq5,zq6,zq7,i64_w,i32_w]
           rfl
          refine pure_ (i:=39) (N:=some 53) (v:=undef) (a':=?_) #[t',t',t',t',t',t',t',t',t',t',t',t',t',t',t',t',t',t',t',t',t',t',t',t',t',t',t',t',t',t',t',t',t',t',t',t',t',t',t',t',f'] rfl rfl (any_of HT_.out (by kernel_rfl)) (fun _ _ _ h=>h) (Or.inr ⟨by rfl,rfl⟩) ?_ ?_
          rotate_left
          ·simp only [Act.put,zq5,zq6,zq7,i64_w,i32_w]
           rfl
          refine pure_ (i:=40) (N:=some 54) (v:=?_) (a':=?_) #[t',t',t',t',t',t',t',t',t',t',t',t',t',t',t',t',t',t',t',t',t',t',t',t',t',t',t',t',t',t',t',t',t',t',t',t',t',t',t',t',t'] rfl rfl (any_of HT_.out (by kernel_rfl)) (fun _ _ _ h=>h) (Or.inl ⟨by rfl,?_⟩) ?_ ?_
          rotate_left
          ·intro w'
           go_simp
           with_reducible rfl
          rotate_left
          ·simp only [Act.put,zq5,zq6,zq7,i64_w,i32_w]
           rfl
          refine done_ (done_of HT_.out (by kernel_rfl)) ?_
          try go_wp2
          go_ret
          exact⟨by first|rfl|(simp [errW_none,errW_some]<;>rfl)|(simp [*,errW_none,errW_some]<;>rfl),by repeat(first|(with_reducible first|exact HB.out|apply below_alloc|apply pw_below_drewN|apply below_drew1|refine below_set ?_ GE258.out)|exact HB.out)⟩
       ·replace c9:=Bool.eq_false_iff.mpr c9
        subst c9
        have H1:(some false)=some r:=by rw [if_neg (show ¬ (false=true) by decide)] at H;exact H
        clear H
        have H:=H1
        clear H1
        obtain rfl:=Option.some.inj H
        have p257: 0≤ (x9_1:Int):=of_decide_eq_true zq1
        have q257:x9_1< (l1.length:Int):=of_decide_eq_true zq1
        obtain⟨ad257,e257,hx257_0,hx257_1,hx257_2⟩:=at_T79 HR1.out x9_1 p257 q257
        cases e257
        replace hx257_0:=(HB.out.cell (World.block_lt_of_cell? w _ hx257_0)).trans hx257_0
        replace hx257_1:=(HB.out.cell (World.block_lt_of_cell? w _ hx257_1)).trans hx257_1
        replace hx257_2:=(HB.out.cell (World.block_lt_of_cell? w _ hx257_2)).trans hx257_2
        replace p257:=eq_true p257
        replace q257:=eq_true q257
        try go_wp2_with (first|((with_reducible refine gate_dst (N:=6) rfl ?_);(try(refine gate_guard (by rfl) ?_;dsimp only));refine box_event ?hg (N:=6) ?hd (cs:= #[.int .i64 0,.int .i64 0,.int .i64 0]) (t:=79) ?hr ?_;(case hd=>rfl);(case hg=>rfl);(case hr=>first|(go_simp;done)|(go_simp;rfl));intro gb258 hg w41 hbox hb;have n0_:=Aside0.mk (below_step (zb0 HB) hb);have n1_:=Aside0.mk (hbox);have n2_:=Aside0.mk ((by rw [hg];exact(below_size (zb0 HB)):w.heap.size≤gb258));have n3_:=Aside0.mk ((by rw [hg];exact(below_size (zb0 HB)):w.heap.size≤gb258));clear HB;have HB:=n0_;have BK258:=n1_;have GW258:=n2_;have GE258:=n3_;clear n0_ n1_ n2_ n3_;clear hb hbox hg;have hcz42_0:w41.cell? ⟨gb258,0,none⟩=some (.int .i64 0):=(blk_cell BK258.out 0).trans rfl;have hcz42_1:w41.cell? ⟨gb258,1,none⟩=some (.int .i64 0):=(blk_cell BK258.out 1).trans rfl;have hcz42_2:w41.cell? ⟨gb258,2,none⟩=some (.int .i64 0):=(blk_cell BK258.out 2).trans rfl;have hfz42_0:=blk_frozen BK258.out 0;have hfz42_1:=blk_frozen BK258.out 1;have hfz42_2:=blk_frozen BK258.out 2))
        have n0_:Aside0 ((((w41.setCell ⟨gb258,0,none⟩ (.int .i64 ((rd_T79 l1 x9_1).f0))).setCell ⟨gb258,1,none⟩ (.int .i64 ((rd_T79 l1 x9_1).f1))).setCell ⟨gb258,2,none⟩ (.int .i64 ((rd_T79 l1 x9_1).f2))).heap[gb258]?=some (.cells #[.int .i64 ((rd_T79 l1 x9_1).f0),.int .i64 ((rd_T79 l1 x9_1).f1),.int .i64 ((rd_T79 l1 x9_1).f2)] 79 (0,0))):=⟨by(with_reducible repeat(first|refine blk_drewN ?_ _|refine blk_drew ?_ |refine blk_alloc ?_ _));refine blk_put (cs:= #[.int .i64 ((rd_T79 l1 x9_1).f0),.int .i64 ((rd_T79 l1 x9_1).f1),.int .i64 0]) ?_ 2 _ rfl;(with_reducible repeat(first|refine blk_drewN ?_ _|refine blk_drew ?_ |refine blk_alloc ?_ _));refine blk_put (cs:= #[.int .i64 ((rd_T79 l1 x9_1).f0),.int .i64 0,.int .i64 0]) ?_ 1 _ rfl;(with_reducible repeat(first|refine blk_drewN ?_ _|refine blk_drew ?_ |refine blk_alloc ?_ _));refine blk_put (cs:= #[.int .i64 0,.int .i64 0,.int .i64 0]) ?_ 0 _ rfl;(with_reducible repeat(first|refine blk_drewN ?_ _|refine blk_drew ?_ |refine blk_alloc ?_ _));exact BK258.out⟩
        have n1_:Aside0 (Below w.heap.size w (((w41.setCell ⟨gb258,0,none⟩ (.int .i64 ((rd_T79 l1 x9_1).f0))).setCell ⟨gb258,1,none⟩ (.int .i64 ((rd_T79 l1 x9_1).f1))).setCell ⟨gb258,2,none⟩ (.int .i64 ((rd_T79 l1 x9_1).f2)))):=⟨by repeat(first|(with_reducible first|exact HB.out|apply below_alloc|apply pw_below_drewN|apply below_drew1|refine below_set ?_ GE258.out)|exact HB.out)⟩
        (try clear BK258)
        (try clear HB)
        (try simp only [show ∀ (W_:World) (n_:Nat) (a_:Addr) (v_:Value),(World.drewN W_ n_).setCell a_ v_= (World.setCell W_ a_ v_).drewN n_ from fun _ _ _ _=>rfl])
        generalize (((w41.setCell ⟨gb258,0,none⟩ (.int .i64 ((rd_T79 l1 x9_1).f0))).setCell ⟨gb258,1,none⟩ (.int .i64 ((rd_T79 l1 x9_1).f1))).setCell ⟨gb258,2,none⟩ (.int .i64 ((rd_T79 l1 x9_1).f2)))=w43 at n0_ n1_ ⊢
        have BK258:=n0_
        have HB:=n1_
        clear n0_ n1_
        have n0_:=Aside0.mk (blk_drew BK258.out)
        have n1_:=Aside0.mk (below_drew1 HB.out)
        clear BK258
        clear HB
        have BK258:=n0_
        have HB:=n1_
        clear n0_ n1_
        refine start_ (n:=41) (S:=fun w'=>w'.cell? ⟨gb258,0,none⟩=some (.int .i64 ((rd_T79 l1 x9_1).f0))∧w'.cell? ⟨gb258,1,none⟩=some (.int .i64 ((rd_T79 l1 x9_1).f1))∧w'.cell? ⟨gb258,2,none⟩=some (.int .i64 ((rd_T79 l1 x9_1).f2))) (ds:= []) #[f',f',f',f',f',f',f',f',f',f',f',f',f',f',f',f',f',f',f',f',f',f',f',f',f',f',f',f',f',f',f',f',f',f',f',f',f',f',f',f',f'] (by kernel_rfl) rfl rfl ⟨(blk_cell BK258.out 0).trans rfl,(blk_cell BK258.out 1).trans rfl,(blk_cell BK258.out 2).trans rfl⟩ (fun hHeld=>?_);refine with_tabW impl_GoodEdges.tab4 impl_GoodEdges.bits4 (fun HT_ HW_=>?_)
        generalize w43.drew=w44 at BK258 HB hHeld ⊢
        refine pure_ (i:=0) (N:=some 14) (v:=?_) (a':=?_) #[t',f',f',f',f',f',f',f',f',f',f',f',f',f',f',f',f',f',f',f',f',f',f',f',f',f',f',f',f',f',f',f',f',f',f',f',f',f',f',f',f'] rfl rfl (any_of HT_.out (by kernel_rfl)) (fun _ _ _ h=>h) (Or.inl ⟨by rfl,?_⟩) ?_ ?_
        rotate_left
        ·intro w'
         go_simp
         with_reducible rfl
        rotate_left
        ·simp only [Act.put,zq5,zq6,zq7,i64_w,i32_w]
         rfl
        refine pure_ (i:=2) (N:=some 16) (v:=?_) (a':=?_) #[t',f',t',f',f',f',f',f',f',f',f',f',f',f',f',f',f',f',f',f',f',f',f',f',f',f',f',f',f',f',f',f',f',f',f',f',f',f',f',f',f'] rfl rfl (any_of HT_.out (by kernel_rfl)) (fun _ _ _ h=>h) (Or.inl ⟨by rfl,?_⟩) ?_ ?_
        rotate_left
        ·intro w'
         go_simp
         with_reducible rfl
        rotate_left
        ·simp only [Act.put,zq5,zq6,zq7,i64_w,i32_w]
         rfl
        refine pure_ (i:=3) (N:=some 17) (v:=?_) (a':=?_) #[t',f',t',t',f',f',f',f',f',f',f',f',f',f',f',f',f',f',f',f',f',f',f',f',f',f',f',f',f',f',f',f',f',f',f',f',f',f',f',f',f'] rfl rfl (any_of HT_.out (by kernel_rfl)) (fun _ _ _ h=>h) (Or.inl ⟨by rfl,?_⟩) ?_ ?_
        rotate_left
        ·intro w'
         go_simp
         with_reducible rfl
        rotate_left
        ·simp only [Act.put,zq5,zq6,zq7,i64_w,i32_w]
         rfl
        refine take_ (i:=1) (N:=some 15) (v:=?_) (a':=?_) #[t',t',t',t',f',f',f',f',f',f',f',f',f',f',f',f',f',f',f',f',f',f',f',f',f',f',f',f',f',f',f',f',f',f',f',f',f',f',f',f',f'] rfl rfl (take_ofW HT_.out HW_.out (by kernel_rfl)) (fun _ _ _ h=>h) (Or.inl ⟨by rfl,?_⟩) hHeld ?_ ?_
        rotate_left
        ·rintro w' ⟨s0,s1,s2⟩
         go_simp
         with_reducible rfl
        rotate_left
        ·simp only [Act.put,zq5,zq6,zq7,i64_w,i32_w]
         rfl
        refine one_ (i:=4) (N:=some 18) #[t',t',t',t',t',f',f',f',f',f',f',f',f',f',f',f',f',f',f',f',f',f',f',f',f',f',f',f',f',f',f',f',f',f',f',f',f',f',f',f',f'] rfl rfl (one_of HT_.out (by kernel_rfl)) (by decide) (fun K hK=>?_)
        refine goes_ Try.func78 (by kernel_rfl) rfl #[.int .i64 ((rd_T79 l1 x9_1).f0),.int .i64 0,.int .i64 (wrap64 (a0 - 1))] (by rfl) rfl rfl zq2 ?_
        with_reducible refine(impl_in.calls ((rd_T79 l1 x9_1).f0) 0 (wrap64 (a0 - 1)) true _ A6.out).mono ?_
        rintro e w' ⟨rfl,⟨nd,rfl⟩⟩
        refine⟨_,rfl,?_⟩
        refine hK.out _ _ ⟨(blk_cell BK258.out 0).trans rfl,(blk_cell BK258.out 1).trans rfl,(blk_cell BK258.out 2).trans rfl⟩ (fun hHeld=>?_)
        clear hK K
        refine norm_ (a':=?_) ?_ ?_
        rotate_left
        ·show Act.put _ (some 18) _=_
         simp only [Act.put,zq5,zq6,zq7,i64_w,i32_w]
         rfl
        refine pure_ (i:=5) (N:=some 19) (v:=?_) (a':=?_) #[t',t',t',t',t',t',f',f',f',f',f',f',f',f',f',f',f',f',f',f',f',f',f',f',f',f',f',f',f',f',f',f',f',f',f',f',f',f',f',f',f'] rfl rfl (any_of HT_.out (by kernel_rfl)) (fun _ _ _ h=>h) (Or.inl ⟨by rfl,?_⟩) ?_ ?_
        rotate_left
        ·intro w'
         go_simp
         with_reducible rfl
        rotate_left
        ·simp only [Act.put,zq5,zq6,zq7,i64_w,i32_w]
         rfl
        refine pure_ (i:=6) (N:=some 20) (v:=?_) (a':=?_) #[t',t',t',t',t',t',t',f',f',f',f',f',f',f',f',f',f',f',f',f',f',f',f',f',f',f',f',f',f',f',f',f',f',f',f',f',f',f',f',f',f'] rfl rfl (any_of HT_.out (by kernel_rfl)) (fun _ _ _ h=>h) (Or.inl ⟨by rfl,?_⟩) ?_ ?_
        rotate_left
        ·intro w'
         go_simp
         with_reducible rfl
        rotate_left
        ·simp only [Act.put,zq5,zq6,zq7,i64_w,i32_w]
         rfl
        refine pure_ (i:=7) (N:=some 21) (v:=?_) (a':=?_) #[t',t',t',t',t',t',t',t',f',f',f',f',f',f',f',f',f',f',f',f',f',f',f',f',f',f',f',f',f',f',f',f',f',f',f',f',f',f',f',f',f'] rfl rfl (any_of HT_.out (by kernel_rfl)) (fun _ _ _ h=>h) (Or.inl ⟨by rfl,?_⟩) ?_ ?_
        rotate_left
        ·intro w'
         go_simp
         with_reducible rfl
        rotate_left
        ·simp only [Act.put,zq5,zq6,zq7,i64_w,i32_w]
         rfl
        refine pure_ (i:=9) (N:=some 23) (v:=?_) (a':=?_) #[t',t',t',t',t',t',t',t',f',t',f',f',f',f',f',f',f',f',f',f',f',f',f',f',f',f',f',f',f',f',f',f',f',f',f',f',f',f',f',f',f'] rfl rfl (any_of HT_.out (by kernel_rfl)) (fun _ _ _ h=>h) (Or.inl ⟨by rfl,?_⟩) ?_ ?_
        rotate_left
        ·intro w'
         go_simp
         with_reducible rfl
        rotate_left
        ·simp only [Act.put,zq5,zq6,zq7,i64_w,i32_w]
         rfl
        refine pure_ (i:=10) (N:=some 24) (v:=?_) (a':=?_) #[t',t',t',t',t',t',t',t',f',t',t',f',f',f',f',f',f',f',f',f',f',f',f',f',f',f',f',f',f',f',f',f',f',f',f',f',f',f',f',f',f'] rfl rfl (any_of HT_.out (by kernel_rfl)) (fun _ _ _ h=>h) (Or.inl ⟨by rfl,?_⟩) ?_ ?_
        rotate_left
        ·intro w'
         go_simp
         with_reducible rfl
        rotate_left
        ·simp only [Act.put,zq5,zq6,zq7,i64_w,i32_w]
         rfl
        refine take_ (i:=8) (N:=some 22) (v:=?_) (a':=?_) #[t',t',t',t',t',t',t',t',t',t',t',f',f',f',f',f',f',f',f',f',f',f',f',f',f',f',f',f',f',f',f',f',f',f',f',f',f',f',f',f',f'] rfl rfl (take_ofW HT_.out HW_.out (by kernel_rfl)) (fun _ _ _ h=>h) (Or.inl ⟨by rfl,?_⟩) hHeld ?_ ?_
        rotate_left
        ·rintro w' ⟨s0,s1,s2⟩
         go_simp
         with_reducible rfl
        rotate_left
        ·simp only [Act.put,zq5,zq6,zq7,i64_w,i32_w]
         rfl
        refine one_ (i:=11) (N:=some 25) #[t',t',t',t',t',t',t',t',t',t',t',t',f',f',f',f',f',f',f',f',f',f',f',f',f',f',f',f',f',f',f',f',f',f',f',f',f',f',f',f',f'] rfl rfl (one_of HT_.out (by kernel_rfl)) (by decide) (fun K hK=>?_)
        refine goes_ Try.func78 (by kernel_rfl) rfl #[.int .i64 ((rd_T79 l1 x9_1).f1),.int .i64 0,.int .i64 (wrap64 (a0 - 1))] (by rfl) rfl rfl zq2 ?_
        with_reducible refine(impl_in.calls ((rd_T79 l1 x9_1).f1) 0 (wrap64 (a0 - 1)) false _ A8.out).mono ?_
        rintro e w' ⟨rfl,⟨nd,rfl⟩⟩
        refine⟨_,rfl,?_⟩
        refine hK.out _ _ ⟨(blk_cell BK258.out 0).trans rfl,(blk_cell BK258.out 1).trans rfl,(blk_cell BK258.out 2).trans rfl⟩ (fun hHeld=>?_)
        clear hK K
        refine norm_ (a':=?_) ?_ ?_
        rotate_left
        ·show Act.put _ (some 25) _=_
         simp only [Act.put,zq5,zq6,zq7,i64_w,i32_w]
         rfl
        refine pure_ (i:=12) (N:=some 26) (v:=?_) (a':=?_) #[t',t',t',t',t',t',t',t',t',t',t',t',t',f',f',f',f',f',f',f',f',f',f',f',f',f',f',f',f',f',f',f',f',f',f',f',f',f',f',f',f'] rfl rfl (any_of HT_.out (by kernel_rfl)) (fun _ _ _ h=>h) (Or.inl ⟨by rfl,?_⟩) ?_ ?_
        rotate_left
        ·intro w'
         go_simp
         with_reducible rfl
        rotate_left
        ·simp only [Act.put,zq5,zq6,zq7,i64_w,i32_w]
         rfl
        refine pure_ (i:=13) (N:=some 27) (v:=?_) (a':=?_) #[t',t',t',t',t',t',t',t',t',t',t',t',t',t',f',f',f',f',f',f',f',f',f',f',f',f',f',f',f',f',f',f',f',f',f',f',f',f',f',f',f'] rfl rfl (any_of HT_.out (by kernel_rfl)) (fun _ _ _ h=>h) (Or.inl ⟨by rfl,?_⟩) ?_ ?_
        rotate_left
        ·intro w'
         go_simp
         with_reducible rfl
        rotate_left
        ·simp only [Act.put,zq5,zq6,zq7,i64_w,i32_w]
         rfl
        refine pure_ (i:=14) (N:=some 28) (v:=?_) (a':=?_) #[t',t',t',t',t',t',t',t',t',t',t',t',t',t',t',f',f',f',f',f',f',f',f',f',f',f',f',f',f',f',f',f',f',f',f',f',f',f',f',f',f'] rfl rfl (any_of HT_.out (by kernel_rfl)) (fun _ _ _ h=>h) (Or.inl ⟨by rfl,?_⟩) ?_ ?_
        rotate_left
        ·intro w'
         go_simp
         with_reducible rfl
        rotate_left
        ·simp only [Act.put,zq5,zq6,zq7,i64_w,i32_w]
         rfl
        refine pure_ (i:=15) (N:=some 29) (v:=undef) (a':=?_) #[t',t',t',t',t',t',t',t',t',t',t',t',t',t',t',t',f',f',f',f',f',f',f',f',f',f',f',f',f',f',f',f',f',f',f',f',f',f',f',f',f'] rfl rfl (any_of HT_.out (by kernel_rfl)) (fun _ _ _ h=>h) (Or.inr ⟨by rfl,rfl⟩) ?_ ?_
        rotate_left
        ·simp only [Act.put,zq5,zq6,zq7,i64_w,i32_w]
         rfl
        refine pure_ (i:=16) (N:=some 30) (v:=undef) (a':=?_) #[t',t',t',t',t',t',t',t',t',t',t',t',t',t',t',t',t',f',f',f',f',f',f',f',f',f',f',f',f',f',f',f',f',f',f',f',f',f',f',f',f'] rfl rfl (any_of HT_.out (by kernel_rfl)) (fun _ _ _ h=>h) (Or.inr ⟨by rfl,rfl⟩) ?_ ?_
        rotate_left
        ·simp only [Act.put,zq5,zq6,zq7,i64_w,i32_w]
         rfl
        refine pure_ (i:=17) (N:=some 31) (v:=undef) (a':=?_) #[t',t',t',t',t',t',t',t',t',t',t',t',t',t',t',t',t',t',f',f',f',f',f',f',f',f',f',f',f',f',f',f',f',f',f',f',f',f',f',f',f'] rfl rfl (any_of HT_.out (by kernel_rfl)) (fun _ _ _ h=>h) (Or.inr ⟨by rfl,rfl⟩) ?_ ?_
        rotate_left
        ·simp only [Act.put,zq5,zq6,zq7,i64_w,i32_w]
         rfl
        refine pure_ (i:=18) (N:=some 32) (v:=undef) (a':=?_) #[t',t',t',t',t',t',t',t',t',t',t',t',t',t',t',t',t',t',t',f',f',f',f',f',f',f',f',f',f',f',f',f',f',f',f',f',f',f',f',f',f'] rfl rfl (any_of HT_.out (by kernel_rfl)) (fun _ _ _ h=>h) (Or.inr ⟨by rfl,rfl⟩) ?_ ?_
        rotate_left
        ·simp only [Act.put,zq5,zq6,zq7,i64_w,i32_w]
         rfl
        refine pure_ (i:=19) (N:=some 33) (v:=undef) (a':=?_) #[t',t',t',t',t',t',t',t',t',t',t',t',t',t',t',t',t',t',t',t',f',f',f',f',f',f',f',f',f',f',f',f',f',f',f',f',f',f',f',f',f'] rfl rfl (any_of HT_.out (by kernel_rfl)) (fun _ _ _ h=>h) (Or.inr ⟨by rfl,rfl⟩) ?_ ?_
        rotate_left
        ·simp only [Act.put,zq5,zq6,zq7,i64_w,i32_w]
         rfl
        refine pure_ (i:=20) (N:=some 34) (v:=?_) (a':=?_) #[t',t',t',t',t',t',t',t',t',t',t',t',t',t',t',t',t',t',t',t',t',f',f',f',f',f',f',f',f',f',f',f',f',f',f',f',f',f',f',f',f'] rfl rfl (any_of HT_.out (by kernel_rfl)) (fun _ _ _ h=>h) (Or.inl ⟨by rfl,?_⟩) ?_ ?_
        rotate_left
        ·intro w'
         go_simp
         with_reducible rfl
        rotate_left
        ·simp only [Act.put,zq5,zq6,zq7,i64_w,i32_w]
         rfl
        refine pure_ (i:=21) (N:=some 35) (v:=?_) (a':=?_) #[t',t',t',t',t',t',t',t',t',t',t',t',t',t',t',t',t',t',t',t',t',t',f',f',f',f',f',f',f',f',f',f',f',f',f',f',f',f',f',f',f'] rfl rfl (any_of HT_.out (by kernel_rfl)) (fun _ _ _ h=>h) (Or.inl ⟨by rfl,?_⟩) ?_ ?_
        rotate_left
        ·intro w'
         go_simp
         with_reducible rfl
        rotate_left
        ·simp only [Act.put,zq5,zq6,zq7,i64_w,i32_w]
         rfl
        refine pure_ (i:=22) (N:=some 36) (v:=undef) (a':=?_) #[t',t',t',t',t',t',t',t',t',t',t',t',t',t',t',t',t',t',t',t',t',t',t',f',f',f',f',f',f',f',f',f',f',f',f',f',f',f',f',f',f'] rfl rfl (any_of HT_.out (by kernel_rfl)) (fun _ _ _ h=>h) (Or.inr ⟨by rfl,rfl⟩) ?_ ?_
        rotate_left
        ·simp only [Act.put,zq5,zq6,zq7,i64_w,i32_w]
         rfl
        refine pure_ (i:=23) (N:=some 37) (v:=undef) (a':=?_) #[t',t',t',t',t',t',t',t',t',t',t',t',t',t',t',t',t',t',t',t',t',t',t',t',f',f',f',f',f',f',f',f',f',f',f',f',f',f',f',f',f'] rfl rfl (any_of HT_.out (by kernel_rfl)) (fun _ _ _ h=>h) (Or.inr ⟨by rfl,rfl⟩) ?_ ?_
        rotate_left
        ·simp only [Act.put,zq5,zq6,zq7,i64_w,i32_w]
         rfl
        refine pure_ (i:=24) (N:=some 38) (v:=undef) (a':=?_) #[t',t',t',t',t',t',t',t',t',t',t',t',t',t',t',t',t',t',t',t',t',t',t',t',t',f',f',f',f',f',f',f',f',f',f',f',f',f',f',f',f'] rfl rfl (any_of HT_.out (by kernel_rfl)) (fun _ _ _ h=>h) (Or.inr ⟨by rfl,rfl⟩) ?_ ?_
        rotate_left
        ·simp only [Act.put,zq5,zq6,zq7,i64_w,i32_w]
         rfl
        refine pure_ (i:=25) (N:=some 39) (v:=undef) (a':=?_) #[t',t',t',t',t',t',t',t',t',t',t',t',t',t',t',t',t',t',t',t',t',t',t',t',t',t',f',f',f',f',f',f',f',f',f',f',f',f',f',f',f'] rfl rfl (any_of HT_.out (by kernel_rfl)) (fun _ _ _ h=>h) (Or.inr ⟨by rfl,rfl⟩) ?_ ?_
        rotate_left
        ·simp only [Act.put,zq5,zq6,zq7,i64_w,i32_w]
         rfl
        refine pure_ (i:=26) (N:=some 40) (v:=?_) (a':=?_) #[t',t',t',t',t',t',t',t',t',t',t',t',t',t',t',t',t',t',t',t',t',t',t',t',t',t',t',f',f',f',f',f',f',f',f',f',f',f',f',f',f'] rfl rfl (any_of HT_.out (by kernel_rfl)) (fun _ _ _ h=>h) (Or.inl ⟨by rfl,?_⟩) ?_ ?_
        rotate_left
        ·intro w'
         go_simp
         with_reducible rfl
        rotate_left
        ·simp only [Act.put,zq5,zq6,zq7,i64_w,i32_w]
         rfl
        refine pure_ (i:=27) (N:=some 41) (v:=?_) (a':=?_) #[t',t',t',t',t',t',t',t',t',t',t',t',t',t',t',t',t',t',t',t',t',t',t',t',t',t',t',t',f',f',f',f',f',f',f',f',f',f',f',f',f'] rfl rfl (any_of HT_.out (by kernel_rfl)) (fun _ _ _ h=>h) (Or.inl ⟨by rfl,?_⟩) ?_ ?_
        rotate_left
        ·intro w'
         go_simp
         with_reducible rfl
        rotate_left
        ·simp only [Act.put,zq5,zq6,zq7,i64_w,i32_w]
         rfl
        refine pure_ (i:=28) (N:=some 42) (v:=undef) (a':=?_) #[t',t',t',t',t',t',t',t',t',t',t',t',t',t',t',t',t',t',t',t',t',t',t',t',t',t',t',t',t',f',f',f',f',f',f',f',f',f',f',f',f'] rfl rfl (any_of HT_.out (by kernel_rfl)) (fun _ _ _ h=>h) (Or.inr ⟨by rfl,rfl⟩) ?_ ?_
        rotate_left
        ·simp only [Act.put,zq5,zq6,zq7,i64_w,i32_w]
         rfl
        refine pure_ (i:=29) (N:=some 43) (v:=undef) (a':=?_) #[t',t',t',t',t',t',t',t',t',t',t',t',t',t',t',t',t',t',t',t',t',t',t',t',t',t',t',t',t',t',f',f',f',f',f',f',f',f',f',f',f'] rfl rfl (any_of HT_.out (by kernel_rfl)) (fun _ _ _ h=>h) (Or.inr ⟨by rfl,rfl⟩) ?_ ?_
        rotate_left
        ·simp only [Act.put,zq5,zq6,zq7,i64_w,i32_w]
         rfl
        refine pure_ (i:=30) (N:=some 44) (v:=undef) (a':=?_) #[t',t',t',t',t',t',t',t',t',t',t',t',t',t',t',t',t',t',t',t',t',t',t',t',t',t',t',t',t',t',t',f',f',f',f',f',f',f',f',f',f'] rfl rfl (any_of HT_.out (by kernel_rfl)) (fun _ _ _ h=>h) (Or.inr ⟨by rfl,rfl⟩) ?_ ?_
        rotate_left
        ·simp only [Act.put,zq5,zq6,zq7,i64_w,i32_w]
         rfl
        refine pure_ (i:=31) (N:=some 45) (v:=undef) (a':=?_) #[t',t',t',t',t',t',t',t',t',t',t',t',t',t',t',t',t',t',t',t',t',t',t',t',t',t',t',t',t',t',t',t',f',f',f',f',f',f',f',f',f'] rfl rfl (any_of HT_.out (by kernel_rfl)) (fun _ _ _ h=>h) (Or.inr ⟨by rfl,rfl⟩) ?_ ?_
        rotate_left
        ·simp only [Act.put,zq5,zq6,zq7,i64_w,i32_w]
         rfl
        refine pure_ (i:=32) (N:=some 46) (v:=undef) (a':=?_) #[t',t',t',t',t',t',t',t',t',t',t',t',t',t',t',t',t',t',t',t',t',t',t',t',t',t',t',t',t',t',t',t',t',f',f',f',f',f',f',f',f'] rfl rfl (any_of HT_.out (by kernel_rfl)) (fun _ _ _ h=>h) (Or.inr ⟨by rfl,rfl⟩) ?_ ?_
        rotate_left
        ·simp only [Act.put,zq5,zq6,zq7,i64_w,i32_w]
         rfl
        refine pure_ (i:=33) (N:=some 47) (v:=undef) (a':=?_) #[t',t',t',t',t',t',t',t',t',t',t',t',t',t',t',t',t',t',t',t',t',t',t',t',t',t',t',t',t',t',t',t',t',t',f',f',f',f',f',f',f'] rfl rfl (any_of HT_.out (by kernel_rfl)) (fun _ _ _ h=>h) (Or.inr ⟨by rfl,rfl⟩) ?_ ?_
        rotate_left
        ·simp only [Act.put,zq5,zq6,zq7,i64_w,i32_w]
         rfl
        refine pure_ (i:=34) (N:=some 48) (v:=undef) (a':=?_) #[t',t',t',t',t',t',t',t',t',t',t',t',t',t',t',t',t',t',t',t',t',t',t',t',t',t',t',t',t',t',t',t',t',t',t',f',f',f',f',f',f'] rfl rfl (any_of HT_.out (by kernel_rfl)) (fun _ _ _ h=>h) (Or.inr ⟨by rfl,rfl⟩) ?_ ?_
        rotate_left
        ·simp only [Act.put,zq5,zq6,zq7,i64_w,i32_w]
         rfl
        refine pure_ (i:=35) (N:=some 49) (v:=undef) (a':=?_) #[t',t',t',t',t',t',t',t',t',t',t',t',t',t',t',t',t',t',t',t',t',t',t',t',t',t',t',t',t',t',t',t',t',t',t',t',f',f',f',f',f'] rfl rfl (any_of HT_.out (by kernel_rfl)) (fun _ _ _ h=>h) (Or.inr ⟨by rfl,rfl⟩) ?_ ?_
        rotate_left
        ·simp only [Act.put,zq5,zq6,zq7,i64_w,i32_w]
         rfl
        refine pure_ (i:=36) (N:=some 50) (v:=undef) (a':=?_) #[t',t',t',t',t',t',t',t',t',t',t',t',t',t',t',t',t',t',t',t',t',t',t',t',t',t',t',t',t',t',t',t',t',t',t',t',t',f',f',f',f'] rfl rfl (any_of HT_.out (by kernel_rfl)) (fun _ _ _ h=>h) (Or.inr ⟨by rfl,rfl⟩) ?_ ?_
        rotate_left
        ·simp only [Act.put,zq5,zq6,zq7,i64_w,i32_w]
         rfl
        refine pure_ (i:=37) (N:=some 51) (v:=undef) (a':=?_) #[t',t',t',t',t',t',t',t',t',t',t',t',t',t',t',t',t',t',t',t',t',t',t',t',t',t',t',t',t',t',t',t',t',t',t',t',t',t',f',f',f'] rfl rfl (any_of HT_.out (by kernel_rfl)) (fun _ _ _ h=>h) (Or.inr ⟨by rfl,rfl⟩) ?_ ?_
        rotate_left
        ·simp only [Act.put,zq5,zq6,zq7,i64_w,i32_w]
         rfl
        refine pure_ (i:=38) (N:=some 52) (v:=undef) (a':=?_) #[t',t',t',t',t',t',t',t',t',t',t',t',t',t',t',t',t',t',t',t',t',t',t',t',t',t',t',t',t',t',t',t',t',t',t',t',t',t',t',f',f'] rfl rfl (any_of HT_.out (by kernel_rfl)) (fun _ _ _ h=>h) (Or.inr ⟨by rfl,rfl⟩) ?_ ?_
        rotate_left
        ·simp only [Act.put,zq5,zq6,zq7,i64_w,i32_w]
         rfl
        refine pure_ (i:=39) (N:=some 53) (v:=undef) (a':=?_) #[t',t',t',t',t',t',t',t',t',t',t',t',t',t',t',t',t',t',t',t',t',t',t',t',t',t',t',t',t',t',t',t',t',t',t',t',t',t',t',t',f'] rfl rfl (any_of HT_.out (by kernel_rfl)) (fun _ _ _ h=>h) (Or.inr ⟨by rfl,rfl⟩) ?_ ?_
        rotate_left
        ·simp only [Act.put,zq5,zq6,zq7,i64_w,i32_w]
         rfl
        refine pure_ (i:=40) (N:=some 54) (v:=?_) (a':=?_) #[t',t',t',t',t',t',t',t',t',t',t',t',t',t',t',t',t',t',t',t',t',t',t',t',t',t',t',t',t',t',t',t',t',t',t',t',t',t',t',t',t'] rfl rfl (any_of HT_.out (by kernel_rfl)) (fun _ _ _ h=>h) (Or.inl ⟨by rfl,?_⟩) ?_ ?_
        rotate_left
        ·intro w'
         go_simp
         with_reducible rfl
        rotate_left
        ·simp only [Act.put,zq5,zq6,zq7,i64_w,i32_w]
         rfl
        refine done_ (done_of HT_.out (by kernel_rfl)) ?_
        try go_wp2
        go_ret
        exact⟨by first|rfl|(simp [errW_none,errW_some]<;>rfl)|(simp [*,errW_none,errW_some]<;>rfl),by repeat(first|(with_reducible first|exact HB.out|apply below_alloc|apply pw_below_drewN|apply below_drew1|refine below_set ?_ GE258.out)|exact HB.out)⟩
      ·replace c7:=Bool.eq_false_iff.mpr c7
       subst c7
       have H1:(some false)=some r:=by rw [if_neg (show ¬ (false=true) by decide)] at H;exact H
       clear H
       have H:=H1
       clear H1
       obtain rfl:=Option.some.inj H
       have p257: 0≤ (x9_1:Int):=of_decide_eq_true zq1
       have q257:x9_1< (l1.length:Int):=of_decide_eq_true zq1
       obtain⟨ad257,e257,hx257_0,hx257_1,hx257_2⟩:=at_T79 HR1.out x9_1 p257 q257
       cases e257
       replace hx257_0:=(HB.out.cell (World.block_lt_of_cell? w _ hx257_0)).trans hx257_0
       replace hx257_1:=(HB.out.cell (World.block_lt_of_cell? w _ hx257_1)).trans hx257_1
       replace hx257_2:=(HB.out.cell (World.block_lt_of_cell? w _ hx257_2)).trans hx257_2
       replace p257:=eq_true p257
       replace q257:=eq_true q257
       try go_wp2_with (first|((with_reducible refine gate_dst (N:=6) rfl ?_);(try(refine gate_guard (by rfl) ?_;dsimp only));refine box_event ?hg (N:=6) ?hd (cs:= #[.int .i64 0,.int .i64 0,.int .i64 0]) (t:=79) ?hr ?_;(case hd=>rfl);(case hg=>rfl);(case hr=>first|(go_simp;done)|(go_simp;rfl));intro gb258 hg w45 hbox hb;have n0_:=Aside0.mk (below_step (zb0 HB) hb);have n1_:=Aside0.mk (hbox);have n2_:=Aside0.mk ((by rw [hg];exact(below_size (zb0 HB)):w.heap.size≤gb258));have n3_:=Aside0.mk ((by rw [hg];exact(below_size (zb0 HB)):w.heap.size≤gb258));clear HB;have HB:=n0_;have BK258:=n1_;have GW258:=n2_;have GE258:=n3_;clear n0_ n1_ n2_ n3_;clear hb hbox hg;have hcz46_0:w45.cell? ⟨gb258,0,none⟩=some (.int .i64 0):=(blk_cell BK258.out 0).trans rfl;have hcz46_1:w45.cell? ⟨gb258,1,none⟩=some (.int .i64 0):=(blk_cell BK258.out 1).trans rfl;have hcz46_2:w45.cell? ⟨gb258,2,none⟩=some (.int .i64 0):=(blk_cell BK258.out 2).trans rfl;have hfz46_0:=blk_frozen BK258.out 0;have hfz46_1:=blk_frozen BK258.out 1;have hfz46_2:=blk_frozen BK258.out 2))
       have n0_:Aside0 ((((w45.setCell ⟨gb258,0,none⟩ (.int .i64 ((rd_T79 l1 x9_1).f0))).setCell ⟨gb258,1,none⟩ (.int .i64 ((rd_T79 l1 x9_1).f1))).setCell ⟨gb258,2,none⟩ (.int .i64 ((rd_T79 l1 x9_1).f2))).heap[gb258]?=some (.cells #[.int .i64 ((rd_T79 l1 x9_1).f0),.int .i64 ((rd_T79 l1 x9_1).f1),.int .i64 ((rd_T79 l1 x9_1).f2)] 79 (0,0))):=⟨by(with_reducible repeat(first|refine blk_drewN ?_ _|refine blk_drew ?_ |refine blk_alloc ?_ _));refine blk_put (cs:= #[.int .i64 ((rd_T79 l1 x9_1).f0),.int .i64 ((rd_T79 l1 x9_1).f1),.int .i64 0]) ?_ 2 _ rfl;(with_reducible repeat(first|refine blk_drewN ?_ _|refine blk_drew ?_ |refine blk_alloc ?_ _));refine blk_put (cs:= #[.int .i64 ((rd_T79 l1 x9_1).f0),.int .i64 0,.int .i64 0]) ?_ 1 _ rfl;(with_reducible repeat(first|refine blk_drewN ?_ _|refine blk_drew ?_ |refine blk_alloc ?_ _));refine blk_put (cs:= #[.int .i64 0,.int .i64 0,.int .i64 0]) ?_ 0 _ rfl;(with_reducible repeat(first|refine blk_drewN ?_ _|refine blk_drew ?_ |refine blk_alloc ?_ _));exact BK258.out⟩
       have n1_:Aside0 (Below w.heap.size w (((w45.setCell ⟨gb258,0,none⟩ (.int .i64 ((rd_T79 l1 x9_1).f0))).setCell ⟨gb258,1,none⟩ (.int .i64 ((rd_T79 l1 x9_1).f1))).setCell ⟨gb258,2,none⟩ (.int .i64 ((rd_T79 l1 x9_1).f2)))):=⟨by repeat(first|(with_reducible first|exact HB.out|apply below_alloc|apply pw_below_drewN|apply below_drew1|refine below_set ?_ GE258.out)|exact HB.out)⟩
       (try clear BK258)
       (try clear HB)
       (try simp only [show ∀ (W_:World) (n_:Nat) (a_:Addr) (v_:Value),(World.drewN W_ n_).setCell a_ v_= (World.setCell W_ a_ v_).drewN n_ from fun _ _ _ _=>rfl])
       generalize (((w45.setCell ⟨gb258,0,none⟩ (.int .i64 ((rd_T79 l1 x9_1).f0))).setCell ⟨gb258,1,none⟩ (.int .i64 ((rd_T79 l1 x9_1).f1))).setCell ⟨gb258,2,none⟩ (.int .i64 ((rd_T79 l1 x9_1).f2)))=w47 at n0_ n1_ ⊢
       have BK258:=n0_
       have HB:=n1_
       clear n0_ n1_
       have n0_:=Aside0.mk (blk_drew BK258.out)
       have n1_:=Aside0.mk (below_drew1 HB.out)
       clear BK258
       clear HB
       have BK258:=n0_
       have HB:=n1_
       clear n0_ n1_
       refine start_ (n:=41) (S:=fun w'=>w'.cell? ⟨gb258,0,none⟩=some (.int .i64 ((rd_T79 l1 x9_1).f0))∧w'.cell? ⟨gb258,1,none⟩=some (.int .i64 ((rd_T79 l1 x9_1).f1))∧w'.cell? ⟨gb258,2,none⟩=some (.int .i64 ((rd_T79 l1 x9_1).f2))) (ds:= []) #[f',f',f',f',f',f',f',f',f',f',f',f',f',f',f',f',f',f',f',f',f',f',f',f',f',f',f',f',f',f',f',f',f',f',f',f',f',f',f',f',f'] (by kernel_rfl) rfl rfl ⟨(blk_cell BK258.out 0).trans rfl,(blk_cell BK258.out 1).trans rfl,(blk_cell BK258.out 2).trans rfl⟩ (fun hHeld=>?_);refine with_tabW impl_GoodEdges.tab4 impl_GoodEdges.bits4 (fun HT_ HW_=>?_)
       generalize w47.drew=w48 at BK258 HB hHeld ⊢
       refine pure_ (i:=0) (N:=some 14) (v:=?_) (a':=?_) #[t',f',f',f',f',f',f',f',f',f',f',f',f',f',f',f',f',f',f',f',f',f',f',f',f',f',f',f',f',f',f',f',f',f',f',f',f',f',f',f',f'] rfl rfl (any_of HT_.out (by kernel_rfl)) (fun _ _ _ h=>h) (Or.inl ⟨by rfl,?_⟩) ?_ ?_
       rotate_left
       ·intro w'
        go_simp
        with_reducible rfl
       rotate_left
       ·simp only [Act.put,zq5,zq6,zq7,i64_w,i32_w]
        rfl
       refine pure_ (i:=2) (N:=some 16) (v:=?_) (a':=?_) #[t',f',t',f',f',f',f',f',f',f',f',f',f',f',f',f',f',f',f',f',f',f',f',f',f',f',f',f',f',f',f',f',f',f',f',f',f',f',f',f',f'] rfl rfl (any_of HT_.out (by kernel_rfl)) (fun _ _ _ h=>h) (Or.inl ⟨by rfl,?_⟩) ?_ ?_
       rotate_left
       ·intro w'
        go_simp
        with_reducible rfl
       rotate_left
       ·simp only [Act.put,zq5,zq6,zq7,i64_w,i32_w]
        rfl
       refine pure_ (i:=3) (N:=some 17) (v:=?_) (a':=?_) #[t',f',t',t',f',f',f',f',f',f',f',f',f',f',f',f',f',f',f',f',f',f',f',f',f',f',f',f',f',f',f',f',f',f',f',f',f',f',f',f',f'] rfl rfl (any_of HT_.out (by kernel_rfl)) (fun _ _ _ h=>h) (Or.inl ⟨by rfl,?_⟩) ?_ ?_
       rotate_left
       ·intro w'
        go_simp
        with_reducible rfl
       rotate_left
       ·simp only [Act.put,zq5,zq6,zq7,i64_w,i32_w]
        rfl
       refine take_ (i:=1) (N:=some 15) (v:=?_) (a':=?_) #[t',t',t',t',f',f',f',f',f',f',f',f',f',f',f',f',f',f',f',f',f',f',f',f',f',f',f',f',f',f',f',f',f',f',f',f',f',f',f',f',f'] rfl rfl (take_ofW HT_.out HW_.out (by kernel_rfl)) (fun _ _ _ h=>h) (Or.inl ⟨by rfl,?_⟩) hHeld ?_ ?_
       rotate_left
       ·rintro w' ⟨s0,s1,s2⟩
        go_simp
        with_reducible rfl
       rotate_left
       ·simp only [Act.put,zq5,zq6,zq7,i64_w,i32_w]
        rfl
       refine one_ (i:=4) (N:=some 18) #[t',t',t',t',t',f',f',f',f',f',f',f',f',f',f',f',f',f',f',f',f',f',f',f',f',f',f',f',f',f',f',f',f',f',f',f',f',f',f',f',f'] rfl rfl (one_of HT_.out (by kernel_rfl)) (by decide) (fun K hK=>?_)
       refine goes_ Try.func78 (by kernel_rfl) rfl #[.int .i64 ((rd_T79 l1 x9_1).f0),.int .i64 0,.int .i64 (wrap64 (a0 - 1))] (by rfl) rfl rfl zq2 ?_
       with_reducible refine(impl_in.calls ((rd_T79 l1 x9_1).f0) 0 (wrap64 (a0 - 1)) false _ A6.out).mono ?_
       rintro e w' ⟨rfl,⟨nd,rfl⟩⟩
       refine⟨_,rfl,?_⟩
       refine hK.out _ _ ⟨(blk_cell BK258.out 0).trans rfl,(blk_cell BK258.out 1).trans rfl,(blk_cell BK258.out 2).trans rfl⟩ (fun hHeld=>?_)
       clear hK K
       refine norm_ (a':=?_) ?_ ?_
       rotate_left
       ·show Act.put _ (some 18) _=_
        simp only [Act.put,zq5,zq6,zq7,i64_w,i32_w]
        rfl
       refine pure_ (i:=5) (N:=some 19) (v:=?_) (a':=?_) #[t',t',t',t',t',t',f',f',f',f',f',f',f',f',f',f',f',f',f',f',f',f',f',f',f',f',f',f',f',f',f',f',f',f',f',f',f',f',f',f',f'] rfl rfl (any_of HT_.out (by kernel_rfl)) (fun _ _ _ h=>h) (Or.inl ⟨by rfl,?_⟩) ?_ ?_
       rotate_left
       ·intro w'
        go_simp
        with_reducible rfl
       rotate_left
       ·simp only [Act.put,zq5,zq6,zq7,i64_w,i32_w]
        rfl
       refine pure_ (i:=6) (N:=some 20) (v:=?_) (a':=?_) #[t',t',t',t',t',t',t',f',f',f',f',f',f',f',f',f',f',f',f',f',f',f',f',f',f',f',f',f',f',f',f',f',f',f',f',f',f',f',f',f',f'] rfl rfl (any_of HT_.out (by kernel_rfl)) (fun _ _ _ h=>h) (Or.inl ⟨by rfl,?_⟩) ?_ ?_
       rotate_left
       ·intro w'
        go_simp
        with_reducible rfl
       rotate_left
       ·simp only [Act.put,zq5,zq6,zq7,i64_w,i32_w]
        rfl
       refine pure_ (i:=7) (N:=some 21) (v:=undef) (a':=?_) #[t',t',t',t',t',t',t',t',f',f',f',f',f',f',f',f',f',f',f',f',f',f',f',f',f',f',f',f',f',f',f',f',f',f',f',f',f',f',f',f',f'] rfl rfl (any_of HT_.out (by kernel_rfl)) (fun _ _ _ h=>h) (Or.inr ⟨by rfl,rfl⟩) ?_ ?_
       rotate_left
       ·simp only [Act.put,zq5,zq6,zq7,i64_w,i32_w]
        rfl
       refine pure_ (i:=8) (N:=some 22) (v:=undef) (a':=?_) #[t',t',t',t',t',t',t',t',t',f',f',f',f',f',f',f',f',f',f',f',f',f',f',f',f',f',f',f',f',f',f',f',f',f',f',f',f',f',f',f',f'] rfl rfl (any_of HT_.out (by kernel_rfl)) (fun _ _ _ h=>h) (Or.inr ⟨by rfl,rfl⟩) ?_ ?_
       rotate_left
       ·simp only [Act.put,zq5,zq6,zq7,i64_w,i32_w]
        rfl
       refine pure_ (i:=9) (N:=some 23) (v:=undef) (a':=?_) #[t',t',t',t',t',t',t',t',t',t',f',f',f',f',f',f',f',f',f',f',f',f',f',f',f',f',f',f',f',f',f',f',f',f',f',f',f',f',f',f',f'] rfl rfl (any_of HT_.out (by kernel_rfl)) (fun _ _ _ h=>h) (Or.inr ⟨by rfl,rfl⟩) ?_ ?_
       rotate_left
       ·simp only [Act.put,zq5,zq6,zq7,i64_w,i32_w]
        rfl
       refine pure_ (i:=10) (N:=some 24) (v:=undef) (a':=?_) #[t',t',t',t',t',t',t',t',t',t',t',f',f',f',f',f',f',f',f',f',f',f',f',f',f',f',f',f',f',f',f',f',f',f',f',f',f',f',f',f',f'] rfl rfl (any_of HT_.out (by kernel_rfl)) (fun _ _ _ h=>h) (Or.inr ⟨by rfl,rfl⟩) ?_ ?_
       rotate_left
       ·simp only [Act.put,zq5,zq6,zq7,i64_w,i32_w]
        rfl
       refine pure_ (i:=11) (N:=some 25) (v:=undef) (a':=?_) #[t',t',t',t',t',t',t',t',t',t',t',t',f',f',f',f',f',f',f',f',f',f',f',f',f',f',f',f',f',f',f',f',f',f',f',f',f',f',f',f',f'] rfl rfl (any_of HT_.out (by kernel_rfl)) (fun _ _ _ h=>h) (Or.inr ⟨by rfl,rfl⟩) ?_ ?_
       rotate_left
       ·simp only [Act.put,zq5,zq6,zq7,i64_w,i32_w]
        rfl
       refine pure_ (i:=12) (N:=some 26) (v:=undef) (a':=?_) #[t',t',t',t',t',t',t',t',t',t',t',t',t',f',f',f',f',f',f',f',f',f',f',f',f',f',f',f',f',f',f',f',f',f',f',f',f',f',f',f',f'] rfl rfl (any_of HT_.out (by kernel_rfl)) (fun _ _ _ h=>h) (Or.inr ⟨by rfl,rfl⟩) ?_ ?_
       rotate_left
       ·simp only [Act.put,zq5,zq6,zq7,i64_w,i32_w]
        rfl
       refine pure_ (i:=13) (N:=some 27) (v:=?_) (a':=?_) #[t',t',t',t',t',t',t',t',t',t',t',t',t',t',f',f',f',f',f',f',f',f',f',f',f',f',f',f',f',f',f',f',f',f',f',f',f',f',f',f',f'] rfl rfl (any_of HT_.out (by kernel_rfl)) (fun _ _ _ h=>h) (Or.inl ⟨by rfl,?_⟩) ?_ ?_
       rotate_left
       ·intro w'
        go_simp
        with_reducible rfl
       rotate_left
       ·simp only [Act.put,zq5,zq6,zq7,i64_w,i32_w]
        rfl
       refine pure_ (i:=14) (N:=some 28) (v:=?_) (a':=?_) #[t',t',t',t',t',t',t',t',t',t',t',t',t',t',t',f',f',f',f',f',f',f',f',f',f',f',f',f',f',f',f',f',f',f',f',f',f',f',f',f',f'] rfl rfl (any_of HT_.out (by kernel_rfl)) (fun _ _ _ h=>h) (Or.inl ⟨by rfl,?_⟩) ?_ ?_
       rotate_left
       ·intro w'
        go_simp
        with_reducible rfl
       rotate_left
       ·simp only [Act.put,zq5,zq6,zq7,i64_w,i32_w]
        rfl
       refine pure_ (i:=15) (N:=some 29) (v:=undef) (a':=?_) #[t',t',t',t',t',t',t',t',t',t',t',t',t',t',t',t',f',f',f',f',f',f',f',f',f',f',f',f',f',f',f',f',f',f',f',f',f',f',f',f',f'] rfl rfl (any_of HT_.out (by kernel_rfl)) (fun _ _ _ h=>h) (Or.inr ⟨by rfl,rfl⟩) ?_ ?_
       rotate_left
       ·simp only [Act.put,zq5,zq6,zq7,i64_w,i32_w]
        rfl
       refine pure_ (i:=16) (N:=some 30) (v:=undef) (a':=?_) #[t',t',t',t',t',t',t',t',t',t',t',t',t',t',t',t',t',f',f',f',f',f',f',f',f',f',f',f',f',f',f',f',f',f',f',f',f',f',f',f',f'] rfl rfl (any_of HT_.out (by kernel_rfl)) (fun _ _ _ h=>h) (Or.inr ⟨by rfl,rfl⟩) ?_ ?_
       rotate_left
       ·simp only [Act.put,zq5,zq6,zq7,i64_w,i32_w]
        rfl
       refine pure_ (i:=17) (N:=some 31) (v:=undef) (a':=?_) #[t',t',t',t',t',t',t',t',t',t',t',t',t',t',t',t',t',t',f',f',f',f',f',f',f',f',f',f',f',f',f',f',f',f',f',f',f',f',f',f',f'] rfl rfl (any_of HT_.out (by kernel_rfl)) (fun _ _ _ h=>h) (Or.inr ⟨by rfl,rfl⟩) ?_ ?_
       rotate_left
       ·simp only [Act.put,zq5,zq6,zq7,i64_w,i32_w]
        rfl
       refine pure_ (i:=18) (N:=some 32) (v:=undef) (a':=?_) #[t',t',t',t',t',t',t',t',t',t',t',t',t',t',t',t',t',t',t',f',f',f',f',f',f',f',f',f',f',f',f',f',f',f',f',f',f',f',f',f',f'] rfl rfl (any_of HT_.out (by kernel_rfl)) (fun _ _ _ h=>h) (Or.inr ⟨by rfl,rfl⟩) ?_ ?_
       rotate_left
       ·simp only [Act.put,zq5,zq6,zq7,i64_w,i32_w]
        rfl
       refine pure_ (i:=19) (N:=some 33) (v:=undef) (a':=?_) #[t',t',t',t',t',t',t',t',t',t',t',t',t',t',t',t',t',t',t',t',f',f',f',f',f',f',f',f',f',f',f',f',f',f',f',f',f',f',f',f',f'] rfl rfl (any_of HT_.out (by kernel_rfl)) (fun _ _ _ h=>h) (Or.inr ⟨by rfl,rfl⟩) ?_ ?_
       rotate_left
       ·simp only [Act.put,zq5,zq6,zq7,i64_w,i32_w]
        rfl
       refine pure_ (i:=20) (N:=some 34) (v:=?_) (a':=?_) #[t',t',t',t',t',t',t',t',t',t',t',t',t',t',t',t',t',t',t',t',t',f',f',f',f',f',f',f',f',f',f',f',f',f',f',f',f',f',f',f',f'] rfl rfl (any_of HT_.out (by kernel_rfl)) (fun _ _ _ h=>h) (Or.inl ⟨by rfl,?_⟩) ?_ ?_
       rotate_left
       ·intro w'
        go_simp
        with_reducible rfl
       rotate_left
       ·simp only [Act.put,zq5,zq6,zq7,i64_w,i32_w]
        rfl
       refine pure_ (i:=21) (N:=some 35) (v:=?_) (a':=?_) #[t',t',t',t',t',t',t',t',t',t',t',t',t',t',t',t',t',t',t',t',t',t',f',f',f',f',f',f',f',f',f',f',f',f',f',f',f',f',f',f',f'] rfl rfl (any_of HT_.out (by kernel_rfl)) (fun _ _ _ h=>h) (Or.inl ⟨by rfl,?_⟩) ?_ ?_
       rotate_left
       ·intro w'
        go_simp
        with_reducible rfl
       rotate_left
       ·simp only [Act.put,zq5,zq6,zq7,i64_w,i32_w]
        rfl
       refine pure_ (i:=22) (N:=some 36) (v:=undef) (a':=?_) #[t',t',t',t',t',t',t',t',t',t',t',t',t',t',t',t',t',t',t',t',t',t',t',f',f',f',f',f',f',f',f',f',f',f',f',f',f',f',f',f',f'] rfl rfl (any_of HT_.out (by kernel_rfl)) (fun _ _ _ h=>h) (Or.inr ⟨by rfl,rfl⟩) ?_ ?_
       rotate_left
       ·simp only [Act.put,zq5,zq6,zq7,i64_w,i32_w]
        rfl
       refine pure_ (i:=23) (N:=some 37) (v:=undef) (a':=?_) #[t',t',t',t',t',t',t',t',t',t',t',t',t',t',t',t',t',t',t',t',t',t',t',t',f',f',f',f',f',f',f',f',f',f',f',f',f',f',f',f',f'] rfl rfl (any_of HT_.out (by kernel_rfl)) (fun _ _ _ h=>h) (Or.inr ⟨by rfl,rfl⟩) ?_ ?_
       rotate_left
       ·simp only [Act.put,zq5,zq6,zq7,i64_w,i32_w]
        rfl
       refine pure_ (i:=24) (N:=some 38) (v:=undef) (a':=?_) #[t',t',t',t',t',t',t',t',t',t',t',t',t',t',t',t',t',t',t',t',t',t',t',t',t',f',f',f',f',f',f',f',f',f',f',f',f',f',f',f',f'] rfl rfl (any_of HT_.out (by kernel_rfl)) (fun _ _ _ h=>h) (Or.inr ⟨by rfl,rfl⟩) ?_ ?_
       rotate_left
       ·simp only [Act.put,zq5,zq6,zq7,i64_w,i32_w]
        rfl
       refine pure_ (i:=25) (N:=some 39) (v:=undef) (a':=?_) #[t',t',t',t',t',t',t',t',t',t',t',t',t',t',t',t',t',t',t',t',t',t',t',t',t',t',f',f',f',f',f',f',f',f',f',f',f',f',f',f',f'] rfl rfl (any_of HT_.out (by kernel_rfl)) (fun _ _ _ h=>h) (Or.inr ⟨by rfl,rfl⟩) ?_ ?_
       rotate_left
       ·simp only [Act.put,zq5,zq6,zq7,i64_w,i32_w]
        rfl
       refine pure_ (i:=26) (N:=some 40) (v:=?_) (a':=?_) #[t',t',t',t',t',t',t',t',t',t',t',t',t',t',t',t',t',t',t',t',t',t',t',t',t',t',t',f',f',f',f',f',f',f',f',f',f',f',f',f',f'] rfl rfl (any_of HT_.out (by kernel_rfl)) (fun _ _ _ h=>h) (Or.inl ⟨by rfl,?_⟩) ?_ ?_
       rotate_left
       ·intro w'
        go_simp
        with_reducible rfl
       rotate_left
       ·simp only [Act.put,zq5,zq6,zq7,i64_w,i32_w]
        rfl
       refine pure_ (i:=27) (N:=some 41) (v:=?_) (a':=?_) #[t',t',t',t',t',t',t',t',t',t',t',t',t',t',t',t',t',t',t',t',t',t',t',t',t',t',t',t',f',f',f',f',f',f',f',f',f',f',f',f',f'] rfl rfl (any_of HT_.out (by kernel_rfl)) (fun _ _ _ h=>h) (Or.inl ⟨by rfl,?_⟩) ?_ ?_
       rotate_left
       ·intro w'
        go_simp
        with_reducible rfl
       rotate_left
       ·simp only [Act.put,zq5,zq6,zq7,i64_w,i32_w]
        rfl
       refine pure_ (i:=28) (N:=some 42) (v:=undef) (a':=?_) #[t',t',t',t',t',t',t',t',t',t',t',t',t',t',t',t',t',t',t',t',t',t',t',t',t',t',t',t',t',f',f',f',f',f',f',f',f',f',f',f',f'] rfl rfl (any_of HT_.out (by kernel_rfl)) (fun _ _ _ h=>h) (Or.inr ⟨by rfl,rfl⟩) ?_ ?_
       rotate_left
       ·simp only [Act.put,zq5,zq6,zq7,i64_w,i32_w]
        rfl
       refine pure_ (i:=29) (N:=some 43) (v:=undef) (a':=?_) #[t',t',t',t',t',t',t',t',t',t',t',t',t',t',t',t',t',t',t',t',t',t',t',t',t',t',t',t',t',t',f',f',f',f',f',f',f',f',f',f',f'] rfl rfl (any_of HT_.out (by kernel_rfl)) (fun _ _ _ h=>h) (Or.inr ⟨by rfl,rfl⟩) ?_ ?_
       rotate_left
       ·simp only [Act.put,zq5,zq6,zq7,i64_w,i32_w]
        rfl
       refine pure_ (i:=30) (N:=some 44) (v:=undef) (a':=?_) #[t',t',t',t',t',t',t',t',t',t',t',t',t',t',t',t',t',t',t',t',t',t',t',t',t',t',t',t',t',t',t',f',f',f',f',f',f',f',f',f',f'] rfl rfl (any_of HT_.out (by kernel_rfl)) (fun _ _ _ h=>h) (Or.inr ⟨by rfl,rfl⟩) ?_ ?_
       rotate_left
       ·simp only [Act.put,zq5,zq6,zq7,i64_w,i32_w]
        rfl
       refine pure_ (i:=31) (N:=some 45) (v:=undef) (a':=?_) #[t',t',t',t',t',t',t',t',t',t',t',t',t',t',t',t',t',t',t',t',t',t',t',t',t',t',t',t',t',t',t',t',f',f',f',f',f',f',f',f',f'] rfl rfl (any_of HT_.out (by kernel_rfl)) (fun _ _ _ h=>h) (Or.inr ⟨by rfl,rfl⟩) ?_ ?_
       rotate_left
       ·simp only [Act.put,zq5,zq6,zq7,i64_w,i32_w]
        rfl
       refine pure_ (i:=32) (N:=some 46) (v:=undef) (a':=?_) #[t',t',t',t',t',t',t',t',t',t',t',t',t',t',t',t',t',t',t',t',t',t',t',t',t',t',t',t',t',t',t',t',t',f',f',f',f',f',f',f',f'] rfl rfl (any_of HT_.out (by kernel_rfl)) (fun _ _ _ h=>h) (Or.inr ⟨by rfl,rfl⟩) ?_ ?_
       rotate_left
       ·simp only [Act.put,zq5,zq6,zq7,i64_w,i32_w]
        rfl
       refine pure_ (i:=33) (N:=some 47) (v:=undef) (a':=?_) #[t',t',t',t',t',t',t',t',t',t',t',t',t',t',t',t',t',t',t',t',t',t',t',t',t',t',t',t',t',t',t',t',t',t',f',f',f',f',f',f',f'] rfl rfl (any_of HT_.out (by kernel_rfl)) (fun _ _ _ h=>h) (Or.inr ⟨by rfl,rfl⟩) ?_ ?_
       rotate_left
       ·simp only [Act.put,zq5,zq6,zq7,i64_w,i32_w]
        rfl
       refine pure_ (i:=34) (N:=some 48) (v:=undef) (a':=?_) #[t',t',t',t',t',t',t',t',t',t',t',t',t',t',t',t',t',t',t',t',t',t',t',t',t',t',t',t',t',t',t',t',t',t',t',f',f',f',f',f',f'] rfl rfl (any_of HT_.out (by kernel_rfl)) (fun _ _ _ h=>h) (Or.inr ⟨by rfl,rfl⟩) ?_ ?_
       rotate_left
       ·simp only [Act.put,zq5,zq6,zq7,i64_w,i32_w]
        rfl
       refine pure_ (i:=35) (N:=some 49) (v:=undef) (a':=?_) #[t',t',t',t',t',t',t',t',t',t',t',t',t',t',t',t',t',t',t',t',t',t',t',t',t',t',t',t',t',t',t',t',t',t',t',t',f',f',f',f',f'] rfl rfl (any_of HT_.out (by kernel_rfl)) (fun _ _ _ h=>h) (Or.inr ⟨by rfl,rfl⟩) ?_ ?_
       rotate_left
       ·simp only [Act.put,zq5,zq6,zq7,i64_w,i32_w]
        rfl
       refine pure_ (i:=36) (N:=some 50) (v:=undef) (a':=?_) #[t',t',t',t',t',t',t',t',t',t',t',t',t',t',t',t',t',t',t',t',t',t',t',t',t',t',t',t',t',t',t',t',t',t',t',t',t',f',f',f',f'] rfl rfl (any_of HT_.out (by kernel_rfl)) (fun _ _ _ h=>h) (Or.inr ⟨by rfl,rfl⟩) ?_ ?_
       rotate_left
       ·simp only [Act.put,zq5,zq6,zq7,i64_w,i32_w]
        rfl
       refine pure_ (i:=37) (N:=some 51) (v:=undef) (a':=?_) #[t',t',t',t',t',t',t',t',t',t',t',t',t',t',t',t',t',t',t',t',t',t',t',t',t',t',t',t',t',t',t',t',t',t',t',t',t',t',f',f',f'] rfl rfl (any_of HT_.out (by kernel_rfl)) (fun _ _ _ h=>h) (Or.inr ⟨by rfl,rfl⟩) ?_ ?_
       rotate_left
       ·simp only [Act.put,zq5,zq6,zq7,i64_w,i32_w]
        rfl
       refine pure_ (i:=38) (N:=some 52) (v:=undef) (a':=?_) #[t',t',t',t',t',t',t',t',t',t',t',t',t',t',t',t',t',t',t',t',t',t',t',t',t',t',t',t',t',t',t',t',t',t',t',t',t',t',t',f',f'] rfl rfl (any_of HT_.out (by kernel_rfl)) (fun _ _ _ h=>h) (Or.inr ⟨by rfl,rfl⟩) ?_ ?_
       rotate_left
       ·simp only [Act.put,zq5,zq6,zq7,i64_w,i32_w]
        rfl
       refine pure_ (i:=39) (N:=some 53) (v:=undef) (a':=?_) #[t',t',t',t',t',t',t',t',t',t',t',t',t',t',t',t',t',t',t',t',t',t',t',t',t',t',t',t',t',t',t',t',t',t',t',t',t',t',t',t',f'] rfl rfl (any_of HT_.out (by kernel_rfl)) (fun _ _ _ h=>h) (Or.inr ⟨by rfl,rfl⟩) ?_ ?_
       rotate_left
       ·simp only [Act.put,zq5,zq6,zq7,i64_w,i32_w]
        rfl
       refine pure_ (i:=40) (N:=some 54) (v:=?_) (a':=?_) #[t',t',t',t',t',t',t',t',t',t',t',t',t',t',t',t',t',t',t',t',t',t',t',t',t',t',t',t',t',t',t',t',t',t',t',t',t',t',t',t',t'] rfl rfl (any_of HT_.out (by kernel_rfl)) (fun _ _ _ h=>h) (Or.inl ⟨by rfl,?_⟩) ?_ ?_
       rotate_left
       ·intro w'
        go_simp
        with_reducible rfl
       rotate_left
       ·simp only [Act.put,zq5,zq6,zq7,i64_w,i32_w]
        rfl
       refine done_ (done_of HT_.out (by kernel_rfl)) ?_
       try go_wp2
       go_ret
       exact⟨by first|rfl|(simp [errW_none,errW_some]<;>rfl)|(simp [*,errW_none,errW_some]<;>rfl),by repeat(first|(with_reducible first|exact HB.out|apply below_alloc|apply pw_below_drewN|apply below_drew1|refine below_set ?_ GE258.out)|exact HB.out)⟩
     ·rw [if_neg c5] at H
      exact absurd H (by simp)
    ·rw [if_neg c4] at H
     exact absurd H (by simp)
   ·rw [if_neg c3] at H
    have c3b0:decide (x9_1< (l1.length:Int))=false:=decide_eq_false c3
    clear c3
    replace H:=Option.bind_eq_some_iff.mp H
    obtain⟨t256,A490,H⟩:=H
    replace H:(if t256=true then(some (decide ((l1.length:Int)≤40))) else(some false))=some r:=H
    have A49:=Aside0.mk A490
    clear A490
    by_cases c50:t256=true
    ·subst c50
     have H1:(some (decide ((l1.length:Int)≤40)))=some r:=by rw [if_pos rfl] at H;exact H
     clear H
     have H:=H1
     clear H1
     obtain rfl:=Option.some.inj H
     go_wp2_with (first|((with_reducible refine gate_callee (f:=60) rfl ?_);refine goesL_ (some 57) rfl rfl Try.func60 (by kernel_rfl) rfl #[.int .i64 a0] rfl zq2 ?_;(with_reducible refine(impl_isSpots.calls a0 true _ A49.out).mono ?_);rintro e w' ⟨rfl,⟨nd,rfl⟩⟩;refine⟨_,rfl,?_⟩))
     go_ret
     exact⟨by first|rfl|(simp [errW_none,errW_some]<;>rfl)|(simp [*,errW_none,errW_some]<;>rfl),by repeat(first|(with_reducible first|exact HB.out|apply below_alloc|apply pw_below_drewN|apply below_drew1)|exact HB.out)⟩
    ·replace c50:=Bool.eq_false_iff.mpr c50
     subst c50
     have H1:(some false)=some r:=by rw [if_neg (show ¬ (false=true) by decide)] at H;exact H
     clear H
     have H:=H1
     clear H1
     obtain rfl:=Option.some.inj H
     go_wp2_with (first|((with_reducible refine gate_callee (f:=60) rfl ?_);refine goesL_ (some 57) rfl rfl Try.func60 (by kernel_rfl) rfl #[.int .i64 a0] rfl zq2 ?_;(with_reducible refine(impl_isSpots.calls a0 false _ A49.out).mono ?_);rintro e w' ⟨rfl,⟨nd,rfl⟩⟩;refine⟨_,rfl,?_⟩))
     go_ret
     exact⟨by first|rfl|(simp [errW_none,errW_some]<;>rfl)|(simp [*,errW_none,errW_some]<;>rfl),by repeat(first|(with_reducible first|exact HB.out|apply below_alloc|apply pw_below_drewN|apply below_drew1)|exact HB.out)⟩
end Go.Proofs.Ytedegfbheihopaa.P
