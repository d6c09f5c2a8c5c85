/- Functions, walks and plain lemmas that the law FnBothWays reaches, part 2. -/
import Derived.Test.YtpbnpepikkocmaaCFnBothWays1
import Derived.Below
import Derived.Deep.Draws
import Derived.Deep.AppendLies
import Derived.Maps.AppendAt
import Derived.OwnWalk
import Derived.Laws.BytesArg
import Derived.Laws.MakeOwn
import Derived.Laws.OwnMore
import Derived.Deep.OwnRows
import Derived.Tactics
import Derived.Lib.ConvBytes
import Derived.Laws.Slices
import Derived.WalkKit
import Derived.KernelRfl
import Derived.RowKit3
import Derived.Deep.LoopGhost
import Derived.Deep.QuietTactic
import Derived.BigQuiet
import Derived.WideLaws
import Derived.Deep.DeepCutAuto
import Derived.Deep.CutBlock
import Derived.Deep.RegionHeld3
import Derived.Laws.Rows
import Derived.Lib.AppendStr
import Derived.ArgAppend
import Derived.Laws.IdiomCopy
import Derived.OrdersHeld
import Derived.Laws.BitsLemmas
import Derived.RowKit
import Derived.WalkSpells
import Derived.Lib.SliceRun
import Derived.Shelf.Abstract
import Derived.ProofKit
import Derived.OpenShut
import Derived.ShutString
import Derived.ChangeOld
import Derived.SizedLaws
namespace Go.Proofs.Ytpbnpepikkocmaa.P
open Go.RowKit Go.Proofs.YtpbnpepikkocmaaW.PrintWords Go.Proofs.YtpbnpepikkocmaaW.PrintLast Go.Proofs.YtpbnpepikkocmaaW.PrintMore
attribute [local go_sem] max2_int min2_int max_two min_two max_three min_three max_four min_four   -- for this text's walks alone
set_option linter.unusedVariables false
set_option linter.unusedSimpArgs false
def impl_GoodEdges.l0:Nat→Int→List (S52)→List (S52)→Int→Int→Option (Bool)
 | 0,_,_,_,_,_=>none
 |k+1,x0,x1,x7,x8,x9=>if x9<x8 then(if 0≤x9 then(if x9< (x7.length:Int) then((impl_in.f ((rd_T52 x7 x9).f0) 0 (wrap64 (x0 - 1))).bind fun t144=>(if t144=true then((impl_in.f ((rd_T52 x7 x9).f1) 0 (wrap64 (x0 - 1))).bind fun t145=>(if t145=true then(if ((rd_T52 x7 x9).f0)≥ ((rd_T52 x7 x9).f1) then(some false) else((impl_in.f ((rd_T52 x7 x9).f2) 1 100).bind fun t146=>(if t146=true then(if x9 > 0 then(if 0≤ (wrap64 (x9 - 1)) then(if (wrap64 (x9 - 1))< (x1.length:Int) then((impl_byEnds.f ((rd_T52 x1 (wrap64 (x9 - 1))).f0) ((rd_T52 x1 (wrap64 (x9 - 1))).f1) ((rd_T52 x1 (wrap64 (x9 - 1))).f2) ((rd_T52 x7 x9).f0) ((rd_T52 x7 x9).f1) ((rd_T52 x7 x9).f2)).bind fun t148=>(if t148≥0 then(some false) else(impl_GoodEdges.l0 k x0 x1 x7 x8 (wrap64 (x9+1))))) else(none)) else(none)) else(impl_GoodEdges.l0 k x0 x1 x7 x8 (wrap64 (x9+1)))) else(some false)))) else(some false))) else(some false))) else(none)) else(none)) else((impl_isSpots.f x0).bind fun t141=>(if t141=true then(some (decide ((x1.length:Int)≤40))) else(some false)))
def impl_GoodEdges.f (k:Nat) (a0:Int) (l1:List (S52)):Option (Bool):=impl_GoodEdges.l0 k a0 l1 l1 (l1.length:Int) 0
def impl_GoodEdges.T4:Bool × List (List Nat × List Nat):=(true,[([],[]),([0],[0]),([],[]),([2],[2]),([1,3],[1,3]),([4],[4]),([5,4],[5]),([6],[6]),([7,6],[6,7]),([6],[6]),([9,6],[6,9]),([8,10,6,6],[6,8,10]),([11,6],[6,11]),([6,12],[6,12]),([13,11],[13]),([14],[14]),([15,14],[14,15]),([14],[14]),([17,14],[14,17]),([16,18,14],[14,16,18]),([14,19],[14,19]),([20,14],[20]),([21],[21]),([22,21],[21,22]),([23,21,21],[21,23]),([24,21],[21,24]),([21,25],[21,25]),([26,24],[26]),([27],[27]),([28,27],[27,28]),([29,27,27],[27,29]),([30],[30]),([30],[30]),([32,30],[30,32]),([31,33,30],[30,31,33]),([34,30],[30,34]),([30],[30]),([35,36,30,30],[30,35,36]),([37,30],[30,37]),([30,38,27],[27,30,38]),([27,39],[27,39])])
def impl_GoodEdges.B4:List Nat:= [0,1,0,4,15,31,63,127,255,127,639,2047,4095,8191,16383,32767,65535,32767,163839,524287,1048575,2097151,4194303,8388607,16777215,33554431,67108863,134217727,268435455,536870911,1073741823,2147483647,2147483647,6442450943,17179869183,34359738367,2147483647,137438953471,274877906943,549755813887,1099511627775]
theorem impl_GoodEdges.tab4:rtab .any (opsOf Try.f34 4)=impl_GoodEdges.T4:=by kernel_rfl
theorem impl_GoodEdges.bits4:waitsOk impl_GoodEdges.T4.2 impl_GoodEdges.B4=true:=by kernel_rfl
def mb' (n m:Nat):Array Bool:=((List.range n).map fun i=>m.testBit i).toArray
theorem zp1 {P:Program} {ops:Array Oper} {Q:Exit→Act→World→Prop} {md:Region.Mode} {S:World→Prop} {ds:List Nat} {T:Bool × List (List Nat × List Nat)} {oi:Oper} {v:Value} {fuel:Nat} {l:Array Bool} {a:Act} {w:World} (hT:Aside0 (rtab md ops=T)) (i n:Nat) (l':Array Bool) (hi:ops[i]?=some oi) {a':Act} (h:wpAnyLast P md ops Q S ds fuel l' a' w) (hr:∀ w,(execOp a.eval oi).run P w= .ok (.value v) w:=by intro w';go_simp;with_reducible rfl) (ha:a.put (some n) v=a':=by simp only [Act.put,List.setIfInBounds_toArray,List.set_cons_zero,List.set_cons_succ,i64_w,i32_w];rfl) (hc:anyT T l.toList l'.toList i=true:=by kernel_rfl) (hw:Region.wanted oi (yielded ops a.tmps)=true:=by rfl) (hN:oi.dst=some n:=by rfl) (hQ:∀ c a w,Q (.panic c) (a.put oi.dst v) w→Q (.panic c) a w:=by exact fun _ _ _ h=>h):wpAnyLast P md ops Q S ds (fuel+1) l a w:=pure_ (i:=i) l' hi hN (any_of hT.out hc) hQ (Or.inl ⟨hw,hr⟩) ha h
theorem zp2 {P:Program} {ops:Array Oper} {Q:Exit→Act→World→Prop} {md:Region.Mode} {S:World→Prop} {ds:List Nat} {T:Bool × List (List Nat × List Nat)} {oi:Oper} {fuel:Nat} {l:Array Bool} {a:Act} {w:World} (hT:Aside0 (rtab md ops=T)) (i n:Nat) (l':Array Bool) (hi:ops[i]?=some oi) {a':Act} (h:wpAnyLast P md ops Q S ds fuel l' a' w) (ha:a.put (some n) undef=a':=by simp only [Act.put,List.setIfInBounds_toArray,List.set_cons_zero,List.set_cons_succ,i64_w,i32_w];rfl) (hc:anyT T l.toList l'.toList i=true:=by kernel_rfl) (hw:Region.wanted oi (yielded ops a.tmps)=false:=by rfl) (hN:oi.dst=some n:=by rfl) (hQ:∀ c a w,Q (.panic c) (a.put oi.dst undef) w→Q (.panic c) a w:=by exact fun _ _ _ h=>h):wpAnyLast P md ops Q S ds (fuel+1) l a w:=pure_ (i:=i) l' hi hN (any_of hT.out hc) hQ (Or.inr ⟨hw,rfl⟩) ha h
theorem zpa {a b:Act} (h:a=b:=by simp only [Act.put,List.setIfInBounds_toArray,List.set_cons_zero,List.set_cons_succ,i64_w,i32_w];rfl):a=b:=h
theorem zt1 {P:Program} {ops:Array Oper} {Q:Exit→Act→World→Prop} {md:Region.Mode} {S:World→Prop} {ds:List Nat} {T:Bool × List (List Nat × List Nat)} {B:List Nat} {oi:Oper} {v:Value} {fuel:Nat} {l:Array Bool} {a:Act} {w:World} (hT:Aside0 (rtab md ops=T)) (hB:Aside0 (waitsOk T.2 B=true)) (i n:Nat) (l':Array Bool) (hi:ops[i]?=some oi) (hr:∀ w,S w→ (execOp a.eval oi).run P w= .ok (.value v) w) (hS:S w) {a':Act} (ha:a.put (some n) v=a') (h:wpAnyLast P md ops Q S ds fuel l' a' w) (hc:takeW T B ds l.toList l'.toList i=true:=by kernel_rfl) (hw:Region.wanted oi (yielded ops a.tmps)=true:=by rfl) (hN:oi.dst=some n:=by rfl) (hQ:∀ c a w,Q (.panic c) (a.put oi.dst v) w→Q (.panic c) a w:=by exact fun _ _ _ h=>h):wpAnyLast P md ops Q S ds (fuel+1) l a w:=take_ (i:=i) l' hi hN (take_ofW hT.out hB.out hc) hQ (Or.inl ⟨hw,hr⟩) hS ha h
set_option maxHeartbeats 8000000 in
set_option maxRecDepth 100000 in
theorem impl_GoodEdges.calls (k:Nat) (a0:Int) (A1:Option Addr) (c1:Nat) (l1:List (S52)) (r:Bool) (w:World) (hr1:Kd.C k52 w A1 l1.length l1) (hc1:l1.length≤c1) (h:impl_GoodEdges.f k a0 l1=some r):
  Calls Try.prog 34 #[.int .i64 a0,.slice A1 l1.length c1] w fun e w'=>e= .returned (.bool r)∧Below w.heap.size w w':=by
 have hu52:=Try.underlying52
 have HR1:=Aside0.mk hr1
 have HC1:=Aside0.mk hc1
 clear hr1 hc1
 have HB:=Aside0.mk (Below.refl w.heap.size w)
 have H:(impl_GoodEdges.l0 k a0 l1 l1 (l1.length:Int) 0)=some r:=h
 clear h
 have H':=Aside0.mk H
 clear H
 go_enter Try.func34,Try.ntmps34
 go_wp2
 go_loopg [9] k (fun kq v9 w'=> ∃ (x9_1:Int),v9= .int .i64 x9_1∧Aside0 (impl_GoodEdges.l0 kq a0 l1 l1 (l1.length:Int) x9_1=some r)∧Aside0 (kq≤k)∧Aside0 (Below w.heap.size w w'))
 case atStart=>exact⟨(0),zrs,H',⟨Nat.le_refl _⟩,⟨by exact zk1 HB⟩⟩
 case round=>
  clear H'
  try clear c1
  try clear p2
  obtain⟨x9_1,rfl,HA,HK1,HB⟩:=hrel
  cases gk with
  |zero=>exact absurd HA.out (by simp [impl_GoodEdges.l0])
  |succ k1=>
   have H:=HA.out
   clear HA
   simp only [impl_GoodEdges.l0] at H
   by_cases c3:x9_1< (l1.length:Int)
   ·rw [if_pos c3] at H
    have c3b0:decide (x9_1< (l1.length:Int))=true:=decide_eq_true c3
    clear c3
    by_cases c4: 0≤x9_1
    case neg=>exact znn c4 H
    rw [if_pos c4] at H
    have c4b0:decide (0≤x9_1)=true:=decide_eq_true c4
    clear c4
    by_cases c5:x9_1< (l1.length:Int)
    case neg=>exact znn c5 H
    rw [if_pos c5] at H
    have c5b0:decide (x9_1< (l1.length:Int))=true:=decide_eq_true c5
    clear c5
    replace H:=Option.bind_eq_some_iff.mp H
    obtain⟨t144,A60,H⟩:=H
    replace H:(if t144=true then((impl_in.f ((rd_T52 l1 x9_1).f1) 0 (wrap64 (a0 - 1))).bind fun t145=>(if t145=true then(if ((rd_T52 l1 x9_1).f0)≥ ((rd_T52 l1 x9_1).f1) then(some false) else((impl_in.f ((rd_T52 l1 x9_1).f2) 1 100).bind fun t146=>(if t146=true then(if x9_1 > 0 then(if 0≤ (wrap64 (x9_1 - 1)) then(if (wrap64 (x9_1 - 1))< (l1.length:Int) then((impl_byEnds.f ((rd_T52 l1 (wrap64 (x9_1 - 1))).f0) ((rd_T52 l1 (wrap64 (x9_1 - 1))).f1) ((rd_T52 l1 (wrap64 (x9_1 - 1))).f2) ((rd_T52 l1 x9_1).f0) ((rd_T52 l1 x9_1).f1) ((rd_T52 l1 x9_1).f2)).bind fun t148=>(if t148≥0 then(some false) else(impl_GoodEdges.l0 k1 a0 l1 l1 (l1.length:Int) (wrap64 (x9_1+1))))) else(none)) else(none)) else(impl_GoodEdges.l0 k1 a0 l1 l1 (l1.length:Int) (wrap64 (x9_1+1)))) else(some false)))) else(some false))) else(some false))=some r:=H
    have A6:=Aside0.mk A60
    clear A60
    by_cases c7:t144=true
    ·subst c7
     have H1:((impl_in.f ((rd_T52 l1 x9_1).f1) 0 (wrap64 (a0 - 1))).bind fun t145=>(if t145=true then(if ((rd_T52 l1 x9_1).f0)≥ ((rd_T52 l1 x9_1).f1) then(some false) else((impl_in.f ((rd_T52 l1 x9_1).f2) 1 100).bind fun t146=>(if t146=true then(if x9_1 > 0 then(if 0≤ (wrap64 (x9_1 - 1)) then(if (wrap64 (x9_1 - 1))< (l1.length:Int) then((impl_byEnds.f ((rd_T52 l1 (wrap64 (x9_1 - 1))).f0) ((rd_T52 l1 (wrap64 (x9_1 - 1))).f1) ((rd_T52 l1 (wrap64 (x9_1 - 1))).f2) ((rd_T52 l1 x9_1).f0) ((rd_T52 l1 x9_1).f1) ((rd_T52 l1 x9_1).f2)).bind fun t148=>(if t148≥0 then(some false) else(impl_GoodEdges.l0 k1 a0 l1 l1 (l1.length:Int) (wrap64 (x9_1+1))))) else(none)) else(none)) else(impl_GoodEdges.l0 k1 a0 l1 l1 (l1.length:Int) (wrap64 (x9_1+1)))) else(some false)))) else(some false)))=some r:=by rw [if_pos rfl] at H;exact H
     clear H
     have H:=H1
     clear H1
     replace H:=Option.bind_eq_some_iff.mp H
     obtain⟨t145,A80,H⟩:=H
     replace H:(if t145=true then(if ((rd_T52 l1 x9_1).f0)≥ ((rd_T52 l1 x9_1).f1) then(some false) else((impl_in.f ((rd_T52 l1 x9_1).f2) 1 100).bind fun t146=>(if t146=true then(if x9_1 > 0 then(if 0≤ (wrap64 (x9_1 - 1)) then(if (wrap64 (x9_1 - 1))< (l1.length:Int) then((impl_byEnds.f ((rd_T52 l1 (wrap64 (x9_1 - 1))).f0) ((rd_T52 l1 (wrap64 (x9_1 - 1))).f1) ((rd_T52 l1 (wrap64 (x9_1 - 1))).f2) ((rd_T52 l1 x9_1).f0) ((rd_T52 l1 x9_1).f1) ((rd_T52 l1 x9_1).f2)).bind fun t148=>(if t148≥0 then(some false) else(impl_GoodEdges.l0 k1 a0 l1 l1 (l1.length:Int) (wrap64 (x9_1+1))))) else(none)) else(none)) else(impl_GoodEdges.l0 k1 a0 l1 l1 (l1.length:Int) (wrap64 (x9_1+1)))) else(some false)))) else(some false))=some r:=H
     have A8:=Aside0.mk A80
     clear A80
     by_cases c9:t145=true
     ·subst c9
      have H1:(if ((rd_T52 l1 x9_1).f0)≥ ((rd_T52 l1 x9_1).f1) then(some false) else((impl_in.f ((rd_T52 l1 x9_1).f2) 1 100).bind fun t146=>(if t146=true then(if x9_1 > 0 then(if 0≤ (wrap64 (x9_1 - 1)) then(if (wrap64 (x9_1 - 1))< (l1.length:Int) then((impl_byEnds.f ((rd_T52 l1 (wrap64 (x9_1 - 1))).f0) ((rd_T52 l1 (wrap64 (x9_1 - 1))).f1) ((rd_T52 l1 (wrap64 (x9_1 - 1))).f2) ((rd_T52 l1 x9_1).f0) ((rd_T52 l1 x9_1).f1) ((rd_T52 l1 x9_1).f2)).bind fun t148=>(if t148≥0 then(some false) else(impl_GoodEdges.l0 k1 a0 l1 l1 (l1.length:Int) (wrap64 (x9_1+1))))) else(none)) else(none)) else(impl_GoodEdges.l0 k1 a0 l1 l1 (l1.length:Int) (wrap64 (x9_1+1)))) else(some false))))=some r:=by rw [if_pos rfl] at H;exact H
      clear H
      have H:=H1
      clear H1
      by_cases c10:((rd_T52 l1 x9_1).f0)≥ ((rd_T52 l1 x9_1).f1)
      ·rw [if_pos c10] at H
       have c10b0:decide (((rd_T52 l1 x9_1).f1)≤ ((rd_T52 l1 x9_1).f0))=true:=decide_eq_true c10
       clear c10
       obtain rfl:=Option.some.inj H
       have p142: 0≤ (x9_1:Int):=of_decide_eq_true zq1
       have q142:x9_1< (l1.length:Int):=of_decide_eq_true zq1
       obtain⟨ad142,e142,hx142_0,hx142_1,hx142_2⟩:=at_T52 HR1.out x9_1 p142 q142
       cases e142
       replace hx142_0:=zhx HB hx142_0
       replace hx142_1:=zhx HB hx142_1
       replace hx142_2:=zhx HB hx142_2
       replace p142:=eq_true p142
       replace q142:=eq_true q142
       try go_wp2_with (first|((with_reducible refine gate_dst (N:=6) rfl ?_);(try(refine gate_guard (by rfl) ?_;dsimp only));refine box_event ?hg (N:=6) ?hd (cs:= #[.int .i64 0,.int .i64 0,.int .i64 0]) (t:=52) ?hr ?_;(case hd=>rfl);(case hg=>rfl);(case hr=>first|(go_simp;done)|(go_simp;rfl));intro gb143 hg w11 hbox hb;have BK143:=Aside0.mk (hbox);have GW143:=Aside0.mk ((by rw [hg];exact(below_size (by exact zk1 HB)):w.heap.size≤gb143));have GE143:=GW143;replace HB:=Aside0.mk (below_step (by exact zk1 HB) hb);clear hb hbox hg;have hcz12_0:=zcz BK143 0 (.int .i64 0);have hcz12_1:=zcz BK143 1 (.int .i64 0);have hcz12_2:=zcz BK143 2 (.int .i64 0);have hfz12_0:=blk_frozen BK143.out 0;have hfz12_1:=blk_frozen BK143.out 1;have hfz12_2:=blk_frozen BK143.out 2))
       have n0_:Aside0 ((((w11.setCell ⟨gb143,0,none⟩ (.int .i64 ((rd_T52 l1 x9_1).f0))).setCell ⟨gb143,1,none⟩ (.int .i64 ((rd_T52 l1 x9_1).f1))).setCell ⟨gb143,2,none⟩ (.int .i64 ((rd_T52 l1 x9_1).f2))).heap[gb143]?=some (.cells #[.int .i64 ((rd_T52 l1 x9_1).f0),.int .i64 ((rd_T52 l1 x9_1).f1),.int .i64 ((rd_T52 l1 x9_1).f2)] 52 (0,0))):=⟨by(with_reducible repeat(first|refine blk_drewN ?_ _|refine blk_drew ?_ |refine blk_alloc ?_ _));refine blk_put (cs:= #[.int .i64 ((rd_T52 l1 x9_1).f0),.int .i64 ((rd_T52 l1 x9_1).f1),.int .i64 0]) ?_ 2 _ rfl;(with_reducible repeat(first|refine blk_drewN ?_ _|refine blk_drew ?_ |refine blk_alloc ?_ _));refine blk_put (cs:= #[.int .i64 ((rd_T52 l1 x9_1).f0),.int .i64 0,.int .i64 0]) ?_ 1 _ rfl;(with_reducible repeat(first|refine blk_drewN ?_ _|refine blk_drew ?_ |refine blk_alloc ?_ _));refine blk_put (cs:= #[.int .i64 0,.int .i64 0,.int .i64 0]) ?_ 0 _ rfl;(with_reducible repeat(first|refine blk_drewN ?_ _|refine blk_drew ?_ |refine blk_alloc ?_ _));exact BK143.out⟩
       have n1_:Aside0 (Below w.heap.size w (((w11.setCell ⟨gb143,0,none⟩ (.int .i64 ((rd_T52 l1 x9_1).f0))).setCell ⟨gb143,1,none⟩ (.int .i64 ((rd_T52 l1 x9_1).f1))).setCell ⟨gb143,2,none⟩ (.int .i64 ((rd_T52 l1 x9_1).f2)))):=⟨by exact zk2 HB GE143.out⟩
       (try clear BK143)
       (try clear HB)
       (try simp only [show ∀ (W_:World) (n_:Nat) (a_:Addr) (v_:Value),(World.drewN W_ n_).setCell a_ v_= (World.setCell W_ a_ v_).drewN n_ from fun _ _ _ _=>rfl])
       generalize (((w11.setCell ⟨gb143,0,none⟩ (.int .i64 ((rd_T52 l1 x9_1).f0))).setCell ⟨gb143,1,none⟩ (.int .i64 ((rd_T52 l1 x9_1).f1))).setCell ⟨gb143,2,none⟩ (.int .i64 ((rd_T52 l1 x9_1).f2)))=w13 at n0_ n1_ ⊢
       have BK143:=n0_
       have HB:=n1_
       clear n0_ n1_
       replace BK143:=Aside0.mk (blk_drew BK143.out)
       replace HB:=Aside0.mk (below_drew1 HB.out)
       refine start_ (n:=41) (S:=fun w'=>w'.cell? ⟨gb143,0,none⟩=some (.int .i64 ((rd_T52 l1 x9_1).f0))∧w'.cell? ⟨gb143,1,none⟩=some (.int .i64 ((rd_T52 l1 x9_1).f1))∧w'.cell? ⟨gb143,2,none⟩=some (.int .i64 ((rd_T52 l1 x9_1).f2))) (ds:= []) (mb' 41 0) (by kernel_rfl) rfl rfl ⟨(blk_cell BK143.out 0).trans rfl,(blk_cell BK143.out 1).trans rfl,(blk_cell BK143.out 2).trans rfl⟩ (fun hHeld=>?_);refine with_tabW impl_GoodEdges.tab4 impl_GoodEdges.bits4 (fun HT_ HW_=>?_)
       generalize w13.drew=w14 at BK143 HB hHeld ⊢
       refine zp1 HT_ 0 14 (mb' 41 1) rfl ?_
       refine zp1 HT_ 2 16 (mb' 41 5) rfl ?_
       refine zp1 HT_ 3 17 (mb' 41 13) rfl ?_
       refine zt1 HT_ HW_ (v:=?_) (a':=?_) 1 15 (mb' 41 15) rfl ?_ hHeld ?_ ?_;rotate_left;(rintro w' ⟨s0,s1,s2⟩;go_simp;with_reducible rfl);rotate_left;exact zpa
       refine one_ (i:=4) (N:=some 18) (mb' 41 31) rfl rfl (one_of HT_.out (by kernel_rfl)) (by decide) (fun K hK=>?_)
       refine goes_ Try.func54 (by kernel_rfl) rfl #[.int .i64 ((rd_T52 l1 x9_1).f0),.int .i64 0,.int .i64 (wrap64 (a0 - 1))] (by rfl) rfl rfl zq2 ?_
       with_reducible refine(impl_in.calls ((rd_T52 l1 x9_1).f0) 0 (wrap64 (a0 - 1)) true _ A6.out).mono ?_
       rintro e w' ⟨rfl,⟨nd,rfl⟩⟩
       refine⟨_,rfl,?_⟩
       refine hK.out _ _ ⟨(blk_cell BK143.out 0).trans rfl,(blk_cell BK143.out 1).trans rfl,(blk_cell BK143.out 2).trans rfl⟩ (fun hHeld=>?_)
       clear hK K
       refine norm_ (a':=?_) ?_ ?_
       rotate_left
       ·show Act.put _ (some 18) _=_
        simp only [Act.put,List.setIfInBounds_toArray,List.set_cons_zero,List.set_cons_succ,i64_w,i32_w]
        rfl
       refine zp1 HT_ 5 19 (mb' 41 63) rfl ?_
       refine zp1 HT_ 6 20 (mb' 41 127) rfl ?_
       refine zp1 HT_ 7 21 (mb' 41 255) rfl ?_
       refine zp1 HT_ 9 23 (mb' 41 767) rfl ?_
       refine zp1 HT_ 10 24 (mb' 41 1791) rfl ?_
       refine zt1 HT_ HW_ (v:=?_) (a':=?_) 8 22 (mb' 41 2047) rfl ?_ hHeld ?_ ?_;rotate_left;(rintro w' ⟨s0,s1,s2⟩;go_simp;with_reducible rfl);rotate_left;exact zpa
       refine one_ (i:=11) (N:=some 25) (mb' 41 4095) rfl rfl (one_of HT_.out (by kernel_rfl)) (by decide) (fun K hK=>?_)
       refine goes_ Try.func54 (by kernel_rfl) rfl #[.int .i64 ((rd_T52 l1 x9_1).f1),.int .i64 0,.int .i64 (wrap64 (a0 - 1))] (by rfl) rfl rfl zq2 ?_
       with_reducible refine(impl_in.calls ((rd_T52 l1 x9_1).f1) 0 (wrap64 (a0 - 1)) true _ A8.out).mono ?_
       rintro e w' ⟨rfl,⟨nd,rfl⟩⟩
       refine⟨_,rfl,?_⟩
       refine hK.out _ _ ⟨(blk_cell BK143.out 0).trans rfl,(blk_cell BK143.out 1).trans rfl,(blk_cell BK143.out 2).trans rfl⟩ (fun hHeld=>?_)
       clear hK K
       refine norm_ (a':=?_) ?_ ?_
       rotate_left
       ·show Act.put _ (some 25) _=_
        simp only [Act.put,List.setIfInBounds_toArray,List.set_cons_zero,List.set_cons_succ,i64_w,i32_w]
        rfl
       refine zp1 HT_ 12 26 (mb' 41 8191) rfl ?_
       refine zp1 HT_ 13 27 (mb' 41 16383) rfl ?_
       refine zp1 HT_ 14 28 (mb' 41 32767) rfl ?_
       refine zp1 HT_ 15 29 (mb' 41 65535) rfl ?_
       refine zp1 HT_ 17 31 (mb' 41 196607) rfl ?_
       refine zt1 HT_ HW_ (v:=?_) (a':=?_) 16 30 (mb' 41 262143) rfl ?_ hHeld ?_ ?_;rotate_left;(rintro w' ⟨s0,s1,s2⟩;go_simp;with_reducible rfl);rotate_left;exact zpa
       refine zt1 HT_ HW_ (v:=?_) (a':=?_) 18 32 (mb' 41 524287) rfl ?_ hHeld ?_ ?_;rotate_left;(rintro w' ⟨s0,s1,s2⟩;go_simp;with_reducible rfl);rotate_left;exact zpa
       refine zp1 HT_ 19 33 (mb' 41 1048575) rfl ?_
       refine zp1 HT_ 20 34 (mb' 41 2097151) rfl ?_
       refine zp1 HT_ 21 35 (mb' 41 4194303) rfl ?_
       refine zp2 HT_ 22 36 (mb' 41 8388607) rfl ?_
       refine zp2 HT_ 23 37 (mb' 41 16777215) rfl ?_
       refine zp2 HT_ 24 38 (mb' 41 33554431) rfl ?_
       refine zp2 HT_ 25 39 (mb' 41 67108863) rfl ?_
       refine zp1 HT_ 26 40 (mb' 41 134217727) rfl ?_
       refine zp1 HT_ 27 41 (mb' 41 268435455) rfl ?_
       refine zp2 HT_ 28 42 (mb' 41 536870911) rfl ?_
       refine zp2 HT_ 29 43 (mb' 41 1073741823) rfl ?_
       refine zp2 HT_ 30 44 (mb' 41 2147483647) rfl ?_
       refine zp2 HT_ 31 45 (mb' 41 4294967295) rfl ?_
       refine zp2 HT_ 32 46 (mb' 41 8589934591) rfl ?_
       refine zp2 HT_ 33 47 (mb' 41 17179869183) rfl ?_
       refine zp2 HT_ 34 48 (mb' 41 34359738367) rfl ?_
       refine zp2 HT_ 35 49 (mb' 41 68719476735) rfl ?_
       refine zp2 HT_ 36 50 (mb' 41 137438953471) rfl ?_
       refine zp2 HT_ 37 51 (mb' 41 274877906943) rfl ?_
       refine zp2 HT_ 38 52 (mb' 41 549755813887) rfl ?_
       refine zp2 HT_ 39 53 (mb' 41 1099511627775) rfl ?_
       refine zp1 HT_ 40 54 (mb' 41 2199023255551) rfl ?_
       refine done_ (done_of HT_.out (by kernel_rfl)) ?_
       try go_wp2
       go_ret
       exact⟨zer,by exact zk2 HB GE143.out⟩
      ·rw [if_neg c10] at H
       have c10b0:decide (((rd_T52 l1 x9_1).f1)≤ ((rd_T52 l1 x9_1).f0))=false:=decide_eq_false c10
       clear c10
       replace H:=Option.bind_eq_some_iff.mp H
       obtain⟨t146,A150,H⟩:=H
       replace H:(if t146=true then(if x9_1 > 0 then(if 0≤ (wrap64 (x9_1 - 1)) then(if (wrap64 (x9_1 - 1))< (l1.length:Int) then((impl_byEnds.f ((rd_T52 l1 (wrap64 (x9_1 - 1))).f0) ((rd_T52 l1 (wrap64 (x9_1 - 1))).f1) ((rd_T52 l1 (wrap64 (x9_1 - 1))).f2) ((rd_T52 l1 x9_1).f0) ((rd_T52 l1 x9_1).f1) ((rd_T52 l1 x9_1).f2)).bind fun t148=>(if t148≥0 then(some false) else(impl_GoodEdges.l0 k1 a0 l1 l1 (l1.length:Int) (wrap64 (x9_1+1))))) else(none)) else(none)) else(impl_GoodEdges.l0 k1 a0 l1 l1 (l1.length:Int) (wrap64 (x9_1+1)))) else(some false))=some r:=H
       have A15:=Aside0.mk A150
       clear A150
       by_cases c16:t146=true
       ·subst c16
        have H1:(if x9_1 > 0 then(if 0≤ (wrap64 (x9_1 - 1)) then(if (wrap64 (x9_1 - 1))< (l1.length:Int) then((impl_byEnds.f ((rd_T52 l1 (wrap64 (x9_1 - 1))).f0) ((rd_T52 l1 (wrap64 (x9_1 - 1))).f1) ((rd_T52 l1 (wrap64 (x9_1 - 1))).f2) ((rd_T52 l1 x9_1).f0) ((rd_T52 l1 x9_1).f1) ((rd_T52 l1 x9_1).f2)).bind fun t148=>(if t148≥0 then(some false) else(impl_GoodEdges.l0 k1 a0 l1 l1 (l1.length:Int) (wrap64 (x9_1+1))))) else(none)) else(none)) else(impl_GoodEdges.l0 k1 a0 l1 l1 (l1.length:Int) (wrap64 (x9_1+1))))=some r:=by rw [if_pos rfl] at H;exact H
        clear H
        have H:=H1
        clear H1
        by_cases c17:x9_1 > 0
        ·rw [if_pos c17] at H
         have c17b0:decide (0<x9_1)=true:=decide_eq_true c17
         clear c17
         obtain⟨ji18,hji18⟩ :∃ j_:Int,(wrap64 (x9_1 - 1))=j_:=⟨_,rfl⟩
         replace H:(if 0≤ (ji18) then(if (ji18)< (l1.length:Int) then((impl_byEnds.f ((rd_T52 l1 (ji18)).f0) ((rd_T52 l1 (ji18)).f1) ((rd_T52 l1 (ji18)).f2) ((rd_T52 l1 x9_1).f0) ((rd_T52 l1 x9_1).f1) ((rd_T52 l1 x9_1).f2)).bind fun t148=>(if t148≥0 then(some false) else(impl_GoodEdges.l0 k1 a0 l1 l1 (l1.length:Int) (wrap64 (x9_1+1))))) else(none)) else(none))=some r:=by first|(rw [hji18] at H;exact H)|(simp only [hji18] at H ⊢;exact H)
         (try rw [hji18] at A6)
         (try rw [hji18] at A8)
         (try rw [hji18] at A15)
         have hji18w:(IntKind.i64.wrap (x9_1 - 1))=ji18:=(i64_w _).trans hji18
         by_cases c19: 0≤ (ji18)
         case neg=>exact znn c19 H
         rw [if_pos c19] at H
         have c19b0:decide (0≤ (ji18))=true:=decide_eq_true c19
         clear c19
         by_cases c20:(ji18)< (l1.length:Int)
         case neg=>exact znn c20 H
         rw [if_pos c20] at H
         have c20b0:decide ((ji18)< (l1.length:Int))=true:=decide_eq_true c20
         clear c20
         replace H:=Option.bind_eq_some_iff.mp H
         obtain⟨t148,A210,H⟩:=H
         replace H:(if t148≥0 then(some false) else(impl_GoodEdges.l0 k1 a0 l1 l1 (l1.length:Int) (wrap64 (x9_1+1))))=some r:=H
         have A21:=Aside0.mk A210
         clear A210
         by_cases c22:t148≥0
         ·rw [if_pos c22] at H
          have c22b0:decide (0≤t148)=true:=decide_eq_true c22
          clear c22
          obtain rfl:=Option.some.inj H
          have p142: 0≤ (x9_1:Int):=of_decide_eq_true zq1
          have q142:x9_1< (l1.length:Int):=of_decide_eq_true zq1
          obtain⟨ad142,e142,hx142_0,hx142_1,hx142_2⟩:=at_T52 HR1.out x9_1 p142 q142
          cases e142
          replace hx142_0:=zhx HB hx142_0
          replace hx142_1:=zhx HB hx142_1
          replace hx142_2:=zhx HB hx142_2
          replace p142:=eq_true p142
          replace q142:=eq_true q142
          try go_wp2_with (first|((with_reducible refine gate_dst (N:=6) rfl ?_);(try(refine gate_guard (by rfl) ?_;dsimp only));refine box_event ?hg (N:=6) ?hd (cs:= #[.int .i64 0,.int .i64 0,.int .i64 0]) (t:=52) ?hr ?_;(case hd=>rfl);(case hg=>rfl);(case hr=>first|(go_simp;done)|(go_simp;rfl));intro gb143 hg w23 hbox hb;have BK143:=Aside0.mk (hbox);have GW143:=Aside0.mk ((by rw [hg];exact(below_size (by exact zk1 HB)):w.heap.size≤gb143));have GE143:=GW143;replace HB:=Aside0.mk (below_step (by exact zk1 HB) hb);clear hb hbox hg;have hcz24_0:=zcz BK143 0 (.int .i64 0);have hcz24_1:=zcz BK143 1 (.int .i64 0);have hcz24_2:=zcz BK143 2 (.int .i64 0);have hfz24_0:=blk_frozen BK143.out 0;have hfz24_1:=blk_frozen BK143.out 1;have hfz24_2:=blk_frozen BK143.out 2))
          have n0_:Aside0 ((((w23.setCell ⟨gb143,0,none⟩ (.int .i64 ((rd_T52 l1 x9_1).f0))).setCell ⟨gb143,1,none⟩ (.int .i64 ((rd_T52 l1 x9_1).f1))).setCell ⟨gb143,2,none⟩ (.int .i64 ((rd_T52 l1 x9_1).f2))).heap[gb143]?=some (.cells #[.int .i64 ((rd_T52 l1 x9_1).f0),.int .i64 ((rd_T52 l1 x9_1).f1),.int .i64 ((rd_T52 l1 x9_1).f2)] 52 (0,0))):=⟨by(with_reducible repeat(first|refine blk_drewN ?_ _|refine blk_drew ?_ |refine blk_alloc ?_ _));refine blk_put (cs:= #[.int .i64 ((rd_T52 l1 x9_1).f0),.int .i64 ((rd_T52 l1 x9_1).f1),.int .i64 0]) ?_ 2 _ rfl;(with_reducible repeat(first|refine blk_drewN ?_ _|refine blk_drew ?_ |refine blk_alloc ?_ _));refine blk_put (cs:= #[.int .i64 ((rd_T52 l1 x9_1).f0),.int .i64 0,.int .i64 0]) ?_ 1 _ rfl;(with_reducible repeat(first|refine blk_drewN ?_ _|refine blk_drew ?_ |refine blk_alloc ?_ _));refine blk_put (cs:= #[.int .i64 0,.int .i64 0,.int .i64 0]) ?_ 0 _ rfl;(with_reducible repeat(first|refine blk_drewN ?_ _|refine blk_drew ?_ |refine blk_alloc ?_ _));exact BK143.out⟩
          have n1_:Aside0 (Below w.heap.size w (((w23.setCell ⟨gb143,0,none⟩ (.int .i64 ((rd_T52 l1 x9_1).f0))).setCell ⟨gb143,1,none⟩ (.int .i64 ((rd_T52 l1 x9_1).f1))).setCell ⟨gb143,2,none⟩ (.int .i64 ((rd_T52 l1 x9_1).f2)))):=⟨by exact zk2 HB GE143.out⟩
          (try clear BK143)
          (try clear HB)
          (try simp only [show ∀ (W_:World) (n_:Nat) (a_:Addr) (v_:Value),(World.drewN W_ n_).setCell a_ v_= (World.setCell W_ a_ v_).drewN n_ from fun _ _ _ _=>rfl])
          generalize (((w23.setCell ⟨gb143,0,none⟩ (.int .i64 ((rd_T52 l1 x9_1).f0))).setCell ⟨gb143,1,none⟩ (.int .i64 ((rd_T52 l1 x9_1).f1))).setCell ⟨gb143,2,none⟩ (.int .i64 ((rd_T52 l1 x9_1).f2)))=w25 at n0_ n1_ ⊢
          have BK143:=n0_
          have HB:=n1_
          clear n0_ n1_
          replace BK143:=Aside0.mk (blk_drew BK143.out)
          replace HB:=Aside0.mk (below_drew1 HB.out)
          have p147: 0≤ ((ji18):Int):=of_decide_eq_true zq1
          have q147:(ji18)< (l1.length:Int):=of_decide_eq_true zq1
          obtain⟨ad147,e147,hx147_0,hx147_1,hx147_2⟩:=at_T52 HR1.out (ji18) p147 q147
          have hw147_2:=hx147_2
          have hw147_1:=hx147_1
          have hw147_0:=hx147_0
          obtain rfl:ad142=ad147:=(by injection e147)
          replace hx147_0:=zhx HB hx147_0
          replace hx147_1:=zhx HB hx147_1
          replace hx147_2:=zhx HB hx147_2
          replace p147:=eq_true p147
          replace q147:=eq_true q147
          refine start_ (n:=41) (S:=fun w'=>w'.cell? ⟨gb143,0,none⟩=some (.int .i64 ((rd_T52 l1 x9_1).f0))∧w'.cell? ⟨gb143,1,none⟩=some (.int .i64 ((rd_T52 l1 x9_1).f1))∧w'.cell? ⟨gb143,2,none⟩=some (.int .i64 ((rd_T52 l1 x9_1).f2))∧w'.cell? (ad142.add (((ji18)).toNat * 3))=some (.int .i64 ((rd_T52 l1 (ji18)).f0))∧w'.cell? ⟨(ad142.add (((ji18)).toNat * 3)).block,(ad142.add (((ji18)).toNat * 3)).off+1,none⟩=some (.int .i64 ((rd_T52 l1 (ji18)).f1))∧w'.cell? ⟨(ad142.add (((ji18)).toNat * 3)).block,(ad142.add (((ji18)).toNat * 3)).off+2,none⟩=some (.int .i64 ((rd_T52 l1 (ji18)).f2))) (ds:= []) (mb' 41 0) (by kernel_rfl) rfl rfl ⟨(blk_cell BK143.out 0).trans rfl,(blk_cell BK143.out 1).trans rfl,(blk_cell BK143.out 2).trans rfl,((zhx HB hw147_0).trans rfl),((zhx HB hw147_1).trans rfl),((zhx HB hw147_2).trans rfl)⟩ (fun hHeld=>?_);refine with_tabW impl_GoodEdges.tab4 impl_GoodEdges.bits4 (fun HT_ HW_=>?_)
          generalize w25.drew=w26 at BK143 HB hx147_0 hx147_1 hx147_2 hHeld ⊢
          refine zp1 HT_ 0 14 (mb' 41 1) rfl ?_
          refine zp1 HT_ 2 16 (mb' 41 5) rfl ?_
          refine zp1 HT_ 3 17 (mb' 41 13) rfl ?_
          refine zt1 HT_ HW_ (v:=?_) (a':=?_) 1 15 (mb' 41 15) rfl ?_ hHeld ?_ ?_;rotate_left;(rintro w' ⟨s0,s1,s2,s3,s4,s5⟩;go_simp;with_reducible rfl);rotate_left;exact zpa
          refine one_ (i:=4) (N:=some 18) (mb' 41 31) rfl rfl (one_of HT_.out (by kernel_rfl)) (by decide) (fun K hK=>?_)
          refine goes_ Try.func54 (by kernel_rfl) rfl #[.int .i64 ((rd_T52 l1 x9_1).f0),.int .i64 0,.int .i64 (wrap64 (a0 - 1))] (by rfl) rfl rfl zq2 ?_
          with_reducible refine(impl_in.calls ((rd_T52 l1 x9_1).f0) 0 (wrap64 (a0 - 1)) true _ A6.out).mono ?_
          rintro e w' ⟨rfl,⟨nd,rfl⟩⟩
          refine⟨_,rfl,?_⟩
          refine hK.out _ _ ⟨(blk_cell BK143.out 0).trans rfl,(blk_cell BK143.out 1).trans rfl,(blk_cell BK143.out 2).trans rfl,((zhx HB hw147_0).trans rfl),((zhx HB hw147_1).trans rfl),((zhx HB hw147_2).trans rfl)⟩ (fun hHeld=>?_)
          clear hK K
          refine norm_ (a':=?_) ?_ ?_
          rotate_left
          ·show Act.put _ (some 18) _=_
           simp only [Act.put,List.setIfInBounds_toArray,List.set_cons_zero,List.set_cons_succ,i64_w,i32_w]
           rfl
          refine zp1 HT_ 5 19 (mb' 41 63) rfl ?_
          refine zp1 HT_ 6 20 (mb' 41 127) rfl ?_
          refine zp1 HT_ 7 21 (mb' 41 255) rfl ?_
          refine zp1 HT_ 9 23 (mb' 41 767) rfl ?_
          refine zp1 HT_ 10 24 (mb' 41 1791) rfl ?_
          refine zt1 HT_ HW_ (v:=?_) (a':=?_) 8 22 (mb' 41 2047) rfl ?_ hHeld ?_ ?_;rotate_left;(rintro w' ⟨s0,s1,s2,s3,s4,s5⟩;go_simp;with_reducible rfl);rotate_left;exact zpa
          refine one_ (i:=11) (N:=some 25) (mb' 41 4095) rfl rfl (one_of HT_.out (by kernel_rfl)) (by decide) (fun K hK=>?_)
          refine goes_ Try.func54 (by kernel_rfl) rfl #[.int .i64 ((rd_T52 l1 x9_1).f1),.int .i64 0,.int .i64 (wrap64 (a0 - 1))] (by rfl) rfl rfl zq2 ?_
          with_reducible refine(impl_in.calls ((rd_T52 l1 x9_1).f1) 0 (wrap64 (a0 - 1)) true _ A8.out).mono ?_
          rintro e w' ⟨rfl,⟨nd,rfl⟩⟩
          refine⟨_,rfl,?_⟩
          refine hK.out _ _ ⟨(blk_cell BK143.out 0).trans rfl,(blk_cell BK143.out 1).trans rfl,(blk_cell BK143.out 2).trans rfl,((zhx HB hw147_0).trans rfl),((zhx HB hw147_1).trans rfl),((zhx HB hw147_2).trans rfl)⟩ (fun hHeld=>?_)
          clear hK K
          refine norm_ (a':=?_) ?_ ?_
          rotate_left
          ·show Act.put _ (some 25) _=_
           simp only [Act.put,List.setIfInBounds_toArray,List.set_cons_zero,List.set_cons_succ,i64_w,i32_w]
           rfl
          refine zp1 HT_ 12 26 (mb' 41 8191) rfl ?_
          refine zp1 HT_ 13 27 (mb' 41 16383) rfl ?_
          refine zp1 HT_ 14 28 (mb' 41 32767) rfl ?_
          refine zp1 HT_ 15 29 (mb' 41 65535) rfl ?_
          refine zp1 HT_ 17 31 (mb' 41 196607) rfl ?_
          refine zt1 HT_ HW_ (v:=?_) (a':=?_) 16 30 (mb' 41 262143) rfl ?_ hHeld ?_ ?_;rotate_left;(rintro w' ⟨s0,s1,s2,s3,s4,s5⟩;go_simp;with_reducible rfl);rotate_left;exact zpa
          refine zt1 HT_ HW_ (v:=?_) (a':=?_) 18 32 (mb' 41 524287) rfl ?_ hHeld ?_ ?_;rotate_left;(rintro w' ⟨s0,s1,s2,s3,s4,s5⟩;go_simp;with_reducible rfl);rotate_left;exact zpa
          refine zp1 HT_ 19 33 (mb' 41 1048575) rfl ?_
          refine zp1 HT_ 20 34 (mb' 41 2097151) rfl ?_
          refine zp1 HT_ 21 35 (mb' 41 4194303) rfl ?_
          refine zp1 HT_ 22 36 (mb' 41 8388607) rfl ?_
          refine zt1 HT_ HW_ (v:=?_) (a':=?_) 23 37 (mb' 41 16777215) rfl ?_ hHeld ?_ ?_;rotate_left;(rintro w' ⟨s0,s1,s2,s3,s4,s5⟩;go_simp;with_reducible rfl);rotate_left;exact zpa
          refine one_ (i:=24) (N:=some 38) (mb' 41 33554431) rfl rfl (one_of HT_.out (by kernel_rfl)) (by decide) (fun K hK=>?_)
          refine goes_ Try.func54 (by kernel_rfl) rfl #[.int .i64 ((rd_T52 l1 x9_1).f2),.int .i64 1,.int .i64 100] (by rfl) rfl rfl zq2 ?_
          with_reducible refine(impl_in.calls ((rd_T52 l1 x9_1).f2) 1 100 true _ A15.out).mono ?_
          rintro e w' ⟨rfl,⟨nd,rfl⟩⟩
          refine⟨_,rfl,?_⟩
          refine hK.out _ _ ⟨(blk_cell BK143.out 0).trans rfl,(blk_cell BK143.out 1).trans rfl,(blk_cell BK143.out 2).trans rfl,((zhx HB hw147_0).trans rfl),((zhx HB hw147_1).trans rfl),((zhx HB hw147_2).trans rfl)⟩ (fun hHeld=>?_)
          clear hK K
          refine norm_ (a':=?_) ?_ ?_
          rotate_left
          ·show Act.put _ (some 38) _=_
           simp only [Act.put,List.setIfInBounds_toArray,List.set_cons_zero,List.set_cons_succ,i64_w,i32_w]
           rfl
          refine zp1 HT_ 25 39 (mb' 41 67108863) rfl ?_
          refine zp1 HT_ 26 40 (mb' 41 134217727) rfl ?_
          refine zp1 HT_ 27 41 (mb' 41 268435455) rfl ?_
          refine zp1 HT_ 28 42 (mb' 41 536870911) rfl ?_
          refine zp1 HT_ 29 43 (mb' 41 1073741823) rfl ?_
          refine zp1 HT_ 30 44 (mb' 41 2147483647) rfl ?_
          refine zp1 HT_ 31 45 (mb' 41 4294967295) rfl ?_
          refine zp1 HT_ 32 46 (mb' 41 8589934591) rfl ?_
          refine zp1 HT_ 33 47 (mb' 41 17179869183) rfl ?_
          refine zp1 HT_ 34 48 (mb' 41 34359738367) rfl ?_
          refine zt1 HT_ HW_ (v:=?_) (a':=?_) 35 49 (mb' 41 68719476735) rfl ?_ hHeld ?_ ?_;rotate_left;(rintro w' ⟨s0,s1,s2,s3,s4,s5⟩;go_simp;with_reducible rfl);rotate_left;exact zpa
          refine zt1 HT_ HW_ (v:=?_) (a':=?_) 36 50 (mb' 41 137438953471) rfl ?_ hHeld ?_ ?_;rotate_left;(rintro w' ⟨s0,s1,s2,s3,s4,s5⟩;go_simp;with_reducible rfl);rotate_left;exact zpa
          refine one_ (i:=37) (N:=some 51) (mb' 41 274877906943) rfl rfl (one_of HT_.out (by kernel_rfl)) (by decide) (fun K hK=>?_)
          refine goes_ Try.func60 (by kernel_rfl) rfl #[.agg #[.int .i64 ((rd_T52 l1 (ji18)).f0),.int .i64 ((rd_T52 l1 (ji18)).f1),.int .i64 ((rd_T52 l1 (ji18)).f2)],.agg #[.int .i64 ((rd_T52 l1 x9_1).f0),.int .i64 ((rd_T52 l1 x9_1).f1),.int .i64 ((rd_T52 l1 x9_1).f2)]] (by rfl) rfl rfl (by(try simp only [List.map_toArray,List.map_cons,List.map_nil]);first|done|(simp only [hji18];rfl)|rfl|(simp only [List.length_drop,List.length_take];rfl)) ?_
          with_reducible refine(impl_byEnds.calls ((rd_T52 l1 (ji18)).f0) ((rd_T52 l1 (ji18)).f1) ((rd_T52 l1 (ji18)).f2) ((rd_T52 l1 x9_1).f0) ((rd_T52 l1 x9_1).f1) ((rd_T52 l1 x9_1).f2) t148 _ A21.out).mono ?_
          rintro e w27 ⟨rfl,hb⟩
          refine⟨_,rfl,?_⟩
          replace BK143:=Aside0.mk (blk_below (g:=gb143) (o:= .cells #[.int .i64 ((rd_T52 l1 x9_1).f0),.int .i64 ((rd_T52 l1 x9_1).f1),.int .i64 ((rd_T52 l1 x9_1).f2)] 52 (0,0)) (zq3 BK143) hb)
          replace HB:=Aside0.mk (below_step (by exact zk2 HB GE143.out) hb)
          (try clear hb)
          (try clear hb2)
          (try clear hk)
          (try clear hi)
          refine hK.out _ _ ⟨(blk_cell BK143.out 0).trans rfl,(blk_cell BK143.out 1).trans rfl,(blk_cell BK143.out 2).trans rfl,((zhx HB hw147_0).trans rfl),((zhx HB hw147_1).trans rfl),((zhx HB hw147_2).trans rfl)⟩ (fun hHeld=>?_)
          clear hK K
          refine norm_ (a':=?_) ?_ ?_
          rotate_left
          ·show Act.put _ (some 51) _=_
           simp only [Act.put,List.setIfInBounds_toArray,List.set_cons_zero,List.set_cons_succ,i64_w,i32_w]
           rfl
          refine zp1 HT_ 38 52 (mb' 41 549755813887) rfl ?_
          refine zp1 HT_ 39 53 (mb' 41 1099511627775) rfl ?_
          refine zp1 HT_ 40 54 (mb' 41 2199023255551) rfl ?_
          refine done_ (done_of HT_.out (by kernel_rfl)) ?_
          try go_wp2
          go_ret
          exact⟨by first|rfl|(simp [errW_none,errW_some]<;>rfl)|(simp only [← hji18];first|rfl|(simp [errW_none,errW_some]<;>rfl))|(simp [*,errW_none,errW_some]<;>rfl),by exact zk2 HB GE143.out⟩
         ·rw [if_neg c22] at H
          have c22b0:decide (0≤t148)=false:=decide_eq_false c22
          clear c22
          have H':=Aside0.mk H
          clear H
          have p142: 0≤ (x9_1:Int):=of_decide_eq_true zq1
          have q142:x9_1< (l1.length:Int):=of_decide_eq_true zq1
          obtain⟨ad142,e142,hx142_0,hx142_1,hx142_2⟩:=at_T52 HR1.out x9_1 p142 q142
          cases e142
          replace hx142_0:=zhx HB hx142_0
          replace hx142_1:=zhx HB hx142_1
          replace hx142_2:=zhx HB hx142_2
          replace p142:=eq_true p142
          replace q142:=eq_true q142
          try go_wp2_with (first|((with_reducible refine gate_dst (N:=6) rfl ?_);(try(refine gate_guard (by rfl) ?_;dsimp only));refine box_event ?hg (N:=6) ?hd (cs:= #[.int .i64 0,.int .i64 0,.int .i64 0]) (t:=52) ?hr ?_;(case hd=>rfl);(case hg=>rfl);(case hr=>first|(go_simp;done)|(go_simp;rfl));intro gb143 hg w28 hbox hb;have BK143:=Aside0.mk (hbox);have GW143:=Aside0.mk ((by rw [hg];exact(below_size (by exact zk1 HB)):w.heap.size≤gb143));have GE143:=GW143;replace HB:=Aside0.mk (below_step (by exact zk1 HB) hb);clear hb hbox hg;have hcz29_0:=zcz BK143 0 (.int .i64 0);have hcz29_1:=zcz BK143 1 (.int .i64 0);have hcz29_2:=zcz BK143 2 (.int .i64 0);have hfz29_0:=blk_frozen BK143.out 0;have hfz29_1:=blk_frozen BK143.out 1;have hfz29_2:=blk_frozen BK143.out 2))
          have n0_:Aside0 ((((w28.setCell ⟨gb143,0,none⟩ (.int .i64 ((rd_T52 l1 x9_1).f0))).setCell ⟨gb143,1,none⟩ (.int .i64 ((rd_T52 l1 x9_1).f1))).setCell ⟨gb143,2,none⟩ (.int .i64 ((rd_T52 l1 x9_1).f2))).heap[gb143]?=some (.cells #[.int .i64 ((rd_T52 l1 x9_1).f0),.int .i64 ((rd_T52 l1 x9_1).f1),.int .i64 ((rd_T52 l1 x9_1).f2)] 52 (0,0))):=⟨by(with_reducible repeat(first|refine blk_drewN ?_ _|refine blk_drew ?_ |refine blk_alloc ?_ _));refine blk_put (cs:= #[.int .i64 ((rd_T52 l1 x9_1).f0),.int .i64 ((rd_T52 l1 x9_1).f1),.int .i64 0]) ?_ 2 _ rfl;(with_reducible repeat(first|refine blk_drewN ?_ _|refine blk_drew ?_ |refine blk_alloc ?_ _));refine blk_put (cs:= #[.int .i64 ((rd_T52 l1 x9_1).f0),.int .i64 0,.int .i64 0]) ?_ 1 _ rfl;(with_reducible repeat(first|refine blk_drewN ?_ _|refine blk_drew ?_ |refine blk_alloc ?_ _));refine blk_put (cs:= #[.int .i64 0,.int .i64 0,.int .i64 0]) ?_ 0 _ rfl;(with_reducible repeat(first|refine blk_drewN ?_ _|refine blk_drew ?_ |refine blk_alloc ?_ _));exact BK143.out⟩
          have n1_:Aside0 (Below w.heap.size w (((w28.setCell ⟨gb143,0,none⟩ (.int .i64 ((rd_T52 l1 x9_1).f0))).setCell ⟨gb143,1,none⟩ (.int .i64 ((rd_T52 l1 x9_1).f1))).setCell ⟨gb143,2,none⟩ (.int .i64 ((rd_T52 l1 x9_1).f2)))):=⟨by exact zk2 HB GE143.out⟩
          (try clear BK143)
          (try clear HB)
          (try simp only [show ∀ (W_:World) (n_:Nat) (a_:Addr) (v_:Value),(World.drewN W_ n_).setCell a_ v_= (World.setCell W_ a_ v_).drewN n_ from fun _ _ _ _=>rfl])
          generalize (((w28.setCell ⟨gb143,0,none⟩ (.int .i64 ((rd_T52 l1 x9_1).f0))).setCell ⟨gb143,1,none⟩ (.int .i64 ((rd_T52 l1 x9_1).f1))).setCell ⟨gb143,2,none⟩ (.int .i64 ((rd_T52 l1 x9_1).f2)))=w30 at n0_ n1_ ⊢
          have BK143:=n0_
          have HB:=n1_
          clear n0_ n1_
          replace BK143:=Aside0.mk (blk_drew BK143.out)
          replace HB:=Aside0.mk (below_drew1 HB.out)
          have p147: 0≤ ((ji18):Int):=of_decide_eq_true zq1
          have q147:(ji18)< (l1.length:Int):=of_decide_eq_true zq1
          obtain⟨ad147,e147,hx147_0,hx147_1,hx147_2⟩:=at_T52 HR1.out (ji18) p147 q147
          have hw147_2:=hx147_2
          have hw147_1:=hx147_1
          have hw147_0:=hx147_0
          obtain rfl:ad142=ad147:=(by injection e147)
          replace hx147_0:=zhx HB hx147_0
          replace hx147_1:=zhx HB hx147_1
          replace hx147_2:=zhx HB hx147_2
          replace p147:=eq_true p147
          replace q147:=eq_true q147
          refine start_ (n:=41) (S:=fun w'=>w'.cell? ⟨gb143,0,none⟩=some (.int .i64 ((rd_T52 l1 x9_1).f0))∧w'.cell? ⟨gb143,1,none⟩=some (.int .i64 ((rd_T52 l1 x9_1).f1))∧w'.cell? ⟨gb143,2,none⟩=some (.int .i64 ((rd_T52 l1 x9_1).f2))∧w'.cell? (ad142.add (((ji18)).toNat * 3))=some (.int .i64 ((rd_T52 l1 (ji18)).f0))∧w'.cell? ⟨(ad142.add (((ji18)).toNat * 3)).block,(ad142.add (((ji18)).toNat * 3)).off+1,none⟩=some (.int .i64 ((rd_T52 l1 (ji18)).f1))∧w'.cell? ⟨(ad142.add (((ji18)).toNat * 3)).block,(ad142.add (((ji18)).toNat * 3)).off+2,none⟩=some (.int .i64 ((rd_T52 l1 (ji18)).f2))) (ds:= []) (mb' 41 0) (by kernel_rfl) rfl rfl ⟨(blk_cell BK143.out 0).trans rfl,(blk_cell BK143.out 1).trans rfl,(blk_cell BK143.out 2).trans rfl,((zhx HB hw147_0).trans rfl),((zhx HB hw147_1).trans rfl),((zhx HB hw147_2).trans rfl)⟩ (fun hHeld=>?_);refine with_tabW impl_GoodEdges.tab4 impl_GoodEdges.bits4 (fun HT_ HW_=>?_)
          generalize w30.drew=w31 at BK143 HB hx147_0 hx147_1 hx147_2 hHeld ⊢
          refine zp1 HT_ 0 14 (mb' 41 1) rfl ?_
          refine zp1 HT_ 2 16 (mb' 41 5) rfl ?_
          refine zp1 HT_ 3 17 (mb' 41 13) rfl ?_
          refine zt1 HT_ HW_ (v:=?_) (a':=?_) 1 15 (mb' 41 15) rfl ?_ hHeld ?_ ?_;rotate_left;(rintro w' ⟨s0,s1,s2,s3,s4,s5⟩;go_simp;with_reducible rfl);rotate_left;exact zpa
          refine one_ (i:=4) (N:=some 18) (mb' 41 31) rfl rfl (one_of HT_.out (by kernel_rfl)) (by decide) (fun K hK=>?_)
          refine goes_ Try.func54 (by kernel_rfl) rfl #[.int .i64 ((rd_T52 l1 x9_1).f0),.int .i64 0,.int .i64 (wrap64 (a0 - 1))] (by rfl) rfl rfl zq2 ?_
          with_reducible refine(impl_in.calls ((rd_T52 l1 x9_1).f0) 0 (wrap64 (a0 - 1)) true _ A6.out).mono ?_
          rintro e w' ⟨rfl,⟨nd,rfl⟩⟩
          refine⟨_,rfl,?_⟩
          refine hK.out _ _ ⟨(blk_cell BK143.out 0).trans rfl,(blk_cell BK143.out 1).trans rfl,(blk_cell BK143.out 2).trans rfl,((zhx HB hw147_0).trans rfl),((zhx HB hw147_1).trans rfl),((zhx HB hw147_2).trans rfl)⟩ (fun hHeld=>?_)
          clear hK K
          refine norm_ (a':=?_) ?_ ?_
          rotate_left
          ·show Act.put _ (some 18) _=_
           simp only [Act.put,List.setIfInBounds_toArray,List.set_cons_zero,List.set_cons_succ,i64_w,i32_w]
           rfl
          refine zp1 HT_ 5 19 (mb' 41 63) rfl ?_
          refine zp1 HT_ 6 20 (mb' 41 127) rfl ?_
          refine zp1 HT_ 7 21 (mb' 41 255) rfl ?_
          refine zp1 HT_ 9 23 (mb' 41 767) rfl ?_
          refine zp1 HT_ 10 24 (mb' 41 1791) rfl ?_
          refine zt1 HT_ HW_ (v:=?_) (a':=?_) 8 22 (mb' 41 2047) rfl ?_ hHeld ?_ ?_;rotate_left;(rintro w' ⟨s0,s1,s2,s3,s4,s5⟩;go_simp;with_reducible rfl);rotate_left;exact zpa
          refine one_ (i:=11) (N:=some 25) (mb' 41 4095) rfl rfl (one_of HT_.out (by kernel_rfl)) (by decide) (fun K hK=>?_)
          refine goes_ Try.func54 (by kernel_rfl) rfl #[.int .i64 ((rd_T52 l1 x9_1).f1),.int .i64 0,.int .i64 (wrap64 (a0 - 1))] (by rfl) rfl rfl zq2 ?_
          with_reducible refine(impl_in.calls ((rd_T52 l1 x9_1).f1) 0 (wrap64 (a0 - 1)) true _ A8.out).mono ?_
          rintro e w' ⟨rfl,⟨nd,rfl⟩⟩
          refine⟨_,rfl,?_⟩
          refine hK.out _ _ ⟨(blk_cell BK143.out 0).trans rfl,(blk_cell BK143.out 1).trans rfl,(blk_cell BK143.out 2).trans rfl,((zhx HB hw147_0).trans rfl),((zhx HB hw147_1).trans rfl),((zhx HB hw147_2).trans rfl)⟩ (fun hHeld=>?_)
          clear hK K
          refine norm_ (a':=?_) ?_ ?_
          rotate_left
          ·show Act.put _ (some 25) _=_
           simp only [Act.put,List.setIfInBounds_toArray,List.set_cons_zero,List.set_cons_succ,i64_w,i32_w]
           rfl
          refine zp1 HT_ 12 26 (mb' 41 8191) rfl ?_
          refine zp1 HT_ 13 27 (mb' 41 16383) rfl ?_
          refine zp1 HT_ 14 28 (mb' 41 32767) rfl ?_
          refine zp1 HT_ 15 29 (mb' 41 65535) rfl ?_
          refine zp1 HT_ 17 31 (mb' 41 196607) rfl ?_
          refine zt1 HT_ HW_ (v:=?_) (a':=?_) 16 30 (mb' 41 262143) rfl ?_ hHeld ?_ ?_;rotate_left;(rintro w' ⟨s0,s1,s2,s3,s4,s5⟩;go_simp;with_reducible rfl);rotate_left;exact zpa
          refine zt1 HT_ HW_ (v:=?_) (a':=?_) 18 32 (mb' 41 524287) rfl ?_ hHeld ?_ ?_;rotate_left;(rintro w' ⟨s0,s1,s2,s3,s4,s5⟩;go_simp;with_reducible rfl);rotate_left;exact zpa
          refine zp1 HT_ 19 33 (mb' 41 1048575) rfl ?_
          refine zp1 HT_ 20 34 (mb' 41 2097151) rfl ?_
          refine zp1 HT_ 21 35 (mb' 41 4194303) rfl ?_
          refine zp1 HT_ 22 36 (mb' 41 8388607) rfl ?_
          refine zt1 HT_ HW_ (v:=?_) (a':=?_) 23 37 (mb' 41 16777215) rfl ?_ hHeld ?_ ?_;rotate_left;(rintro w' ⟨s0,s1,s2,s3,s4,s5⟩;go_simp;with_reducible rfl);rotate_left;exact zpa
          refine one_ (i:=24) (N:=some 38) (mb' 41 33554431) rfl rfl (one_of HT_.out (by kernel_rfl)) (by decide) (fun K hK=>?_)
          refine goes_ Try.func54 (by kernel_rfl) rfl #[.int .i64 ((rd_T52 l1 x9_1).f2),.int .i64 1,.int .i64 100] (by rfl) rfl rfl zq2 ?_
          with_reducible refine(impl_in.calls ((rd_T52 l1 x9_1).f2) 1 100 true _ A15.out).mono ?_
          rintro e w' ⟨rfl,⟨nd,rfl⟩⟩
          refine⟨_,rfl,?_⟩
          refine hK.out _ _ ⟨(blk_cell BK143.out 0).trans rfl,(blk_cell BK143.out 1).trans rfl,(blk_cell BK143.out 2).trans rfl,((zhx HB hw147_0).trans rfl),((zhx HB hw147_1).trans rfl),((zhx HB hw147_2).trans rfl)⟩ (fun hHeld=>?_)
          clear hK K
          refine norm_ (a':=?_) ?_ ?_
          rotate_left
          ·show Act.put _ (some 38) _=_
           simp only [Act.put,List.setIfInBounds_toArray,List.set_cons_zero,List.set_cons_succ,i64_w,i32_w]
           rfl
          refine zp1 HT_ 25 39 (mb' 41 67108863) rfl ?_
          refine zp1 HT_ 26 40 (mb' 41 134217727) rfl ?_
          refine zp1 HT_ 27 41 (mb' 41 268435455) rfl ?_
          refine zp1 HT_ 28 42 (mb' 41 536870911) rfl ?_
          refine zp1 HT_ 29 43 (mb' 41 1073741823) rfl ?_
          refine zp1 HT_ 30 44 (mb' 41 2147483647) rfl ?_
          refine zp1 HT_ 31 45 (mb' 41 4294967295) rfl ?_
          refine zp1 HT_ 32 46 (mb' 41 8589934591) rfl ?_
          refine zp1 HT_ 33 47 (mb' 41 17179869183) rfl ?_
          refine zp1 HT_ 34 48 (mb' 41 34359738367) rfl ?_
          refine zt1 HT_ HW_ (v:=?_) (a':=?_) 35 49 (mb' 41 68719476735) rfl ?_ hHeld ?_ ?_;rotate_left;(rintro w' ⟨s0,s1,s2,s3,s4,s5⟩;go_simp;with_reducible rfl);rotate_left;exact zpa
          refine zt1 HT_ HW_ (v:=?_) (a':=?_) 36 50 (mb' 41 137438953471) rfl ?_ hHeld ?_ ?_;rotate_left;(rintro w' ⟨s0,s1,s2,s3,s4,s5⟩;go_simp;with_reducible rfl);rotate_left;exact zpa
          refine one_ (i:=37) (N:=some 51) (mb' 41 274877906943) rfl rfl (one_of HT_.out (by kernel_rfl)) (by decide) (fun K hK=>?_)
          refine goes_ Try.func60 (by kernel_rfl) rfl #[.agg #[.int .i64 ((rd_T52 l1 (ji18)).f0),.int .i64 ((rd_T52 l1 (ji18)).f1),.int .i64 ((rd_T52 l1 (ji18)).f2)],.agg #[.int .i64 ((rd_T52 l1 x9_1).f0),.int .i64 ((rd_T52 l1 x9_1).f1),.int .i64 ((rd_T52 l1 x9_1).f2)]] (by rfl) rfl rfl (by(try simp only [List.map_toArray,List.map_cons,List.map_nil]);first|done|(simp only [hji18];rfl)|rfl|(simp only [List.length_drop,List.length_take];rfl)) ?_
          with_reducible refine(impl_byEnds.calls ((rd_T52 l1 (ji18)).f0) ((rd_T52 l1 (ji18)).f1) ((rd_T52 l1 (ji18)).f2) ((rd_T52 l1 x9_1).f0) ((rd_T52 l1 x9_1).f1) ((rd_T52 l1 x9_1).f2) t148 _ A21.out).mono ?_
          rintro e w32 ⟨rfl,hb⟩
          refine⟨_,rfl,?_⟩
          replace BK143:=Aside0.mk (blk_below (g:=gb143) (o:= .cells #[.int .i64 ((rd_T52 l1 x9_1).f0),.int .i64 ((rd_T52 l1 x9_1).f1),.int .i64 ((rd_T52 l1 x9_1).f2)] 52 (0,0)) (zq3 BK143) hb)
          replace HB:=Aside0.mk (below_step (by exact zk2 HB GE143.out) hb)
          (try clear hb)
          (try clear hb2)
          (try clear hk)
          (try clear hi)
          refine hK.out _ _ ⟨(blk_cell BK143.out 0).trans rfl,(blk_cell BK143.out 1).trans rfl,(blk_cell BK143.out 2).trans rfl,((zhx HB hw147_0).trans rfl),((zhx HB hw147_1).trans rfl),((zhx HB hw147_2).trans rfl)⟩ (fun hHeld=>?_)
          clear hK K
          refine norm_ (a':=?_) ?_ ?_
          rotate_left
          ·show Act.put _ (some 51) _=_
           simp only [Act.put,List.setIfInBounds_toArray,List.set_cons_zero,List.set_cons_succ,i64_w,i32_w]
           rfl
          refine zp1 HT_ 38 52 (mb' 41 549755813887) rfl ?_
          refine zp1 HT_ 39 53 (mb' 41 1099511627775) rfl ?_
          refine zp1 HT_ 40 54 (mb' 41 2199023255551) rfl ?_
          refine done_ (done_of HT_.out (by kernel_rfl)) ?_
          try go_wp2
          go_roundg k1
          case measure=>have:=HK1.out;omega
          case rel=>exact⟨(wrap64 (x9_1+1)),zrs,H',⟨by have:=HK1.out;omega⟩,⟨by exact zk2 HB GE143.out⟩⟩
        ·rw [if_neg c17] at H
         have c17b0:decide (0<x9_1)=false:=decide_eq_false c17
         clear c17
         have H':=Aside0.mk H
         clear H
         have p142: 0≤ (x9_1:Int):=of_decide_eq_true zq1
         have q142:x9_1< (l1.length:Int):=of_decide_eq_true zq1
         obtain⟨ad142,e142,hx142_0,hx142_1,hx142_2⟩:=at_T52 HR1.out x9_1 p142 q142
         cases e142
         replace hx142_0:=zhx HB hx142_0
         replace hx142_1:=zhx HB hx142_1
         replace hx142_2:=zhx HB hx142_2
         replace p142:=eq_true p142
         replace q142:=eq_true q142
         try go_wp2_with (first|((with_reducible refine gate_dst (N:=6) rfl ?_);(try(refine gate_guard (by rfl) ?_;dsimp only));refine box_event ?hg (N:=6) ?hd (cs:= #[.int .i64 0,.int .i64 0,.int .i64 0]) (t:=52) ?hr ?_;(case hd=>rfl);(case hg=>rfl);(case hr=>first|(go_simp;done)|(go_simp;rfl));intro gb143 hg w33 hbox hb;have BK143:=Aside0.mk (hbox);have GW143:=Aside0.mk ((by rw [hg];exact(below_size (by exact zk1 HB)):w.heap.size≤gb143));have GE143:=GW143;replace HB:=Aside0.mk (below_step (by exact zk1 HB) hb);clear hb hbox hg;have hcz34_0:=zcz BK143 0 (.int .i64 0);have hcz34_1:=zcz BK143 1 (.int .i64 0);have hcz34_2:=zcz BK143 2 (.int .i64 0);have hfz34_0:=blk_frozen BK143.out 0;have hfz34_1:=blk_frozen BK143.out 1;have hfz34_2:=blk_frozen BK143.out 2))
         have n0_:Aside0 ((((w33.setCell ⟨gb143,0,none⟩ (.int .i64 ((rd_T52 l1 x9_1).f0))).setCell ⟨gb143,1,none⟩ (.int .i64 ((rd_T52 l1 x9_1).f1))).setCell ⟨gb143,2,none⟩ (.int .i64 ((rd_T52 l1 x9_1).f2))).heap[gb143]?=some (.cells #[.int .i64 ((rd_T52 l1 x9_1).f0),.int .i64 ((rd_T52 l1 x9_1).f1),.int .i64 ((rd_T52 l1 x9_1).f2)] 52 (0,0))):=⟨by(with_reducible repeat(first|refine blk_drewN ?_ _|refine blk_drew ?_ |refine blk_alloc ?_ _));refine blk_put (cs:= #[.int .i64 ((rd_T52 l1 x9_1).f0),.int .i64 ((rd_T52 l1 x9_1).f1),.int .i64 0]) ?_ 2 _ rfl;(with_reducible repeat(first|refine blk_drewN ?_ _|refine blk_drew ?_ |refine blk_alloc ?_ _));refine blk_put (cs:= #[.int .i64 ((rd_T52 l1 x9_1).f0),.int .i64 0,.int .i64 0]) ?_ 1 _ rfl;(with_reducible repeat(first|refine blk_drewN ?_ _|refine blk_drew ?_ |refine blk_alloc ?_ _));refine blk_put (cs:= #[.int .i64 0,.int .i64 0,.int .i64 0]) ?_ 0 _ rfl;(with_reducible repeat(first|refine blk_drewN ?_ _|refine blk_drew ?_ |refine blk_alloc ?_ _));exact BK143.out⟩
         have n1_:Aside0 (Below w.heap.size w (((w33.setCell ⟨gb143,0,none⟩ (.int .i64 ((rd_T52 l1 x9_1).f0))).setCell ⟨gb143,1,none⟩ (.int .i64 ((rd_T52 l1 x9_1).f1))).setCell ⟨gb143,2,none⟩ (.int .i64 ((rd_T52 l1 x9_1).f2)))):=⟨by exact zk2 HB GE143.out⟩
         (try clear BK143)
         (try clear HB)
         (try simp only [show ∀ (W_:World) (n_:Nat) (a_:Addr) (v_:Value),(World.drewN W_ n_).setCell a_ v_= (World.setCell W_ a_ v_).drewN n_ from fun _ _ _ _=>rfl])
         generalize (((w33.setCell ⟨gb143,0,none⟩ (.int .i64 ((rd_T52 l1 x9_1).f0))).setCell ⟨gb143,1,none⟩ (.int .i64 ((rd_T52 l1 x9_1).f1))).setCell ⟨gb143,2,none⟩ (.int .i64 ((rd_T52 l1 x9_1).f2)))=w35 at n0_ n1_ ⊢
         have BK143:=n0_
         have HB:=n1_
         clear n0_ n1_
         replace BK143:=Aside0.mk (blk_drew BK143.out)
         replace HB:=Aside0.mk (below_drew1 HB.out)
         refine start_ (n:=41) (S:=fun w'=>w'.cell? ⟨gb143,0,none⟩=some (.int .i64 ((rd_T52 l1 x9_1).f0))∧w'.cell? ⟨gb143,1,none⟩=some (.int .i64 ((rd_T52 l1 x9_1).f1))∧w'.cell? ⟨gb143,2,none⟩=some (.int .i64 ((rd_T52 l1 x9_1).f2))) (ds:= []) (mb' 41 0) (by kernel_rfl) rfl rfl ⟨(blk_cell BK143.out 0).trans rfl,(blk_cell BK143.out 1).trans rfl,(blk_cell BK143.out 2).trans rfl⟩ (fun hHeld=>?_);refine with_tabW impl_GoodEdges.tab4 impl_GoodEdges.bits4 (fun HT_ HW_=>?_)
         generalize w35.drew=w36 at BK143 HB hHeld ⊢
         refine zp1 HT_ 0 14 (mb' 41 1) rfl ?_
         refine zp1 HT_ 2 16 (mb' 41 5) rfl ?_
         refine zp1 HT_ 3 17 (mb' 41 13) rfl ?_
         refine zt1 HT_ HW_ (v:=?_) (a':=?_) 1 15 (mb' 41 15) rfl ?_ hHeld ?_ ?_;rotate_left;(rintro w' ⟨s0,s1,s2⟩;go_simp;with_reducible rfl);rotate_left;exact zpa
         refine one_ (i:=4) (N:=some 18) (mb' 41 31) rfl rfl (one_of HT_.out (by kernel_rfl)) (by decide) (fun K hK=>?_)
         refine goes_ Try.func54 (by kernel_rfl) rfl #[.int .i64 ((rd_T52 l1 x9_1).f0),.int .i64 0,.int .i64 (wrap64 (a0 - 1))] (by rfl) rfl rfl zq2 ?_
         with_reducible refine(impl_in.calls ((rd_T52 l1 x9_1).f0) 0 (wrap64 (a0 - 1)) true _ A6.out).mono ?_
         rintro e w' ⟨rfl,⟨nd,rfl⟩⟩
         refine⟨_,rfl,?_⟩
         refine hK.out _ _ ⟨(blk_cell BK143.out 0).trans rfl,(blk_cell BK143.out 1).trans rfl,(blk_cell BK143.out 2).trans rfl⟩ (fun hHeld=>?_)
         clear hK K
         refine norm_ (a':=?_) ?_ ?_
         rotate_left
         ·show Act.put _ (some 18) _=_
          simp only [Act.put,List.setIfInBounds_toArray,List.set_cons_zero,List.set_cons_succ,i64_w,i32_w]
          rfl
         refine zp1 HT_ 5 19 (mb' 41 63) rfl ?_
         refine zp1 HT_ 6 20 (mb' 41 127) rfl ?_
         refine zp1 HT_ 7 21 (mb' 41 255) rfl ?_
         refine zp1 HT_ 9 23 (mb' 41 767) rfl ?_
         refine zp1 HT_ 10 24 (mb' 41 1791) rfl ?_
         refine zt1 HT_ HW_ (v:=?_) (a':=?_) 8 22 (mb' 41 2047) rfl ?_ hHeld ?_ ?_;rotate_left;(rintro w' ⟨s0,s1,s2⟩;go_simp;with_reducible rfl);rotate_left;exact zpa
         refine one_ (i:=11) (N:=some 25) (mb' 41 4095) rfl rfl (one_of HT_.out (by kernel_rfl)) (by decide) (fun K hK=>?_)
         refine goes_ Try.func54 (by kernel_rfl) rfl #[.int .i64 ((rd_T52 l1 x9_1).f1),.int .i64 0,.int .i64 (wrap64 (a0 - 1))] (by rfl) rfl rfl zq2 ?_
         with_reducible refine(impl_in.calls ((rd_T52 l1 x9_1).f1) 0 (wrap64 (a0 - 1)) true _ A8.out).mono ?_
         rintro e w' ⟨rfl,⟨nd,rfl⟩⟩
         refine⟨_,rfl,?_⟩
         refine hK.out _ _ ⟨(blk_cell BK143.out 0).trans rfl,(blk_cell BK143.out 1).trans rfl,(blk_cell BK143.out 2).trans rfl⟩ (fun hHeld=>?_)
         clear hK K
         refine norm_ (a':=?_) ?_ ?_
         rotate_left
         ·show Act.put _ (some 25) _=_
          simp only [Act.put,List.setIfInBounds_toArray,List.set_cons_zero,List.set_cons_succ,i64_w,i32_w]
          rfl
         refine zp1 HT_ 12 26 (mb' 41 8191) rfl ?_
         refine zp1 HT_ 13 27 (mb' 41 16383) rfl ?_
         refine zp1 HT_ 14 28 (mb' 41 32767) rfl ?_
         refine zp1 HT_ 15 29 (mb' 41 65535) rfl ?_
         refine zp1 HT_ 17 31 (mb' 41 196607) rfl ?_
         refine zt1 HT_ HW_ (v:=?_) (a':=?_) 16 30 (mb' 41 262143) rfl ?_ hHeld ?_ ?_;rotate_left;(rintro w' ⟨s0,s1,s2⟩;go_simp;with_reducible rfl);rotate_left;exact zpa
         refine zt1 HT_ HW_ (v:=?_) (a':=?_) 18 32 (mb' 41 524287) rfl ?_ hHeld ?_ ?_;rotate_left;(rintro w' ⟨s0,s1,s2⟩;go_simp;with_reducible rfl);rotate_left;exact zpa
         refine zp1 HT_ 19 33 (mb' 41 1048575) rfl ?_
         refine zp1 HT_ 20 34 (mb' 41 2097151) rfl ?_
         refine zp1 HT_ 21 35 (mb' 41 4194303) rfl ?_
         refine zp1 HT_ 22 36 (mb' 41 8388607) rfl ?_
         refine zt1 HT_ HW_ (v:=?_) (a':=?_) 23 37 (mb' 41 16777215) rfl ?_ hHeld ?_ ?_;rotate_left;(rintro w' ⟨s0,s1,s2⟩;go_simp;with_reducible rfl);rotate_left;exact zpa
         refine one_ (i:=24) (N:=some 38) (mb' 41 33554431) rfl rfl (one_of HT_.out (by kernel_rfl)) (by decide) (fun K hK=>?_)
         refine goes_ Try.func54 (by kernel_rfl) rfl #[.int .i64 ((rd_T52 l1 x9_1).f2),.int .i64 1,.int .i64 100] (by rfl) rfl rfl zq2 ?_
         with_reducible refine(impl_in.calls ((rd_T52 l1 x9_1).f2) 1 100 true _ A15.out).mono ?_
         rintro e w' ⟨rfl,⟨nd,rfl⟩⟩
         refine⟨_,rfl,?_⟩
         refine hK.out _ _ ⟨(blk_cell BK143.out 0).trans rfl,(blk_cell BK143.out 1).trans rfl,(blk_cell BK143.out 2).trans rfl⟩ (fun hHeld=>?_)
         clear hK K
         refine norm_ (a':=?_) ?_ ?_
         rotate_left
         ·show Act.put _ (some 38) _=_
          simp only [Act.put,List.setIfInBounds_toArray,List.set_cons_zero,List.set_cons_succ,i64_w,i32_w]
          rfl
         refine zp1 HT_ 25 39 (mb' 41 67108863) rfl ?_
         refine zp1 HT_ 26 40 (mb' 41 134217727) rfl ?_
         refine zp1 HT_ 27 41 (mb' 41 268435455) rfl ?_
         refine zp1 HT_ 28 42 (mb' 41 536870911) rfl ?_
         refine zp1 HT_ 29 43 (mb' 41 1073741823) rfl ?_
         refine zp1 HT_ 30 44 (mb' 41 2147483647) rfl ?_
         refine zp2 HT_ 31 45 (mb' 41 4294967295) rfl ?_
         refine zp2 HT_ 32 46 (mb' 41 8589934591) rfl ?_
         refine zp2 HT_ 33 47 (mb' 41 17179869183) rfl ?_
         refine zp2 HT_ 34 48 (mb' 41 34359738367) rfl ?_
         refine zp2 HT_ 35 49 (mb' 41 68719476735) rfl ?_
         refine zp2 HT_ 36 50 (mb' 41 137438953471) rfl ?_
         refine zp2 HT_ 37 51 (mb' 41 274877906943) rfl ?_
         refine zp2 HT_ 38 52 (mb' 41 549755813887) rfl ?_
         refine zp1 HT_ 39 53 (mb' 41 1099511627775) rfl ?_
         refine zp1 HT_ 40 54 (mb' 41 2199023255551) rfl ?_
         refine done_ (done_of HT_.out (by kernel_rfl)) ?_
         try go_wp2
         go_roundg k1
         case measure=>have:=HK1.out;omega
         case rel=>exact⟨(wrap64 (x9_1+1)),zrs,H',⟨by have:=HK1.out;omega⟩,⟨by exact zk2 HB GE143.out⟩⟩
       ·replace c16:=Bool.eq_false_iff.mpr c16
        subst c16
        have H1:(some false)=some r:=by rw [if_neg (show ¬ (false=true) by decide)] at H;exact H
        clear H
        have H:=H1
        clear H1
        obtain rfl:=Option.some.inj H
        have p142: 0≤ (x9_1:Int):=of_decide_eq_true zq1
        have q142:x9_1< (l1.length:Int):=of_decide_eq_true zq1
        obtain⟨ad142,e142,hx142_0,hx142_1,hx142_2⟩:=at_T52 HR1.out x9_1 p142 q142
        cases e142
        replace hx142_0:=zhx HB hx142_0
        replace hx142_1:=zhx HB hx142_1
        replace hx142_2:=zhx HB hx142_2
        replace p142:=eq_true p142
        replace q142:=eq_true q142
        try go_wp2_with (first|((with_reducible refine gate_dst (N:=6) rfl ?_);(try(refine gate_guard (by rfl) ?_;dsimp only));refine box_event ?hg (N:=6) ?hd (cs:= #[.int .i64 0,.int .i64 0,.int .i64 0]) (t:=52) ?hr ?_;(case hd=>rfl);(case hg=>rfl);(case hr=>first|(go_simp;done)|(go_simp;rfl));intro gb143 hg w37 hbox hb;have BK143:=Aside0.mk (hbox);have GW143:=Aside0.mk ((by rw [hg];exact(below_size (by exact zk1 HB)):w.heap.size≤gb143));have GE143:=GW143;replace HB:=Aside0.mk (below_step (by exact zk1 HB) hb);clear hb hbox hg;have hcz38_0:=zcz BK143 0 (.int .i64 0);have hcz38_1:=zcz BK143 1 (.int .i64 0);have hcz38_2:=zcz BK143 2 (.int .i64 0);have hfz38_0:=blk_frozen BK143.out 0;have hfz38_1:=blk_frozen BK143.out 1;have hfz38_2:=blk_frozen BK143.out 2))
        have n0_:Aside0 ((((w37.setCell ⟨gb143,0,none⟩ (.int .i64 ((rd_T52 l1 x9_1).f0))).setCell ⟨gb143,1,none⟩ (.int .i64 ((rd_T52 l1 x9_1).f1))).setCell ⟨gb143,2,none⟩ (.int .i64 ((rd_T52 l1 x9_1).f2))).heap[gb143]?=some (.cells #[.int .i64 ((rd_T52 l1 x9_1).f0),.int .i64 ((rd_T52 l1 x9_1).f1),.int .i64 ((rd_T52 l1 x9_1).f2)] 52 (0,0))):=⟨by(with_reducible repeat(first|refine blk_drewN ?_ _|refine blk_drew ?_ |refine blk_alloc ?_ _));refine blk_put (cs:= #[.int .i64 ((rd_T52 l1 x9_1).f0),.int .i64 ((rd_T52 l1 x9_1).f1),.int .i64 0]) ?_ 2 _ rfl;(with_reducible repeat(first|refine blk_drewN ?_ _|refine blk_drew ?_ |refine blk_alloc ?_ _));refine blk_put (cs:= #[.int .i64 ((rd_T52 l1 x9_1).f0),.int .i64 0,.int .i64 0]) ?_ 1 _ rfl;(with_reducible repeat(first|refine blk_drewN ?_ _|refine blk_drew ?_ |refine blk_alloc ?_ _));refine blk_put (cs:= #[.int .i64 0,.int .i64 0,.int .i64 0]) ?_ 0 _ rfl;(with_reducible repeat(first|refine blk_drewN ?_ _|refine blk_drew ?_ |refine blk_alloc ?_ _));exact BK143.out⟩
        have n1_:Aside0 (Below w.heap.size w (((w37.setCell ⟨gb143,0,none⟩ (.int .i64 ((rd_T52 l1 x9_1).f0))).setCell ⟨gb143,1,none⟩ (.int .i64 ((rd_T52 l1 x9_1).f1))).setCell ⟨gb143,2,none⟩ (.int .i64 ((rd_T52 l1 x9_1).f2)))):=⟨by exact zk2 HB GE143.out⟩
        (try clear BK143)
        (try clear HB)
        (try simp only [show ∀ (W_:World) (n_:Nat) (a_:Addr) (v_:Value),(World.drewN W_ n_).setCell a_ v_= (World.setCell W_ a_ v_).drewN n_ from fun _ _ _ _=>rfl])
        generalize (((w37.setCell ⟨gb143,0,none⟩ (.int .i64 ((rd_T52 l1 x9_1).f0))).setCell ⟨gb143,1,none⟩ (.int .i64 ((rd_T52 l1 x9_1).f1))).setCell ⟨gb143,2,none⟩ (.int .i64 ((rd_T52 l1 x9_1).f2)))=w39 at n0_ n1_ ⊢
        have BK143:=n0_
        have HB:=n1_
        clear n0_ n1_
        replace BK143:=Aside0.mk (blk_drew BK143.out)
        replace HB:=Aside0.mk (below_drew1 HB.out)
        refine start_ (n:=41) (S:=fun w'=>w'.cell? ⟨gb143,0,none⟩=some (.int .i64 ((rd_T52 l1 x9_1).f0))∧w'.cell? ⟨gb143,1,none⟩=some (.int .i64 ((rd_T52 l1 x9_1).f1))∧w'.cell? ⟨gb143,2,none⟩=some (.int .i64 ((rd_T52 l1 x9_1).f2))) (ds:= []) (mb' 41 0) (by kernel_rfl) rfl rfl ⟨(blk_cell BK143.out 0).trans rfl,(blk_cell BK143.out 1).trans rfl,(blk_cell BK143.out 2).trans rfl⟩ (fun hHeld=>?_);refine with_tabW impl_GoodEdges.tab4 impl_GoodEdges.bits4 (fun HT_ HW_=>?_)
        generalize w39.drew=w40 at BK143 HB hHeld ⊢
        refine zp1 HT_ 0 14 (mb' 41 1) rfl ?_
        refine zp1 HT_ 2 16 (mb' 41 5) rfl ?_
        refine zp1 HT_ 3 17 (mb' 41 13) rfl ?_
        refine zt1 HT_ HW_ (v:=?_) (a':=?_) 1 15 (mb' 41 15) rfl ?_ hHeld ?_ ?_;rotate_left;(rintro w' ⟨s0,s1,s2⟩;go_simp;with_reducible rfl);rotate_left;exact zpa
        refine one_ (i:=4) (N:=some 18) (mb' 41 31) rfl rfl (one_of HT_.out (by kernel_rfl)) (by decide) (fun K hK=>?_)
        refine goes_ Try.func54 (by kernel_rfl) rfl #[.int .i64 ((rd_T52 l1 x9_1).f0),.int .i64 0,.int .i64 (wrap64 (a0 - 1))] (by rfl) rfl rfl zq2 ?_
        with_reducible refine(impl_in.calls ((rd_T52 l1 x9_1).f0) 0 (wrap64 (a0 - 1)) true _ A6.out).mono ?_
        rintro e w' ⟨rfl,⟨nd,rfl⟩⟩
        refine⟨_,rfl,?_⟩
        refine hK.out _ _ ⟨(blk_cell BK143.out 0).trans rfl,(blk_cell BK143.out 1).trans rfl,(blk_cell BK143.out 2).trans rfl⟩ (fun hHeld=>?_)
        clear hK K
        refine norm_ (a':=?_) ?_ ?_
        rotate_left
        ·show Act.put _ (some 18) _=_
         simp only [Act.put,List.setIfInBounds_toArray,List.set_cons_zero,List.set_cons_succ,i64_w,i32_w]
         rfl
        refine zp1 HT_ 5 19 (mb' 41 63) rfl ?_
        refine zp1 HT_ 6 20 (mb' 41 127) rfl ?_
        refine zp1 HT_ 7 21 (mb' 41 255) rfl ?_
        refine zp1 HT_ 9 23 (mb' 41 767) rfl ?_
        refine zp1 HT_ 10 24 (mb' 41 1791) rfl ?_
        refine zt1 HT_ HW_ (v:=?_) (a':=?_) 8 22 (mb' 41 2047) rfl ?_ hHeld ?_ ?_;rotate_left;(rintro w' ⟨s0,s1,s2⟩;go_simp;with_reducible rfl);rotate_left;exact zpa
        refine one_ (i:=11) (N:=some 25) (mb' 41 4095) rfl rfl (one_of HT_.out (by kernel_rfl)) (by decide) (fun K hK=>?_)
        refine goes_ Try.func54 (by kernel_rfl) rfl #[.int .i64 ((rd_T52 l1 x9_1).f1),.int .i64 0,.int .i64 (wrap64 (a0 - 1))] (by rfl) rfl rfl zq2 ?_
        with_reducible refine(impl_in.calls ((rd_T52 l1 x9_1).f1) 0 (wrap64 (a0 - 1)) true _ A8.out).mono ?_
        rintro e w' ⟨rfl,⟨nd,rfl⟩⟩
        refine⟨_,rfl,?_⟩
        refine hK.out _ _ ⟨(blk_cell BK143.out 0).trans rfl,(blk_cell BK143.out 1).trans rfl,(blk_cell BK143.out 2).trans rfl⟩ (fun hHeld=>?_)
        clear hK K
        refine norm_ (a':=?_) ?_ ?_
        rotate_left
        ·show Act.put _ (some 25) _=_
         simp only [Act.put,List.setIfInBounds_toArray,List.set_cons_zero,List.set_cons_succ,i64_w,i32_w]
         rfl
        refine zp1 HT_ 12 26 (mb' 41 8191) rfl ?_
        refine zp1 HT_ 13 27 (mb' 41 16383) rfl ?_
        refine zp1 HT_ 14 28 (mb' 41 32767) rfl ?_
        refine zp1 HT_ 15 29 (mb' 41 65535) rfl ?_
        refine zp1 HT_ 17 31 (mb' 41 196607) rfl ?_
        refine zt1 HT_ HW_ (v:=?_) (a':=?_) 16 30 (mb' 41 262143) rfl ?_ hHeld ?_ ?_;rotate_left;(rintro w' ⟨s0,s1,s2⟩;go_simp;with_reducible rfl);rotate_left;exact zpa
        refine zt1 HT_ HW_ (v:=?_) (a':=?_) 18 32 (mb' 41 524287) rfl ?_ hHeld ?_ ?_;rotate_left;(rintro w' ⟨s0,s1,s2⟩;go_simp;with_reducible rfl);rotate_left;exact zpa
        refine zp1 HT_ 19 33 (mb' 41 1048575) rfl ?_
        refine zp1 HT_ 20 34 (mb' 41 2097151) rfl ?_
        refine zp1 HT_ 21 35 (mb' 41 4194303) rfl ?_
        refine zp1 HT_ 22 36 (mb' 41 8388607) rfl ?_
        refine zt1 HT_ HW_ (v:=?_) (a':=?_) 23 37 (mb' 41 16777215) rfl ?_ hHeld ?_ ?_;rotate_left;(rintro w' ⟨s0,s1,s2⟩;go_simp;with_reducible rfl);rotate_left;exact zpa
        refine one_ (i:=24) (N:=some 38) (mb' 41 33554431) rfl rfl (one_of HT_.out (by kernel_rfl)) (by decide) (fun K hK=>?_)
        refine goes_ Try.func54 (by kernel_rfl) rfl #[.int .i64 ((rd_T52 l1 x9_1).f2),.int .i64 1,.int .i64 100] (by rfl) rfl rfl zq2 ?_
        with_reducible refine(impl_in.calls ((rd_T52 l1 x9_1).f2) 1 100 false _ A15.out).mono ?_
        rintro e w' ⟨rfl,⟨nd,rfl⟩⟩
        refine⟨_,rfl,?_⟩
        refine hK.out _ _ ⟨(blk_cell BK143.out 0).trans rfl,(blk_cell BK143.out 1).trans rfl,(blk_cell BK143.out 2).trans rfl⟩ (fun hHeld=>?_)
        clear hK K
        refine norm_ (a':=?_) ?_ ?_
        rotate_left
        ·show Act.put _ (some 38) _=_
         simp only [Act.put,List.setIfInBounds_toArray,List.set_cons_zero,List.set_cons_succ,i64_w,i32_w]
         rfl
        refine zp1 HT_ 25 39 (mb' 41 67108863) rfl ?_
        refine zp1 HT_ 26 40 (mb' 41 134217727) rfl ?_
        refine zp1 HT_ 27 41 (mb' 41 268435455) rfl ?_
        refine zp2 HT_ 28 42 (mb' 41 536870911) rfl ?_
        refine zp2 HT_ 29 43 (mb' 41 1073741823) rfl ?_
        refine zp2 HT_ 30 44 (mb' 41 2147483647) rfl ?_
        refine zp2 HT_ 31 45 (mb' 41 4294967295) rfl ?_
        refine zp2 HT_ 32 46 (mb' 41 8589934591) rfl ?_
        refine zp2 HT_ 33 47 (mb' 41 17179869183) rfl ?_
        refine zp2 HT_ 34 48 (mb' 41 34359738367) rfl ?_
        refine zp2 HT_ 35 49 (mb' 41 68719476735) rfl ?_
        refine zp2 HT_ 36 50 (mb' 41 137438953471) rfl ?_
        refine zp2 HT_ 37 51 (mb' 41 274877906943) rfl ?_
        refine zp2 HT_ 38 52 (mb' 41 549755813887) rfl ?_
        refine zp2 HT_ 39 53 (mb' 41 1099511627775) rfl ?_
        refine zp1 HT_ 40 54 (mb' 41 2199023255551) rfl ?_
        refine done_ (done_of HT_.out (by kernel_rfl)) ?_
        try go_wp2
        go_ret
        exact⟨zer,by exact zk2 HB GE143.out⟩
     ·replace c9:=Bool.eq_false_iff.mpr c9
      subst c9
      have H1:(some false)=some r:=by rw [if_neg (show ¬ (false=true) by decide)] at H;exact H
      clear H
      have H:=H1
      clear H1
      obtain rfl:=Option.some.inj H
      have p142: 0≤ (x9_1:Int):=of_decide_eq_true zq1
      have q142:x9_1< (l1.length:Int):=of_decide_eq_true zq1
      obtain⟨ad142,e142,hx142_0,hx142_1,hx142_2⟩:=at_T52 HR1.out x9_1 p142 q142
      cases e142
      replace hx142_0:=zhx HB hx142_0
      replace hx142_1:=zhx HB hx142_1
      replace hx142_2:=zhx HB hx142_2
      replace p142:=eq_true p142
      replace q142:=eq_true q142
      try go_wp2_with (first|((with_reducible refine gate_dst (N:=6) rfl ?_);(try(refine gate_guard (by rfl) ?_;dsimp only));refine box_event ?hg (N:=6) ?hd (cs:= #[.int .i64 0,.int .i64 0,.int .i64 0]) (t:=52) ?hr ?_;(case hd=>rfl);(case hg=>rfl);(case hr=>first|(go_simp;done)|(go_simp;rfl));intro gb143 hg w41 hbox hb;have BK143:=Aside0.mk (hbox);have GW143:=Aside0.mk ((by rw [hg];exact(below_size (by exact zk1 HB)):w.heap.size≤gb143));have GE143:=GW143;replace HB:=Aside0.mk (below_step (by exact zk1 HB) hb);clear hb hbox hg;have hcz42_0:=zcz BK143 0 (.int .i64 0);have hcz42_1:=zcz BK143 1 (.int .i64 0);have hcz42_2:=zcz BK143 2 (.int .i64 0);have hfz42_0:=blk_frozen BK143.out 0;have hfz42_1:=blk_frozen BK143.out 1;have hfz42_2:=blk_frozen BK143.out 2))
      have n0_:Aside0 ((((w41.setCell ⟨gb143,0,none⟩ (.int .i64 ((rd_T52 l1 x9_1).f0))).setCell ⟨gb143,1,none⟩ (.int .i64 ((rd_T52 l1 x9_1).f1))).setCell ⟨gb143,2,none⟩ (.int .i64 ((rd_T52 l1 x9_1).f2))).heap[gb143]?=some (.cells #[.int .i64 ((rd_T52 l1 x9_1).f0),.int .i64 ((rd_T52 l1 x9_1).f1),.int .i64 ((rd_T52 l1 x9_1).f2)] 52 (0,0))):=⟨by(with_reducible repeat(first|refine blk_drewN ?_ _|refine blk_drew ?_ |refine blk_alloc ?_ _));refine blk_put (cs:= #[.int .i64 ((rd_T52 l1 x9_1).f0),.int .i64 ((rd_T52 l1 x9_1).f1),.int .i64 0]) ?_ 2 _ rfl;(with_reducible repeat(first|refine blk_drewN ?_ _|refine blk_drew ?_ |refine blk_alloc ?_ _));refine blk_put (cs:= #[.int .i64 ((rd_T52 l1 x9_1).f0),.int .i64 0,.int .i64 0]) ?_ 1 _ rfl;(with_reducible repeat(first|refine blk_drewN ?_ _|refine blk_drew ?_ |refine blk_alloc ?_ _));refine blk_put (cs:= #[.int .i64 0,.int .i64 0,.int .i64 0]) ?_ 0 _ rfl;(with_reducible repeat(first|refine blk_drewN ?_ _|refine blk_drew ?_ |refine blk_alloc ?_ _));exact BK143.out⟩
      have n1_:Aside0 (Below w.heap.size w (((w41.setCell ⟨gb143,0,none⟩ (.int .i64 ((rd_T52 l1 x9_1).f0))).setCell ⟨gb143,1,none⟩ (.int .i64 ((rd_T52 l1 x9_1).f1))).setCell ⟨gb143,2,none⟩ (.int .i64 ((rd_T52 l1 x9_1).f2)))):=⟨by exact zk2 HB GE143.out⟩
      (try clear BK143)
      (try clear HB)
      (try simp only [show ∀ (W_:World) (n_:Nat) (a_:Addr) (v_:Value),(World.drewN W_ n_).setCell a_ v_= (World.setCell W_ a_ v_).drewN n_ from fun _ _ _ _=>rfl])
      generalize (((w41.setCell ⟨gb143,0,none⟩ (.int .i64 ((rd_T52 l1 x9_1).f0))).setCell ⟨gb143,1,none⟩ (.int .i64 ((rd_T52 l1 x9_1).f1))).setCell ⟨gb143,2,none⟩ (.int .i64 ((rd_T52 l1 x9_1).f2)))=w43 at n0_ n1_ ⊢
      have BK143:=n0_
      have HB:=n1_
      clear n0_ n1_
      replace BK143:=Aside0.mk (blk_drew BK143.out)
      replace HB:=Aside0.mk (below_drew1 HB.out)
      refine start_ (n:=41) (S:=fun w'=>w'.cell? ⟨gb143,0,none⟩=some (.int .i64 ((rd_T52 l1 x9_1).f0))∧w'.cell? ⟨gb143,1,none⟩=some (.int .i64 ((rd_T52 l1 x9_1).f1))∧w'.cell? ⟨gb143,2,none⟩=some (.int .i64 ((rd_T52 l1 x9_1).f2))) (ds:= []) (mb' 41 0) (by kernel_rfl) rfl rfl ⟨(blk_cell BK143.out 0).trans rfl,(blk_cell BK143.out 1).trans rfl,(blk_cell BK143.out 2).trans rfl⟩ (fun hHeld=>?_);refine with_tabW impl_GoodEdges.tab4 impl_GoodEdges.bits4 (fun HT_ HW_=>?_)
      generalize w43.drew=w44 at BK143 HB hHeld ⊢
      refine zp1 HT_ 0 14 (mb' 41 1) rfl ?_
      refine zp1 HT_ 2 16 (mb' 41 5) rfl ?_
      refine zp1 HT_ 3 17 (mb' 41 13) rfl ?_
      refine zt1 HT_ HW_ (v:=?_) (a':=?_) 1 15 (mb' 41 15) rfl ?_ hHeld ?_ ?_;rotate_left;(rintro w' ⟨s0,s1,s2⟩;go_simp;with_reducible rfl);rotate_left;exact zpa
      refine one_ (i:=4) (N:=some 18) (mb' 41 31) rfl rfl (one_of HT_.out (by kernel_rfl)) (by decide) (fun K hK=>?_)
      refine goes_ Try.func54 (by kernel_rfl) rfl #[.int .i64 ((rd_T52 l1 x9_1).f0),.int .i64 0,.int .i64 (wrap64 (a0 - 1))] (by rfl) rfl rfl zq2 ?_
      with_reducible refine(impl_in.calls ((rd_T52 l1 x9_1).f0) 0 (wrap64 (a0 - 1)) true _ A6.out).mono ?_
      rintro e w' ⟨rfl,⟨nd,rfl⟩⟩
      refine⟨_,rfl,?_⟩
      refine hK.out _ _ ⟨(blk_cell BK143.out 0).trans rfl,(blk_cell BK143.out 1).trans rfl,(blk_cell BK143.out 2).trans rfl⟩ (fun hHeld=>?_)
      clear hK K
      refine norm_ (a':=?_) ?_ ?_
      rotate_left
      ·show Act.put _ (some 18) _=_
       simp only [Act.put,List.setIfInBounds_toArray,List.set_cons_zero,List.set_cons_succ,i64_w,i32_w]
       rfl
      refine zp1 HT_ 5 19 (mb' 41 63) rfl ?_
      refine zp1 HT_ 6 20 (mb' 41 127) rfl ?_
      refine zp1 HT_ 7 21 (mb' 41 255) rfl ?_
      refine zp1 HT_ 9 23 (mb' 41 767) rfl ?_
      refine zp1 HT_ 10 24 (mb' 41 1791) rfl ?_
      refine zt1 HT_ HW_ (v:=?_) (a':=?_) 8 22 (mb' 41 2047) rfl ?_ hHeld ?_ ?_;rotate_left;(rintro w' ⟨s0,s1,s2⟩;go_simp;with_reducible rfl);rotate_left;exact zpa
      refine one_ (i:=11) (N:=some 25) (mb' 41 4095) rfl rfl (one_of HT_.out (by kernel_rfl)) (by decide) (fun K hK=>?_)
      refine goes_ Try.func54 (by kernel_rfl) rfl #[.int .i64 ((rd_T52 l1 x9_1).f1),.int .i64 0,.int .i64 (wrap64 (a0 - 1))] (by rfl) rfl rfl zq2 ?_
      with_reducible refine(impl_in.calls ((rd_T52 l1 x9_1).f1) 0 (wrap64 (a0 - 1)) false _ A8.out).mono ?_
      rintro e w' ⟨rfl,⟨nd,rfl⟩⟩
      refine⟨_,rfl,?_⟩
      refine hK.out _ _ ⟨(blk_cell BK143.out 0).trans rfl,(blk_cell BK143.out 1).trans rfl,(blk_cell BK143.out 2).trans rfl⟩ (fun hHeld=>?_)
      clear hK K
      refine norm_ (a':=?_) ?_ ?_
      rotate_left
      ·show Act.put _ (some 25) _=_
       simp only [Act.put,List.setIfInBounds_toArray,List.set_cons_zero,List.set_cons_succ,i64_w,i32_w]
       rfl
      refine zp1 HT_ 12 26 (mb' 41 8191) rfl ?_
      refine zp1 HT_ 13 27 (mb' 41 16383) rfl ?_
      refine zp1 HT_ 14 28 (mb' 41 32767) rfl ?_
      refine zp2 HT_ 15 29 (mb' 41 65535) rfl ?_
      refine zp2 HT_ 16 30 (mb' 41 131071) rfl ?_
      refine zp2 HT_ 17 31 (mb' 41 262143) rfl ?_
      refine zp2 HT_ 18 32 (mb' 41 524287) rfl ?_
      refine zp2 HT_ 19 33 (mb' 41 1048575) rfl ?_
      refine zp1 HT_ 20 34 (mb' 41 2097151) rfl ?_
      refine zp1 HT_ 21 35 (mb' 41 4194303) rfl ?_
      refine zp2 HT_ 22 36 (mb' 41 8388607) rfl ?_
      refine zp2 HT_ 23 37 (mb' 41 16777215) rfl ?_
      refine zp2 HT_ 24 38 (mb' 41 33554431) rfl ?_
      refine zp2 HT_ 25 39 (mb' 41 67108863) rfl ?_
      refine zp1 HT_ 26 40 (mb' 41 134217727) rfl ?_
      refine zp1 HT_ 27 41 (mb' 41 268435455) rfl ?_
      refine zp2 HT_ 28 42 (mb' 41 536870911) rfl ?_
      refine zp2 HT_ 29 43 (mb' 41 1073741823) rfl ?_
      refine zp2 HT_ 30 44 (mb' 41 2147483647) rfl ?_
      refine zp2 HT_ 31 45 (mb' 41 4294967295) rfl ?_
      refine zp2 HT_ 32 46 (mb' 41 8589934591) rfl ?_
      refine zp2 HT_ 33 47 (mb' 41 17179869183) rfl ?_
      refine zp2 HT_ 34 48 (mb' 41 34359738367) rfl ?_
      refine zp2 HT_ 35 49 (mb' 41 68719476735) rfl ?_
      refine zp2 HT_ 36 50 (mb' 41 137438953471) rfl ?_
      refine zp2 HT_ 37 51 (mb' 41 274877906943) rfl ?_
      refine zp2 HT_ 38 52 (mb' 41 549755813887) rfl ?_
      refine zp2 HT_ 39 53 (mb' 41 1099511627775) rfl ?_
      refine zp1 HT_ 40 54 (mb' 41 2199023255551) rfl ?_
      refine done_ (done_of HT_.out (by kernel_rfl)) ?_
      try go_wp2
      go_ret
      exact⟨zer,by exact zk2 HB GE143.out⟩
    ·replace c7:=Bool.eq_false_iff.mpr c7
     subst c7
     have H1:(some false)=some r:=by rw [if_neg (show ¬ (false=true) by decide)] at H;exact H
     clear H
     have H:=H1
     clear H1
     obtain rfl:=Option.some.inj H
     have p142: 0≤ (x9_1:Int):=of_decide_eq_true zq1
     have q142:x9_1< (l1.length:Int):=of_decide_eq_true zq1
     obtain⟨ad142,e142,hx142_0,hx142_1,hx142_2⟩:=at_T52 HR1.out x9_1 p142 q142
     cases e142
     replace hx142_0:=zhx HB hx142_0
     replace hx142_1:=zhx HB hx142_1
     replace hx142_2:=zhx HB hx142_2
     replace p142:=eq_true p142
     replace q142:=eq_true q142
     try go_wp2_with (first|((with_reducible refine gate_dst (N:=6) rfl ?_);(try(refine gate_guard (by rfl) ?_;dsimp only));refine box_event ?hg (N:=6) ?hd (cs:= #[.int .i64 0,.int .i64 0,.int .i64 0]) (t:=52) ?hr ?_;(case hd=>rfl);(case hg=>rfl);(case hr=>first|(go_simp;done)|(go_simp;rfl));intro gb143 hg w45 hbox hb;have BK143:=Aside0.mk (hbox);have GW143:=Aside0.mk ((by rw [hg];exact(below_size (by exact zk1 HB)):w.heap.size≤gb143));have GE143:=GW143;replace HB:=Aside0.mk (below_step (by exact zk1 HB) hb);clear hb hbox hg;have hcz46_0:=zcz BK143 0 (.int .i64 0);have hcz46_1:=zcz BK143 1 (.int .i64 0);have hcz46_2:=zcz BK143 2 (.int .i64 0);have hfz46_0:=blk_frozen BK143.out 0;have hfz46_1:=blk_frozen BK143.out 1;have hfz46_2:=blk_frozen BK143.out 2))
     have n0_:Aside0 ((((w45.setCell ⟨gb143,0,none⟩ (.int .i64 ((rd_T52 l1 x9_1).f0))).setCell ⟨gb143,1,none⟩ (.int .i64 ((rd_T52 l1 x9_1).f1))).setCell ⟨gb143,2,none⟩ (.int .i64 ((rd_T52 l1 x9_1).f2))).heap[gb143]?=some (.cells #[.int .i64 ((rd_T52 l1 x9_1).f0),.int .i64 ((rd_T52 l1 x9_1).f1),.int .i64 ((rd_T52 l1 x9_1).f2)] 52 (0,0))):=⟨by(with_reducible repeat(first|refine blk_drewN ?_ _|refine blk_drew ?_ |refine blk_alloc ?_ _));refine blk_put (cs:= #[.int .i64 ((rd_T52 l1 x9_1).f0),.int .i64 ((rd_T52 l1 x9_1).f1),.int .i64 0]) ?_ 2 _ rfl;(with_reducible repeat(first|refine blk_drewN ?_ _|refine blk_drew ?_ |refine blk_alloc ?_ _));refine blk_put (cs:= #[.int .i64 ((rd_T52 l1 x9_1).f0),.int .i64 0,.int .i64 0]) ?_ 1 _ rfl;(with_reducible repeat(first|refine blk_drewN ?_ _|refine blk_drew ?_ |refine blk_alloc ?_ _));refine blk_put (cs:= #[.int .i64 0,.int .i64 0,.int .i64 0]) ?_ 0 _ rfl;(with_reducible repeat(first|refine blk_drewN ?_ _|refine blk_drew ?_ |refine blk_alloc ?_ _));exact BK143.out⟩
     have n1_:Aside0 (Below w.heap.size w (((w45.setCell ⟨gb143,0,none⟩ (.int .i64 ((rd_T52 l1 x9_1).f0))).setCell ⟨gb143,1,none⟩ (.int .i64 ((rd_T52 l1 x9_1).f1))).setCell ⟨gb143,2,none⟩ (.int .i64 ((rd_T52 l1 x9_1).f2)))):=⟨by exact zk2 HB GE143.out⟩
     (try clear BK143)
     (try clear HB)
     (try simp only [show ∀ (W_:World) (n_:Nat) (a_:Addr) (v_:Value),(World.drewN W_ n_).setCell a_ v_= (World.setCell W_ a_ v_).drewN n_ from fun _ _ _ _=>rfl])
     generalize (((w45.setCell ⟨gb143,0,none⟩ (.int .i64 ((rd_T52 l1 x9_1).f0))).setCell ⟨gb143,1,none⟩ (.int .i64 ((rd_T52 l1 x9_1).f1))).setCell ⟨gb143,2,none⟩ (.int .i64 ((rd_T52 l1 x9_1).f2)))=w47 at n0_ n1_ ⊢
     have BK143:=n0_
     have HB:=n1_
     clear n0_ n1_
     replace BK143:=Aside0.mk (blk_drew BK143.out)
     replace HB:=Aside0.mk (below_drew1 HB.out)
     refine start_ (n:=41) (S:=fun w'=>w'.cell? ⟨gb143,0,none⟩=some (.int .i64 ((rd_T52 l1 x9_1).f0))∧w'.cell? ⟨gb143,1,none⟩=some (.int .i64 ((rd_T52 l1 x9_1).f1))∧w'.cell? ⟨gb143,2,none⟩=some (.int .i64 ((rd_T52 l1 x9_1).f2))) (ds:= []) (mb' 41 0) (by kernel_rfl) rfl rfl ⟨(blk_cell BK143.out 0).trans rfl,(blk_cell BK143.out 1).trans rfl,(blk_cell BK143.out 2).trans rfl⟩ (fun hHeld=>?_);refine with_tabW impl_GoodEdges.tab4 impl_GoodEdges.bits4 (fun HT_ HW_=>?_)
     generalize w47.drew=w48 at BK143 HB hHeld ⊢
     refine zp1 HT_ 0 14 (mb' 41 1) rfl ?_
     refine zp1 HT_ 2 16 (mb' 41 5) rfl ?_
     refine zp1 HT_ 3 17 (mb' 41 13) rfl ?_
     refine zt1 HT_ HW_ (v:=?_) (a':=?_) 1 15 (mb' 41 15) rfl ?_ hHeld ?_ ?_;rotate_left;(rintro w' ⟨s0,s1,s2⟩;go_simp;with_reducible rfl);rotate_left;exact zpa
     refine one_ (i:=4) (N:=some 18) (mb' 41 31) rfl rfl (one_of HT_.out (by kernel_rfl)) (by decide) (fun K hK=>?_)
     refine goes_ Try.func54 (by kernel_rfl) rfl #[.int .i64 ((rd_T52 l1 x9_1).f0),.int .i64 0,.int .i64 (wrap64 (a0 - 1))] (by rfl) rfl rfl zq2 ?_
     with_reducible refine(impl_in.calls ((rd_T52 l1 x9_1).f0) 0 (wrap64 (a0 - 1)) false _ A6.out).mono ?_
     rintro e w' ⟨rfl,⟨nd,rfl⟩⟩
     refine⟨_,rfl,?_⟩
     refine hK.out _ _ ⟨(blk_cell BK143.out 0).trans rfl,(blk_cell BK143.out 1).trans rfl,(blk_cell BK143.out 2).trans rfl⟩ (fun hHeld=>?_)
     clear hK K
     refine norm_ (a':=?_) ?_ ?_
     rotate_left
     ·show Act.put _ (some 18) _=_
      simp only [Act.put,List.setIfInBounds_toArray,List.set_cons_zero,List.set_cons_succ,i64_w,i32_w]
      rfl
     refine zp1 HT_ 5 19 (mb' 41 63) rfl ?_
     refine zp1 HT_ 6 20 (mb' 41 127) rfl ?_
     refine zp2 HT_ 7 21 (mb' 41 255) rfl ?_
     refine zp2 HT_ 8 22 (mb' 41 511) rfl ?_
     refine zp2 HT_ 9 23 (mb' 41 1023) rfl ?_
     refine zp2 HT_ 10 24 (mb' 41 2047) rfl ?_
     refine zp2 HT_ 11 25 (mb' 41 4095) rfl ?_
     refine zp2 HT_ 12 26 (mb' 41 8191) rfl ?_
     refine zp1 HT_ 13 27 (mb' 41 16383) rfl ?_
     refine zp1 HT_ 14 28 (mb' 41 32767) rfl ?_
     refine zp2 HT_ 15 29 (mb' 41 65535) rfl ?_
     refine zp2 HT_ 16 30 (mb' 41 131071) rfl ?_
     refine zp2 HT_ 17 31 (mb' 41 262143) rfl ?_
     refine zp2 HT_ 18 32 (mb' 41 524287) rfl ?_
     refine zp2 HT_ 19 33 (mb' 41 1048575) rfl ?_
     refine zp1 HT_ 20 34 (mb' 41 2097151) rfl ?_
     refine zp1 HT_ 21 35 (mb' 41 4194303) rfl ?_
     refine zp2 HT_ 22 36 (mb' 41 8388607) rfl ?_
     refine zp2 HT_ 23 37 (mb' 41 16777215) rfl ?_
     refine zp2 HT_ 24 38 (mb' 41 33554431) rfl ?_
     refine zp2 HT_ 25 39 (mb' 41 67108863) rfl ?_
     refine zp1 HT_ 26 40 (mb' 41 134217727) rfl ?_
     refine zp1 HT_ 27 41 (mb' 41 268435455) rfl ?_
     refine zp2 HT_ 28 42 (mb' 41 536870911) rfl ?_
     refine zp2 HT_ 29 43 (mb' 41 1073741823) rfl ?_
     refine zp2 HT_ 30 44 (mb' 41 2147483647) rfl ?_
     refine zp2 HT_ 31 45 (mb' 41 4294967295) rfl ?_
     refine zp2 HT_ 32 46 (mb' 41 8589934591) rfl ?_
     refine zp2 HT_ 33 47 (mb' 41 17179869183) rfl ?_
     refine zp2 HT_ 34 48 (mb' 41 34359738367) rfl ?_
     refine zp2 HT_ 35 49 (mb' 41 68719476735) rfl ?_
     refine zp2 HT_ 36 50 (mb' 41 137438953471) rfl ?_
     refine zp2 HT_ 37 51 (mb' 41 274877906943) rfl ?_
     refine zp2 HT_ 38 52 (mb' 41 549755813887) rfl ?_
     refine zp2 HT_ 39 53 (mb' 41 1099511627775) rfl ?_
     refine zp1 HT_ 40 54 (mb' 41 2199023255551) rfl ?_
     refine done_ (done_of HT_.out (by kernel_rfl)) ?_
     try go_wp2
     go_ret
     exact⟨zer,by exact zk2 HB GE143.out⟩
   ·rw [if_neg c3] at H
    have c3b0:decide (x9_1< (l1.length:Int))=false:=decide_eq_false c3
    clear c3
    replace H:=Option.bind_eq_some_iff.mp H
    obtain⟨t141,A490,H⟩:=H
    replace H:(if t141=true then(some (decide ((l1.length:Int)≤40))) else(some false))=some r:=H
    have A49:=Aside0.mk A490
    clear A490
    by_cases c50:t141=true
    ·subst c50
     have H1:(some (decide ((l1.length:Int)≤40)))=some r:=by rw [if_pos rfl] at H;exact H
     clear H
     have H:=H1
     clear H1
     obtain rfl:=Option.some.inj H
     go_wp2_with (first|((with_reducible refine gate_callee (f:=53) rfl ?_);refine goesL_ (some 57) rfl rfl Try.func53 (by kernel_rfl) rfl #[.int .i64 a0] rfl zq2 ?_;(with_reducible refine(impl_isSpots.calls a0 true _ A49.out).mono ?_);rintro e w' ⟨rfl,⟨nd,rfl⟩⟩;refine⟨_,rfl,?_⟩))
     go_ret
     exact⟨zer,by exact zk1 HB⟩
    ·replace c50:=Bool.eq_false_iff.mpr c50
     subst c50
     have H1:(some false)=some r:=by rw [if_neg (show ¬ (false=true) by decide)] at H;exact H
     clear H
     have H:=H1
     clear H1
     obtain rfl:=Option.some.inj H
     go_wp2_with (first|((with_reducible refine gate_callee (f:=53) rfl ?_);refine goesL_ (some 57) rfl rfl Try.func53 (by kernel_rfl) rfl #[.int .i64 a0] rfl zq2 ?_;(with_reducible refine(impl_isSpots.calls a0 false _ A49.out).mono ?_);rintro e w' ⟨rfl,⟨nd,rfl⟩⟩;refine⟨_,rfl,?_⟩))
     go_ret
     exact⟨zer,by exact zk1 HB⟩
end Go.Proofs.Ytpbnpepikkocmaa.P
