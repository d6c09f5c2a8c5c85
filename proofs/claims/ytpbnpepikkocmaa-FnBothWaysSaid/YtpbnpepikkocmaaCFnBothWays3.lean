/- Functions, walks and plain lemmas that the law FnBothWays reaches, part 3. -/
import Derived.Test.YtpbnpepikkocmaaCFnBothWays2
import Derived.Below
import Derived.Deep.Draws
import Derived.Deep.AppendLies
import Derived.Maps.AppendAt
import Derived.OwnWalk
import Derived.Laws.BytesArg
import Derived.Laws.MakeOwn
import Derived.Laws.OwnMore
import Derived.Deep.OwnRows
import Derived.Tactics
import Derived.Lib.ConvBytes
import Derived.Laws.Slices
import Derived.WalkKit
import Derived.KernelRfl
import Derived.RowKit3
import Derived.Deep.LoopGhost
import Derived.Deep.QuietTactic
import Derived.BigQuiet
import Derived.WideLaws
import Derived.Deep.DeepCutAuto
import Derived.Deep.CutBlock
import Derived.Deep.RegionHeld3
import Derived.Laws.Rows
import Derived.Lib.AppendStr
import Derived.ArgAppend
import Derived.Laws.IdiomCopy
import Derived.OrdersHeld
import Derived.Laws.BitsLemmas
import Derived.RowKit
import Derived.WalkSpells
import Derived.Lib.SliceRun
import Derived.Shelf.Abstract
import Derived.ProofKit
import Derived.OpenShut
import Derived.ShutString
import Derived.ChangeOld
import Derived.SizedLaws
namespace Go.Proofs.Ytpbnpepikkocmaa.P
open Go.RowKit Go.Proofs.YtpbnpepikkocmaaW.PrintWords Go.Proofs.YtpbnpepikkocmaaW.PrintLast Go.Proofs.YtpbnpepikkocmaaW.PrintMore
attribute [local go_sem] max2_int min2_int max_two min_two max_three min_three max_four min_four   -- for this text's walks alone
set_option linter.unusedVariables false
set_option linter.unusedSimpArgs false
def spec_l8Told.l0:Nat→Int→Int→Int→List (S57)→Int→Int→Option (Int)
 | 0,_,_,_,_,_,_=>none
 |k+1,x1,x2,x7,x10,x11,x12=>if x12<x11 then(if 0≤x12 then(if x12< (x10.length:Int) then(if ((rd_T57 x10 x12).f0)=x1 then(if ((rd_T57 x10 x12).f1)=x2 then(spec_l8Told.l0 k x1 x2 ((rd_T57 x10 x12).f2) x10 x11 (wrap64 (x12+1))) else(spec_l8Told.l0 k x1 x2 x7 x10 x11 (wrap64 (x12+1)))) else(spec_l8Told.l0 k x1 x2 x7 x10 x11 (wrap64 (x12+1)))) else(none)) else(none)) else(some x7)
def spec_l8Told.f (k:Nat) (l0:List (S57)) (a1:Int) (a2:Int):Option (Int):=spec_l8Told.l0 k a1 a2 0 l0 (l0.length:Int) 0
set_option maxHeartbeats 8000000 in
set_option maxRecDepth 100000 in
theorem spec_l8Told.calls (k:Nat) (A0:Option Addr) (c0:Nat) (l0:List (S57)) (a1:Int) (a2:Int) (r:Int) (w:World) (hr0:Kd.C k57 w A0 l0.length l0) (hc0:l0.length≤c0) (h:spec_l8Told.f k l0 a1 a2=some r):
  Calls Try.prog 51 #[.slice A0 l0.length c0,.int .i64 a1,.int .i64 a2] w fun e w'=>e= .returned (.int .i64 r)∧Below w.heap.size w w':=by
 have hu57:=Try.underlying57
 have HR0:=Aside0.mk hr0
 have HC0:=Aside0.mk hc0
 clear hr0 hc0
 have HB:=Aside0.mk (Below.refl w.heap.size w)
 have H:(spec_l8Told.l0 k a1 a2 0 l0 (l0.length:Int) 0)=some r:=h
 clear h
 have H':=Aside0.mk H
 clear H
 go_enter Try.func51,Try.ntmps51
 go_wp2
 go_loopg [7,12] k (fun kq v7 v12 w'=> ∃ (x7_1:Int) (x12_1:Int),v7= .int .i64 x7_1∧v12= .int .i64 x12_1∧Aside0 (spec_l8Told.l0 kq a1 a2 x7_1 l0 (l0.length:Int) x12_1=some r)∧Aside0 (kq≤k)∧Aside0 (Below w.heap.size w w'))
 case atStart=>exact⟨(0),(0),zrs,zrs,H',⟨Nat.le_refl _⟩,⟨by exact zk1 HB⟩⟩
 case round=>
  clear H'
  try clear p2
  obtain⟨x7_1,x12_1,rfl,rfl,HA,HK1,HB⟩:=hrel
  cases gk with
  |zero=>exact absurd HA.out (by simp [spec_l8Told.l0])
  |succ k1=>
   have H:=HA.out
   clear HA
   simp only [spec_l8Told.l0] at H
   by_cases c4:x12_1< (l0.length:Int)
   ·rw [if_pos c4] at H
    have c4b0:decide (x12_1< (l0.length:Int))=true:=decide_eq_true c4
    clear c4
    by_cases c5: 0≤x12_1
    case neg=>exact znn c5 H
    rw [if_pos c5] at H
    have c5b0:decide (0≤x12_1)=true:=decide_eq_true c5
    clear c5
    by_cases c6:x12_1< (l0.length:Int)
    case neg=>exact znn c6 H
    rw [if_pos c6] at H
    have c6b0:decide (x12_1< (l0.length:Int))=true:=decide_eq_true c6
    clear c6
    by_cases c7:((rd_T57 l0 x12_1).f0)=a1
    ·rw [if_pos c7] at H
     have c7b0:(((rd_T57 l0 x12_1).f0)==a1)=true:=beq_iff_eq.mpr c7
     have c7b1:(((rd_T57 l0 x12_1).f0) !=a1)=false:=bne_eq_false_iff_eq.mpr c7
     clear c7
     by_cases c8:((rd_T57 l0 x12_1).f1)=a2
     ·rw [if_pos c8] at H
      have c8b0:(((rd_T57 l0 x12_1).f1)==a2)=true:=beq_iff_eq.mpr c8
      have c8b1:(((rd_T57 l0 x12_1).f1) !=a2)=false:=bne_eq_false_iff_eq.mpr c8
      clear c8
      have H':=Aside0.mk H
      clear H
      have p263: 0≤ (x12_1:Int):=of_decide_eq_true zq1
      have q263:x12_1< (l0.length:Int):=of_decide_eq_true zq1
      obtain⟨ad263,e263,hx263_0,hx263_1,hx263_2⟩:=at_T57 HR0.out x12_1 p263 q263
      cases e263
      replace hx263_0:=zhx HB hx263_0
      replace hx263_1:=zhx HB hx263_1
      replace hx263_2:=zhx HB hx263_2
      replace p263:=eq_true p263
      replace q263:=eq_true q263
      go_wp2_with (first|((with_reducible refine gate_dst (N:=9) rfl ?_);refine box_event ?hg (N:=9) ?hd (cs:= #[.int .i64 0,.int .i64 0,.int .i64 0]) (t:=57) ?hr ?_;(case hd=>rfl);(case hg=>rfl);(case hr=>first|(go_simp;done)|(go_simp;rfl));intro gb264 hg w9 hbox hb;have BK264:=Aside0.mk (hbox);have GW264:=Aside0.mk ((by rw [hg];exact(below_size (by exact zk1 HB)):w.heap.size≤gb264));have GE264:=GW264;replace HB:=Aside0.mk (below_step (by exact zk1 HB) hb);clear hb hbox hg;have hcz10_0:=zcz BK264 0 (.int .i64 0);have hcz10_1:=zcz BK264 1 (.int .i64 0);have hcz10_2:=zcz BK264 2 (.int .i64 0);have hfz10_0:=blk_frozen BK264.out 0;have hfz10_1:=blk_frozen BK264.out 1;have hfz10_2:=blk_frozen BK264.out 2))
      go_roundg k1
      case measure=>have:=HK1.out;omega
      case rel=>exact⟨((rd_T57 l0 x12_1).f2),(wrap64 (x12_1+1)),zrs,zrs,H',⟨by have:=HK1.out;omega⟩,⟨by exact zk2 HB GE264.out⟩⟩
     ·rw [if_neg c8] at H
      have c8b0:(((rd_T57 l0 x12_1).f1)==a2)=false:=beq_eq_false_iff_ne.mpr c8
      have c8b1:(((rd_T57 l0 x12_1).f1) !=a2)=true:=bne_iff_ne.mpr c8
      have H':=Aside0.mk H
      clear H
      have p263: 0≤ (x12_1:Int):=of_decide_eq_true zq1
      have q263:x12_1< (l0.length:Int):=of_decide_eq_true zq1
      obtain⟨ad263,e263,hx263_0,hx263_1,hx263_2⟩:=at_T57 HR0.out x12_1 p263 q263
      cases e263
      replace hx263_0:=zhx HB hx263_0
      replace hx263_1:=zhx HB hx263_1
      replace hx263_2:=zhx HB hx263_2
      replace p263:=eq_true p263
      replace q263:=eq_true q263
      go_wp2_with (first|((with_reducible refine gate_dst (N:=9) rfl ?_);refine box_event ?hg (N:=9) ?hd (cs:= #[.int .i64 0,.int .i64 0,.int .i64 0]) (t:=57) ?hr ?_;(case hd=>rfl);(case hg=>rfl);(case hr=>first|(go_simp;done)|(go_simp;rfl));intro gb264 hg w11 hbox hb;have BK264:=Aside0.mk (hbox);have GW264:=Aside0.mk ((by rw [hg];exact(below_size (by exact zk1 HB)):w.heap.size≤gb264));have GE264:=GW264;replace HB:=Aside0.mk (below_step (by exact zk1 HB) hb);clear hb hbox hg;have hcz12_0:=zcz BK264 0 (.int .i64 0);have hcz12_1:=zcz BK264 1 (.int .i64 0);have hcz12_2:=zcz BK264 2 (.int .i64 0);have hfz12_0:=blk_frozen BK264.out 0;have hfz12_1:=blk_frozen BK264.out 1;have hfz12_2:=blk_frozen BK264.out 2))
      go_roundg k1
      case measure=>have:=HK1.out;omega
      case rel=>exact⟨(x7_1),(wrap64 (x12_1+1)),zrs,zrs,H',⟨by have:=HK1.out;omega⟩,⟨by exact zk2 HB GE264.out⟩⟩
    ·rw [if_neg c7] at H
     have c7b0:(((rd_T57 l0 x12_1).f0)==a1)=false:=beq_eq_false_iff_ne.mpr c7
     have c7b1:(((rd_T57 l0 x12_1).f0) !=a1)=true:=bne_iff_ne.mpr c7
     have H':=Aside0.mk H
     clear H
     have p263: 0≤ (x12_1:Int):=of_decide_eq_true zq1
     have q263:x12_1< (l0.length:Int):=of_decide_eq_true zq1
     obtain⟨ad263,e263,hx263_0,hx263_1,hx263_2⟩:=at_T57 HR0.out x12_1 p263 q263
     cases e263
     replace hx263_0:=zhx HB hx263_0
     replace hx263_1:=zhx HB hx263_1
     replace hx263_2:=zhx HB hx263_2
     replace p263:=eq_true p263
     replace q263:=eq_true q263
     go_wp2_with (first|((with_reducible refine gate_dst (N:=9) rfl ?_);refine box_event ?hg (N:=9) ?hd (cs:= #[.int .i64 0,.int .i64 0,.int .i64 0]) (t:=57) ?hr ?_;(case hd=>rfl);(case hg=>rfl);(case hr=>first|(go_simp;done)|(go_simp;rfl));intro gb264 hg w13 hbox hb;have BK264:=Aside0.mk (hbox);have GW264:=Aside0.mk ((by rw [hg];exact(below_size (by exact zk1 HB)):w.heap.size≤gb264));have GE264:=GW264;replace HB:=Aside0.mk (below_step (by exact zk1 HB) hb);clear hb hbox hg;have hcz14_0:=zcz BK264 0 (.int .i64 0);have hcz14_1:=zcz BK264 1 (.int .i64 0);have hcz14_2:=zcz BK264 2 (.int .i64 0);have hfz14_0:=blk_frozen BK264.out 0;have hfz14_1:=blk_frozen BK264.out 1;have hfz14_2:=blk_frozen BK264.out 2))
     go_roundg k1
     case measure=>have:=HK1.out;omega
     case rel=>exact⟨(x7_1),(wrap64 (x12_1+1)),zrs,zrs,H',⟨by have:=HK1.out;omega⟩,⟨by exact zk2 HB GE264.out⟩⟩
   ·rw [if_neg c4] at H
    have c4b0:decide (x12_1< (l0.length:Int))=false:=decide_eq_false c4
    clear c4
    obtain rfl:=Option.some.inj H
    go_wp2
    go_ret
    exact⟨zer,by exact zk1 HB⟩
mutual
def spec_BothWays.l0:Nat→Int→List (S57)→List (S57)→Int→Int→Option ((List (S52)) × Bool)
 | 0,_,_,_,_,_=>none
 |k+1,x0,x1,x13,x14,x15=>if x15<x14 then(if 0≤x15 then(if x15< (x13.length:Int) then((spec_l1In.f ((rd_T57 x13 x15).f0) 0 (wrap64 (x0 - 1))).bind fun t267=>(if t267=true then((spec_l1In.f ((rd_T57 x13 x15).f1) 0 (wrap64 (x0 - 1))).bind fun t268=>(if t268=true then(if ((rd_T57 x13 x15).f0)= ((rd_T57 x13 x15).f1) then(some (([] :List (S52)),false)) else((spec_l1In.f ((rd_T57 x13 x15).f2) 1 100).bind fun t269=>(if t269=true then(spec_BothWays.l0 k x0 x1 x13 x14 (wrap64 (x15+1))) else(some (([] :List (S52)),false))))) else(some (([] :List (S52)),false)))) else(some (([] :List (S52)),false)))) else(none)) else(none)) else((spec_l1In.f x0 1 12).bind fun t270=>(if t270=true then(spec_BothWays.j1 k x0 x1 (decide ((x1.length:Int) > 80))) else(spec_BothWays.j1 k x0 x1 true)))
def spec_BothWays.j1:Nat→Int→List (S57)→Bool→Option ((List (S52)) × Bool)
 | 0,_,_,_=>none
 |k+1,x0,x1,x54=>if x54=true then(some (([] :List (S52)),false)) else(spec_BothWays.l1 k x0 x1 ([] :List (S52)) 0)
def spec_BothWays.l1:Nat→Int→List (S57)→List (S52)→Int→Option ((List (S52)) × Bool)
 | 0,_,_,_,_=>none
 |k+1,x0,x1,x8,x9=>if x9<x0 then(spec_BothWays.l2 k x0 x1 x8 x9 (wrap64 (x9+1))) else(if (x8.length:Int) > 40 then(some (([] :List (S52)),false)) else(some (x8,true)))
def spec_BothWays.l2:Nat→Int→List (S57)→List (S52)→Int→Int→Option ((List (S52)) × Bool)
 | 0,_,_,_,_,_=>none
 |k+1,x0,x1,x8,x9,x10=>if x10<x0 then((spec_l8Told.f k x1 x9 x10).bind fun t271=>((spec_l8Told.f k x1 x10 x9).bind fun t272=>(if t271 > 0 then(spec_BothWays.j4 k x0 x1 x8 x9 x10 t271 t272 (decide (t272 > 0))) else(spec_BothWays.j4 k x0 x1 x8 x9 x10 t271 t272 false)))) else(spec_BothWays.l1 k x0 x1 x8 (wrap64 (x9+1)))
def spec_BothWays.j4:Nat→Int→List (S57)→List (S52)→Int→Int→Int→Int→Bool→Option ((List (S52)) × Bool)
 | 0,_,_,_,_,_,_,_,_=>none
 |k+1,x0,x1,x8,x9,x10,x11,x12,x80=>if x80=true then(if x12 > x11 then(if x8.length< 5864062014805 then(spec_BothWays.l2 k x0 x1 (x8++ [(⟨x9,x10,x12⟩ :S52)]) x9 (wrap64 (x10+1))) else(none)) else(if x8.length< 5864062014805 then(spec_BothWays.l2 k x0 x1 (x8++ [(⟨x9,x10,x11⟩ :S52)]) x9 (wrap64 (x10+1))) else(none))) else(spec_BothWays.l2 k x0 x1 x8 x9 (wrap64 (x10+1)))
end
def spec_BothWays.f (k:Nat) (a0:Int) (l1:List (S57)):Option ((List (S52)) × Bool):=spec_BothWays.l0 k a0 l1 l1 (l1.length:Int) 0
theorem zcc {q p:Prop} (b:q) (h:q→p:=by intro z;repeat(first|exact z|(with_reducible refine Kd.C_alloc ?_ _)|(with_reducible refine Kd.C_drewN ?_ _)|(with_reducible refine Kd.C_drew ?_))):p:=h b
theorem zdr {q p:Prop} (b:Aside0 q) (h:q→p:=by intro z;(with_reducible repeat(first|apply Kd.R_alloc|apply Kd.R_drewN|apply Kd.R_drew));exact z):p:=h b.out
theorem zfh {r q p:Prop} (a:r) (b:q) (h:r→q→p:=by intro z H;first|(rw [z];with_reducible exact H)|(have H2_:=(Option.bind_some _ _).symm.trans H;rw [z];with_reducible exact H2_)|(have H2_:=(Option.bind_some _ _).symm.trans H;with_reducible exact H2_)|with_reducible exact H|(rw [z];exact H)|exact H):p:=h a b
theorem zq4 {q p:Prop} (b:Aside0 q) (h:q→p:=by intro z;(with_reducible repeat(first|apply Kd.R_alloc|apply Kd.R_drewN|apply Kd.R_drew));exact z):p:=h b.out
set_option maxHeartbeats 8000000 in
set_option maxRecDepth 100000 in
theorem spec_BothWays.calls (k:Nat) (a0:Int) (A1:Option Addr) (c1:Nat) (l1:List (S57)) (r1:List (S52)) (r2:Bool) (w:World) (hr1:Kd.C k57 w A1 l1.length l1) (hc1:l1.length≤c1) (h:spec_BothWays.f k a0 l1=some (r1,r2)):
  Calls Try.prog 22 #[.int .i64 a0,.slice A1 l1.length c1] w fun e w'=> ∃ v0_:Value,e= .returned (.tuple #[v0_,.bool r2])∧Kd.R k52 52 w' w.heap.size (fun _=>True) v0_ r1∧Below w.heap.size w w':=by
 have hu57:=Try.underlying57
 have hu52:=Try.underlying52
 have HR1:=Aside0.mk hr1
 have HC1:=Aside0.mk hc1
 clear hr1 hc1
 have HB:=Aside0.mk (Below.refl w.heap.size w)
 have H:(spec_BothWays.l0 k a0 l1 l1 (l1.length:Int) 0)=some (r1,r2):=h
 clear h
 have H':=Aside0.mk H
 clear H
 go_enter Try.func22,Try.ntmps22
 go_wp2
 go_loopg [15] k (fun kq v15 w'=> ∃ (x15_1:Int),v15= .int .i64 x15_1∧Aside0 (spec_BothWays.l0 kq a0 l1 l1 (l1.length:Int) x15_1=some (r1,r2))∧Aside0 (kq≤k)∧Aside0 (Below w.heap.size w w'))
 case atStart=>exact⟨(0),zrs,H',⟨Nat.le_refl _⟩,⟨by exact zk1 HB⟩⟩
 case round=>
  clear H'
  try clear c1
  try clear c2
  try clear p2
  obtain⟨x15_1,rfl,HA,HK1,HB⟩:=hrel
  cases gk with
  |zero=>exact absurd HA.out (by simp [spec_BothWays.l0])
  |succ k1=>
   have H:=HA.out
   clear HA
   simp only [spec_BothWays.l0] at H
   by_cases c3:x15_1< (l1.length:Int)
   ·rw [if_pos c3] at H
    have c3b0:decide (x15_1< (l1.length:Int))=true:=decide_eq_true c3
    clear c3
    by_cases c4: 0≤x15_1
    case neg=>exact znn c4 H
    rw [if_pos c4] at H
    have c4b0:decide (0≤x15_1)=true:=decide_eq_true c4
    clear c4
    by_cases c5:x15_1< (l1.length:Int)
    case neg=>exact znn c5 H
    rw [if_pos c5] at H
    have c5b0:decide (x15_1< (l1.length:Int))=true:=decide_eq_true c5
    clear c5
    replace H:=Option.bind_eq_some_iff.mp H
    obtain⟨t267,A60,H⟩:=H
    replace H:(if t267=true then((spec_l1In.f ((rd_T57 l1 x15_1).f1) 0 (wrap64 (a0 - 1))).bind fun t268=>(if t268=true then(if ((rd_T57 l1 x15_1).f0)= ((rd_T57 l1 x15_1).f1) then(some (([] :List (S52)),false)) else((spec_l1In.f ((rd_T57 l1 x15_1).f2) 1 100).bind fun t269=>(if t269=true then(spec_BothWays.l0 k1 a0 l1 l1 (l1.length:Int) (wrap64 (x15_1+1))) else(some (([] :List (S52)),false))))) else(some (([] :List (S52)),false)))) else(some (([] :List (S52)),false)))=some (r1,r2):=H
    have A6:=Aside0.mk A60
    clear A60
    by_cases c7:t267=true
    ·subst c7
     have H1:((spec_l1In.f ((rd_T57 l1 x15_1).f1) 0 (wrap64 (a0 - 1))).bind fun t268=>(if t268=true then(if ((rd_T57 l1 x15_1).f0)= ((rd_T57 l1 x15_1).f1) then(some (([] :List (S52)),false)) else((spec_l1In.f ((rd_T57 l1 x15_1).f2) 1 100).bind fun t269=>(if t269=true then(spec_BothWays.l0 k1 a0 l1 l1 (l1.length:Int) (wrap64 (x15_1+1))) else(some (([] :List (S52)),false))))) else(some (([] :List (S52)),false))))=some (r1,r2):=by rw [if_pos rfl] at H;exact H
     clear H
     have H:=H1
     clear H1
     replace H:=Option.bind_eq_some_iff.mp H
     obtain⟨t268,A80,H⟩:=H
     replace H:(if t268=true then(if ((rd_T57 l1 x15_1).f0)= ((rd_T57 l1 x15_1).f1) then(some (([] :List (S52)),false)) else((spec_l1In.f ((rd_T57 l1 x15_1).f2) 1 100).bind fun t269=>(if t269=true then(spec_BothWays.l0 k1 a0 l1 l1 (l1.length:Int) (wrap64 (x15_1+1))) else(some (([] :List (S52)),false))))) else(some (([] :List (S52)),false)))=some (r1,r2):=H
     have A8:=Aside0.mk A80
     clear A80
     by_cases c9:t268=true
     ·subst c9
      have H1:(if ((rd_T57 l1 x15_1).f0)= ((rd_T57 l1 x15_1).f1) then(some (([] :List (S52)),false)) else((spec_l1In.f ((rd_T57 l1 x15_1).f2) 1 100).bind fun t269=>(if t269=true then(spec_BothWays.l0 k1 a0 l1 l1 (l1.length:Int) (wrap64 (x15_1+1))) else(some (([] :List (S52)),false)))))=some (r1,r2):=by rw [if_pos rfl] at H;exact H
      clear H
      have H:=H1
      clear H1
      by_cases c10:((rd_T57 l1 x15_1).f0)= ((rd_T57 l1 x15_1).f1)
      ·rw [if_pos c10] at H
       have c10b0:(((rd_T57 l1 x15_1).f0)== ((rd_T57 l1 x15_1).f1))=true:=beq_iff_eq.mpr c10
       have c10b1:(((rd_T57 l1 x15_1).f0) != ((rd_T57 l1 x15_1).f1))=false:=bne_eq_false_iff_eq.mpr c10
       clear c10
       simp only [Option.some.injEq,Prod.mk.injEq] at H
       obtain⟨rfl,rfl⟩:=H
       have p265: 0≤ (x15_1:Int):=of_decide_eq_true zq1
       have q265:x15_1< (l1.length:Int):=of_decide_eq_true zq1
       obtain⟨ad265,e265,hx265_0,hx265_1,hx265_2⟩:=at_T57 HR1.out x15_1 p265 q265
       cases e265
       replace hx265_0:=zhx HB hx265_0
       replace hx265_1:=zhx HB hx265_1
       replace hx265_2:=zhx HB hx265_2
       replace p265:=eq_true p265
       replace q265:=eq_true q265
       go_wp2_with (first|((with_reducible refine gate_dst (N:=7) rfl ?_);(try(refine gate_guard (by rfl) ?_;dsimp only));refine box_event ?hg (N:=7) ?hd (cs:= #[.int .i64 0,.int .i64 0,.int .i64 0]) (t:=57) ?hr ?_;(case hd=>rfl);(case hg=>rfl);(case hr=>first|(go_simp;done)|(go_simp;rfl));intro gb266 hg w11 hbox hb;have BK266:=Aside0.mk (hbox);have GW266:=Aside0.mk ((by rw [hg];exact(below_size (by exact zk1 HB)):w.heap.size≤gb266));have GE266:=GW266;replace HB:=Aside0.mk (below_step (by exact zk1 HB) hb);clear hb hbox hg;have hcz12_0:=zcz BK266 0 (.int .i64 0);have hcz12_1:=zcz BK266 1 (.int .i64 0);have hcz12_2:=zcz BK266 2 (.int .i64 0);have hfz12_0:=blk_frozen BK266.out 0;have hfz12_1:=blk_frozen BK266.out 1;have hfz12_2:=blk_frozen BK266.out 2)|((with_reducible refine gate_callee (f:=50) rfl ?_);refine goesL_ (some 23) rfl rfl Try.func50 (by kernel_rfl) rfl #[.int .i64 ((rd_T57 l1 x15_1).f0),.int .i64 0,.int .i64 (wrap64 (a0 - 1))] rfl zq2 ?_;(with_reducible refine(spec_l1In.calls ((rd_T57 l1 x15_1).f0) 0 (wrap64 (a0 - 1)) true _ A6.out).mono ?_);rintro e w' ⟨rfl,⟨nd,rfl⟩⟩;refine⟨_,rfl,?_⟩)|(go_at_call 50;(with_reducible refine(spec_l1In.calls ((rd_T57 l1 x15_1).f1) 0 (wrap64 (a0 - 1)) true _ A8.out).mono ?_);rintro e w' ⟨rfl,⟨nd,rfl⟩⟩))
       go_ret2
       exact⟨_,zer,by first|exact Kd.R_nil _ _ _ _ _|exact Kd.N_nil _ _ _ _ _|exact Kd.V_nil _ _ _ _ _|exact Kd.Q_nil _ _ _ _ _|exact Kd.S_nil _ _ _ _ _,by exact zk2 HB GE266.out⟩
      ·rw [if_neg c10] at H
       have c10b0:(((rd_T57 l1 x15_1).f0)== ((rd_T57 l1 x15_1).f1))=false:=beq_eq_false_iff_ne.mpr c10
       have c10b1:(((rd_T57 l1 x15_1).f0) != ((rd_T57 l1 x15_1).f1))=true:=bne_iff_ne.mpr c10
       replace H:=Option.bind_eq_some_iff.mp H
       obtain⟨t269,A130,H⟩:=H
       replace H:(if t269=true then(spec_BothWays.l0 k1 a0 l1 l1 (l1.length:Int) (wrap64 (x15_1+1))) else(some (([] :List (S52)),false)))=some (r1,r2):=H
       have A13:=Aside0.mk A130
       clear A130
       by_cases c14:t269=true
       ·subst c14
        have H1:(spec_BothWays.l0 k1 a0 l1 l1 (l1.length:Int) (wrap64 (x15_1+1)))=some (r1,r2):=by rw [if_pos rfl] at H;exact H
        clear H
        have H:=H1
        clear H1
        have H':=Aside0.mk H
        clear H
        have p265: 0≤ (x15_1:Int):=of_decide_eq_true zq1
        have q265:x15_1< (l1.length:Int):=of_decide_eq_true zq1
        obtain⟨ad265,e265,hx265_0,hx265_1,hx265_2⟩:=at_T57 HR1.out x15_1 p265 q265
        cases e265
        replace hx265_0:=zhx HB hx265_0
        replace hx265_1:=zhx HB hx265_1
        replace hx265_2:=zhx HB hx265_2
        replace p265:=eq_true p265
        replace q265:=eq_true q265
        go_wp2_with (first|((with_reducible refine gate_dst (N:=7) rfl ?_);(try(refine gate_guard (by rfl) ?_;dsimp only));refine box_event ?hg (N:=7) ?hd (cs:= #[.int .i64 0,.int .i64 0,.int .i64 0]) (t:=57) ?hr ?_;(case hd=>rfl);(case hg=>rfl);(case hr=>first|(go_simp;done)|(go_simp;rfl));intro gb266 hg w15 hbox hb;have BK266:=Aside0.mk (hbox);have GW266:=Aside0.mk ((by rw [hg];exact(below_size (by exact zk1 HB)):w.heap.size≤gb266));have GE266:=GW266;replace HB:=Aside0.mk (below_step (by exact zk1 HB) hb);clear hb hbox hg;have hcz16_0:=zcz BK266 0 (.int .i64 0);have hcz16_1:=zcz BK266 1 (.int .i64 0);have hcz16_2:=zcz BK266 2 (.int .i64 0);have hfz16_0:=blk_frozen BK266.out 0;have hfz16_1:=blk_frozen BK266.out 1;have hfz16_2:=blk_frozen BK266.out 2)|((with_reducible refine gate_callee (f:=50) rfl ?_);refine goesL_ (some 23) rfl rfl Try.func50 (by kernel_rfl) rfl #[.int .i64 ((rd_T57 l1 x15_1).f0),.int .i64 0,.int .i64 (wrap64 (a0 - 1))] rfl zq2 ?_;(with_reducible refine(spec_l1In.calls ((rd_T57 l1 x15_1).f0) 0 (wrap64 (a0 - 1)) true _ A6.out).mono ?_);rintro e w' ⟨rfl,⟨nd,rfl⟩⟩;refine⟨_,rfl,?_⟩)|(go_at_call 50;(with_reducible refine(spec_l1In.calls ((rd_T57 l1 x15_1).f1) 0 (wrap64 (a0 - 1)) true _ A8.out).mono ?_);rintro e w' ⟨rfl,⟨nd,rfl⟩⟩)|(go_at_call 50;(with_reducible refine(spec_l1In.calls ((rd_T57 l1 x15_1).f2) 1 100 true _ A13.out).mono ?_);rintro e w' ⟨rfl,⟨nd,rfl⟩⟩))
        go_roundg k1
        case measure=>have:=HK1.out;omega
        case rel=>exact⟨(wrap64 (x15_1+1)),zrs,H',⟨by have:=HK1.out;omega⟩,⟨by exact zk2 HB GE266.out⟩⟩
       ·replace c14:=Bool.eq_false_iff.mpr c14
        subst c14
        have H1:(some (([] :List (S52)),false))=some (r1,r2):=by rw [if_neg (show ¬ (false=true) by decide)] at H;exact H
        clear H
        have H:=H1
        clear H1
        simp only [Option.some.injEq,Prod.mk.injEq] at H
        obtain⟨rfl,rfl⟩:=H
        have p265: 0≤ (x15_1:Int):=of_decide_eq_true zq1
        have q265:x15_1< (l1.length:Int):=of_decide_eq_true zq1
        obtain⟨ad265,e265,hx265_0,hx265_1,hx265_2⟩:=at_T57 HR1.out x15_1 p265 q265
        cases e265
        replace hx265_0:=zhx HB hx265_0
        replace hx265_1:=zhx HB hx265_1
        replace hx265_2:=zhx HB hx265_2
        replace p265:=eq_true p265
        replace q265:=eq_true q265
        go_wp2_with (first|((with_reducible refine gate_dst (N:=7) rfl ?_);(try(refine gate_guard (by rfl) ?_;dsimp only));refine box_event ?hg (N:=7) ?hd (cs:= #[.int .i64 0,.int .i64 0,.int .i64 0]) (t:=57) ?hr ?_;(case hd=>rfl);(case hg=>rfl);(case hr=>first|(go_simp;done)|(go_simp;rfl));intro gb266 hg w17 hbox hb;have BK266:=Aside0.mk (hbox);have GW266:=Aside0.mk ((by rw [hg];exact(below_size (by exact zk1 HB)):w.heap.size≤gb266));have GE266:=GW266;replace HB:=Aside0.mk (below_step (by exact zk1 HB) hb);clear hb hbox hg;have hcz18_0:=zcz BK266 0 (.int .i64 0);have hcz18_1:=zcz BK266 1 (.int .i64 0);have hcz18_2:=zcz BK266 2 (.int .i64 0);have hfz18_0:=blk_frozen BK266.out 0;have hfz18_1:=blk_frozen BK266.out 1;have hfz18_2:=blk_frozen BK266.out 2)|((with_reducible refine gate_callee (f:=50) rfl ?_);refine goesL_ (some 23) rfl rfl Try.func50 (by kernel_rfl) rfl #[.int .i64 ((rd_T57 l1 x15_1).f0),.int .i64 0,.int .i64 (wrap64 (a0 - 1))] rfl zq2 ?_;(with_reducible refine(spec_l1In.calls ((rd_T57 l1 x15_1).f0) 0 (wrap64 (a0 - 1)) true _ A6.out).mono ?_);rintro e w' ⟨rfl,⟨nd,rfl⟩⟩;refine⟨_,rfl,?_⟩)|(go_at_call 50;(with_reducible refine(spec_l1In.calls ((rd_T57 l1 x15_1).f1) 0 (wrap64 (a0 - 1)) true _ A8.out).mono ?_);rintro e w' ⟨rfl,⟨nd,rfl⟩⟩)|(go_at_call 50;(with_reducible refine(spec_l1In.calls ((rd_T57 l1 x15_1).f2) 1 100 false _ A13.out).mono ?_);rintro e w' ⟨rfl,⟨nd,rfl⟩⟩))
        go_ret2
        exact⟨_,zer,by first|exact Kd.R_nil _ _ _ _ _|exact Kd.N_nil _ _ _ _ _|exact Kd.V_nil _ _ _ _ _|exact Kd.Q_nil _ _ _ _ _|exact Kd.S_nil _ _ _ _ _,by exact zk2 HB GE266.out⟩
     ·replace c9:=Bool.eq_false_iff.mpr c9
      subst c9
      have H1:(some (([] :List (S52)),false))=some (r1,r2):=by rw [if_neg (show ¬ (false=true) by decide)] at H;exact H
      clear H
      have H:=H1
      clear H1
      simp only [Option.some.injEq,Prod.mk.injEq] at H
      obtain⟨rfl,rfl⟩:=H
      have p265: 0≤ (x15_1:Int):=of_decide_eq_true zq1
      have q265:x15_1< (l1.length:Int):=of_decide_eq_true zq1
      obtain⟨ad265,e265,hx265_0,hx265_1,hx265_2⟩:=at_T57 HR1.out x15_1 p265 q265
      cases e265
      replace hx265_0:=zhx HB hx265_0
      replace hx265_1:=zhx HB hx265_1
      replace hx265_2:=zhx HB hx265_2
      replace p265:=eq_true p265
      replace q265:=eq_true q265
      go_wp2_with (first|((with_reducible refine gate_dst (N:=7) rfl ?_);(try(refine gate_guard (by rfl) ?_;dsimp only));refine box_event ?hg (N:=7) ?hd (cs:= #[.int .i64 0,.int .i64 0,.int .i64 0]) (t:=57) ?hr ?_;(case hd=>rfl);(case hg=>rfl);(case hr=>first|(go_simp;done)|(go_simp;rfl));intro gb266 hg w19 hbox hb;have BK266:=Aside0.mk (hbox);have GW266:=Aside0.mk ((by rw [hg];exact(below_size (by exact zk1 HB)):w.heap.size≤gb266));have GE266:=GW266;replace HB:=Aside0.mk (below_step (by exact zk1 HB) hb);clear hb hbox hg;have hcz20_0:=zcz BK266 0 (.int .i64 0);have hcz20_1:=zcz BK266 1 (.int .i64 0);have hcz20_2:=zcz BK266 2 (.int .i64 0);have hfz20_0:=blk_frozen BK266.out 0;have hfz20_1:=blk_frozen BK266.out 1;have hfz20_2:=blk_frozen BK266.out 2)|((with_reducible refine gate_callee (f:=50) rfl ?_);refine goesL_ (some 23) rfl rfl Try.func50 (by kernel_rfl) rfl #[.int .i64 ((rd_T57 l1 x15_1).f0),.int .i64 0,.int .i64 (wrap64 (a0 - 1))] rfl zq2 ?_;(with_reducible refine(spec_l1In.calls ((rd_T57 l1 x15_1).f0) 0 (wrap64 (a0 - 1)) true _ A6.out).mono ?_);rintro e w' ⟨rfl,⟨nd,rfl⟩⟩;refine⟨_,rfl,?_⟩)|(go_at_call 50;(with_reducible refine(spec_l1In.calls ((rd_T57 l1 x15_1).f1) 0 (wrap64 (a0 - 1)) false _ A8.out).mono ?_);rintro e w' ⟨rfl,⟨nd,rfl⟩⟩))
      go_ret2
      exact⟨_,zer,by first|exact Kd.R_nil _ _ _ _ _|exact Kd.N_nil _ _ _ _ _|exact Kd.V_nil _ _ _ _ _|exact Kd.Q_nil _ _ _ _ _|exact Kd.S_nil _ _ _ _ _,by exact zk2 HB GE266.out⟩
    ·replace c7:=Bool.eq_false_iff.mpr c7
     subst c7
     have H1:(some (([] :List (S52)),false))=some (r1,r2):=by rw [if_neg (show ¬ (false=true) by decide)] at H;exact H
     clear H
     have H:=H1
     clear H1
     simp only [Option.some.injEq,Prod.mk.injEq] at H
     obtain⟨rfl,rfl⟩:=H
     have p265: 0≤ (x15_1:Int):=of_decide_eq_true zq1
     have q265:x15_1< (l1.length:Int):=of_decide_eq_true zq1
     obtain⟨ad265,e265,hx265_0,hx265_1,hx265_2⟩:=at_T57 HR1.out x15_1 p265 q265
     cases e265
     replace hx265_0:=zhx HB hx265_0
     replace hx265_1:=zhx HB hx265_1
     replace hx265_2:=zhx HB hx265_2
     replace p265:=eq_true p265
     replace q265:=eq_true q265
     go_wp2_with (first|((with_reducible refine gate_dst (N:=7) rfl ?_);(try(refine gate_guard (by rfl) ?_;dsimp only));refine box_event ?hg (N:=7) ?hd (cs:= #[.int .i64 0,.int .i64 0,.int .i64 0]) (t:=57) ?hr ?_;(case hd=>rfl);(case hg=>rfl);(case hr=>first|(go_simp;done)|(go_simp;rfl));intro gb266 hg w21 hbox hb;have BK266:=Aside0.mk (hbox);have GW266:=Aside0.mk ((by rw [hg];exact(below_size (by exact zk1 HB)):w.heap.size≤gb266));have GE266:=GW266;replace HB:=Aside0.mk (below_step (by exact zk1 HB) hb);clear hb hbox hg;have hcz22_0:=zcz BK266 0 (.int .i64 0);have hcz22_1:=zcz BK266 1 (.int .i64 0);have hcz22_2:=zcz BK266 2 (.int .i64 0);have hfz22_0:=blk_frozen BK266.out 0;have hfz22_1:=blk_frozen BK266.out 1;have hfz22_2:=blk_frozen BK266.out 2)|((with_reducible refine gate_callee (f:=50) rfl ?_);refine goesL_ (some 23) rfl rfl Try.func50 (by kernel_rfl) rfl #[.int .i64 ((rd_T57 l1 x15_1).f0),.int .i64 0,.int .i64 (wrap64 (a0 - 1))] rfl zq2 ?_;(with_reducible refine(spec_l1In.calls ((rd_T57 l1 x15_1).f0) 0 (wrap64 (a0 - 1)) false _ A6.out).mono ?_);rintro e w' ⟨rfl,⟨nd,rfl⟩⟩;refine⟨_,rfl,?_⟩))
     go_ret2
     exact⟨_,zer,by first|exact Kd.R_nil _ _ _ _ _|exact Kd.N_nil _ _ _ _ _|exact Kd.V_nil _ _ _ _ _|exact Kd.Q_nil _ _ _ _ _|exact Kd.S_nil _ _ _ _ _,by exact zk2 HB GE266.out⟩
   ·rw [if_neg c3] at H
    have c3b0:decide (x15_1< (l1.length:Int))=false:=decide_eq_false c3
    clear c3
    have HC23:=Aside0.mk H
    clear H
    go_upto_region 7 with (fail)
    go_cut [54] (fun v54 wc=> ∃ (kq:Nat) (x54_22:Bool),v54= .bool x54_22∧Aside0 (spec_BothWays.j1 kq a0 l1 x54_22=some (r1,r2))∧Aside0 (kq≤k1)∧Aside0 (Below w.heap.size w wc))
    case first=>
     have H:=HC23.out
     clear HC23
     replace H:=Option.bind_eq_some_iff.mp H
     obtain⟨t270,A240,H⟩:=H
     replace H:(if t270=true then(spec_BothWays.j1 k1 a0 l1 (decide ((l1.length:Int) > 80))) else(spec_BothWays.j1 k1 a0 l1 true))=some (r1,r2):=H
     have A24:=Aside0.mk A240
     clear A240
     by_cases c25:t270=true
     ·subst c25
      have H1:(spec_BothWays.j1 k1 a0 l1 (decide ((l1.length:Int) > 80)))=some (r1,r2):=by rw [if_pos rfl] at H;exact H
      clear H
      have H:=H1
      clear H1
      have H':=Aside0.mk H
      clear H
      go_wp2_with (first|((with_reducible refine gate_callee (f:=50) rfl ?_);refine goesL_ (some 48) rfl rfl Try.func50 (by kernel_rfl) rfl #[.int .i64 a0,.int .i64 1,.int .i64 12] rfl zq2 ?_;(with_reducible refine(spec_l1In.calls a0 1 12 true _ A24.out).mono ?_);rintro e w' ⟨rfl,⟨nd,rfl⟩⟩;refine⟨_,rfl,?_⟩))
      go_meet
      case rel=>exact⟨_,(decide ((l1.length:Int) > 80)),zrs,H',⟨by have:=HK1.out;first|omega|exact Nat.le_refl _⟩,⟨by exact zk1 HB⟩⟩
     ·replace c25:=Bool.eq_false_iff.mpr c25
      subst c25
      have H1:(spec_BothWays.j1 k1 a0 l1 true)=some (r1,r2):=by rw [if_neg (show ¬ (false=true) by decide)] at H;exact H
      clear H
      have H:=H1
      clear H1
      have H':=Aside0.mk H
      clear H
      go_wp2_with (first|((with_reducible refine gate_callee (f:=50) rfl ?_);refine goesL_ (some 48) rfl rfl Try.func50 (by kernel_rfl) rfl #[.int .i64 a0,.int .i64 1,.int .i64 12] rfl zq2 ?_;(with_reducible refine(spec_l1In.calls a0 1 12 false _ A24.out).mono ?_);rintro e w' ⟨rfl,⟨nd,rfl⟩⟩;refine⟨_,rfl,?_⟩))
      go_meet
      case rel=>exact⟨_,(true),zrs,H',⟨by have:=HK1.out;first|omega|exact Nat.le_refl _⟩,⟨by exact zk1 HB⟩⟩
    case rest=>
     clear HC23
     try clear c1
     try clear c2
     try clear p2
     try clear q2
     try clear hx2
     try clear c3
     try clear c3b0
     try clear c4
     try clear c4b0
     try clear c5
     try clear c5b0
     try clear p6
     try clear c7
     try clear c9
     try clear c10
     try clear c10b0
     try clear c10b1
     try clear c14
     try clear c22
     try clear c25
     try clear hcz12_0
     try clear hcz12_1
     try clear hcz12_2
     try clear hcz16_0
     try clear hcz16_1
     try clear hcz16_2
     try clear hcz18_0
     try clear hcz18_1
     try clear hcz18_2
     try clear hcz20_0
     try clear hcz20_1
     try clear hcz20_2
     try clear hcz22_0
     try clear hcz22_1
     try clear hcz22_2
     try clear hfz12_0
     try clear hfz12_1
     try clear hfz12_2
     try clear hfz16_0
     try clear hfz16_1
     try clear hfz16_2
     try clear hfz18_0
     try clear hfz18_1
     try clear hfz18_2
     try clear hfz20_0
     try clear hfz20_1
     try clear hfz20_2
     try clear hfz22_0
     try clear hfz22_1
     try clear hfz22_2
     try clear hx265_0
     try clear hx265_1
     try clear hx265_2
     try clear p2
     try clear p265
     try clear q265
     obtain⟨kq,x54_22,rfl,HA,HJ22,HB⟩:=hcut
     cases kq with
     |zero=>exact absurd HA.out (by simp [spec_BothWays.j1])
     |succ kj22=>
      have H:=HA.out
      clear HA
      simp only [spec_BothWays.j1] at H
      by_cases c26:x54_22=true
      ·subst c26
       have H1:(some (([] :List (S52)),false))=some (r1,r2):=by rw [if_pos rfl] at H;exact H
       clear H
       have H:=H1
       clear H1
       simp only [Option.some.injEq,Prod.mk.injEq] at H
       obtain⟨rfl,rfl⟩:=H
       go_wp2
       go_ret2
       exact⟨_,zer,by first|exact Kd.R_nil _ _ _ _ _|exact Kd.N_nil _ _ _ _ _|exact Kd.V_nil _ _ _ _ _|exact Kd.Q_nil _ _ _ _ _|exact Kd.S_nil _ _ _ _ _,by exact zk1 HB⟩
      ·replace c26:=Bool.eq_false_iff.mpr c26
       subst c26
       have H1:(spec_BothWays.l1 kj22 a0 l1 ([] :List (S52)) 0)=some (r1,r2):=by rw [if_neg (show ¬ (false=true) by decide)] at H;exact H
       clear H
       have H:=H1
       clear H1
       have H':=Aside0.mk H
       clear H
       go_wp2
       go_loopg [8,9] kj22 (fun kq v8 v9 w'=> ∃ (x8_3:List (S52)) (x9_3:Int),v9= .int .i64 x9_3∧Aside0 (spec_BothWays.l1 kq a0 l1 x8_3 x9_3=some (r1,r2))∧Aside0 (kq≤kj22)∧Aside0 (Kd.R k52 52 w' w.heap.size (fun _=>True) v8 x8_3)∧Aside0 (Below w.heap.size w w'))
       case atStart=>exact⟨(([] :List (S52))),(0),zrs,H',⟨Nat.le_refl _⟩,⟨by first|exact Kd.R_nil _ _ _ _ _|exact Kd.N_nil _ _ _ _ _|exact Kd.V_nil _ _ _ _ _|exact Kd.Q_nil _ _ _ _ _|exact Kd.S_nil _ _ _ _ _⟩,⟨by exact zk1 HB⟩⟩
       case round=>
        clear H'
        try clear c1
        try clear c2
        try clear p2
        try clear q2
        try clear hx2
        try clear c3
        try clear c3b0
        try clear c4
        try clear c4b0
        try clear c5
        try clear c5b0
        try clear p6
        try clear c7
        try clear c9
        try clear c10
        try clear c10b0
        try clear c10b1
        try clear c14
        try clear c22
        try clear c25
        try clear c26
        try clear p26
        try clear q26
        try clear hx26
        try clear hcz12_0
        try clear hcz12_1
        try clear hcz12_2
        try clear hcz16_0
        try clear hcz16_1
        try clear hcz16_2
        try clear hcz18_0
        try clear hcz18_1
        try clear hcz18_2
        try clear hcz20_0
        try clear hcz20_1
        try clear hcz20_2
        try clear hcz22_0
        try clear hcz22_1
        try clear hcz22_2
        try clear hfz12_0
        try clear hfz12_1
        try clear hfz12_2
        try clear hfz16_0
        try clear hfz16_1
        try clear hfz16_2
        try clear hfz18_0
        try clear hfz18_1
        try clear hfz18_2
        try clear hfz20_0
        try clear hfz20_1
        try clear hfz20_2
        try clear hfz22_0
        try clear hfz22_1
        try clear hfz22_2
        try clear hx265_0
        try clear hx265_1
        try clear hx265_2
        try clear p2
        try clear p265
        try clear p6
        try clear q2
        try clear q265
        obtain⟨x8_3,x9_3,rfl,HA,HK3,HO_8,HB⟩:=hrel
        cases gk with
        |zero=>exact absurd HA.out (by simp [spec_BothWays.l1])
        |succ k3=>
         have H:=HA.out
         clear HA
         simp only [spec_BothWays.l1] at H
         by_cases c27:x9_3<a0
         ·rw [if_pos c27] at H
          have c27b0:decide (x9_3<a0)=true:=decide_eq_true c27
          clear c27
          have H':=Aside0.mk H
          clear H
          go_wp2
          go_loopg [8,10] k3 (fun kq v8 v10 w'=> ∃ (x8_4:List (S52)) (x10_4:Int),v10= .int .i64 x10_4∧Aside0 (spec_BothWays.l2 kq a0 l1 x8_4 x9_3 x10_4=some (r1,r2))∧Aside0 (kq≤k3)∧Aside0 (Kd.R k52 52 w' w.heap.size (fun _=>True) v8 x8_4)∧Aside0 (Below w.heap.size w w'))
          case atStart=>exact⟨(x8_3),(wrap64 (x9_3+1)),zrs,H',⟨Nat.le_refl _⟩,⟨zdr HO_8⟩,⟨by exact zk1 HB⟩⟩
          case round=>
           clear H'
           try clear c1
           try clear c2
           try clear p2
           try clear q2
           try clear hx2
           try clear c3
           try clear c3b0
           try clear c4
           try clear c4b0
           try clear c5
           try clear c5b0
           try clear p6
           try clear c7
           try clear c9
           try clear c10
           try clear c10b0
           try clear c10b1
           try clear c14
           try clear c22
           try clear c25
           try clear c26
           try clear p26
           try clear q26
           try clear hx26
           try clear c27
           try clear c27b0
           try clear hcz12_0
           try clear hcz12_1
           try clear hcz12_2
           try clear hcz16_0
           try clear hcz16_1
           try clear hcz16_2
           try clear hcz18_0
           try clear hcz18_1
           try clear hcz18_2
           try clear hcz20_0
           try clear hcz20_1
           try clear hcz20_2
           try clear hcz22_0
           try clear hcz22_1
           try clear hcz22_2
           try clear hfz12_0
           try clear hfz12_1
           try clear hfz12_2
           try clear hfz16_0
           try clear hfz16_1
           try clear hfz16_2
           try clear hfz18_0
           try clear hfz18_1
           try clear hfz18_2
           try clear hfz20_0
           try clear hfz20_1
           try clear hfz20_2
           try clear hfz22_0
           try clear hfz22_1
           try clear hfz22_2
           try clear hx265_0
           try clear hx265_1
           try clear hx265_2
           try clear p2
           try clear p26
           try clear p265
           try clear p6
           try clear q2
           try clear q26
           try clear q265
           obtain⟨x8_4,x10_4,rfl,HA,HK4,HO_8,HB⟩:=hrel
           cases gk with
           |zero=>exact absurd HA.out (by simp [spec_BothWays.l2])
           |succ k4=>
            have H:=HA.out
            clear HA
            simp only [spec_BothWays.l2] at H
            by_cases c28:x10_4<a0
            ·rw [if_pos c28] at H
             have c28b0:decide (x10_4<a0)=true:=decide_eq_true c28
             clear c28
             replace H:=Option.bind_eq_some_iff.mp H
             obtain⟨t271,A290,H⟩:=H
             replace H:((spec_l8Told.f k4 l1 x10_4 x9_3).bind fun t272=>(if t271 > 0 then(spec_BothWays.j4 k4 a0 l1 x8_4 x9_3 x10_4 t271 t272 (decide (t272 > 0))) else(spec_BothWays.j4 k4 a0 l1 x8_4 x9_3 x10_4 t271 t272 false)))=some (r1,r2):=H
             have A29:=Aside0.mk A290
             clear A290
             replace H:=Option.bind_eq_some_iff.mp H
             obtain⟨t272,A300,H⟩:=H
             replace H:(if t271 > 0 then(spec_BothWays.j4 k4 a0 l1 x8_4 x9_3 x10_4 t271 t272 (decide (t272 > 0))) else(spec_BothWays.j4 k4 a0 l1 x8_4 x9_3 x10_4 t271 t272 false))=some (r1,r2):=H
             have A30:=Aside0.mk A300
             clear A300
             have HC31:=Aside0.mk H
             clear H
             go_upto_region 18 with (first|((with_reducible refine gate_callee (f:=51) rfl ?_);refine goesL_ (some 70) rfl rfl Try.func51 (by kernel_rfl) rfl #[.slice A1 l1.length c1,.int .i64 x9_3,.int .i64 x10_4] rfl zq2 ?_;(with_reducible refine(spec_l8Told.calls k4 _ _ l1 x9_3 x10_4 t271 _ ?side1 ?side2 A29.out).mono ?_);(case side1=>exact zcc ((Kd.C_below HR1.out HB.out)));(case side2=>exact HC1.out);rintro e w32 ⟨rfl,hb⟩;refine⟨_,rfl,?_⟩;replace HO_8:=Aside0.mk (Kd.R_below (zq4 HO_8) hb);replace HB:=Aside0.mk (below_step (by exact zk1 HB) hb);(try clear hb);(try clear hb2);(try clear hk);(try clear hi))|((with_reducible refine gate_callee (f:=51) rfl ?_);refine goesL_ (some 74) rfl rfl Try.func51 (by kernel_rfl) rfl #[.slice A1 l1.length c1,.int .i64 x10_4,.int .i64 x9_3] rfl zq2 ?_;(with_reducible refine(spec_l8Told.calls k4 _ _ l1 x10_4 x9_3 t272 _ ?side1 ?side2 A30.out).mono ?_);(case side1=>exact zcc ((Kd.C_below HR1.out HB.out)));(case side2=>exact HC1.out);rintro e w33 ⟨rfl,hb⟩;refine⟨_,rfl,?_⟩;replace HO_8:=Aside0.mk (Kd.R_below (zq4 HO_8) hb);replace HB:=Aside0.mk (below_step (by exact zk1 HB) hb);(try clear hb);(try clear hb2);(try clear hk);(try clear hi)))
             (try simp only [Act.put,List.setIfInBounds_toArray,List.set_cons_zero,List.set_cons_succ])
             go_cut [80] (fun v80 wc=> ∃ (kq:Nat) (x80_30:Bool),v80= .bool x80_30∧Aside0 (spec_BothWays.j4 kq a0 l1 x8_4 x9_3 x10_4 t271 t272 x80_30=some (r1,r2))∧Aside0 (kq≤k4)∧Aside0 (Kd.R k52 52 wc w.heap.size (fun _=>True) u8 x8_4)∧Aside0 (Below w.heap.size w wc))
             case first=>
              have H:=HC31.out
              clear HC31
              by_cases c34:t271 > 0
              ·rw [if_pos c34] at H
               have c34b0:decide (0<t271)=true:=decide_eq_true c34
               clear c34
               (first|rw [c34b0]|(simp only [i64_w,i32_w];rw [c34b0])|skip)
               have H':=Aside0.mk H
               clear H
               go_wp2
               go_meet
               case rel=>exact⟨_,(decide (t272 > 0)),zrs,H',⟨by have:=HK1.out;have:=HJ22.out;have:=HK3.out;have:=HK4.out;first|omega|exact Nat.le_refl _⟩,⟨zdr HO_8⟩,⟨by exact zk1 HB⟩⟩
              ·rw [if_neg c34] at H
               have c34b0:decide (0<t271)=false:=decide_eq_false c34
               clear c34
               (first|rw [c34b0]|(simp only [i64_w,i32_w];rw [c34b0])|skip)
               have H':=Aside0.mk H
               clear H
               go_wp2
               go_meet
               case rel=>exact⟨_,(false),zrs,H',⟨by have:=HK1.out;have:=HJ22.out;have:=HK3.out;have:=HK4.out;first|omega|exact Nat.le_refl _⟩,⟨zdr HO_8⟩,⟨by exact zk1 HB⟩⟩
             case rest=>
              clear HC31
              try clear c1
              try clear c2
              try clear p2
              try clear q2
              try clear hx2
              try clear c3
              try clear c3b0
              try clear c4
              try clear c4b0
              try clear c5
              try clear c5b0
              try clear p6
              try clear c7
              try clear c9
              try clear c10
              try clear c10b0
              try clear c10b1
              try clear c14
              try clear c22
              try clear c25
              try clear c26
              try clear p26
              try clear q26
              try clear hx26
              try clear c27
              try clear c27b0
              try clear c28
              try clear c28b0
              try clear c34
              try clear c34b0
              try clear hcz12_0
              try clear hcz12_1
              try clear hcz12_2
              try clear hcz16_0
              try clear hcz16_1
              try clear hcz16_2
              try clear hcz18_0
              try clear hcz18_1
              try clear hcz18_2
              try clear hcz20_0
              try clear hcz20_1
              try clear hcz20_2
              try clear hcz22_0
              try clear hcz22_1
              try clear hcz22_2
              try clear hfz12_0
              try clear hfz12_1
              try clear hfz12_2
              try clear hfz16_0
              try clear hfz16_1
              try clear hfz16_2
              try clear hfz18_0
              try clear hfz18_1
              try clear hfz18_2
              try clear hfz20_0
              try clear hfz20_1
              try clear hfz20_2
              try clear hfz22_0
              try clear hfz22_1
              try clear hfz22_2
              try clear hx265_0
              try clear hx265_1
              try clear hx265_2
              try clear p2
              try clear p26
              try clear p265
              try clear p6
              try clear q2
              try clear q26
              try clear q265
              obtain⟨kq,x80_30,rfl,HA,HJ30,HO_8,HB⟩:=hcut
              cases kq with
              |zero=>exact absurd HA.out (by simp [spec_BothWays.j4])
              |succ kj30=>
               have H:=HA.out
               clear HA
               simp only [spec_BothWays.j4] at H
               by_cases c35:x80_30=true
               ·subst c35
                have H1:(if t272 > t271 then(if x8_4.length< 5864062014805 then(spec_BothWays.l2 kj30 a0 l1 (x8_4++ [(⟨x9_3,x10_4,t272⟩ :S52)]) x9_3 (wrap64 (x10_4+1))) else(none)) else(if x8_4.length< 5864062014805 then(spec_BothWays.l2 kj30 a0 l1 (x8_4++ [(⟨x9_3,x10_4,t271⟩ :S52)]) x9_3 (wrap64 (x10_4+1))) else(none)))=some (r1,r2):=by rw [if_pos rfl] at H;exact H
                clear H
                have H:=H1
                clear H1
                by_cases c36:t272 > t271
                ·rw [if_pos c36] at H
                 have c36b0:decide (t271<t272)=true:=decide_eq_true c36
                 clear c36
                 by_cases c37:x8_4.length< 5864062014805
                 case neg=>exact znn c37 H
                 rw [if_pos c37] at H
                 have LMc37:=Aside0.mk c37
                 clear c37
                 obtain⟨y273,hy273⟩ :∃ y_:List (S52),y_= (x8_4++ [(⟨x9_3,x10_4,t272⟩ :S52)]):=⟨_,rfl⟩
                 replace H:(spec_BothWays.l2 kj30 a0 l1 y273 x9_3 (wrap64 (x10_4+1)))=some (r1,r2):=zfh hy273 H
                 have Ny273:=Aside0.mk hy273
                 clear hy273
                 have H':=Aside0.mk H
                 clear H
                 go_wp2_with (first|((with_reducible refine gate_builtin (b:= .append) (xs:= #[.tmp 85,.tmp 90]) rfl ?_);(try(refine gate_guard (by rfl) ?_;dsimp only));at_builtin;refine Kd.R_append k52 (w0:=w) w.heap.size rfl (.tmp 85) (.tmp 90) 26 52 (.agg #[(.int .i64 0),(.int .i64 0),(.int .i64 0)]) 24 rfl Try.underlying26 info52 rfl (by decide) (by omega) u8 x8_4 (⟨x9_3,x10_4,t272⟩ :S52) [.int .i64 x9_3,.int .i64 x10_4,.int .i64 t272] (fun _=>True) (fun _=>False) rfl rfl ?aP (fun _ hk=>hk.elim) ?aF ?aO ?aB ?aS ?aL ?_;(case aP=>exact k52_mkM _ _ _ (⟨x9_3,x10_4,t272⟩ :S52));(case aB=>exact(by exact zk1 HB));(case aF=>exact(fun _ _=>trivial));(case aO=>exact(zq4 HO_8));(case aS=>exact(below_size (by exact zk1 HB)));(case aL=>have:=LMc37.out;omega);intro v274 w38 ho hb hg hat;rw [← Ny273.out] at ho;have HO275:=Aside0.mk (ho);replace HB:=Aside0.mk (hb);clear HO_8;clear ho hb hg hat))
                 go_roundg kj30
                 case measure=>have:=HK1.out;have:=HJ22.out;have:=HK3.out;have:=HK4.out;have:=HJ30.out;omega
                 case rel=>exact⟨(y273),(wrap64 (x10_4+1)),zrs,H',⟨by have:=HK1.out;have:=HJ22.out;have:=HK3.out;have:=HK4.out;have:=HJ30.out;omega⟩,⟨zdr HO275⟩,⟨by exact zk1 HB⟩⟩
                ·rw [if_neg c36] at H
                 have c36b0:decide (t271<t272)=false:=decide_eq_false c36
                 clear c36
                 by_cases c39:x8_4.length< 5864062014805
                 case neg=>exact znn c39 H
                 rw [if_pos c39] at H
                 have LMc39:=Aside0.mk c39
                 clear c39
                 obtain⟨y276,hy276⟩ :∃ y_:List (S52),y_= (x8_4++ [(⟨x9_3,x10_4,t271⟩ :S52)]):=⟨_,rfl⟩
                 replace H:(spec_BothWays.l2 kj30 a0 l1 y276 x9_3 (wrap64 (x10_4+1)))=some (r1,r2):=zfh hy276 H
                 have Ny276:=Aside0.mk hy276
                 clear hy276
                 have H':=Aside0.mk H
                 clear H
                 go_wp2_with (first|((with_reducible refine gate_builtin (b:= .append) (xs:= #[.tmp 85,.tmp 90]) rfl ?_);(try(refine gate_guard (by rfl) ?_;dsimp only));at_builtin;refine Kd.R_append k52 (w0:=w) w.heap.size rfl (.tmp 85) (.tmp 90) 26 52 (.agg #[(.int .i64 0),(.int .i64 0),(.int .i64 0)]) 24 rfl Try.underlying26 info52 rfl (by decide) (by omega) u8 x8_4 (⟨x9_3,x10_4,t271⟩ :S52) [.int .i64 x9_3,.int .i64 x10_4,.int .i64 t271] (fun _=>True) (fun _=>False) rfl rfl ?aP (fun _ hk=>hk.elim) ?aF ?aO ?aB ?aS ?aL ?_;(case aP=>exact k52_mkM _ _ _ (⟨x9_3,x10_4,t271⟩ :S52));(case aB=>exact(by exact zk1 HB));(case aF=>exact(fun _ _=>trivial));(case aO=>exact(zq4 HO_8));(case aS=>exact(below_size (by exact zk1 HB)));(case aL=>have:=LMc39.out;omega);intro v277 w40 ho hb hg hat;rw [← Ny276.out] at ho;have HO278:=Aside0.mk (ho);replace HB:=Aside0.mk (hb);clear HO_8;clear ho hb hg hat))
                 go_roundg kj30
                 case measure=>have:=HK1.out;have:=HJ22.out;have:=HK3.out;have:=HK4.out;have:=HJ30.out;omega
                 case rel=>exact⟨(y276),(wrap64 (x10_4+1)),zrs,H',⟨by have:=HK1.out;have:=HJ22.out;have:=HK3.out;have:=HK4.out;have:=HJ30.out;omega⟩,⟨zdr HO278⟩,⟨by exact zk1 HB⟩⟩
               ·replace c35:=Bool.eq_false_iff.mpr c35
                subst c35
                have H1:(spec_BothWays.l2 kj30 a0 l1 x8_4 x9_3 (wrap64 (x10_4+1)))=some (r1,r2):=by rw [if_neg (show ¬ (false=true) by decide)] at H;exact H
                clear H
                have H:=H1
                clear H1
                have H':=Aside0.mk H
                clear H
                go_wp2
                go_roundg kj30
                case measure=>have:=HK1.out;have:=HJ22.out;have:=HK3.out;have:=HK4.out;have:=HJ30.out;omega
                case rel=>exact⟨(x8_4),(wrap64 (x10_4+1)),zrs,H',⟨by have:=HK1.out;have:=HJ22.out;have:=HK3.out;have:=HK4.out;have:=HJ30.out;omega⟩,⟨zdr HO_8⟩,⟨by exact zk1 HB⟩⟩
            ·rw [if_neg c28] at H
             have c28b0:decide (x10_4<a0)=false:=decide_eq_false c28
             clear c28
             have H':=Aside0.mk H
             clear H
             go_wp2
             go_roundg k4
             case measure=>have:=HK1.out;have:=HJ22.out;have:=HK3.out;have:=HK4.out;omega
             case rel=>exact⟨(x8_4),(wrap64 (x9_3+1)),zrs,H',⟨by have:=HK1.out;have:=HJ22.out;have:=HK3.out;have:=HK4.out;omega⟩,⟨zdr HO_8⟩,⟨by exact zk1 HB⟩⟩
         ·rw [if_neg c27] at H
          have c27b0:decide (x9_3<a0)=false:=decide_eq_false c27
          clear c27
          by_cases c41:(x8_3.length:Int) > 40
          ·rw [if_pos c41] at H
           have c41b0:decide (40< (x8_3.length:Int))=true:=decide_eq_true c41
           have c41b1:decide (40<x8_3.length)=true:=decide_eq_true (by omega)
           clear c41
           simp only [Option.some.injEq,Prod.mk.injEq] at H
           obtain⟨rfl,rfl⟩:=H
           obtain⟨Ao42,co42,eo42⟩:=Kd.R_slice HO_8.out
           subst eo42
           go_wp2
           go_ret2
           exact⟨_,zer,by first|exact Kd.R_nil _ _ _ _ _|exact Kd.N_nil _ _ _ _ _|exact Kd.V_nil _ _ _ _ _|exact Kd.Q_nil _ _ _ _ _|exact Kd.S_nil _ _ _ _ _,by exact zk1 HB⟩
          ·rw [if_neg c41] at H
           have c41b0:decide (40< (x8_3.length:Int))=false:=decide_eq_false c41
           have c41b1:decide (40<x8_3.length)=false:=decide_eq_false (by omega)
           clear c41
           simp only [Option.some.injEq,Prod.mk.injEq] at H
           obtain⟨rfl,rfl⟩:=H
           obtain⟨Ao43,co43,eo43⟩:=Kd.R_slice HO_8.out
           subst eo43
           go_wp2
           go_ret2
           exact⟨_,zer,zdr HO_8,by exact zk1 HB⟩
theorem addB (g n:Nat):(⟨g,0,none⟩ :Addr).add n= ⟨g,n,none⟩:=by
 unfold Addr.add
 by_cases h:n=0
 ·simp [h]
 ·simp [h]
def idxB (a b:Int):Int:=if 0≤a∧a< 12∧0≤b∧b< 12 then a * 12+b else -1
theorem idxB_ok (a b:Int) (h: 0≤idxB a b): 0≤a∧a< 12∧0≤b∧b< 12∧ (idxB a b).toNat=a.toNat * 12+b.toNat:=by
 unfold idxB at h ⊢
 split at h
 ·next hc=>rw [if_pos hc];omega
 ·omega
theorem boxRow {W:World} {base g:Nat} (hg:base≤g) (hb:W.heap[g]?=some (.cells (List.replicate 144 (Value.int .i64 0)).toArray 73 (0,0))):
  Kd.R (Kd.int .i64) 73 W base (fun _=>True) (.slice (some ⟨g,0,none⟩) 144 144) (List.replicate 144 0):=by
 refine Kd.R_of_own (enc:=Value.int .i64) (h1:=fun _=>rfl) (xs:=List.replicate 144 (0:Int)) ⟨by simp [encs],.inr ⟨g,144,_,rfl,hg,hb,Nat.le_refl _,by simp [maxLen],by simp,by simp [encs]⟩⟩ (fun _ _=>trivial)
mutual
def impl_BothWays.j0:Nat→Int→List (S57)→Bool→Option ((List (S52)) × Bool)
 | 0,_,_,_=>none
 |k+1,x0,x1,x19=>if x19=true then(some (([] :List (S52)),false)) else(if 144≤35184372088832 then(impl_BothWays.l0 k x0 (List.replicate 144 0) x1 (x1.length:Int) 0) else(none))
def impl_BothWays.l0:Nat→Int→List Int→List (S57)→Int→Int→Option ((List (S52)) × Bool)
 | 0,_,_,_,_,_=>none
 |k+1,x0,x6,x20,x21,x22=>if x22<x21 then(if 0≤x22 then(if x22< (x20.length:Int) then((impl_in.f ((rd_T57 x20 x22).f0) 0 (wrap64 (x0 - 1))).bind fun t296=>(if t296=true then((impl_in.f ((rd_T57 x20 x22).f1) 0 (wrap64 (x0 - 1))).bind fun t297=>(if t297=true then(if ((rd_T57 x20 x22).f0)= ((rd_T57 x20 x22).f1) then(some (([] :List (S52)),false)) else((impl_in.f ((rd_T57 x20 x22).f2) 1 100).bind fun t298=>(if t298=true then(if 0≤ (idxB ((rd_T57 x20 x22).f0) ((rd_T57 x20 x22).f1)) then(if (idxB ((rd_T57 x20 x22).f0) ((rd_T57 x20 x22).f1))< (x6.length:Int) then(impl_BothWays.l0 k x0 (x6.set ((idxB ((rd_T57 x20 x22).f0) ((rd_T57 x20 x22).f1)):Int).toNat ((rd_T57 x20 x22).f2)) x20 x21 (wrap64 (x22+1))) else(none)) else(none)) else(some (([] :List (S52)),false))))) else(some (([] :List (S52)),false)))) else(some (([] :List (S52)),false)))) else(none)) else(none)) else(impl_BothWays.l1 k x0 x6 ([] :List (S52)) x0 0)
def impl_BothWays.l1:Nat→Int→List Int→List (S52)→Int→Int→Option ((List (S52)) × Bool)
 | 0,_,_,_,_,_=>none
 |k+1,x0,x6,x9,x62,x63=>if x63<x62 then(impl_BothWays.l2 k x0 x6 x9 x63 (wrap64 (x63+1)) x62 x63) else(if (x9.length:Int) > 40 then(some (([] :List (S52)),false)) else(some (x9,true)))
def impl_BothWays.l2:Nat→Int→List Int→List (S52)→Int→Int→Int→Int→Option ((List (S52)) × Bool)
 | 0,_,_,_,_,_,_,_=>none
 |k+1,x0,x6,x9,x10,x11,x62,x63=>if x11<x0 then(if 0≤ (idxB x10 x11) then(if (idxB x10 x11)< (x6.length:Int) then(if (rd x6 (idxB x10 x11)) > 0 then(if 0≤ (idxB x11 x10) then(if (idxB x11 x10)< (x6.length:Int) then(if (rd x6 (idxB x11 x10)) > 0 then(if x9.length< 5864062014805 then(impl_BothWays.l2 k x0 x6 (x9++ [(⟨x10,x11,mx (rd x6 (idxB x10 x11)) (rd x6 (idxB x11 x10))⟩ :S52)]) x10 (wrap64 (x11+1)) x62 x63) else(none)) else(impl_BothWays.l2 k x0 x6 x9 x10 (wrap64 (x11+1)) x62 x63)) else(none)) else(none)) else(impl_BothWays.l2 k x0 x6 x9 x10 (wrap64 (x11+1)) x62 x63)) else(none)) else(none)) else(impl_BothWays.l1 k x0 x6 x9 x62 (wrap64 (x63+1)))
end
def impl_BothWays.f (k:Nat) (a0:Int) (l1:List (S57)):Option ((List (S52)) × Bool):=(impl_isSpots.f a0).bind fun t290=>(if t290=true then(impl_BothWays.j0 k a0 l1 (decide ((l1.length:Int) > 80))) else(impl_BothWays.j0 k a0 l1 true))
def impl_BothWays.T9:Bool × List (List Nat × List Nat):=(true,[([],[]),([0],[0]),([],[]),([2],[2]),([],[]),([4],[4]),([1],[1]),([6,3,0,1,2,3,4,5],[3,6]),([7,5,0,1,2,3,4,5],[5,7])])
def impl_BothWays.B9:List Nat:= [0,1,0,4,0,16,3,127,255]
theorem impl_BothWays.tab9:rtab .any (opsOf Try.f24 9)=impl_BothWays.T9:=by kernel_rfl
theorem impl_BothWays.bits9:waitsOk impl_BothWays.T9.2 impl_BothWays.B9=true:=by kernel_rfl
def impl_BothWays.T19:Bool × List (List Nat × List Nat):=(true,[([],[]),([],[]),([],[]),([],[]),([],[]),([3],[3]),([5,4],[4,5]),([6],[6]),([],[]),([],[]),([8],[8]),([10,9],[9,10]),([11],[11]),([7,12],[7,12]),([1,2,13],[1,2,13]),([14],[14]),([0,15],[0,15]),([16,16,0,1,2,3,4,5,6,7,8,9,10,11,12,13,14,15,16],[0,16])])
def impl_BothWays.B19:List Nat:= [0,0,0,0,0,8,56,120,0,0,256,1792,3840,8184,16382,32766,65535,131071]
theorem impl_BothWays.tab19:rtab .any (opsOf Try.f24 19)=impl_BothWays.T19:=by kernel_rfl
theorem impl_BothWays.bits19:waitsOk impl_BothWays.T19.2 impl_BothWays.B19=true:=by kernel_rfl
set_option maxHeartbeats 8000000 in
set_option maxRecDepth 100000 in
theorem impl_BothWays.calls (k:Nat) (a0:Int) (A1:Option Addr) (c1:Nat) (l1:List (S57)) (r1:List (S52)) (r2:Bool) (w:World) (hr1:Kd.C k57 w A1 l1.length l1) (hc1:l1.length≤c1) (h:impl_BothWays.f k a0 l1=some (r1,r2)):
  Calls Try.prog 24 #[.int .i64 a0,.slice A1 l1.length c1] w fun e w'=> ∃ v0_:Value,e= .returned (.tuple #[v0_,.bool r2])∧Kd.R k52 52 w' w.heap.size (fun _=>True) v0_ r1∧Below w.heap.size w w':=by
 have hu57:=Try.underlying57
 have hu52:=Try.underlying52
 have hu72:=Try.underlying72
 have hu73:=Try.underlying73
 have HR1:=Aside0.mk hr1
 have HC1:=Aside0.mk hc1
 clear hr1 hc1
 have HB:=Aside0.mk (Below.refl w.heap.size w)
 have H:((impl_isSpots.f a0).bind fun t290=>(if t290=true then(impl_BothWays.j0 k a0 l1 (decide ((l1.length:Int) > 80))) else(impl_BothWays.j0 k a0 l1 true)))=some (r1,r2):=h
 clear h
 have HC3:=Aside0.mk H
 clear H
 go_enter Try.func24,Try.ntmps24
 go_upto_region 1 with (fail)
 go_cut [19] (fun v19 wc=> ∃ (kq:Nat) (x19_2:Bool),v19= .bool x19_2∧Aside0 (impl_BothWays.j0 kq a0 l1 x19_2=some (r1,r2))∧Aside0 (kq≤k)∧Aside0 (Below w.heap.size w wc))
 case first=>
  have H:=HC3.out
  clear HC3
  replace H:=Option.bind_eq_some_iff.mp H
  obtain⟨t290,A40,H⟩:=H
  replace H:(if t290=true then(impl_BothWays.j0 k a0 l1 (decide ((l1.length:Int) > 80))) else(impl_BothWays.j0 k a0 l1 true))=some (r1,r2):=H
  have A4:=Aside0.mk A40
  clear A40
  by_cases c5:t290=true
  ·subst c5
   have H1:(impl_BothWays.j0 k a0 l1 (decide ((l1.length:Int) > 80)))=some (r1,r2):=by rw [if_pos rfl] at H;exact H
   clear H
   have H:=H1
   clear H1
   have H':=Aside0.mk H
   clear H
   go_wp2_with (first|((with_reducible refine gate_callee (f:=53) rfl ?_);refine goesL_ (some 13) rfl rfl Try.func53 (by kernel_rfl) rfl #[.int .i64 a0] rfl zq2 ?_;(with_reducible refine(impl_isSpots.calls a0 true _ A4.out).mono ?_);rintro e w' ⟨rfl,⟨nd,rfl⟩⟩;refine⟨_,rfl,?_⟩))
   go_meet
   case rel=>exact⟨_,(decide ((l1.length:Int) > 80)),zrs,H',⟨by first|omega|exact Nat.le_refl _⟩,⟨by exact zk1 HB⟩⟩
  ·replace c5:=Bool.eq_false_iff.mpr c5
   subst c5
   have H1:(impl_BothWays.j0 k a0 l1 true)=some (r1,r2):=by rw [if_neg (show ¬ (false=true) by decide)] at H;exact H
   clear H
   have H:=H1
   clear H1
   have H':=Aside0.mk H
   clear H
   go_wp2_with (first|((with_reducible refine gate_callee (f:=53) rfl ?_);refine goesL_ (some 13) rfl rfl Try.func53 (by kernel_rfl) rfl #[.int .i64 a0] rfl zq2 ?_;(with_reducible refine(impl_isSpots.calls a0 false _ A4.out).mono ?_);rintro e w' ⟨rfl,⟨nd,rfl⟩⟩;refine⟨_,rfl,?_⟩))
   go_meet
   case rel=>exact⟨_,(true),zrs,H',⟨by first|omega|exact Nat.le_refl _⟩,⟨by exact zk1 HB⟩⟩
 case rest=>
  clear HC3
  try clear c1
  try clear c2
  try clear p2
  try clear c5
  obtain⟨kq,x19_2,rfl,HA,HJ2,HB⟩:=hcut
  cases kq with
  |zero=>exact absurd HA.out (by simp [impl_BothWays.j0])
  |succ kj2=>
   have H:=HA.out
   clear HA
   simp only [impl_BothWays.j0] at H
   by_cases c6:x19_2=true
   ·subst c6
    have H1:(some (([] :List (S52)),false))=some (r1,r2):=by rw [if_pos rfl] at H;exact H
    clear H
    have H:=H1
    clear H1
    simp only [Option.some.injEq,Prod.mk.injEq] at H
    obtain⟨rfl,rfl⟩:=H
    go_wp2
    go_ret2
    exact⟨_,zer,by first|exact Kd.R_nil _ _ _ _ _|exact Kd.N_nil _ _ _ _ _|exact Kd.V_nil _ _ _ _ _|exact Kd.Q_nil _ _ _ _ _|exact Kd.S_nil _ _ _ _ _,by exact zk1 HB⟩
   ·replace c6:=Bool.eq_false_iff.mpr c6
    subst c6
    have H1:(if 144≤35184372088832 then(impl_BothWays.l0 kj2 a0 (List.replicate 144 0) l1 (l1.length:Int) 0) else(none))=some (r1,r2):=by rw [if_neg (show ¬ (false=true) by decide)] at H;exact H
    clear H
    have H:=H1
    clear H1
    by_cases c7: 144≤35184372088832
    case neg=>exact znn c7 H
    rw [if_pos c7] at H
    have c7b0:=eq_true c7
    have c7b1:decide (144≤35184372088832)=true:=decide_eq_true c7
    clear c7
    obtain⟨y291,hy291⟩ :∃ y_:List Int,y_= (List.replicate 144 0):=⟨_,rfl⟩
    replace H:(impl_BothWays.l0 kj2 a0 y291 l1 (l1.length:Int) 0)=some (r1,r2):=zfh hy291 H
    have Ny291:=Aside0.mk hy291
    clear hy291
    have H':=Aside0.mk H
    clear H
    go_wp2_with (first|((with_reducible refine gate_dst (N:=6) rfl ?_);(try(refine gate_guard (by rfl) ?_;dsimp only));refine box_event ?hg (N:=6) ?hd (cs:=(List.replicate 144 (Value.int .i64 0)).toArray) (t:=73) ?hr ?_;(case hd=>rfl);(case hg=>rfl);(case hr=>first|(go_simp;done)|(go_simp;rfl));intro gb6 hg w8 hbox hb;have hg6:w.heap.size≤gb6:=(by rw [hg];exact(below_size (by exact zk1 HB)));have HO293:=Aside0.mk (by rw [Ny291.out];exact boxRow hg6 hbox:Kd.R (Kd.int .i64) 73 w8 w.heap.size (fun _=>True) (.slice (some ⟨gb6,0,none⟩) 144 144) y291);replace HB:=Aside0.mk (below_step (by exact zk1 HB) hb);clear hb hbox hg hg6))
    go_loopg [22] kj2 (fun kq v22 w'=> ∃ (x6_2:List Int) (x22_2:Int),v22= .int .i64 x22_2∧Aside0 (impl_BothWays.l0 kq a0 x6_2 l1 (l1.length:Int) x22_2=some (r1,r2))∧Aside0 (kq≤kj2)∧Aside0 (Kd.R (Kd.int .i64) 73 w' w.heap.size (fun _=>True) (.slice (some ⟨gb6,0,none⟩) 144 144) x6_2)∧Aside0 (Below w.heap.size w w'))
    case atStart=>exact⟨(y291),(0),zrs,H',⟨Nat.le_refl _⟩,⟨zdr HO293⟩,⟨by exact zk1 HB⟩⟩
    case round=>
     clear H'
     try clear c1
     try clear c2
     try clear p2
     try clear c5
     try clear c6
     try clear c7
     try clear c7b0
     try clear c7b1
     try clear p2
     obtain⟨x6_2,x22_2,rfl,HA,HK2,HO_6,HB⟩:=hrel
     cases gk with
     |zero=>exact absurd HA.out (by simp [impl_BothWays.l0])
     |succ k2=>
      have H:=HA.out
      clear HA
      simp only [impl_BothWays.l0] at H
      by_cases c10:x22_2< (l1.length:Int)
      ·rw [if_pos c10] at H
       have c10b0:decide (x22_2< (l1.length:Int))=true:=decide_eq_true c10
       clear c10
       by_cases c11: 0≤x22_2
       case neg=>exact znn c11 H
       rw [if_pos c11] at H
       have c11b0:decide (0≤x22_2)=true:=decide_eq_true c11
       clear c11
       by_cases c12:x22_2< (l1.length:Int)
       case neg=>exact znn c12 H
       rw [if_pos c12] at H
       have c12b0:decide (x22_2< (l1.length:Int))=true:=decide_eq_true c12
       clear c12
       replace H:=Option.bind_eq_some_iff.mp H
       obtain⟨t296,A130,H⟩:=H
       replace H:(if t296=true then((impl_in.f ((rd_T57 l1 x22_2).f1) 0 (wrap64 (a0 - 1))).bind fun t297=>(if t297=true then(if ((rd_T57 l1 x22_2).f0)= ((rd_T57 l1 x22_2).f1) then(some (([] :List (S52)),false)) else((impl_in.f ((rd_T57 l1 x22_2).f2) 1 100).bind fun t298=>(if t298=true then(if 0≤ (idxB ((rd_T57 l1 x22_2).f0) ((rd_T57 l1 x22_2).f1)) then(if (idxB ((rd_T57 l1 x22_2).f0) ((rd_T57 l1 x22_2).f1))< (x6_2.length:Int) then(impl_BothWays.l0 k2 a0 (x6_2.set ((idxB ((rd_T57 l1 x22_2).f0) ((rd_T57 l1 x22_2).f1)):Int).toNat ((rd_T57 l1 x22_2).f2)) l1 (l1.length:Int) (wrap64 (x22_2+1))) else(none)) else(none)) else(some (([] :List (S52)),false))))) else(some (([] :List (S52)),false)))) else(some (([] :List (S52)),false)))=some (r1,r2):=H
       have A13:=Aside0.mk A130
       clear A130
       by_cases c14:t296=true
       ·subst c14
        have H1:((impl_in.f ((rd_T57 l1 x22_2).f1) 0 (wrap64 (a0 - 1))).bind fun t297=>(if t297=true then(if ((rd_T57 l1 x22_2).f0)= ((rd_T57 l1 x22_2).f1) then(some (([] :List (S52)),false)) else((impl_in.f ((rd_T57 l1 x22_2).f2) 1 100).bind fun t298=>(if t298=true then(if 0≤ (idxB ((rd_T57 l1 x22_2).f0) ((rd_T57 l1 x22_2).f1)) then(if (idxB ((rd_T57 l1 x22_2).f0) ((rd_T57 l1 x22_2).f1))< (x6_2.length:Int) then(impl_BothWays.l0 k2 a0 (x6_2.set ((idxB ((rd_T57 l1 x22_2).f0) ((rd_T57 l1 x22_2).f1)):Int).toNat ((rd_T57 l1 x22_2).f2)) l1 (l1.length:Int) (wrap64 (x22_2+1))) else(none)) else(none)) else(some (([] :List (S52)),false))))) else(some (([] :List (S52)),false))))=some (r1,r2):=by rw [if_pos rfl] at H;exact H
        clear H
        have H:=H1
        clear H1
        replace H:=Option.bind_eq_some_iff.mp H
        obtain⟨t297,A150,H⟩:=H
        replace H:(if t297=true then(if ((rd_T57 l1 x22_2).f0)= ((rd_T57 l1 x22_2).f1) then(some (([] :List (S52)),false)) else((impl_in.f ((rd_T57 l1 x22_2).f2) 1 100).bind fun t298=>(if t298=true then(if 0≤ (idxB ((rd_T57 l1 x22_2).f0) ((rd_T57 l1 x22_2).f1)) then(if (idxB ((rd_T57 l1 x22_2).f0) ((rd_T57 l1 x22_2).f1))< (x6_2.length:Int) then(impl_BothWays.l0 k2 a0 (x6_2.set ((idxB ((rd_T57 l1 x22_2).f0) ((rd_T57 l1 x22_2).f1)):Int).toNat ((rd_T57 l1 x22_2).f2)) l1 (l1.length:Int) (wrap64 (x22_2+1))) else(none)) else(none)) else(some (([] :List (S52)),false))))) else(some (([] :List (S52)),false)))=some (r1,r2):=H
        have A15:=Aside0.mk A150
        clear A150
        by_cases c16:t297=true
        ·subst c16
         have H1:(if ((rd_T57 l1 x22_2).f0)= ((rd_T57 l1 x22_2).f1) then(some (([] :List (S52)),false)) else((impl_in.f ((rd_T57 l1 x22_2).f2) 1 100).bind fun t298=>(if t298=true then(if 0≤ (idxB ((rd_T57 l1 x22_2).f0) ((rd_T57 l1 x22_2).f1)) then(if (idxB ((rd_T57 l1 x22_2).f0) ((rd_T57 l1 x22_2).f1))< (x6_2.length:Int) then(impl_BothWays.l0 k2 a0 (x6_2.set ((idxB ((rd_T57 l1 x22_2).f0) ((rd_T57 l1 x22_2).f1)):Int).toNat ((rd_T57 l1 x22_2).f2)) l1 (l1.length:Int) (wrap64 (x22_2+1))) else(none)) else(none)) else(some (([] :List (S52)),false)))))=some (r1,r2):=by rw [if_pos rfl] at H;exact H
         clear H
         have H:=H1
         clear H1
         by_cases c17:((rd_T57 l1 x22_2).f0)= ((rd_T57 l1 x22_2).f1)
         ·rw [if_pos c17] at H
          have c17b0:(((rd_T57 l1 x22_2).f0)== ((rd_T57 l1 x22_2).f1))=true:=beq_iff_eq.mpr c17
          have c17b1:(((rd_T57 l1 x22_2).f0) != ((rd_T57 l1 x22_2).f1))=false:=bne_eq_false_iff_eq.mpr c17
          clear c17
          simp only [Option.some.injEq,Prod.mk.injEq] at H
          obtain⟨rfl,rfl⟩:=H
          have p294: 0≤ (x22_2:Int):=of_decide_eq_true zq1
          have q294:x22_2< (l1.length:Int):=of_decide_eq_true zq1
          obtain⟨ad294,e294,hx294_0,hx294_1,hx294_2⟩:=at_T57 HR1.out x22_2 p294 q294
          cases e294
          replace hx294_0:=zhx HB hx294_0
          replace hx294_1:=zhx HB hx294_1
          replace hx294_2:=zhx HB hx294_2
          replace p294:=eq_true p294
          replace q294:=eq_true q294
          go_wp2_with (first|((with_reducible refine gate_dst (N:=8) rfl ?_);(try(refine gate_guard (by rfl) ?_;dsimp only));refine box_event ?hg (N:=8) ?hd (cs:= #[.int .i64 0,.int .i64 0,.int .i64 0]) (t:=57) ?hr ?_;(case hd=>rfl);(case hg=>rfl);(case hr=>first|(go_simp;done)|(go_simp;rfl));intro gb295 hg w18 hbox hb;have BK295:=Aside0.mk (hbox);have GW295:=Aside0.mk ((by rw [hg];exact(below_size (by exact zk1 HB)):w.heap.size≤gb295));have GE295:=GW295;replace HO_6:=Aside0.mk (Kd.R_below (zq4 HO_6) hb);replace HB:=Aside0.mk (below_step (by exact zk1 HB) hb);clear hb hbox hg;have hcz19_0:=zcz BK295 0 (.int .i64 0);have hcz19_1:=zcz BK295 1 (.int .i64 0);have hcz19_2:=zcz BK295 2 (.int .i64 0);have hfz19_0:=blk_frozen BK295.out 0;have hfz19_1:=blk_frozen BK295.out 1;have hfz19_2:=blk_frozen BK295.out 2)|((with_reducible refine gate_callee (f:=54) rfl ?_);refine goesL_ (some 30) rfl rfl Try.func54 (by kernel_rfl) rfl #[.int .i64 ((rd_T57 l1 x22_2).f0),.int .i64 0,.int .i64 (wrap64 (a0 - 1))] rfl zq2 ?_;(with_reducible refine(impl_in.calls ((rd_T57 l1 x22_2).f0) 0 (wrap64 (a0 - 1)) true _ A13.out).mono ?_);rintro e w' ⟨rfl,⟨nd,rfl⟩⟩;refine⟨_,rfl,?_⟩)|(go_at_call 54;(with_reducible refine(impl_in.calls ((rd_T57 l1 x22_2).f1) 0 (wrap64 (a0 - 1)) true _ A15.out).mono ?_);rintro e w' ⟨rfl,⟨nd,rfl⟩⟩))
          go_ret2
          exact⟨_,zer,by first|exact Kd.R_nil _ _ _ _ _|exact Kd.N_nil _ _ _ _ _|exact Kd.V_nil _ _ _ _ _|exact Kd.Q_nil _ _ _ _ _|exact Kd.S_nil _ _ _ _ _,by exact zk2 HB GE295.out⟩
         ·rw [if_neg c17] at H
          have c17b0:(((rd_T57 l1 x22_2).f0)== ((rd_T57 l1 x22_2).f1))=false:=beq_eq_false_iff_ne.mpr c17
          have c17b1:(((rd_T57 l1 x22_2).f0) != ((rd_T57 l1 x22_2).f1))=true:=bne_iff_ne.mpr c17
          replace H:=Option.bind_eq_some_iff.mp H
          obtain⟨t298,A200,H⟩:=H
          replace H:(if t298=true then(if 0≤ (idxB ((rd_T57 l1 x22_2).f0) ((rd_T57 l1 x22_2).f1)) then(if (idxB ((rd_T57 l1 x22_2).f0) ((rd_T57 l1 x22_2).f1))< (x6_2.length:Int) then(impl_BothWays.l0 k2 a0 (x6_2.set ((idxB ((rd_T57 l1 x22_2).f0) ((rd_T57 l1 x22_2).f1)):Int).toNat ((rd_T57 l1 x22_2).f2)) l1 (l1.length:Int) (wrap64 (x22_2+1))) else(none)) else(none)) else(some (([] :List (S52)),false)))=some (r1,r2):=H
          have A20:=Aside0.mk A200
          clear A200
          by_cases c21:t298=true
          ·subst c21
           have H1:(if 0≤ (idxB ((rd_T57 l1 x22_2).f0) ((rd_T57 l1 x22_2).f1)) then(if (idxB ((rd_T57 l1 x22_2).f0) ((rd_T57 l1 x22_2).f1))< (x6_2.length:Int) then(impl_BothWays.l0 k2 a0 (x6_2.set ((idxB ((rd_T57 l1 x22_2).f0) ((rd_T57 l1 x22_2).f1)):Int).toNat ((rd_T57 l1 x22_2).f2)) l1 (l1.length:Int) (wrap64 (x22_2+1))) else(none)) else(none))=some (r1,r2):=by rw [if_pos rfl] at H;exact H
           clear H
           have H:=H1
           clear H1
           obtain⟨ji22,hji22⟩ :∃ j_:Int,(idxB ((rd_T57 l1 x22_2).f0) ((rd_T57 l1 x22_2).f1))=j_:=⟨_,rfl⟩
           replace H:(if 0≤ (ji22) then(if (ji22)< (x6_2.length:Int) then(impl_BothWays.l0 k2 a0 (x6_2.set ((ji22):Int).toNat ((rd_T57 l1 x22_2).f2)) l1 (l1.length:Int) (wrap64 (x22_2+1))) else(none)) else(none))=some (r1,r2):=by first|(rw [hji22] at H;exact H)|(simp only [hji22] at H ⊢;exact H)
           (try rw [hji22] at A13)
           (try rw [hji22] at A15)
           (try rw [hji22] at A20)
           by_cases c23: 0≤ (ji22)
           case neg=>exact znn c23 H
           rw [if_pos c23] at H
           have c23b0:decide (0≤ (ji22))=true:=decide_eq_true c23
           obtain⟨ba22,bb22,bc22,bd22,be22⟩:=idxB_ok ((rd_T57 l1 x22_2).f0) ((rd_T57 l1 x22_2).f1) (by rw [hji22];exact c23)
           rw [hji22] at be22
           replace ba22:=eq_true ba22
           replace bb22:=eq_true bb22
           replace bc22:=eq_true bc22
           replace bd22:=eq_true bd22
           clear c23
           by_cases c24:(ji22)< (x6_2.length:Int)
           case neg=>exact znn c24 H
           rw [if_pos c24] at H
           have c24b0:decide ((ji22)< (x6_2.length:Int))=true:=decide_eq_true c24
           clear c24
           obtain⟨y299,hy299⟩ :∃ y_:List Int,y_= (x6_2.set ((ji22):Int).toNat ((rd_T57 l1 x22_2).f2)):=⟨_,rfl⟩
           replace H:(impl_BothWays.l0 k2 a0 y299 l1 (l1.length:Int) (wrap64 (x22_2+1)))=some (r1,r2):=zfh hy299 H
           have Ny299:=Aside0.mk hy299
           clear hy299
           have H':=Aside0.mk H
           clear H
           have p294: 0≤ (x22_2:Int):=of_decide_eq_true zq1
           have q294:x22_2< (l1.length:Int):=of_decide_eq_true zq1
           obtain⟨ad294,e294,hx294_0,hx294_1,hx294_2⟩:=at_T57 HR1.out x22_2 p294 q294
           cases e294
           replace hx294_0:=zhx HB hx294_0
           replace hx294_1:=zhx HB hx294_1
           replace hx294_2:=zhx HB hx294_2
           replace p294:=eq_true p294
           replace q294:=eq_true q294
           try go_wp2_with (first|((with_reducible refine gate_dst (N:=8) rfl ?_);(try(refine gate_guard (by rfl) ?_;dsimp only));refine box_event ?hg (N:=8) ?hd (cs:= #[.int .i64 0,.int .i64 0,.int .i64 0]) (t:=57) ?hr ?_;(case hd=>rfl);(case hg=>rfl);(case hr=>first|(go_simp;done)|(go_simp;rfl));intro gb295 hg w26 hbox hb;have BK295:=Aside0.mk (hbox);have GW295:=Aside0.mk ((by rw [hg];exact(below_size (by exact zk1 HB)):w.heap.size≤gb295));have GE295:=GW295;replace HO_6:=Aside0.mk (Kd.R_below (zq4 HO_6) hb);replace HB:=Aside0.mk (below_step (by exact zk1 HB) hb);clear hb hbox hg;have hcz27_0:=zcz BK295 0 (.int .i64 0);have hcz27_1:=zcz BK295 1 (.int .i64 0);have hcz27_2:=zcz BK295 2 (.int .i64 0);have hfz27_0:=blk_frozen BK295.out 0;have hfz27_1:=blk_frozen BK295.out 1;have hfz27_2:=blk_frozen BK295.out 2)|((with_reducible refine gate_callee (f:=54) rfl ?_);refine goesL_ (some 30) rfl rfl Try.func54 (by kernel_rfl) rfl #[.int .i64 ((rd_T57 l1 x22_2).f0),.int .i64 0,.int .i64 (wrap64 (a0 - 1))] rfl zq2 ?_;(with_reducible refine(impl_in.calls ((rd_T57 l1 x22_2).f0) 0 (wrap64 (a0 - 1)) true _ A13.out).mono ?_);rintro e w' ⟨rfl,⟨nd,rfl⟩⟩;refine⟨_,rfl,?_⟩)|(go_at_call 54;(with_reducible refine(impl_in.calls ((rd_T57 l1 x22_2).f1) 0 (wrap64 (a0 - 1)) true _ A15.out).mono ?_);rintro e w' ⟨rfl,⟨nd,rfl⟩⟩)|(go_at_call 54;(with_reducible refine(impl_in.calls ((rd_T57 l1 x22_2).f2) 1 100 true _ A20.out).mono ?_);rintro e w' ⟨rfl,⟨nd,rfl⟩⟩))
           have n0_:Aside0 (Kd.R (Kd.int .i64) 73 (((w26.setCell ⟨gb295,0,none⟩ (.int .i64 ((rd_T57 l1 x22_2).f0))).setCell ⟨gb295,1,none⟩ (.int .i64 ((rd_T57 l1 x22_2).f1))).setCell ⟨gb295,2,none⟩ (.int .i64 ((rd_T57 l1 x22_2).f2))) w.heap.size (fun _=>True) (.slice (some ⟨gb6,0,none⟩) 144 144) x6_2):=⟨by(with_reducible repeat(first|apply Kd.R_alloc|apply Kd.R_drewN|apply Kd.R_drew));exact Kd.R_mono (Kd.R_far (p:=⟨gb295,2,none⟩) (Kd.R_far (p:=⟨gb295,1,none⟩) (Kd.R_far (p:=⟨gb295,0,none⟩) (Kd.R_types HO_6.out BK295.out (by decide)) (fun _ hk=>hk.2) (.int .i64 ((rd_T57 l1 x22_2).f0))) (fun _ hk=>hk.2) (.int .i64 ((rd_T57 l1 x22_2).f1))) (fun _ hk=>hk.2) (.int .i64 ((rd_T57 l1 x22_2).f2))) (fun _ hk=>trivial)⟩
           have n1_:Aside0 ((((w26.setCell ⟨gb295,0,none⟩ (.int .i64 ((rd_T57 l1 x22_2).f0))).setCell ⟨gb295,1,none⟩ (.int .i64 ((rd_T57 l1 x22_2).f1))).setCell ⟨gb295,2,none⟩ (.int .i64 ((rd_T57 l1 x22_2).f2))).heap[gb295]?=some (.cells #[.int .i64 ((rd_T57 l1 x22_2).f0),.int .i64 ((rd_T57 l1 x22_2).f1),.int .i64 ((rd_T57 l1 x22_2).f2)] 57 (0,0))):=⟨by(with_reducible repeat(first|refine blk_drewN ?_ _|refine blk_drew ?_ |refine blk_alloc ?_ _));refine blk_put (cs:= #[.int .i64 ((rd_T57 l1 x22_2).f0),.int .i64 ((rd_T57 l1 x22_2).f1),.int .i64 0]) ?_ 2 _ rfl;(with_reducible repeat(first|refine blk_drewN ?_ _|refine blk_drew ?_ |refine blk_alloc ?_ _));refine blk_put (cs:= #[.int .i64 ((rd_T57 l1 x22_2).f0),.int .i64 0,.int .i64 0]) ?_ 1 _ rfl;(with_reducible repeat(first|refine blk_drewN ?_ _|refine blk_drew ?_ |refine blk_alloc ?_ _));refine blk_put (cs:= #[.int .i64 0,.int .i64 0,.int .i64 0]) ?_ 0 _ rfl;(with_reducible repeat(first|refine blk_drewN ?_ _|refine blk_drew ?_ |refine blk_alloc ?_ _));exact BK295.out⟩
           have n2_:Aside0 (Below w.heap.size w (((w26.setCell ⟨gb295,0,none⟩ (.int .i64 ((rd_T57 l1 x22_2).f0))).setCell ⟨gb295,1,none⟩ (.int .i64 ((rd_T57 l1 x22_2).f1))).setCell ⟨gb295,2,none⟩ (.int .i64 ((rd_T57 l1 x22_2).f2)))):=⟨by exact zk2 HB GE295.out⟩
           (try clear HO_6)
           (try clear BK295)
           (try clear HB)
           (try simp only [show ∀ (W_:World) (n_:Nat) (a_:Addr) (v_:Value),(World.drewN W_ n_).setCell a_ v_= (World.setCell W_ a_ v_).drewN n_ from fun _ _ _ _=>rfl])
           generalize (((w26.setCell ⟨gb295,0,none⟩ (.int .i64 ((rd_T57 l1 x22_2).f0))).setCell ⟨gb295,1,none⟩ (.int .i64 ((rd_T57 l1 x22_2).f1))).setCell ⟨gb295,2,none⟩ (.int .i64 ((rd_T57 l1 x22_2).f2)))=w28 at n0_ n1_ n2_ ⊢
           have HO_6:=n0_
           have BK295:=n1_
           have HB:=n2_
           clear n0_ n1_ n2_
           (try(rw [drewN_self w28];generalize hq_:World.drewN w28 _=w28;have n0_:Aside0 (Kd.R (Kd.int .i64) 73 w28 w.heap.size (fun _=>True) (.slice (some ⟨gb6,0,none⟩) 144 144) x6_2):=⟨by rw [← hq_];exact(zq4 HO_6)⟩;have n1_:Aside0 (w28.heap[gb295]?=some (.cells #[.int .i64 ((rd_T57 l1 x22_2).f0),.int .i64 ((rd_T57 l1 x22_2).f1),.int .i64 ((rd_T57 l1 x22_2).f2)] 57 (0,0))):=⟨by rw [← hq_];exact(zq3 BK295)⟩;have n2_:Aside0 (Below w.heap.size w w28):=⟨by rw [← hq_];exact(by exact zk2 HB GE295.out)⟩;clear HO_6 BK295 HB hq_;have HO_6:=n0_;have BK295:=n1_;have HB:=n2_;clear n0_ n1_ n2_))
           replace HO_6:=Aside0.mk (Kd.R_drew HO_6.out)
           replace BK295:=Aside0.mk (blk_drew BK295.out)
           replace HB:=Aside0.mk (below_drew1 HB.out)
           have p25: 0≤ ((ji22):Int):=of_decide_eq_true zq1
           have q25:((ji22):Int)< ((x6_2.length:Int):Int):=of_decide_eq_true zq1
           obtain⟨go25,co25,eo25,gb25,gl25,cl25,HG25⟩:=Kd.R_form HO_6.out (by omega)
           injection eo25 with ea_ en_ ec_;injection ea_ with ea_;injection ea_ with ea_;subst ea_
           have GB25:=Aside0.mk gb25
           have GG25:=Aside0.mk HG25
           clear gb25 gl25 HG25
           obtain⟨hx25_0,hf25_0⟩:=Kd.R_celln 0 HO_6.out ((ji22):Int) p25 (by omega)
           rw [be22] at hx25_0 hf25_0
           replace p25:=eq_true p25
           replace q25:=eq_true q25
           have HP30:=Kd.R_putn HO_6.out ((ji22):Int) ((rd_T57 l1 x22_2).f2)
           rw [← Ny299.out] at HP30
           rw [be22] at HP30
           have HQ30:=Aside0.mk HP30
           clear HP30
           refine start_ (n:=9) (S:=fun w'=>w'.cell? ⟨gb295,0,none⟩=some (.int .i64 ((rd_T57 l1 x22_2).f0))∧w'.cell? ⟨gb295,1,none⟩=some (.int .i64 ((rd_T57 l1 x22_2).f1))∧w'.cell? ⟨gb295,2,none⟩=some (.int .i64 ((rd_T57 l1 x22_2).f2))) (ds:= [8]) (mb' 9 0) (by kernel_rfl) rfl rfl ⟨(blk_cell BK295.out 0).trans rfl,(blk_cell BK295.out 1).trans rfl,(blk_cell BK295.out 2).trans rfl⟩ (fun hHeld=>?_);refine with_tabW impl_BothWays.tab9 impl_BothWays.bits9 (fun HT_ HW_=>?_)
           generalize w28.drew=w29 at HO_6 BK295 HB GG25 HQ30 hf25_0 hx25_0 hHeld ⊢
           refine zp1 HT_ 0 53 (mb' 9 1) rfl ?_
           refine zp1 HT_ 2 55 (mb' 9 5) rfl ?_
           refine zp1 HT_ 4 57 (mb' 9 21) rfl ?_
           refine zt1 HT_ HW_ (v:=?_) (a':=?_) 1 54 (mb' 9 23) rfl ?_ hHeld ?_ ?_;rotate_left;(rintro w' ⟨s0,s1,s2⟩;go_simp;with_reducible rfl);rotate_left;exact zpa
           refine zp1 HT_ 6 59 (mb' 9 87) rfl ?_
           refine zt1 HT_ HW_ (v:=?_) (a':=?_) 3 56 (mb' 9 95) rfl ?_ hHeld ?_ ?_;rotate_left;(rintro w' ⟨s0,s1,s2⟩;go_simp;with_reducible rfl);rotate_left;exact zpa
           refine zt1 HT_ HW_ (v:=?_) (a':=?_) 5 58 (mb' 9 127) rfl ?_ hHeld ?_ ?_;rotate_left;(rintro w' ⟨s0,s1,s2⟩;go_simp;with_reducible rfl);rotate_left;exact zpa
           refine zp1 HT_ 7 60 (mb' 9 255) rfl ?_
           refine last_ (i:=8) (N:=none) (mb' 9 511) rfl rfl (one_of HT_.out (by kernel_rfl)) (by decide) (fun K hK=>?_)
           refine skip_ (w1:=?_) (by rfl) rfl ?_ ?_
           rotate_left
           ·go_simp
            rfl
           refine hK.out _ _ ?_
           clear hK K
           refine done_ (done_of HT_.out (by kernel_rfl)) ?_
           try go_wp2
           go_roundg k2
           case measure=>have:=HJ2.out;have:=HK2.out;omega
           case rel=>exact⟨(y299),(wrap64 (x22_2+1)),zrs,H',⟨by have:=HJ2.out;have:=HK2.out;omega⟩,⟨zdr HQ30⟩,⟨by exact zk3 HB GB25.out GE295.out⟩⟩
          ·replace c21:=Bool.eq_false_iff.mpr c21
           subst c21
           have H1:(some (([] :List (S52)),false))=some (r1,r2):=by rw [if_neg (show ¬ (false=true) by decide)] at H;exact H
           clear H
           have H:=H1
           clear H1
           simp only [Option.some.injEq,Prod.mk.injEq] at H
           obtain⟨rfl,rfl⟩:=H
           have p294: 0≤ (x22_2:Int):=of_decide_eq_true zq1
           have q294:x22_2< (l1.length:Int):=of_decide_eq_true zq1
           obtain⟨ad294,e294,hx294_0,hx294_1,hx294_2⟩:=at_T57 HR1.out x22_2 p294 q294
           cases e294
           replace hx294_0:=zhx HB hx294_0
           replace hx294_1:=zhx HB hx294_1
           replace hx294_2:=zhx HB hx294_2
           replace p294:=eq_true p294
           replace q294:=eq_true q294
           go_wp2_with (first|((with_reducible refine gate_dst (N:=8) rfl ?_);(try(refine gate_guard (by rfl) ?_;dsimp only));refine box_event ?hg (N:=8) ?hd (cs:= #[.int .i64 0,.int .i64 0,.int .i64 0]) (t:=57) ?hr ?_;(case hd=>rfl);(case hg=>rfl);(case hr=>first|(go_simp;done)|(go_simp;rfl));intro gb295 hg w31 hbox hb;have BK295:=Aside0.mk (hbox);have GW295:=Aside0.mk ((by rw [hg];exact(below_size (by exact zk1 HB)):w.heap.size≤gb295));have GE295:=GW295;replace HO_6:=Aside0.mk (Kd.R_below (zq4 HO_6) hb);replace HB:=Aside0.mk (below_step (by exact zk1 HB) hb);clear hb hbox hg;have hcz32_0:=zcz BK295 0 (.int .i64 0);have hcz32_1:=zcz BK295 1 (.int .i64 0);have hcz32_2:=zcz BK295 2 (.int .i64 0);have hfz32_0:=blk_frozen BK295.out 0;have hfz32_1:=blk_frozen BK295.out 1;have hfz32_2:=blk_frozen BK295.out 2)|((with_reducible refine gate_callee (f:=54) rfl ?_);refine goesL_ (some 30) rfl rfl Try.func54 (by kernel_rfl) rfl #[.int .i64 ((rd_T57 l1 x22_2).f0),.int .i64 0,.int .i64 (wrap64 (a0 - 1))] rfl zq2 ?_;(with_reducible refine(impl_in.calls ((rd_T57 l1 x22_2).f0) 0 (wrap64 (a0 - 1)) true _ A13.out).mono ?_);rintro e w' ⟨rfl,⟨nd,rfl⟩⟩;refine⟨_,rfl,?_⟩)|(go_at_call 54;(with_reducible refine(impl_in.calls ((rd_T57 l1 x22_2).f1) 0 (wrap64 (a0 - 1)) true _ A15.out).mono ?_);rintro e w' ⟨rfl,⟨nd,rfl⟩⟩)|(go_at_call 54;(with_reducible refine(impl_in.calls ((rd_T57 l1 x22_2).f2) 1 100 false _ A20.out).mono ?_);rintro e w' ⟨rfl,⟨nd,rfl⟩⟩))
           go_ret2
           exact⟨_,zer,by first|exact Kd.R_nil _ _ _ _ _|exact Kd.N_nil _ _ _ _ _|exact Kd.V_nil _ _ _ _ _|exact Kd.Q_nil _ _ _ _ _|exact Kd.S_nil _ _ _ _ _,by exact zk2 HB GE295.out⟩
        ·replace c16:=Bool.eq_false_iff.mpr c16
         subst c16
         have H1:(some (([] :List (S52)),false))=some (r1,r2):=by rw [if_neg (show ¬ (false=true) by decide)] at H;exact H
         clear H
         have H:=H1
         clear H1
         simp only [Option.some.injEq,Prod.mk.injEq] at H
         obtain⟨rfl,rfl⟩:=H
         have p294: 0≤ (x22_2:Int):=of_decide_eq_true zq1
         have q294:x22_2< (l1.length:Int):=of_decide_eq_true zq1
         obtain⟨ad294,e294,hx294_0,hx294_1,hx294_2⟩:=at_T57 HR1.out x22_2 p294 q294
         cases e294
         replace hx294_0:=zhx HB hx294_0
         replace hx294_1:=zhx HB hx294_1
         replace hx294_2:=zhx HB hx294_2
         replace p294:=eq_true p294
         replace q294:=eq_true q294
         go_wp2_with (first|((with_reducible refine gate_dst (N:=8) rfl ?_);(try(refine gate_guard (by rfl) ?_;dsimp only));refine box_event ?hg (N:=8) ?hd (cs:= #[.int .i64 0,.int .i64 0,.int .i64 0]) (t:=57) ?hr ?_;(case hd=>rfl);(case hg=>rfl);(case hr=>first|(go_simp;done)|(go_simp;rfl));intro gb295 hg w33 hbox hb;have BK295:=Aside0.mk (hbox);have GW295:=Aside0.mk ((by rw [hg];exact(below_size (by exact zk1 HB)):w.heap.size≤gb295));have GE295:=GW295;replace HO_6:=Aside0.mk (Kd.R_below (zq4 HO_6) hb);replace HB:=Aside0.mk (below_step (by exact zk1 HB) hb);clear hb hbox hg;have hcz34_0:=zcz BK295 0 (.int .i64 0);have hcz34_1:=zcz BK295 1 (.int .i64 0);have hcz34_2:=zcz BK295 2 (.int .i64 0);have hfz34_0:=blk_frozen BK295.out 0;have hfz34_1:=blk_frozen BK295.out 1;have hfz34_2:=blk_frozen BK295.out 2)|((with_reducible refine gate_callee (f:=54) rfl ?_);refine goesL_ (some 30) rfl rfl Try.func54 (by kernel_rfl) rfl #[.int .i64 ((rd_T57 l1 x22_2).f0),.int .i64 0,.int .i64 (wrap64 (a0 - 1))] rfl zq2 ?_;(with_reducible refine(impl_in.calls ((rd_T57 l1 x22_2).f0) 0 (wrap64 (a0 - 1)) true _ A13.out).mono ?_);rintro e w' ⟨rfl,⟨nd,rfl⟩⟩;refine⟨_,rfl,?_⟩)|(go_at_call 54;(with_reducible refine(impl_in.calls ((rd_T57 l1 x22_2).f1) 0 (wrap64 (a0 - 1)) false _ A15.out).mono ?_);rintro e w' ⟨rfl,⟨nd,rfl⟩⟩))
         go_ret2
         exact⟨_,zer,by first|exact Kd.R_nil _ _ _ _ _|exact Kd.N_nil _ _ _ _ _|exact Kd.V_nil _ _ _ _ _|exact Kd.Q_nil _ _ _ _ _|exact Kd.S_nil _ _ _ _ _,by exact zk2 HB GE295.out⟩
       ·replace c14:=Bool.eq_false_iff.mpr c14
        subst c14
        have H1:(some (([] :List (S52)),false))=some (r1,r2):=by rw [if_neg (show ¬ (false=true) by decide)] at H;exact H
        clear H
        have H:=H1
        clear H1
        simp only [Option.some.injEq,Prod.mk.injEq] at H
        obtain⟨rfl,rfl⟩:=H
        have p294: 0≤ (x22_2:Int):=of_decide_eq_true zq1
        have q294:x22_2< (l1.length:Int):=of_decide_eq_true zq1
        obtain⟨ad294,e294,hx294_0,hx294_1,hx294_2⟩:=at_T57 HR1.out x22_2 p294 q294
        cases e294
        replace hx294_0:=zhx HB hx294_0
        replace hx294_1:=zhx HB hx294_1
        replace hx294_2:=zhx HB hx294_2
        replace p294:=eq_true p294
        replace q294:=eq_true q294
        go_wp2_with (first|((with_reducible refine gate_dst (N:=8) rfl ?_);(try(refine gate_guard (by rfl) ?_;dsimp only));refine box_event ?hg (N:=8) ?hd (cs:= #[.int .i64 0,.int .i64 0,.int .i64 0]) (t:=57) ?hr ?_;(case hd=>rfl);(case hg=>rfl);(case hr=>first|(go_simp;done)|(go_simp;rfl));intro gb295 hg w35 hbox hb;have BK295:=Aside0.mk (hbox);have GW295:=Aside0.mk ((by rw [hg];exact(below_size (by exact zk1 HB)):w.heap.size≤gb295));have GE295:=GW295;replace HO_6:=Aside0.mk (Kd.R_below (zq4 HO_6) hb);replace HB:=Aside0.mk (below_step (by exact zk1 HB) hb);clear hb hbox hg;have hcz36_0:=zcz BK295 0 (.int .i64 0);have hcz36_1:=zcz BK295 1 (.int .i64 0);have hcz36_2:=zcz BK295 2 (.int .i64 0);have hfz36_0:=blk_frozen BK295.out 0;have hfz36_1:=blk_frozen BK295.out 1;have hfz36_2:=blk_frozen BK295.out 2)|((with_reducible refine gate_callee (f:=54) rfl ?_);refine goesL_ (some 30) rfl rfl Try.func54 (by kernel_rfl) rfl #[.int .i64 ((rd_T57 l1 x22_2).f0),.int .i64 0,.int .i64 (wrap64 (a0 - 1))] rfl zq2 ?_;(with_reducible refine(impl_in.calls ((rd_T57 l1 x22_2).f0) 0 (wrap64 (a0 - 1)) false _ A13.out).mono ?_);rintro e w' ⟨rfl,⟨nd,rfl⟩⟩;refine⟨_,rfl,?_⟩))
        go_ret2
        exact⟨_,zer,by first|exact Kd.R_nil _ _ _ _ _|exact Kd.N_nil _ _ _ _ _|exact Kd.V_nil _ _ _ _ _|exact Kd.Q_nil _ _ _ _ _|exact Kd.S_nil _ _ _ _ _,by exact zk2 HB GE295.out⟩
      ·rw [if_neg c10] at H
       have c10b0:decide (x22_2< (l1.length:Int))=false:=decide_eq_false c10
       clear c10
       have H':=Aside0.mk H
       clear H
       go_wp2
       go_loopg [9,63] k2 (fun kq v9 v63 w'=> ∃ (x9_3:List (S52)) (x63_3:Int),v63= .int .i64 x63_3∧Aside0 (impl_BothWays.l1 kq a0 x6_2 x9_3 a0 x63_3=some (r1,r2))∧Aside0 (kq≤k2)∧Aside0 (Kd.R (Kd.int .i64) 73 w' w.heap.size (fun _=>True) (.slice (some ⟨gb6,0,none⟩) 144 144) x6_2)∧Aside0 (Kd.R k52 52 w' w.heap.size (fun _=>True) v9 x9_3)∧Aside0 (Below w.heap.size w w'))
       case atStart=>exact⟨(([] :List (S52))),(0),zrs,H',⟨Nat.le_refl _⟩,⟨zdr HO_6⟩,⟨by first|exact Kd.R_nil _ _ _ _ _|exact Kd.N_nil _ _ _ _ _|exact Kd.V_nil _ _ _ _ _|exact Kd.Q_nil _ _ _ _ _|exact Kd.S_nil _ _ _ _ _⟩,⟨by exact zk1 HB⟩⟩
       case round=>
        clear H'
        try clear c1
        try clear c2
        try clear p2
        try clear q2
        try clear hx2
        try clear hf2
        try clear c5
        try clear c6
        try clear p6
        try clear c7
        try clear c7b0
        try clear c7b1
        try clear c10
        try clear c10b0
        try clear c11
        try clear c11b0
        try clear c12
        try clear c12b0
        try clear c14
        try clear c16
        try clear c17
        try clear c17b0
        try clear c17b1
        try clear c21
        try clear c23
        try clear c23b0
        try clear c24
        try clear c24b0
        try clear p25
        try clear q25
        try clear hx25
        try clear hf25
        try clear p29
        try clear q29
        try clear hx29
        try clear hcz19_0
        try clear hcz19_1
        try clear hcz19_2
        try clear hcz27_0
        try clear hcz27_1
        try clear hcz27_2
        try clear hcz32_0
        try clear hcz32_1
        try clear hcz32_2
        try clear hcz34_0
        try clear hcz34_1
        try clear hcz34_2
        try clear hcz36_0
        try clear hcz36_1
        try clear hcz36_2
        try clear hfz19_0
        try clear hfz19_1
        try clear hfz19_2
        try clear hfz27_0
        try clear hfz27_1
        try clear hfz27_2
        try clear hfz32_0
        try clear hfz32_1
        try clear hfz32_2
        try clear hfz34_0
        try clear hfz34_1
        try clear hfz34_2
        try clear hfz36_0
        try clear hfz36_1
        try clear hfz36_2
        try clear hx25_0
        try clear hx294_0
        try clear hx294_1
        try clear hx294_2
        try clear p2
        try clear p25
        try clear p294
        try clear q25
        try clear q294
        obtain⟨x9_3,x63_3,rfl,HA,HK3,HO_6,HO_9,HB⟩:=hrel
        cases gk with
        |zero=>exact absurd HA.out (by simp [impl_BothWays.l1])
        |succ k3=>
         have H:=HA.out
         clear HA
         simp only [impl_BothWays.l1] at H
         by_cases c37:x63_3<a0
         ·rw [if_pos c37] at H
          have c37b0:decide (x63_3<a0)=true:=decide_eq_true c37
          clear c37
          have H':=Aside0.mk H
          clear H
          go_wp2
          go_loopg [9,11] k3 (fun kq v9 v11 w'=> ∃ (x9_4:List (S52)) (x11_4:Int),v11= .int .i64 x11_4∧Aside0 (impl_BothWays.l2 kq a0 x6_2 x9_4 x63_3 x11_4 a0 x63_3=some (r1,r2))∧Aside0 (kq≤k3)∧Aside0 (Kd.R (Kd.int .i64) 73 w' w.heap.size (fun _=>True) (.slice (some ⟨gb6,0,none⟩) 144 144) x6_2)∧Aside0 (Kd.R k52 52 w' w.heap.size (fun _=>True) v9 x9_4)∧Aside0 (Below w.heap.size w w'))
          case atStart=>exact⟨(x9_3),(wrap64 (x63_3+1)),zrs,H',⟨Nat.le_refl _⟩,⟨zdr HO_6⟩,⟨zdr HO_9⟩,⟨by exact zk1 HB⟩⟩
          case round=>
           clear H'
           try clear c1
           try clear c2
           try clear p2
           try clear q2
           try clear hx2
           try clear hf2
           try clear c3
           try clear c5
           try clear c6
           try clear p6
           try clear c7
           try clear c7b0
           try clear c7b1
           try clear c10
           try clear c10b0
           try clear c11
           try clear c11b0
           try clear c12
           try clear c12b0
           try clear c14
           try clear c16
           try clear c17
           try clear c17b0
           try clear c17b1
           try clear c21
           try clear c23
           try clear c23b0
           try clear c24
           try clear c24b0
           try clear p25
           try clear q25
           try clear hx25
           try clear hf25
           try clear p29
           try clear q29
           try clear hx29
           try clear c37
           try clear c37b0
           try clear hcz19_0
           try clear hcz19_1
           try clear hcz19_2
           try clear hcz27_0
           try clear hcz27_1
           try clear hcz27_2
           try clear hcz32_0
           try clear hcz32_1
           try clear hcz32_2
           try clear hcz34_0
           try clear hcz34_1
           try clear hcz34_2
           try clear hcz36_0
           try clear hcz36_1
           try clear hcz36_2
           try clear hfz19_0
           try clear hfz19_1
           try clear hfz19_2
           try clear hfz27_0
           try clear hfz27_1
           try clear hfz27_2
           try clear hfz32_0
           try clear hfz32_1
           try clear hfz32_2
           try clear hfz34_0
           try clear hfz34_1
           try clear hfz34_2
           try clear hfz36_0
           try clear hfz36_1
           try clear hfz36_2
           try clear hx25_0
           try clear hx294_0
           try clear hx294_1
           try clear hx294_2
           try clear p2
           try clear p25
           try clear p29
           try clear p294
           try clear p6
           try clear q2
           try clear q25
           try clear q29
           try clear q294
           obtain⟨x9_4,x11_4,rfl,HA,HK4,HO_6,HO_9,HB⟩:=hrel
           cases gk with
           |zero=>exact absurd HA.out (by simp [impl_BothWays.l2])
           |succ k4=>
            have H:=HA.out
            clear HA
            simp only [impl_BothWays.l2] at H
            by_cases c38:x11_4<a0
            ·rw [if_pos c38] at H
             have c38b0:decide (x11_4<a0)=true:=decide_eq_true c38
             clear c38
             obtain⟨ji39,hji39⟩ :∃ j_:Int,(idxB x63_3 x11_4)=j_:=⟨_,rfl⟩
             replace H:(if 0≤ (ji39) then(if (ji39)< (x6_2.length:Int) then(if (rd x6_2 (ji39)) > 0 then(if 0≤ (idxB x11_4 x63_3) then(if (idxB x11_4 x63_3)< (x6_2.length:Int) then(if (rd x6_2 (idxB x11_4 x63_3)) > 0 then(if x9_4.length< 5864062014805 then(impl_BothWays.l2 k4 a0 x6_2 (x9_4++ [(⟨x63_3,x11_4,mx (rd x6_2 (ji39)) (rd x6_2 (idxB x11_4 x63_3))⟩ :S52)]) x63_3 (wrap64 (x11_4+1)) a0 x63_3) else(none)) else(impl_BothWays.l2 k4 a0 x6_2 x9_4 x63_3 (wrap64 (x11_4+1)) a0 x63_3)) else(none)) else(none)) else(impl_BothWays.l2 k4 a0 x6_2 x9_4 x63_3 (wrap64 (x11_4+1)) a0 x63_3)) else(none)) else(none))=some (r1,r2):=by first|(rw [hji39] at H;exact H)|(simp only [hji39] at H ⊢;exact H)
             by_cases c40: 0≤ (ji39)
             case neg=>exact znn c40 H
             rw [if_pos c40] at H
             have c40b0:decide (0≤ (ji39))=true:=decide_eq_true c40
             obtain⟨ba39,bb39,bc39,bd39,be39⟩:=idxB_ok x63_3 x11_4 (by rw [hji39];exact c40)
             rw [hji39] at be39
             replace ba39:=eq_true ba39
             replace bb39:=eq_true bb39
             replace bc39:=eq_true bc39
             replace bd39:=eq_true bd39
             clear c40
             by_cases c41:(ji39)< (x6_2.length:Int)
             case neg=>exact znn c41 H
             rw [if_pos c41] at H
             have c41b0:decide ((ji39)< (x6_2.length:Int))=true:=decide_eq_true c41
             clear c41
             by_cases c42:(rd x6_2 (ji39)) > 0
             ·rw [if_pos c42] at H
              have c42b0:decide (0< (rd x6_2 (ji39)))=true:=decide_eq_true c42
              clear c42
              obtain⟨ji43,hji43⟩ :∃ j_:Int,(idxB x11_4 x63_3)=j_:=⟨_,rfl⟩
              replace H:(if 0≤ (ji43) then(if (ji43)< (x6_2.length:Int) then(if (rd x6_2 (ji43)) > 0 then(if x9_4.length< 5864062014805 then(impl_BothWays.l2 k4 a0 x6_2 (x9_4++ [(⟨x63_3,x11_4,mx (rd x6_2 (ji39)) (rd x6_2 (ji43))⟩ :S52)]) x63_3 (wrap64 (x11_4+1)) a0 x63_3) else(none)) else(impl_BothWays.l2 k4 a0 x6_2 x9_4 x63_3 (wrap64 (x11_4+1)) a0 x63_3)) else(none)) else(none))=some (r1,r2):=by first|(rw [hji43] at H;exact H)|(simp only [hji43] at H ⊢;exact H)
              by_cases c44: 0≤ (ji43)
              case neg=>exact znn c44 H
              rw [if_pos c44] at H
              have c44b0:decide (0≤ (ji43))=true:=decide_eq_true c44
              obtain⟨ba43,bb43,bc43,bd43,be43⟩:=idxB_ok x11_4 x63_3 (by rw [hji43];exact c44)
              rw [hji43] at be43
              replace ba43:=eq_true ba43
              replace bb43:=eq_true bb43
              replace bc43:=eq_true bc43
              replace bd43:=eq_true bd43
              clear c44
              by_cases c45:(ji43)< (x6_2.length:Int)
              case neg=>exact znn c45 H
              rw [if_pos c45] at H
              have c45b0:decide ((ji43)< (x6_2.length:Int))=true:=decide_eq_true c45
              clear c45
              by_cases c46:(rd x6_2 (ji43)) > 0
              ·rw [if_pos c46] at H
               have c46b0:decide (0< (rd x6_2 (ji43)))=true:=decide_eq_true c46
               clear c46
               obtain⟨ji47,hji47⟩ :∃ j_:Int,(mx (rd x6_2 (ji39)) (rd x6_2 (ji43)))=j_:=⟨_,rfl⟩
               replace H:(if x9_4.length< 5864062014805 then(impl_BothWays.l2 k4 a0 x6_2 (x9_4++ [(⟨x63_3,x11_4,ji47⟩ :S52)]) x63_3 (wrap64 (x11_4+1)) a0 x63_3) else(none))=some (r1,r2):=by first|(rw [hji47] at H;exact H)|(simp only [hji47] at H ⊢;exact H)
               have hji47_:(if (rd x6_2 (ji39))< (rd x6_2 (ji43)) then(rd x6_2 (ji43)) else(rd x6_2 (ji39)))=ji47:=hji47
               by_cases c48:x9_4.length< 5864062014805
               case neg=>exact znn c48 H
               rw [if_pos c48] at H
               have LMc48:=Aside0.mk c48
               clear c48
               obtain⟨y304,hy304⟩ :∃ y_:List (S52),y_= (x9_4++ [(⟨x63_3,x11_4,ji47⟩ :S52)]):=⟨_,rfl⟩
               replace H:(impl_BothWays.l2 k4 a0 x6_2 y304 x63_3 (wrap64 (x11_4+1)) a0 x63_3)=some (r1,r2):=zfh hy304 H
               have Ny304:=Aside0.mk hy304
               clear hy304
               have H':=Aside0.mk H
               clear H
               have p300: 0≤ ((ji39):Int):=of_decide_eq_true zq1
               have q300:(ji39)< (x6_2.length:Int):=of_decide_eq_true zq1
               obtain⟨ad300,e300,hx300_0⟩:=Kd.at_int (Kd.R_reads' HO_6.out).2.2 (ji39) p300 q300
               cases e300
               rw [be39] at hx300_0
               rw [addB] at hx300_0
               replace p300:=eq_true p300
               replace q300:=eq_true q300
               have p301: 0≤ ((ji43):Int):=of_decide_eq_true zq1
               have q301:(ji43)< (x6_2.length:Int):=of_decide_eq_true zq1
               obtain⟨ad301,e301,hx301_0⟩:=Kd.at_int (Kd.R_reads' HO_6.out).2.2 (ji43) p301 q301
               cases e301
               rw [be43] at hx301_0
               rw [addB] at hx301_0
               replace p301:=eq_true p301
               replace q301:=eq_true q301
               try go_wp2
               replace HO_6:=Aside0.mk (Kd.R_drew HO_6.out)
               replace HO_9:=Aside0.mk (Kd.R_drew HO_9.out)
               replace HB:=Aside0.mk (below_drew1 HB.out)
               have p302: 0≤ ((ji39):Int):=of_decide_eq_true zq1
               have q302:(ji39)< (x6_2.length:Int):=of_decide_eq_true zq1
               obtain⟨ad302,e302,hx302_0⟩:=Kd.at_int (Kd.R_reads' HO_6.out).2.2 (ji39) p302 q302
               cases e302
               rw [be39] at hx302_0
               rw [addB] at hx302_0
               replace p302:=eq_true p302
               replace q302:=eq_true q302
               have p303: 0≤ ((ji43):Int):=of_decide_eq_true zq1
               have q303:(ji43)< (x6_2.length:Int):=of_decide_eq_true zq1
               obtain⟨ad303,e303,hx303_0⟩:=Kd.at_int (Kd.R_reads' HO_6.out).2.2 (ji43) p303 q303
               cases e303
               rw [be43] at hx303_0
               rw [addB] at hx303_0
               replace p303:=eq_true p303
               replace q303:=eq_true q303
               refine start_ (n:=18) (S:=fun w'=>w'.cell? ⟨gb6,x63_3.toNat * 12+x11_4.toNat,none⟩=some (.int .i64 (rd x6_2 (ji39)))∧w'.cell? ⟨gb6,x11_4.toNat * 12+x63_3.toNat,none⟩=some (.int .i64 (rd x6_2 (ji43)))) (ds:= [15,16]) (mb' 18 0) (by kernel_rfl) rfl rfl ⟨hx302_0,hx303_0⟩ (fun hHeld=>?_);refine with_tabW impl_BothWays.tab19 impl_BothWays.bits19 (fun HT_ HW_=>?_)
               generalize wr.drew=w50 at HO_6 HO_9 HB hx302_0 hx303_0 hHeld ⊢
               refine zp1 HT_ 0 87 (mb' 18 1) rfl ?_
               refine zp1 HT_ 1 88 (mb' 18 3) rfl ?_
               refine zp1 HT_ 2 89 (mb' 18 7) rfl ?_
               refine zp1 HT_ 3 90 (mb' 18 15) rfl ?_
               refine zp1 HT_ 4 91 (mb' 18 31) rfl ?_
               refine zp1 HT_ 5 92 (mb' 18 63) rfl ?_
               refine zp1 HT_ 6 93 (mb' 18 127) rfl ?_
               refine zp1 HT_ 8 95 (mb' 18 383) rfl ?_
               refine zp1 HT_ 9 96 (mb' 18 895) rfl ?_
               refine zp1 HT_ 10 97 (mb' 18 1919) rfl ?_
               refine zp1 HT_ 11 98 (mb' 18 3967) rfl ?_
               refine zt1 HT_ HW_ (v:=?_) (a':=?_) 7 94 (mb' 18 4095) rfl ?_ hHeld ?_ ?_;rotate_left;(rintro w' ⟨s0,s1⟩;go_simp;with_reducible rfl);rotate_left;exact zpa
               refine zt1 HT_ HW_ (v:=?_) (a':=?_) 12 99 (mb' 18 8191) rfl ?_ hHeld ?_ ?_;rotate_left;(rintro w' ⟨s0,s1⟩;go_simp;with_reducible rfl);rotate_left;exact zpa
               refine zp1 HT_ 13 100 (mb' 18 16383) rfl ?_
               refine zp1 HT_ 14 101 (mb' 18 32767) rfl ?_
               refine last_ (i:=15) (N:=some 102) (mb' 18 65535) rfl rfl (one_of HT_.out (by kernel_rfl)) (by decide) (fun K hK=>?_)
               refine value_ (w1:=?_) (v:=?_) (by rfl) rfl ?_ ?_
               rotate_left 2
               ·go_simp
                constructor
                ·rfl
                ·rfl
               refine hK.out _ _ ?_
               clear hK K
               refine norm_ (a':=?_) ?_ ?_
               rotate_left
               ·show Act.put _ (some 102) _=_
                simp only [Act.put,List.setIfInBounds_toArray,List.set_cons_zero,List.set_cons_succ,i64_w,i32_w]
                rfl
               refine last_ (i:=16) (N:=some 103) (mb' 18 131071) rfl rfl (one_of HT_.out (by kernel_rfl)) (by decide) (fun K hK=>?_)
               refine Kd.R_append_step k52 (w0:=w) w.heap.size (by rfl) (.tmp 87) (.tmp 102) 26 52 (.agg #[(.int .i64 0),(.int .i64 0),(.int .i64 0)]) 24 rfl Try.underlying26 info52 rfl (by decide) (by omega) u9 x9_4 (⟨x63_3,x11_4,ji47⟩ :S52) [.int .i64 x63_3,.int .i64 x11_4,.int .i64 ji47] (fun _=>True) (fun _=>False) rfl rfl ?aP (fun _ hk=>hk.elim) ?aF ?aO ?aB ?aS ?aL ?_
               (case aP=>exact k52_mkM _ _ _ (⟨x63_3,x11_4,ji47⟩ :S52))
               (case aB=>exact(by exact zk1 HB))
               (case aF=>exact(fun _ _=>trivial))
               (case aO=>exact(zq4 HO_9))
               (case aS=>exact(below_size (by exact zk1 HB)))
               (case aL=>have:=LMc48.out;omega)
               intro v305 w51 ho hb hg hat
               rw [← Ny304.out] at ho
               have HO306:=Aside0.mk (ho)
               replace HO_6:=Aside0.mk (Kd.R_over' (zq4 HO_6) (Kd.R_typed (zq4 HO_9)) (by decide) hg)
               replace HB:=Aside0.mk (hb)
               clear HO_9
               clear ho hb hg hat
               refine hK.out _ _ ?_
               clear hK K
               refine norm_ (a':=?_) ?_ ?_
               rotate_left
               ·show Act.put _ (some 103) _=_
                simp only [Act.put,List.setIfInBounds_toArray,List.set_cons_zero,List.set_cons_succ,i64_w,i32_w]
                rfl
               refine zp1 HT_ 17 9 (mb' 18 262143) rfl ?_
               refine done_ (done_of HT_.out (by kernel_rfl)) ?_
               try go_wp2
               go_roundg k4
               case measure=>have:=HJ2.out;have:=HK2.out;have:=HK3.out;have:=HK4.out;omega
               case rel=>exact⟨(y304),(wrap64 (x11_4+1)),zrs,H',⟨by have:=HJ2.out;have:=HK2.out;have:=HK3.out;have:=HK4.out;omega⟩,⟨zdr HO_6⟩,⟨zdr HO306⟩,⟨by exact zk1 HB⟩⟩
              ·rw [if_neg c46] at H
               have c46b0:decide (0< (rd x6_2 (ji43)))=false:=decide_eq_false c46
               clear c46
               have H':=Aside0.mk H
               clear H
               have p300: 0≤ ((ji39):Int):=of_decide_eq_true zq1
               have q300:(ji39)< (x6_2.length:Int):=of_decide_eq_true zq1
               obtain⟨ad300,e300,hx300_0⟩:=Kd.at_int (Kd.R_reads' HO_6.out).2.2 (ji39) p300 q300
               cases e300
               rw [be39] at hx300_0
               rw [addB] at hx300_0
               replace p300:=eq_true p300
               replace q300:=eq_true q300
               have p301: 0≤ ((ji43):Int):=of_decide_eq_true zq1
               have q301:(ji43)< (x6_2.length:Int):=of_decide_eq_true zq1
               obtain⟨ad301,e301,hx301_0⟩:=Kd.at_int (Kd.R_reads' HO_6.out).2.2 (ji43) p301 q301
               cases e301
               rw [be43] at hx301_0
               rw [addB] at hx301_0
               replace p301:=eq_true p301
               replace q301:=eq_true q301
               go_wp2
               go_roundg k4
               case measure=>have:=HJ2.out;have:=HK2.out;have:=HK3.out;have:=HK4.out;omega
               case rel=>exact⟨(x9_4),(wrap64 (x11_4+1)),zrs,H',⟨by have:=HJ2.out;have:=HK2.out;have:=HK3.out;have:=HK4.out;omega⟩,⟨zdr HO_6⟩,⟨zdr HO_9⟩,⟨by exact zk1 HB⟩⟩
             ·rw [if_neg c42] at H
              have c42b0:decide (0< (rd x6_2 (ji39)))=false:=decide_eq_false c42
              clear c42
              have H':=Aside0.mk H
              clear H
              have p300: 0≤ ((ji39):Int):=of_decide_eq_true zq1
              have q300:(ji39)< (x6_2.length:Int):=of_decide_eq_true zq1
              obtain⟨ad300,e300,hx300_0⟩:=Kd.at_int (Kd.R_reads' HO_6.out).2.2 (ji39) p300 q300
              cases e300
              rw [be39] at hx300_0
              rw [addB] at hx300_0
              replace p300:=eq_true p300
              replace q300:=eq_true q300
              go_wp2
              go_roundg k4
              case measure=>have:=HJ2.out;have:=HK2.out;have:=HK3.out;have:=HK4.out;omega
              case rel=>exact⟨(x9_4),(wrap64 (x11_4+1)),zrs,H',⟨by have:=HJ2.out;have:=HK2.out;have:=HK3.out;have:=HK4.out;omega⟩,⟨zdr HO_6⟩,⟨zdr HO_9⟩,⟨by exact zk1 HB⟩⟩
            ·rw [if_neg c38] at H
             have c38b0:decide (x11_4<a0)=false:=decide_eq_false c38
             clear c38
             have H':=Aside0.mk H
             clear H
             go_wp2
             go_roundg k4
             case measure=>have:=HJ2.out;have:=HK2.out;have:=HK3.out;have:=HK4.out;omega
             case rel=>exact⟨(x9_4),(wrap64 (x63_3+1)),zrs,H',⟨by have:=HJ2.out;have:=HK2.out;have:=HK3.out;have:=HK4.out;omega⟩,⟨zdr HO_6⟩,⟨zdr HO_9⟩,⟨by exact zk1 HB⟩⟩
         ·rw [if_neg c37] at H
          have c37b0:decide (x63_3<a0)=false:=decide_eq_false c37
          clear c37
          by_cases c54:(x9_3.length:Int) > 40
          ·rw [if_pos c54] at H
           have c54b0:decide (40< (x9_3.length:Int))=true:=decide_eq_true c54
           have c54b1:decide (40<x9_3.length)=true:=decide_eq_true (by omega)
           clear c54
           simp only [Option.some.injEq,Prod.mk.injEq] at H
           obtain⟨rfl,rfl⟩:=H
           obtain⟨Ao55,co55,eo55⟩:=Kd.R_slice HO_9.out
           subst eo55
           go_wp2
           go_ret2
           exact⟨_,zer,by first|exact Kd.R_nil _ _ _ _ _|exact Kd.N_nil _ _ _ _ _|exact Kd.V_nil _ _ _ _ _|exact Kd.Q_nil _ _ _ _ _|exact Kd.S_nil _ _ _ _ _,by exact zk1 HB⟩
          ·rw [if_neg c54] at H
           have c54b0:decide (40< (x9_3.length:Int))=false:=decide_eq_false c54
           have c54b1:decide (40<x9_3.length)=false:=decide_eq_false (by omega)
           clear c54
           simp only [Option.some.injEq,Prod.mk.injEq] at H
           obtain⟨rfl,rfl⟩:=H
           obtain⟨Ao56,co56,eo56⟩:=Kd.R_slice HO_9.out
           subst eo56
           go_wp2
           go_ret2
           exact⟨_,zer,zdr HO_9,by exact zk1 HB⟩
def impl_allIn.l0:Nat→Int→Int→List Int→Int→Int→Option (Bool)
 | 0,_,_,_,_,_=>none
 |k+1,x1,x2,x9,x10,x11=>if x11<x10 then(if 0≤x11 then(if x11< (x9.length:Int) then((impl_in.f (rd x9 x11) x1 x2).bind fun t186=>(if t186=true then(impl_allIn.l0 k x1 x2 x9 x10 (wrap64 (x11+1))) else(some false))) else(none)) else(none)) else(some true)
def impl_allIn.f (k:Nat) (l0:List Int) (a1:Int) (a2:Int):Option (Bool):=impl_allIn.l0 k a1 a2 l0 (l0.length:Int) 0
set_option maxHeartbeats 8000000 in
set_option maxRecDepth 100000 in
theorem impl_allIn.calls (k:Nat) (A0:Option Addr) (c0:Nat) (l0:List Int) (a1:Int) (a2:Int) (r:Bool) (w:World) (hr0:Kd.C (Kd.int .i64) w A0 l0.length l0) (hc0:l0.length≤c0) (h:impl_allIn.f k l0 a1 a2=some r):
  Calls Try.prog 68 #[.slice A0 l0.length c0,.int .i64 a1,.int .i64 a2] w fun e w'=>e= .returned (.bool r)∧Drawn0 w w':=by
 have HR0:=Aside0.mk hr0
 have HC0:=Aside0.mk hc0
 clear hr0 hc0
 have H:(impl_allIn.l0 k a1 a2 l0 (l0.length:Int) 0)=some r:=h
 clear h
 have H':=Aside0.mk H
 clear H
 go_enter Try.func68,Try.ntmps68
 go_wp2
 go_loopg [11] k (fun kq v11 w'=> ∃ (x11_1:Int),v11= .int .i64 x11_1∧Aside0 (impl_allIn.l0 kq a1 a2 l0 (l0.length:Int) x11_1=some r)∧Aside0 (kq≤k)∧Drawn0 w w')
 case atStart=>exact⟨(0),zrs,H',⟨Nat.le_refl _⟩,by repeat(first|exact Drawn0.refl _|apply Drawn0.step)⟩
 case round=>
  clear H'
  try clear p2
  obtain⟨x11_1,rfl,HA,HK1,⟨m1,rfl⟩⟩:=hrel
  cases gk with
  |zero=>exact absurd HA.out (by simp [impl_allIn.l0])
  |succ k1=>
   have H:=HA.out
   clear HA
   simp only [impl_allIn.l0] at H
   by_cases c4:x11_1< (l0.length:Int)
   ·rw [if_pos c4] at H
    have c4b0:decide (x11_1< (l0.length:Int))=true:=decide_eq_true c4
    clear c4
    by_cases c5: 0≤x11_1
    case neg=>exact znn c5 H
    rw [if_pos c5] at H
    have c5b0:decide (0≤x11_1)=true:=decide_eq_true c5
    clear c5
    by_cases c6:x11_1< (l0.length:Int)
    case neg=>exact znn c6 H
    rw [if_pos c6] at H
    have c6b0:decide (x11_1< (l0.length:Int))=true:=decide_eq_true c6
    clear c6
    replace H:=Option.bind_eq_some_iff.mp H
    obtain⟨t186,A70,H⟩:=H
    replace H:(if t186=true then(impl_allIn.l0 k1 a1 a2 l0 (l0.length:Int) (wrap64 (x11_1+1))) else(some false))=some r:=H
    have A7:=Aside0.mk A70
    clear A70
    by_cases c8:t186=true
    ·subst c8
     have H1:(impl_allIn.l0 k1 a1 a2 l0 (l0.length:Int) (wrap64 (x11_1+1)))=some r:=by rw [if_pos rfl] at H;exact H
     clear H
     have H:=H1
     clear H1
     have H':=Aside0.mk H
     clear H
     have p185: 0≤ (x11_1:Int):=of_decide_eq_true zq1
     have q185:x11_1< (l0.length:Int):=of_decide_eq_true zq1
     obtain⟨ad185,e185,hx185_0⟩:=Kd.at_int HR0.out x11_1 p185 q185
     cases e185
     replace p185:=eq_true p185
     replace q185:=eq_true q185
     go_wp2_with (first|((with_reducible refine gate_callee (f:=54) rfl ?_);refine goesL_ (some 18) rfl rfl Try.func54 (by kernel_rfl) rfl #[.int .i64 (rd l0 x11_1),.int .i64 a1,.int .i64 a2] rfl zq2 ?_;(with_reducible refine(impl_in.calls (rd l0 x11_1) a1 a2 true _ A7.out).mono ?_);rintro e w' ⟨rfl,⟨nd,rfl⟩⟩;refine⟨_,rfl,?_⟩))
     go_roundg k1
     case measure=>have:=HK1.out;omega
     case rel=>exact⟨(wrap64 (x11_1+1)),zrs,H',⟨by have:=HK1.out;omega⟩,by repeat(first|exact Drawn0.refl _|apply Drawn0.step)⟩
    ·replace c8:=Bool.eq_false_iff.mpr c8
     subst c8
     have H1:(some false)=some r:=by rw [if_neg (show ¬ (false=true) by decide)] at H;exact H
     clear H
     have H:=H1
     clear H1
     obtain rfl:=Option.some.inj H
     have p185: 0≤ (x11_1:Int):=of_decide_eq_true zq1
     have q185:x11_1< (l0.length:Int):=of_decide_eq_true zq1
     obtain⟨ad185,e185,hx185_0⟩:=Kd.at_int HR0.out x11_1 p185 q185
     cases e185
     replace p185:=eq_true p185
     replace q185:=eq_true q185
     go_wp2_with (first|((with_reducible refine gate_callee (f:=54) rfl ?_);refine goesL_ (some 18) rfl rfl Try.func54 (by kernel_rfl) rfl #[.int .i64 (rd l0 x11_1),.int .i64 a1,.int .i64 a2] rfl zq2 ?_;(with_reducible refine(impl_in.calls (rd l0 x11_1) a1 a2 false _ A7.out).mono ?_);rintro e w' ⟨rfl,⟨nd,rfl⟩⟩;refine⟨_,rfl,?_⟩))
     go_ret
     exact⟨by first|rfl|(simp;done)|(simp [*];done),by repeat(first|exact Drawn0.refl _|apply Drawn0.step)⟩
   ·rw [if_neg c4] at H
    have c4b0:decide (x11_1< (l0.length:Int))=false:=decide_eq_false c4
    clear c4
    obtain rfl:=Option.some.inj H
    go_wp2
    go_ret
    exact⟨by first|rfl|(simp;done)|(simp [*];done),by repeat(first|exact Drawn0.refl _|apply Drawn0.step)⟩
def spec_l1Put.l0:Nat→List Int→Int→Int→Option (List Int)
 | 0,_,_,_=>none
 |k+1,x0,x1,x5=>if x5< (x0.length:Int) then(if 0≤x5 then(if (rd x0 x5)<x1 then(spec_l1Put.l0 k x0 x1 (wrap64 (x5+1))) else(if (rd x0 x5)=x1 then(some x0) else((some (([] :List Int):List Int)).bind fun y355=>(if x5≤ (x0.length:Int) then((some (x0.take (x5:Int).toNat:List Int)).bind fun y358=>(if y355.length+y358.length< 17592186044416 then((some (y355++y358:List Int)).bind fun y362=>(if y362.length< 17592186044416 then((some (y362++ [x1] :List Int)).bind fun y365=>((some (x0.drop (x5:Int).toNat:List Int)).bind fun y368=>(if y365.length+y368.length< 17592186044416 then(some (y365++y368)) else(none)))) else(none))) else(none))) else(none))))) else(none)) else((some (([] :List Int):List Int)).bind fun y375=>(if 0≤x5 then(if x5≤ (x0.length:Int) then((some (x0.take (x5:Int).toNat:List Int)).bind fun y378=>(if y375.length+y378.length< 17592186044416 then((some (y375++y378:List Int)).bind fun y382=>(if y382.length< 17592186044416 then((some (y382++ [x1] :List Int)).bind fun y385=>((some (x0.drop (x5:Int).toNat:List Int)).bind fun y388=>(if y385.length+y388.length< 17592186044416 then(some (y385++y388)) else(none)))) else(none))) else(none))) else(none)) else(none)))
def spec_l1Put.f (k:Nat) (l0:List Int) (a1:Int):Option (List Int):=spec_l1Put.l0 k l0 a1 0
theorem zk4 {q p:Prop} (b:Aside0 q) (h:q→p:=by intro z;repeat(first|(with_reducible first|exact z|apply Kept.alloc|apply Kept.drewN|apply Kept.drew)|exact z)):p:=h b.out
set_option maxHeartbeats 8000000 in
set_option maxRecDepth 100000 in
theorem spec_l1Put.calls (k:Nat) (P0_:Nat→Prop) (u9000_:Value) (l0:List Int) (a1:Int) (r:List Int) (w0 w:World) (hB:Below w0.heap.size w0 w) (ho0:Kd.R (Kd.int .i64) 3 w w0.heap.size P0_ u9000_ l0) (h:spec_l1Put.f k l0 a1=some r):
  Calls Try.prog 70 #[u9000_,.int .i64 a1] w fun e w'=> ∃ v0_:Value,e= .returned (v0_)∧Kd.R (Kd.int .i64) 3 w' w0.heap.size (fun k_=>(P0_ k_∨w.heap.size≤k_)) v0_ r∧Below w0.heap.size w0 w'∧Kept w w' (fun k_=>P0_ k_):=by
 have HO0:=Aside0.mk (show Kd.R (Kd.int .i64) 3 w w0.heap.size (fun k_=>(P0_ k_∨w.heap.size≤k_)) u9000_ l0 from Kd.R_mono ho0 (fun k_ hk=>(.inl hk)))
 have HK:=Aside0.mk (Kept.refl w (fun k_=>P0_ k_))
 have HW0:=Aside0.mk hB.size
 have HB:=Aside0.mk hB
 clear hB
 have H:(spec_l1Put.l0 k l0 a1 0)=some r:=h
 clear h
 have H':=Aside0.mk H
 clear H
 go_enter Try.func70,Try.ntmps70
 go_wp2
 go_loopg [5] k (fun kq v5 w'=> ∃ (x5_1:Int),v5= .int .i64 x5_1∧Aside0 (spec_l1Put.l0 kq l0 a1 x5_1=some r)∧Aside0 (kq≤k)∧Aside0 (Kd.R (Kd.int .i64) 3 w' w0.heap.size (fun k_=>(P0_ k_∨w.heap.size≤k_)) u9000_ l0)∧Aside0 (Kept w w' (fun k_=>P0_ k_))∧Aside0 (Below w0.heap.size w0 w'))
 case atStart=>exact⟨(0),zrs,H',⟨Nat.le_refl _⟩,⟨zdr HO0⟩,⟨by exact zk4 HK⟩,⟨by exact zk1 HB⟩⟩
 case round=>
  clear H'
  try clear p2
  obtain⟨x5_1,rfl,HA,HK1,HO_0,HK,HB⟩:=hrel
  cases gk with
  |zero=>exact absurd HA.out (by simp [spec_l1Put.l0])
  |succ k1=>
   have H:=HA.out
   clear HA
   simp only [spec_l1Put.l0] at H
   by_cases c3:x5_1< (l0.length:Int)
   ·rw [if_pos c3] at H
    have c3b0:decide (x5_1< (l0.length:Int))=true:=decide_eq_true c3
    clear c3
    by_cases c4: 0≤x5_1
    case neg=>exact znn c4 H
    rw [if_pos c4] at H
    have c4b0:decide (0≤x5_1)=true:=decide_eq_true c4
    clear c4
    by_cases c5:(rd l0 x5_1)<a1
    ·rw [if_pos c5] at H
     have c5b0:decide ((rd l0 x5_1)<a1)=true:=decide_eq_true c5
     clear c5
     have H':=Aside0.mk H
     clear H
     obtain⟨Ao6,co6,eo6⟩:=Kd.R_slice HO_0.out
     subst eo6
     have p353: 0≤ (x5_1:Int):=of_decide_eq_true zq1
     have q353:x5_1< (l0.length:Int):=of_decide_eq_true zq1
     obtain⟨ad353,e353,hx353_0⟩:=Kd.at_int (Kd.R_reads' HO_0.out).2.2 x5_1 p353 q353
     cases e353
     replace p353:=eq_true p353
     replace q353:=eq_true q353
     go_wp2
     go_roundg k1
     case measure=>have:=HK1.out;omega
     case rel=>exact⟨(wrap64 (x5_1+1)),zrs,H',⟨by have:=HK1.out;omega⟩,⟨zdr HO_0⟩,⟨by exact zk4 HK⟩,⟨by exact zk1 HB⟩⟩
    ·rw [if_neg c5] at H
     have c5b0:decide ((rd l0 x5_1)<a1)=false:=decide_eq_false c5
     clear c5
     by_cases c7:(rd l0 x5_1)=a1
     ·rw [if_pos c7] at H
      have c7b0:((rd l0 x5_1)==a1)=true:=beq_iff_eq.mpr c7
      have c7b1:((rd l0 x5_1) !=a1)=false:=bne_eq_false_iff_eq.mpr c7
      clear c7
      obtain rfl:=Option.some.inj H
      obtain⟨Ao8,co8,eo8⟩:=Kd.R_slice HO_0.out
      subst eo8
      have p353: 0≤ (x5_1:Int):=of_decide_eq_true zq1
      have q353:x5_1< (l0.length:Int):=of_decide_eq_true zq1
      obtain⟨ad353,e353,hx353_0⟩:=Kd.at_int (Kd.R_reads' HO_0.out).2.2 x5_1 p353 q353
      cases e353
      replace p353:=eq_true p353
      replace q353:=eq_true q353
      have p354: 0≤ (x5_1:Int):=of_decide_eq_true zq1
      have q354:x5_1< (l0.length:Int):=of_decide_eq_true zq1
      obtain⟨ad354,e354,hx354_0⟩:=Kd.at_int (Kd.R_reads' HO_0.out).2.2 x5_1 p354 q354
      obtain rfl:ad353=ad354:=(by injection e354)
      replace p354:=eq_true p354
      replace q354:=eq_true q354
      go_wp2
      go_ret
      exact⟨_,zer,zdr HO_0,by exact zk1 HB,by exact zk4 HK⟩
     ·rw [if_neg c7] at H
      have c7b0:((rd l0 x5_1)==a1)=false:=beq_eq_false_iff_ne.mpr c7
      have c7b1:((rd l0 x5_1) !=a1)=true:=bne_iff_ne.mpr c7
      obtain⟨y355,hy355⟩ :∃ y_:List Int,y_= (([] :List Int)):=⟨_,rfl⟩
      replace H:(if x5_1≤ (l0.length:Int) then((some (l0.take (x5_1:Int).toNat:List Int)).bind fun y358=>(if y355.length+y358.length< 17592186044416 then((some (y355++y358:List Int)).bind fun y362=>(if y362.length< 17592186044416 then((some (y362++ [a1] :List Int)).bind fun y365=>((some (l0.drop (x5_1:Int).toNat:List Int)).bind fun y368=>(if y365.length+y368.length< 17592186044416 then(some (y365++y368)) else(none)))) else(none))) else(none))) else(none))=some r:=zfh hy355 H
      have Ny355:=Aside0.mk hy355
      clear hy355
      have c9b0:=eq_true (of_decide_eq_true zq1: 0≤x5_1)
      by_cases c10:x5_1≤ (l0.length:Int)
      case neg=>exact znn c10 H
      rw [if_pos c10] at H
      have c10b0:=eq_true c10
      have c10b1:decide (x5_1≤ (l0.length:Int))=true:=decide_eq_true c10
      clear c10
      obtain⟨y358,hy358⟩ :∃ y_:List Int,y_= (l0.take (x5_1:Int).toNat):=⟨_,rfl⟩
      replace H:(if y355.length+y358.length< 17592186044416 then((some (y355++y358:List Int)).bind fun y362=>(if y362.length< 17592186044416 then((some (y362++ [a1] :List Int)).bind fun y365=>((some (l0.drop (x5_1:Int).toNat:List Int)).bind fun y368=>(if y365.length+y368.length< 17592186044416 then(some (y365++y368)) else(none)))) else(none))) else(none))=some r:=zfh hy358 H
      have Ny358:=Aside0.mk hy358
      clear hy358
      by_cases c11:y355.length+y358.length< 17592186044416
      case neg=>exact znn c11 H
      rw [if_pos c11] at H
      have LMc11:=Aside0.mk c11
      clear c11
      obtain⟨y362,hy362⟩ :∃ y_:List Int,y_= (y355++y358):=⟨_,rfl⟩
      replace H:(if y362.length< 17592186044416 then((some (y362++ [a1] :List Int)).bind fun y365=>((some (l0.drop (x5_1:Int).toNat:List Int)).bind fun y368=>(if y365.length+y368.length< 17592186044416 then(some (y365++y368)) else(none)))) else(none))=some r:=zfh hy362 H
      have Ny362:=Aside0.mk hy362
      clear hy362
      by_cases c12:y362.length< 17592186044416
      case neg=>exact znn c12 H
      rw [if_pos c12] at H
      have LMc12:=Aside0.mk c12
      clear c12
      obtain⟨y365,hy365⟩ :∃ y_:List Int,y_= (y362++ [a1]):=⟨_,rfl⟩
      replace H:((some (l0.drop (x5_1:Int).toNat:List Int)).bind fun y368=>(if y365.length+y368.length< 17592186044416 then(some (y365++y368)) else(none)))=some r:=zfh hy365 H
      have Ny365:=Aside0.mk hy365
      clear hy365
      have c13b0:=eq_true (of_decide_eq_true zq1: 0≤x5_1)
      have c14b0:=eq_true (of_decide_eq_true zq1:x5_1≤ (l0.length:Int))
      obtain⟨y368,hy368⟩ :∃ y_:List Int,y_= (l0.drop (x5_1:Int).toNat):=⟨_,rfl⟩
      replace H:(if y365.length+y368.length< 17592186044416 then(some (y365++y368)) else(none))=some r:=zfh hy368 H
      have Ny368:=Aside0.mk hy368
      clear hy368
      by_cases c15:y365.length+y368.length< 17592186044416
      case neg=>exact znn c15 H
      rw [if_pos c15] at H
      have LMc15:=Aside0.mk c15
      clear c15
      obtain⟨y372,hy372⟩ :∃ y_:List Int,y_= (y365++y368):=⟨_,rfl⟩
      replace H:(some y372)=some r:=zfh hy372 H
      have Ny372:=Aside0.mk hy372
      clear hy372
      obtain rfl:=Option.some.inj H
      obtain⟨Ao16,co16,eo16⟩:=Kd.R_slice HO_0.out
      subst eo16
      have p353: 0≤ (x5_1:Int):=of_decide_eq_true zq1
      have q353:x5_1< (l0.length:Int):=of_decide_eq_true zq1
      obtain⟨ad353,e353,hx353_0⟩:=Kd.at_int (Kd.R_reads' HO_0.out).2.2 x5_1 p353 q353
      cases e353
      replace p353:=eq_true p353
      replace q353:=eq_true q353
      have p354: 0≤ (x5_1:Int):=of_decide_eq_true zq1
      have q354:x5_1< (l0.length:Int):=of_decide_eq_true zq1
      obtain⟨ad354,e354,hx354_0⟩:=Kd.at_int (Kd.R_reads' HO_0.out).2.2 x5_1 p354 q354
      obtain rfl:ad353=ad354:=(by injection e354)
      replace p354:=eq_true p354
      replace q354:=eq_true q354
      go_wp2_with (first|((with_reducible refine gate_dst (N:=34) rfl ?_);refine Kd.R_lit (Kd.int .i64) _ 3 ?hg (N:=34) ?hd (xs:=([] :List Int)) (inner:= []) (ok:=fun _=>True) (okp:=fun _=>True) ?hr ?hp (fun _ hk=>hk) trivial (Below.refl _ _) (Nat.le_refl _) (by simp) ?_;(case hd=>rfl);(case hg=>rfl);(case hr=>first|(go_simp;done)|(go_simp;rfl));(case hp=>exact(Reps.none _ _));intro v356 w17 ho18 hb hg_ hnew_;clear hg_ hnew_;(first|rw [← Ny355.out] at ho18|(simp only [Int.reduceToNat] at ho18;rw [← Ny355.out] at ho18));have HO357:=Aside0.mk (Kd.R_lower (Kd.R_new' (Kd.R_newM (M:=fun k_=>(P0_ k_∨w.heap.size≤k_)) ho18 (by first|exact HK.out.1|exact(show Kept w _ (fun k_=>P0_ k_) from by exact zk4 HK).1) (fun k_ h_=> .inr h_)) (Kd.R_lt (zq4 HO_0))) (below_size (by exact zk1 HB)));replace HO_0:=Aside0.mk (Kd.R_elder' (zq4 HO_0) (Kd.R_base ho18) hb);replace HK:=Aside0.mk (Kept.below (S:=(fun k_=>P0_ k_)) (by exact zk4 HK) hb);replace HB:=Aside0.mk (below_step (by exact zk1 HB) hb);clear hb ho18;have q19:(x5_1:Int)≤ ((l0.length:Int):Int):=of_decide_eq_true zq1;obtain⟨i019,hi019,_,hsz19,_⟩:=info_parts info3;have hroom19:l0.length≤co16:=(Kd.R_reads' HO_0.out).2.1;have hC19:Kd.C (Kd.int .i64) _ (some ad353) l0.length l0:=(Kd.R_reads' HO_0.out).2.2;have hcut19:=cut_to (P:=Try.prog) 30 3 .i64 Try.underlying30 hi019 (some ad353) l0.length co16 x5_1 (of_decide_eq_true zq1) q19 hroom19;have hr19:=Kd.C_take (m:=(x5_1:Int).toNat) hC19 (by omega);have hy19:y358.length= (x5_1:Int).toNat:=(by rw [Ny358.out,List.length_take];omega);rw [← Ny358.out] at hr19;rw [← hy19] at hcut19;have HR361:=Aside0.mk hr19;have HC361:=Aside0.mk (show y358.length≤co16 from by omega);clear hr19 hC19 hroom19 hi019 hsz19;have KY19:=Aside0.mk hy19;clear hy19;have KL19:=Aside0.mk (show (x5_1:Int).toNat≤l0.length from by omega);replace q19:=eq_true q19)|((with_reducible refine gate_builtin (b:= .append) (xs:= #[.tmp 34,.tmp 37]) rfl ?_);at_builtin;refine Kd.R_append_rows (Kd.int .i64) (w0:=w0) w0.heap.size rfl (.tmp 34) (.tmp 37) 30 3 (.int .i64 0) 8 rfl Try.underlying30 info3 rfl (by decide) (by omega) v356 y355 y358 _ _ _ (fun k_=>(P0_ k_∨w.heap.size≤k_)∧some k_≠ (.slice (some ad353) l0.length co16:Value).ownBlock) (fun _=>False) rfl rfl ?aO ?aR (fun _ _ h=>h) (fun _ h=>h.elim) ?aF ?aB ?aS ?aL ?_;(case aR=>repeat(first|exact(by repeat(first|(with_reducible exact HR361.out)|(with_reducible refine Kd.C_alloc ?_ _)|(with_reducible refine Kd.C_drewN ?_ _)|(with_reducible refine Kd.C_drew ?_)|exact HR361.out))|(with_reducible refine Kd.C_alloc ?_ _)|(with_reducible refine Kd.C_drewN ?_ _)|(with_reducible refine Kd.C_drew ?_)));(case aB=>exact(by exact zk1 HB));(case aF=>exact(fun k_ hk=>⟨(.inr (Nat.le_trans (by first|exact HK.out.1|exact(show Kept w _ (fun k_=>P0_ k_) from by exact zk4 HK).1) hk)),Kd.fresh' (Kd.R_lt (zq4 HO_0)) k_ hk⟩));(case aO=>exact(by(with_reducible repeat(first|apply Kd.R_alloc|apply Kd.R_drewN|apply Kd.R_drew));exact Kd.R_mono HO357.out (fun _ hk=>⟨hk.1.1,hk.2⟩)));(case aS=>exact(below_size (by exact zk1 HB)));(case aL=>have:=LMc11.out;omega);intro v363 w20 ho hb hg hat;rw [← Ny362.out] at ho;have HO364:=Aside0.mk (ho);replace HB:=Aside0.mk (hb);replace HK:=Aside0.mk (Kept.of_grown (S:=(fun k_=>P0_ k_)) hg (by exact zk4 HK) (fun k_ e_=>(HO357.out.1 k_ e_).1.1));replace HR361:=Aside0.mk ((show Kd.C (Kd.int .i64) w20 (some ad353) y358.length y358 from by rw [Ny358.out];exact Kd.C_take (m:=(x5_1:Int).toNat) ((Kd.R_reads' (Kd.R_after (ok:=(fun k_=>(P0_ k_∨w.heap.size≤k_))) (zq4 HO_0) hg hat)).2.2) KL19.out));replace HO_0:=Aside0.mk (Kd.R_after (ok:=(fun k_=>(P0_ k_∨w.heap.size≤k_))) (zq4 HO_0) hg hat);clear HO357;clear ho hb hg hat)|((with_reducible refine gate_builtin (b:= .append) (xs:= #[.tmp 39,.tmp 41]) rfl ?_);at_builtin;refine Kd.R_append (Kd.int .i64) (w0:=w0) w0.heap.size rfl (.tmp 39) (.tmp 41) 30 3 (.int .i64 0) 8 rfl Try.underlying30 info3 rfl (by decide) (by omega) v363 y362 a1 [.int .i64 a1] (fun k_=>(P0_ k_∨w.heap.size≤k_)∧some k_≠ (.slice (some ad353) l0.length co16:Value).ownBlock) (fun _=>False) rfl rfl ?aP (fun _ hk=>hk.elim) ?aF ?aO ?aB ?aS ?aL ?_;(case aP=>exact rfl);(case aB=>exact(by exact zk1 HB));(case aF=>exact(fun k_ hk=>⟨(.inr (Nat.le_trans (by first|exact HK.out.1|exact(show Kept w _ (fun k_=>P0_ k_) from by exact zk4 HK).1) hk)),Kd.fresh' (Kd.R_lt (zq4 HO_0)) k_ hk⟩));(case aO=>exact(zq4 HO364));(case aS=>exact(below_size (by exact zk1 HB)));(case aL=>have:=LMc12.out;omega);intro v366 w21 ho hb hg hat;rw [← Ny365.out] at ho;have HO367:=Aside0.mk (ho);replace HB:=Aside0.mk (hb);replace HK:=Aside0.mk (Kept.of_grown (S:=(fun k_=>P0_ k_)) hg (by exact zk4 HK) (fun k_ e_=>(HO364.out.1 k_ e_).1));replace HR361:=Aside0.mk ((show Kd.C (Kd.int .i64) w21 (some ad353) y358.length y358 from by rw [Ny358.out];exact Kd.C_take (m:=(x5_1:Int).toNat) ((Kd.R_reads' (Kd.R_after (ok:=(fun k_=>(P0_ k_∨w.heap.size≤k_))) (zq4 HO_0) hg hat)).2.2) KL19.out));replace HO_0:=Aside0.mk (Kd.R_after (ok:=(fun k_=>(P0_ k_∨w.heap.size≤k_))) (zq4 HO_0) hg hat);clear HO364;clear ho hb hg hat;have q22:(x5_1:Int)≤ ((l0.length:Int):Int):=of_decide_eq_true zq1;obtain⟨i022,hi022,_,hsz22,_⟩:=info_parts info3;have hroom22:l0.length≤co16:=(Kd.R_reads' HO_0.out).2.1;have hC22:Kd.C (Kd.int .i64) _ (some ad353) l0.length l0:=(Kd.R_reads' HO_0.out).2.2;have q022:(0:Int)≤ (x5_1:Int):=of_decide_eq_true zq1;have hcut22:=cut_from (P:=Try.prog) 30 3 .i64 Try.underlying30 hi022 1 hsz22 (some ad353) l0.length co16 x5_1 q022 q22;have hr22:=Kd.C_drop (m:=(x5_1:Int).toNat) (c:=co16) hC22 (by omega) hroom22;obtain⟨A22,hA22⟩ :∃ A1,A1= (if co16= (x5_1:Int).toNat then(some ad353) else((some ad353):Option Addr).map (·.add ((x5_1:Int).toNat * 1))):=⟨_,rfl⟩;obtain⟨c22,hc22⟩ :∃ c1,c1=co16 - (x5_1:Int).toNat:=⟨_,rfl⟩;have hy22:y368.length=l0.length - (x5_1:Int).toNat:=(by rw [Ny368.out,List.length_drop]<;>omega);rw [show (l0).drop (x5_1:Int).toNat=y368 from Ny368.out.symm] at hr22;replace hr22:Kd.C (Kd.int .i64) _ A22 y368.length y368:=(by rw [hA22];exact hr22);rw [← hy22,← hA22,← hc22] at hcut22;have HR371:=Aside0.mk hr22;have HC371:=Aside0.mk (show y368.length≤c22 from by rw [hy22,hc22];exact Nat.sub_le_sub_right hroom22 _);clear hr22 hC22 hroom22 hi022 hsz22 hc22;have KY22:=Aside0.mk hy22;have KA22:=Aside0.mk hA22;clear hy22 hA22;have KL22:=Aside0.mk (show (x5_1:Int).toNat≤l0.length from by omega);replace q22:=eq_true q22)|((with_reducible refine gate_builtin (b:= .append) (xs:= #[.tmp 43,.tmp 46]) rfl ?_);at_builtin;refine Kd.R_append_rows (Kd.int .i64) (w0:=w0) w0.heap.size rfl (.tmp 43) (.tmp 46) 30 3 (.int .i64 0) 8 rfl Try.underlying30 info3 rfl (by decide) (by omega) v366 y365 y368 _ _ _ (fun k_=>(P0_ k_∨w.heap.size≤k_)∧some k_≠ (.slice (some ad353) l0.length co16:Value).ownBlock) (fun _=>False) rfl rfl ?aO ?aR (fun _ _ h=>h) (fun _ h=>h.elim) ?aF ?aB ?aS ?aL ?_;(case aR=>repeat(first|exact(by repeat(first|(with_reducible exact HR371.out)|(with_reducible refine Kd.C_alloc ?_ _)|(with_reducible refine Kd.C_drewN ?_ _)|(with_reducible refine Kd.C_drew ?_)|exact HR371.out))|(with_reducible refine Kd.C_alloc ?_ _)|(with_reducible refine Kd.C_drewN ?_ _)|(with_reducible refine Kd.C_drew ?_)));(case aB=>exact(by exact zk1 HB));(case aF=>exact(fun k_ hk=>⟨(.inr (Nat.le_trans (by first|exact HK.out.1|exact(show Kept w _ (fun k_=>P0_ k_) from by exact zk4 HK).1) hk)),Kd.fresh' (Kd.R_lt (zq4 HO_0)) k_ hk⟩));(case aO=>exact(zq4 HO367));(case aS=>exact(below_size (by exact zk1 HB)));(case aL=>have:=LMc15.out;omega);intro v373 w23 ho hb hg hat;rw [← Ny372.out] at ho;have HO374:=Aside0.mk (ho);replace HB:=Aside0.mk (hb);replace HK:=Aside0.mk (Kept.of_grown (S:=(fun k_=>P0_ k_)) hg (by exact zk4 HK) (fun k_ e_=>(HO367.out.1 k_ e_).1));replace HR361:=Aside0.mk ((show Kd.C (Kd.int .i64) w23 (some ad353) y358.length y358 from by rw [Ny358.out];exact Kd.C_take (m:=(x5_1:Int).toNat) ((Kd.R_reads' (Kd.R_after (ok:=(fun k_=>(P0_ k_∨w.heap.size≤k_))) (zq4 HO_0) hg hat)).2.2) KL19.out));replace HR371:=Aside0.mk ((show Kd.C (Kd.int .i64) w23 A22 y368.length y368 from by rw [Ny368.out,KA22.out];exact Kd.C_drop (m:=(x5_1:Int).toNat) (c:=co16) ((Kd.R_reads' (Kd.R_after (ok:=(fun k_=>(P0_ k_∨w.heap.size≤k_))) (zq4 HO_0) hg hat)).2.2) KL22.out ((Kd.R_reads' (Kd.R_after (ok:=(fun k_=>(P0_ k_∨w.heap.size≤k_))) (zq4 HO_0) hg hat)).2.1)));replace HO_0:=Aside0.mk (Kd.R_after (ok:=(fun k_=>(P0_ k_∨w.heap.size≤k_))) (zq4 HO_0) hg hat);clear HO367;clear ho hb hg hat))
      go_ret
      exact⟨_,zer,by(with_reducible repeat(first|apply Kd.R_alloc|apply Kd.R_drewN|apply Kd.R_drew));exact Kd.R_mono HO374.out (fun _ hk=>hk.1),by exact zk1 HB,by exact zk4 HK⟩
   ·rw [if_neg c3] at H
    have c3b0:decide (x5_1< (l0.length:Int))=false:=decide_eq_false c3
    clear c3
    obtain⟨y375,hy375⟩ :∃ y_:List Int,y_= (([] :List Int)):=⟨_,rfl⟩
    replace H:(if 0≤x5_1 then(if x5_1≤ (l0.length:Int) then((some (l0.take (x5_1:Int).toNat:List Int)).bind fun y378=>(if y375.length+y378.length< 17592186044416 then((some (y375++y378:List Int)).bind fun y382=>(if y382.length< 17592186044416 then((some (y382++ [a1] :List Int)).bind fun y385=>((some (l0.drop (x5_1:Int).toNat:List Int)).bind fun y388=>(if y385.length+y388.length< 17592186044416 then(some (y385++y388)) else(none)))) else(none))) else(none))) else(none)) else(none))=some r:=zfh hy375 H
    have Ny375:=Aside0.mk hy375
    clear hy375
    by_cases c24: 0≤x5_1
    case neg=>exact znn c24 H
    rw [if_pos c24] at H
    have c24b0:=eq_true c24
    have c24b1:decide (0≤x5_1)=true:=decide_eq_true c24
    clear c24
    by_cases c25:x5_1≤ (l0.length:Int)
    case neg=>exact znn c25 H
    rw [if_pos c25] at H
    have c25b0:=eq_true c25
    have c25b1:decide (x5_1≤ (l0.length:Int))=true:=decide_eq_true c25
    clear c25
    obtain⟨y378,hy378⟩ :∃ y_:List Int,y_= (l0.take (x5_1:Int).toNat):=⟨_,rfl⟩
    replace H:(if y375.length+y378.length< 17592186044416 then((some (y375++y378:List Int)).bind fun y382=>(if y382.length< 17592186044416 then((some (y382++ [a1] :List Int)).bind fun y385=>((some (l0.drop (x5_1:Int).toNat:List Int)).bind fun y388=>(if y385.length+y388.length< 17592186044416 then(some (y385++y388)) else(none)))) else(none))) else(none))=some r:=zfh hy378 H
    have Ny378:=Aside0.mk hy378
    clear hy378
    by_cases c26:y375.length+y378.length< 17592186044416
    case neg=>exact znn c26 H
    rw [if_pos c26] at H
    have LMc26:=Aside0.mk c26
    clear c26
    obtain⟨y382,hy382⟩ :∃ y_:List Int,y_= (y375++y378):=⟨_,rfl⟩
    replace H:(if y382.length< 17592186044416 then((some (y382++ [a1] :List Int)).bind fun y385=>((some (l0.drop (x5_1:Int).toNat:List Int)).bind fun y388=>(if y385.length+y388.length< 17592186044416 then(some (y385++y388)) else(none)))) else(none))=some r:=zfh hy382 H
    have Ny382:=Aside0.mk hy382
    clear hy382
    by_cases c27:y382.length< 17592186044416
    case neg=>exact znn c27 H
    rw [if_pos c27] at H
    have LMc27:=Aside0.mk c27
    clear c27
    obtain⟨y385,hy385⟩ :∃ y_:List Int,y_= (y382++ [a1]):=⟨_,rfl⟩
    replace H:((some (l0.drop (x5_1:Int).toNat:List Int)).bind fun y388=>(if y385.length+y388.length< 17592186044416 then(some (y385++y388)) else(none)))=some r:=zfh hy385 H
    have Ny385:=Aside0.mk hy385
    clear hy385
    have c28b0:=eq_true (of_decide_eq_true zq1: 0≤x5_1)
    have c29b0:=eq_true (of_decide_eq_true zq1:x5_1≤ (l0.length:Int))
    obtain⟨y388,hy388⟩ :∃ y_:List Int,y_= (l0.drop (x5_1:Int).toNat):=⟨_,rfl⟩
    replace H:(if y385.length+y388.length< 17592186044416 then(some (y385++y388)) else(none))=some r:=zfh hy388 H
    have Ny388:=Aside0.mk hy388
    clear hy388
    by_cases c30:y385.length+y388.length< 17592186044416
    case neg=>exact znn c30 H
    rw [if_pos c30] at H
    have LMc30:=Aside0.mk c30
    clear c30
    obtain⟨y392,hy392⟩ :∃ y_:List Int,y_= (y385++y388):=⟨_,rfl⟩
    replace H:(some y392)=some r:=zfh hy392 H
    have Ny392:=Aside0.mk hy392
    clear hy392
    obtain rfl:=Option.some.inj H
    obtain⟨Ao31,co31,eo31⟩:=Kd.R_slice HO_0.out
    subst eo31
    go_wp2_with (first|((with_reducible refine gate_dst (N:=34) rfl ?_);refine Kd.R_lit (Kd.int .i64) _ 3 ?hg (N:=34) ?hd (xs:=([] :List Int)) (inner:= []) (ok:=fun _=>True) (okp:=fun _=>True) ?hr ?hp (fun _ hk=>hk) trivial (Below.refl _ _) (Nat.le_refl _) (by simp) ?_;(case hd=>rfl);(case hg=>rfl);(case hr=>first|(go_simp;done)|(go_simp;rfl));(case hp=>exact(Reps.none _ _));intro v376 w32 ho33 hb hg_ hnew_;clear hg_ hnew_;(first|rw [← Ny375.out] at ho33|(simp only [Int.reduceToNat] at ho33;rw [← Ny375.out] at ho33));have HO377:=Aside0.mk (Kd.R_lower (Kd.R_new' (Kd.R_newM (M:=fun k_=>(P0_ k_∨w.heap.size≤k_)) ho33 (by first|exact HK.out.1|exact(show Kept w _ (fun k_=>P0_ k_) from by exact zk4 HK).1) (fun k_ h_=> .inr h_)) (Kd.R_lt (zq4 HO_0))) (below_size (by exact zk1 HB)));replace HO_0:=Aside0.mk (Kd.R_elder' (zq4 HO_0) (Kd.R_base ho33) hb);replace HK:=Aside0.mk (Kept.below (S:=(fun k_=>P0_ k_)) (by exact zk4 HK) hb);replace HB:=Aside0.mk (below_step (by exact zk1 HB) hb);clear hb ho33;have q34:(x5_1:Int)≤ ((l0.length:Int):Int):=of_decide_eq_true zq1;obtain⟨i034,hi034,_,hsz34,_⟩:=info_parts info3;have hroom34:l0.length≤co31:=(Kd.R_reads' HO_0.out).2.1;have hC34:Kd.C (Kd.int .i64) _ Ao31 l0.length l0:=(Kd.R_reads' HO_0.out).2.2;have hcut34:=cut_to (P:=Try.prog) 30 3 .i64 Try.underlying30 hi034 Ao31 l0.length co31 x5_1 (of_decide_eq_true zq1) q34 hroom34;have hr34:=Kd.C_take (m:=(x5_1:Int).toNat) hC34 (by omega);have hy34:y378.length= (x5_1:Int).toNat:=(by rw [Ny378.out,List.length_take];omega);rw [← Ny378.out] at hr34;rw [← hy34] at hcut34;have HR381:=Aside0.mk hr34;have HC381:=Aside0.mk (show y378.length≤co31 from by omega);clear hr34 hC34 hroom34 hi034 hsz34;have KY34:=Aside0.mk hy34;clear hy34;have KL34:=Aside0.mk (show (x5_1:Int).toNat≤l0.length from by omega);replace q34:=eq_true q34)|((with_reducible refine gate_builtin (b:= .append) (xs:= #[.tmp 34,.tmp 37]) rfl ?_);at_builtin;refine Kd.R_append_rows (Kd.int .i64) (w0:=w0) w0.heap.size rfl (.tmp 34) (.tmp 37) 30 3 (.int .i64 0) 8 rfl Try.underlying30 info3 rfl (by decide) (by omega) v376 y375 y378 _ _ _ (fun k_=>(P0_ k_∨w.heap.size≤k_)∧some k_≠ (.slice Ao31 l0.length co31:Value).ownBlock) (fun _=>False) rfl rfl ?aO ?aR (fun _ _ h=>h) (fun _ h=>h.elim) ?aF ?aB ?aS ?aL ?_;(case aR=>repeat(first|exact(by repeat(first|(with_reducible exact HR381.out)|(with_reducible refine Kd.C_alloc ?_ _)|(with_reducible refine Kd.C_drewN ?_ _)|(with_reducible refine Kd.C_drew ?_)|exact HR381.out))|(with_reducible refine Kd.C_alloc ?_ _)|(with_reducible refine Kd.C_drewN ?_ _)|(with_reducible refine Kd.C_drew ?_)));(case aB=>exact(by exact zk1 HB));(case aF=>exact(fun k_ hk=>⟨(.inr (Nat.le_trans (by first|exact HK.out.1|exact(show Kept w _ (fun k_=>P0_ k_) from by exact zk4 HK).1) hk)),Kd.fresh' (Kd.R_lt (zq4 HO_0)) k_ hk⟩));(case aO=>exact(by(with_reducible repeat(first|apply Kd.R_alloc|apply Kd.R_drewN|apply Kd.R_drew));exact Kd.R_mono HO377.out (fun _ hk=>⟨hk.1.1,hk.2⟩)));(case aS=>exact(below_size (by exact zk1 HB)));(case aL=>have:=LMc26.out;omega);intro v383 w35 ho hb hg hat;rw [← Ny382.out] at ho;have HO384:=Aside0.mk (ho);replace HB:=Aside0.mk (hb);replace HK:=Aside0.mk (Kept.of_grown (S:=(fun k_=>P0_ k_)) hg (by exact zk4 HK) (fun k_ e_=>(HO377.out.1 k_ e_).1.1));replace HR381:=Aside0.mk ((show Kd.C (Kd.int .i64) w35 Ao31 y378.length y378 from by rw [Ny378.out];exact Kd.C_take (m:=(x5_1:Int).toNat) ((Kd.R_reads' (Kd.R_after (ok:=(fun k_=>(P0_ k_∨w.heap.size≤k_))) (zq4 HO_0) hg hat)).2.2) KL34.out));replace HO_0:=Aside0.mk (Kd.R_after (ok:=(fun k_=>(P0_ k_∨w.heap.size≤k_))) (zq4 HO_0) hg hat);clear HO377;clear ho hb hg hat)|((with_reducible refine gate_builtin (b:= .append) (xs:= #[.tmp 39,.tmp 41]) rfl ?_);at_builtin;refine Kd.R_append (Kd.int .i64) (w0:=w0) w0.heap.size rfl (.tmp 39) (.tmp 41) 30 3 (.int .i64 0) 8 rfl Try.underlying30 info3 rfl (by decide) (by omega) v383 y382 a1 [.int .i64 a1] (fun k_=>(P0_ k_∨w.heap.size≤k_)∧some k_≠ (.slice Ao31 l0.length co31:Value).ownBlock) (fun _=>False) rfl rfl ?aP (fun _ hk=>hk.elim) ?aF ?aO ?aB ?aS ?aL ?_;(case aP=>exact rfl);(case aB=>exact(by exact zk1 HB));(case aF=>exact(fun k_ hk=>⟨(.inr (Nat.le_trans (by first|exact HK.out.1|exact(show Kept w _ (fun k_=>P0_ k_) from by exact zk4 HK).1) hk)),Kd.fresh' (Kd.R_lt (zq4 HO_0)) k_ hk⟩));(case aO=>exact(zq4 HO384));(case aS=>exact(below_size (by exact zk1 HB)));(case aL=>have:=LMc27.out;omega);intro v386 w36 ho hb hg hat;rw [← Ny385.out] at ho;have HO387:=Aside0.mk (ho);replace HB:=Aside0.mk (hb);replace HK:=Aside0.mk (Kept.of_grown (S:=(fun k_=>P0_ k_)) hg (by exact zk4 HK) (fun k_ e_=>(HO384.out.1 k_ e_).1));replace HR381:=Aside0.mk ((show Kd.C (Kd.int .i64) w36 Ao31 y378.length y378 from by rw [Ny378.out];exact Kd.C_take (m:=(x5_1:Int).toNat) ((Kd.R_reads' (Kd.R_after (ok:=(fun k_=>(P0_ k_∨w.heap.size≤k_))) (zq4 HO_0) hg hat)).2.2) KL34.out));replace HO_0:=Aside0.mk (Kd.R_after (ok:=(fun k_=>(P0_ k_∨w.heap.size≤k_))) (zq4 HO_0) hg hat);clear HO384;clear ho hb hg hat;have q37:(x5_1:Int)≤ ((l0.length:Int):Int):=of_decide_eq_true zq1;obtain⟨i037,hi037,_,hsz37,_⟩:=info_parts info3;have hroom37:l0.length≤co31:=(Kd.R_reads' HO_0.out).2.1;have hC37:Kd.C (Kd.int .i64) _ Ao31 l0.length l0:=(Kd.R_reads' HO_0.out).2.2;have q037:(0:Int)≤ (x5_1:Int):=of_decide_eq_true zq1;have hcut37:=cut_from (P:=Try.prog) 30 3 .i64 Try.underlying30 hi037 1 hsz37 Ao31 l0.length co31 x5_1 q037 q37;have hr37:=Kd.C_drop (m:=(x5_1:Int).toNat) (c:=co31) hC37 (by omega) hroom37;obtain⟨A37,hA37⟩ :∃ A1,A1= (if co31= (x5_1:Int).toNat then Ao31 else(Ao31:Option Addr).map (·.add ((x5_1:Int).toNat * 1))):=⟨_,rfl⟩;obtain⟨c37,hc37⟩ :∃ c1,c1=co31 - (x5_1:Int).toNat:=⟨_,rfl⟩;have hy37:y388.length=l0.length - (x5_1:Int).toNat:=(by rw [Ny388.out,List.length_drop]<;>omega);rw [show (l0).drop (x5_1:Int).toNat=y388 from Ny388.out.symm] at hr37;replace hr37:Kd.C (Kd.int .i64) _ A37 y388.length y388:=(by rw [hA37];exact hr37);rw [← hy37,← hA37,← hc37] at hcut37;have HR391:=Aside0.mk hr37;have HC391:=Aside0.mk (show y388.length≤c37 from by rw [hy37,hc37];exact Nat.sub_le_sub_right hroom37 _);clear hr37 hC37 hroom37 hi037 hsz37 hc37;have KY37:=Aside0.mk hy37;have KA37:=Aside0.mk hA37;clear hy37 hA37;have KL37:=Aside0.mk (show (x5_1:Int).toNat≤l0.length from by omega);replace q37:=eq_true q37)|((with_reducible refine gate_builtin (b:= .append) (xs:= #[.tmp 43,.tmp 46]) rfl ?_);at_builtin;refine Kd.R_append_rows (Kd.int .i64) (w0:=w0) w0.heap.size rfl (.tmp 43) (.tmp 46) 30 3 (.int .i64 0) 8 rfl Try.underlying30 info3 rfl (by decide) (by omega) v386 y385 y388 _ _ _ (fun k_=>(P0_ k_∨w.heap.size≤k_)∧some k_≠ (.slice Ao31 l0.length co31:Value).ownBlock) (fun _=>False) rfl rfl ?aO ?aR (fun _ _ h=>h) (fun _ h=>h.elim) ?aF ?aB ?aS ?aL ?_;(case aR=>repeat(first|exact(by repeat(first|(with_reducible exact HR391.out)|(with_reducible refine Kd.C_alloc ?_ _)|(with_reducible refine Kd.C_drewN ?_ _)|(with_reducible refine Kd.C_drew ?_)|exact HR391.out))|(with_reducible refine Kd.C_alloc ?_ _)|(with_reducible refine Kd.C_drewN ?_ _)|(with_reducible refine Kd.C_drew ?_)));(case aB=>exact(by exact zk1 HB));(case aF=>exact(fun k_ hk=>⟨(.inr (Nat.le_trans (by first|exact HK.out.1|exact(show Kept w _ (fun k_=>P0_ k_) from by exact zk4 HK).1) hk)),Kd.fresh' (Kd.R_lt (zq4 HO_0)) k_ hk⟩));(case aO=>exact(zq4 HO387));(case aS=>exact(below_size (by exact zk1 HB)));(case aL=>have:=LMc30.out;omega);intro v393 w38 ho hb hg hat;rw [← Ny392.out] at ho;have HO394:=Aside0.mk (ho);replace HB:=Aside0.mk (hb);replace HK:=Aside0.mk (Kept.of_grown (S:=(fun k_=>P0_ k_)) hg (by exact zk4 HK) (fun k_ e_=>(HO387.out.1 k_ e_).1));replace HR381:=Aside0.mk ((show Kd.C (Kd.int .i64) w38 Ao31 y378.length y378 from by rw [Ny378.out];exact Kd.C_take (m:=(x5_1:Int).toNat) ((Kd.R_reads' (Kd.R_after (ok:=(fun k_=>(P0_ k_∨w.heap.size≤k_))) (zq4 HO_0) hg hat)).2.2) KL34.out));replace HR391:=Aside0.mk ((show Kd.C (Kd.int .i64) w38 A37 y388.length y388 from by rw [Ny388.out,KA37.out];exact Kd.C_drop (m:=(x5_1:Int).toNat) (c:=co31) ((Kd.R_reads' (Kd.R_after (ok:=(fun k_=>(P0_ k_∨w.heap.size≤k_))) (zq4 HO_0) hg hat)).2.2) KL37.out ((Kd.R_reads' (Kd.R_after (ok:=(fun k_=>(P0_ k_∨w.heap.size≤k_))) (zq4 HO_0) hg hat)).2.1)));replace HO_0:=Aside0.mk (Kd.R_after (ok:=(fun k_=>(P0_ k_∨w.heap.size≤k_))) (zq4 HO_0) hg hat);clear HO387;clear ho hb hg hat))
    go_ret
    exact⟨_,zer,by(with_reducible repeat(first|apply Kd.R_alloc|apply Kd.R_drewN|apply Kd.R_drew));exact Kd.R_mono HO394.out (fun _ hk=>hk.1),by exact zk1 HB,by exact zk4 HK⟩
def spec_l8Near.l0:Nat→Int→List Int→List (S52)→Int→Int→Option (List Int)
 | 0,_,_,_,_,_=>none
 |k+1,x1,x5,x8,x9,x10=>if x10<x9 then(if 0≤x10 then(if x10< (x8.length:Int) then(if ((rd_T52 x8 x10).f0)=x1 then((spec_l1Put.f k x5 ((rd_T52 x8 x10).f1)).bind fun t397=>(if ((rd_T52 x8 x10).f1)=x1 then((spec_l1Put.f k t397 ((rd_T52 x8 x10).f0)).bind fun t400=>(spec_l8Near.l0 k x1 t400 x8 x9 (wrap64 (x10+1)))) else(spec_l8Near.l0 k x1 t397 x8 x9 (wrap64 (x10+1))))) else(if ((rd_T52 x8 x10).f1)=x1 then((spec_l1Put.f k x5 ((rd_T52 x8 x10).f0)).bind fun t403=>(spec_l8Near.l0 k x1 t403 x8 x9 (wrap64 (x10+1)))) else(spec_l8Near.l0 k x1 x5 x8 x9 (wrap64 (x10+1))))) else(none)) else(none)) else(some x5)
def spec_l8Near.f (k:Nat) (l0:List (S52)) (a1:Int):Option (List Int):=spec_l8Near.l0 k a1 ([] :List Int) l0 (l0.length:Int) 0
set_option maxHeartbeats 8000000 in
set_option maxRecDepth 100000 in
theorem spec_l8Near.calls (k:Nat) (A0:Option Addr) (c0:Nat) (l0:List (S52)) (a1:Int) (r:List Int) (w:World) (hr0:Kd.C k52 w A0 l0.length l0) (hc0:l0.length≤c0) (h:spec_l8Near.f k l0 a1=some r):
  Calls Try.prog 56 #[.slice A0 l0.length c0,.int .i64 a1] w fun e w'=> ∃ v0_:Value,e= .returned (v0_)∧Kd.R (Kd.int .i64) 3 w' w.heap.size (fun _=>True) v0_ r∧Below w.heap.size w w':=by
 have hu52:=Try.underlying52
 have HR0:=Aside0.mk hr0
 have HC0:=Aside0.mk hc0
 clear hr0 hc0
 have HB:=Aside0.mk (Below.refl w.heap.size w)
 have H:(spec_l8Near.l0 k a1 ([] :List Int) l0 (l0.length:Int) 0)=some r:=h
 clear h
 have H':=Aside0.mk H
 clear H
 go_enter Try.func56,Try.ntmps56
 go_wp2
 go_loopg [5,10] k (fun kq v5 v10 w'=> ∃ (x5_1:List Int) (x10_1:Int),v10= .int .i64 x10_1∧Aside0 (spec_l8Near.l0 kq a1 x5_1 l0 (l0.length:Int) x10_1=some r)∧Aside0 (kq≤k)∧Aside0 (Kd.R (Kd.int .i64) 3 w' w.heap.size (fun _=>True) v5 x5_1)∧Aside0 (Below w.heap.size w w'))
 case atStart=>exact⟨(([] :List Int)),(0),zrs,H',⟨Nat.le_refl _⟩,⟨by first|exact Kd.R_nil _ _ _ _ _|exact Kd.N_nil _ _ _ _ _|exact Kd.V_nil _ _ _ _ _|exact Kd.Q_nil _ _ _ _ _|exact Kd.S_nil _ _ _ _ _⟩,⟨by exact zk1 HB⟩⟩
 case round=>
  clear H'
  try clear p2
  obtain⟨x5_1,x10_1,rfl,HA,HK1,HO_5,HB⟩:=hrel
  cases gk with
  |zero=>exact absurd HA.out (by simp [spec_l8Near.l0])
  |succ k1=>
   have H:=HA.out
   clear HA
   simp only [spec_l8Near.l0] at H
   by_cases c3:x10_1< (l0.length:Int)
   ·rw [if_pos c3] at H
    have c3b0:decide (x10_1< (l0.length:Int))=true:=decide_eq_true c3
    clear c3
    by_cases c4: 0≤x10_1
    case neg=>exact znn c4 H
    rw [if_pos c4] at H
    have c4b0:decide (0≤x10_1)=true:=decide_eq_true c4
    clear c4
    by_cases c5:x10_1< (l0.length:Int)
    case neg=>exact znn c5 H
    rw [if_pos c5] at H
    have c5b0:decide (x10_1< (l0.length:Int))=true:=decide_eq_true c5
    clear c5
    by_cases c6:((rd_T52 l0 x10_1).f0)=a1
    ·rw [if_pos c6] at H
     have c6b0:(((rd_T52 l0 x10_1).f0)==a1)=true:=beq_iff_eq.mpr c6
     have c6b1:(((rd_T52 l0 x10_1).f0) !=a1)=false:=bne_eq_false_iff_eq.mpr c6
     clear c6
     replace H:=Option.bind_eq_some_iff.mp H
     obtain⟨t397,A70,H⟩:=H
     replace H:(if ((rd_T52 l0 x10_1).f1)=a1 then((spec_l1Put.f k1 t397 ((rd_T52 l0 x10_1).f0)).bind fun t400=>(spec_l8Near.l0 k1 a1 t400 l0 (l0.length:Int) (wrap64 (x10_1+1)))) else(spec_l8Near.l0 k1 a1 t397 l0 (l0.length:Int) (wrap64 (x10_1+1))))=some r:=H
     have A7:=Aside0.mk A70
     clear A70
     by_cases c8:((rd_T52 l0 x10_1).f1)=a1
     ·rw [if_pos c8] at H
      have c8b0:(((rd_T52 l0 x10_1).f1)==a1)=true:=beq_iff_eq.mpr c8
      have c8b1:(((rd_T52 l0 x10_1).f1) !=a1)=false:=bne_eq_false_iff_eq.mpr c8
      clear c8
      replace H:=Option.bind_eq_some_iff.mp H
      obtain⟨t400,A90,H⟩:=H
      replace H:(spec_l8Near.l0 k1 a1 t400 l0 (l0.length:Int) (wrap64 (x10_1+1)))=some r:=H
      have A9:=Aside0.mk A90
      clear A90
      have H':=Aside0.mk H
      clear H
      have p395: 0≤ (x10_1:Int):=of_decide_eq_true zq1
      have q395:x10_1< (l0.length:Int):=of_decide_eq_true zq1
      obtain⟨ad395,e395,hx395_0,hx395_1,hx395_2⟩:=at_T52 HR0.out x10_1 p395 q395
      cases e395
      replace hx395_0:=zhx HB hx395_0
      replace hx395_1:=zhx HB hx395_1
      replace hx395_2:=zhx HB hx395_2
      replace p395:=eq_true p395
      replace q395:=eq_true q395
      go_wp2_with (first|((with_reducible refine gate_dst (N:=7) rfl ?_);refine box_event ?hg (N:=7) ?hd (cs:= #[.int .i64 0,.int .i64 0,.int .i64 0]) (t:=52) ?hr ?_;(case hd=>rfl);(case hg=>rfl);(case hr=>first|(go_simp;done)|(go_simp;rfl));intro gb396 hg w10 hbox hb;have BK396:=Aside0.mk (hbox);have GW396:=Aside0.mk ((by rw [hg];exact(below_size (by exact zk1 HB)):w.heap.size≤gb396));have GE396:=GW396;replace HO_5:=Aside0.mk (Kd.R_below (zq4 HO_5) hb);replace HB:=Aside0.mk (below_step (by exact zk1 HB) hb);clear hb hbox hg;have hcz11_0:=zcz BK396 0 (.int .i64 0);have hcz11_1:=zcz BK396 1 (.int .i64 0);have hcz11_2:=zcz BK396 2 (.int .i64 0);have hfz11_0:=blk_frozen BK396.out 0;have hfz11_1:=blk_frozen BK396.out 1;have hfz11_2:=blk_frozen BK396.out 2)|((with_reducible refine gate_store (t:=52) (p:=7) rfl ?_);refine store_event (t:=52) (p:=7) (v:=?vo_w12) (w1:=(((w10.setCell ⟨gb396,0,none⟩ (.int .i64 ((rd_T52 l0 x10_1).f0))).setCell ⟨gb396,1,none⟩ (.int .i64 ((rd_T52 l0 x10_1).f1))).setCell ⟨gb396,2,none⟩ (.int .i64 ((rd_T52 l0 x10_1).f2)))) ?hg ?ho ?hn ?hr ?_;(case ho=>rfl);(case hg=>rfl);(case hn=>rfl);(case hr=>first|(go_simp;done)|(go_simp;rfl));intro w12 hw;have n0_:Aside0 (Kd.R (Kd.int .i64) 3 w12 w.heap.size (fun _=>True) u5 x5_1):=⟨(by rw [hw];exact(by(with_reducible repeat(first|apply Kd.R_alloc|apply Kd.R_drewN|apply Kd.R_drew));exact Kd.R_mono (Kd.R_far (p:=⟨gb396,2,none⟩) (Kd.R_far (p:=⟨gb396,1,none⟩) (Kd.R_far (p:=⟨gb396,0,none⟩) (Kd.R_types HO_5.out BK396.out (by decide)) (fun _ hk=>hk.2) (.int .i64 ((rd_T52 l0 x10_1).f0))) (fun _ hk=>hk.2) (.int .i64 ((rd_T52 l0 x10_1).f1))) (fun _ hk=>hk.2) (.int .i64 ((rd_T52 l0 x10_1).f2))) (fun _ hk=>trivial)))⟩;have n1_:Aside0 (w12.heap[gb396]?=some (.cells #[.int .i64 ((rd_T52 l0 x10_1).f0),.int .i64 ((rd_T52 l0 x10_1).f1),.int .i64 ((rd_T52 l0 x10_1).f2)] 52 (0,0))):=⟨(by rw [hw];exact(by(with_reducible repeat(first|refine blk_drewN ?_ _|refine blk_drew ?_ |refine blk_alloc ?_ _));refine blk_put (cs:= #[.int .i64 ((rd_T52 l0 x10_1).f0),.int .i64 ((rd_T52 l0 x10_1).f1),.int .i64 0]) ?_ 2 _ rfl;(with_reducible repeat(first|refine blk_drewN ?_ _|refine blk_drew ?_ |refine blk_alloc ?_ _));refine blk_put (cs:= #[.int .i64 ((rd_T52 l0 x10_1).f0),.int .i64 0,.int .i64 0]) ?_ 1 _ rfl;(with_reducible repeat(first|refine blk_drewN ?_ _|refine blk_drew ?_ |refine blk_alloc ?_ _));refine blk_put (cs:= #[.int .i64 0,.int .i64 0,.int .i64 0]) ?_ 0 _ rfl;(with_reducible repeat(first|refine blk_drewN ?_ _|refine blk_drew ?_ |refine blk_alloc ?_ _));exact BK396.out))⟩;have n2_:Aside0 (Below w.heap.size w w12):=⟨(by rw [hw];exact(by exact zk2 HB GE396.out))⟩;clear hw;clear HO_5;clear BK396;clear HB;have HO_5:=n0_;have BK396:=n1_;have HB:=n2_;clear n0_ n1_ n2_;have hcz13_0:=zcz BK396 0 (.int .i64 ((rd_T52 l0 x10_1).f0));have hcz13_1:=zcz BK396 1 (.int .i64 ((rd_T52 l0 x10_1).f1));have hcz13_2:=zcz BK396 2 (.int .i64 ((rd_T52 l0 x10_1).f2));have hfz13_0:=blk_frozen BK396.out 0;have hfz13_1:=blk_frozen BK396.out 1;have hfz13_2:=blk_frozen BK396.out 2;obtain⟨Ao14,co14,eo14⟩:=Kd.R_slice HO_5.out;subst eo14)|((with_reducible refine gate_callee (f:=70) rfl ?_);refine goesL_ (some 21) rfl rfl Try.func70 (by kernel_rfl) rfl #[.slice Ao14 x5_1.length co14,.int .i64 ((rd_T52 l0 x10_1).f1)] rfl zq2 ?_;(with_reducible refine(spec_l1Put.calls k1 (fun k_=>some k_= (.slice Ao14 x5_1.length co14:Value).ownBlock) (.slice Ao14 x5_1.length co14) x5_1 ((rd_T52 l0 x10_1).f1) t397 w _ ?side1 ?side2 A7.out).mono ?_);(case side1=>exact zk2 HB GE396.out);(case side2=>exact Kd.R_tight rfl HO_5.out);rintro e w15 ⟨v398,rfl,ho0,hb,hkp⟩;refine⟨_,rfl,?_⟩;have HO399:=Aside0.mk (Kd.R_mono (ok':=fun k_=>True) ho0 (fun k_ hk_=>trivial));replace BK396:=Aside0.mk (blk_kept (zq3 BK396) hkp (fun hs_=>(fun e_=>(Kd.R_ne HO_5.out BK396.out (by decide)) e_) hs_));replace HB:=Aside0.mk (hb);clear HO_5;(try clear hb);(try clear hkp);(try clear ho0);have hcz16_0:=zcz BK396 0 (.int .i64 ((rd_T52 l0 x10_1).f0));have hcz16_1:=zcz BK396 1 (.int .i64 ((rd_T52 l0 x10_1).f1));have hcz16_2:=zcz BK396 2 (.int .i64 ((rd_T52 l0 x10_1).f2));have hfz16_0:=blk_frozen BK396.out 0;have hfz16_1:=blk_frozen BK396.out 1;have hfz16_2:=blk_frozen BK396.out 2;obtain⟨Ao17,co17,eo17⟩:=Kd.R_slice HO399.out;subst eo17)|((with_reducible refine gate_callee (f:=70) rfl ?_);refine goesL_ (some 29) rfl rfl Try.func70 (by kernel_rfl) rfl #[.slice Ao17 t397.length co17,.int .i64 ((rd_T52 l0 x10_1).f0)] rfl zq2 ?_;(with_reducible refine(spec_l1Put.calls k1 (fun k_=>some k_= (.slice Ao17 t397.length co17:Value).ownBlock) (.slice Ao17 t397.length co17) t397 ((rd_T52 l0 x10_1).f0) t400 w _ ?side1 ?side2 A9.out).mono ?_);(case side1=>exact zk2 HB GE396.out);(case side2=>exact Kd.R_tight rfl HO399.out);rintro e w18 ⟨v401,rfl,ho0,hb,hkp⟩;refine⟨_,rfl,?_⟩;have HO402:=Aside0.mk (Kd.R_mono (ok':=fun k_=>True) ho0 (fun k_ hk_=>trivial));replace BK396:=Aside0.mk (blk_kept (zq3 BK396) hkp (fun hs_=>(fun e_=>(Kd.R_ne HO399.out BK396.out (by decide)) e_) hs_));replace HB:=Aside0.mk (hb);clear HO399;(try clear hb);(try clear hkp);(try clear ho0)))
      go_roundg k1
      case measure=>have:=HK1.out;omega
      case rel=>exact⟨(t400),(wrap64 (x10_1+1)),zrs,H',⟨by have:=HK1.out;omega⟩,⟨zdr HO402⟩,⟨by exact zk2 HB GE396.out⟩⟩
     ·rw [if_neg c8] at H
      have c8b0:(((rd_T52 l0 x10_1).f1)==a1)=false:=beq_eq_false_iff_ne.mpr c8
      have c8b1:(((rd_T52 l0 x10_1).f1) !=a1)=true:=bne_iff_ne.mpr c8
      have H':=Aside0.mk H
      clear H
      have p395: 0≤ (x10_1:Int):=of_decide_eq_true zq1
      have q395:x10_1< (l0.length:Int):=of_decide_eq_true zq1
      obtain⟨ad395,e395,hx395_0,hx395_1,hx395_2⟩:=at_T52 HR0.out x10_1 p395 q395
      cases e395
      replace hx395_0:=zhx HB hx395_0
      replace hx395_1:=zhx HB hx395_1
      replace hx395_2:=zhx HB hx395_2
      replace p395:=eq_true p395
      replace q395:=eq_true q395
      go_wp2_with (first|((with_reducible refine gate_dst (N:=7) rfl ?_);refine box_event ?hg (N:=7) ?hd (cs:= #[.int .i64 0,.int .i64 0,.int .i64 0]) (t:=52) ?hr ?_;(case hd=>rfl);(case hg=>rfl);(case hr=>first|(go_simp;done)|(go_simp;rfl));intro gb396 hg w19 hbox hb;have BK396:=Aside0.mk (hbox);have GW396:=Aside0.mk ((by rw [hg];exact(below_size (by exact zk1 HB)):w.heap.size≤gb396));have GE396:=GW396;replace HO_5:=Aside0.mk (Kd.R_below (zq4 HO_5) hb);replace HB:=Aside0.mk (below_step (by exact zk1 HB) hb);clear hb hbox hg;have hcz20_0:=zcz BK396 0 (.int .i64 0);have hcz20_1:=zcz BK396 1 (.int .i64 0);have hcz20_2:=zcz BK396 2 (.int .i64 0);have hfz20_0:=blk_frozen BK396.out 0;have hfz20_1:=blk_frozen BK396.out 1;have hfz20_2:=blk_frozen BK396.out 2)|((with_reducible refine gate_store (t:=52) (p:=7) rfl ?_);refine store_event (t:=52) (p:=7) (v:=?vo_w21) (w1:=(((w19.setCell ⟨gb396,0,none⟩ (.int .i64 ((rd_T52 l0 x10_1).f0))).setCell ⟨gb396,1,none⟩ (.int .i64 ((rd_T52 l0 x10_1).f1))).setCell ⟨gb396,2,none⟩ (.int .i64 ((rd_T52 l0 x10_1).f2)))) ?hg ?ho ?hn ?hr ?_;(case ho=>rfl);(case hg=>rfl);(case hn=>rfl);(case hr=>first|(go_simp;done)|(go_simp;rfl));intro w21 hw;have n0_:Aside0 (Kd.R (Kd.int .i64) 3 w21 w.heap.size (fun _=>True) u5 x5_1):=⟨(by rw [hw];exact(by(with_reducible repeat(first|apply Kd.R_alloc|apply Kd.R_drewN|apply Kd.R_drew));exact Kd.R_mono (Kd.R_far (p:=⟨gb396,2,none⟩) (Kd.R_far (p:=⟨gb396,1,none⟩) (Kd.R_far (p:=⟨gb396,0,none⟩) (Kd.R_types HO_5.out BK396.out (by decide)) (fun _ hk=>hk.2) (.int .i64 ((rd_T52 l0 x10_1).f0))) (fun _ hk=>hk.2) (.int .i64 ((rd_T52 l0 x10_1).f1))) (fun _ hk=>hk.2) (.int .i64 ((rd_T52 l0 x10_1).f2))) (fun _ hk=>trivial)))⟩;have n1_:Aside0 (w21.heap[gb396]?=some (.cells #[.int .i64 ((rd_T52 l0 x10_1).f0),.int .i64 ((rd_T52 l0 x10_1).f1),.int .i64 ((rd_T52 l0 x10_1).f2)] 52 (0,0))):=⟨(by rw [hw];exact(by(with_reducible repeat(first|refine blk_drewN ?_ _|refine blk_drew ?_ |refine blk_alloc ?_ _));refine blk_put (cs:= #[.int .i64 ((rd_T52 l0 x10_1).f0),.int .i64 ((rd_T52 l0 x10_1).f1),.int .i64 0]) ?_ 2 _ rfl;(with_reducible repeat(first|refine blk_drewN ?_ _|refine blk_drew ?_ |refine blk_alloc ?_ _));refine blk_put (cs:= #[.int .i64 ((rd_T52 l0 x10_1).f0),.int .i64 0,.int .i64 0]) ?_ 1 _ rfl;(with_reducible repeat(first|refine blk_drewN ?_ _|refine blk_drew ?_ |refine blk_alloc ?_ _));refine blk_put (cs:= #[.int .i64 0,.int .i64 0,.int .i64 0]) ?_ 0 _ rfl;(with_reducible repeat(first|refine blk_drewN ?_ _|refine blk_drew ?_ |refine blk_alloc ?_ _));exact BK396.out))⟩;have n2_:Aside0 (Below w.heap.size w w21):=⟨(by rw [hw];exact(by exact zk2 HB GE396.out))⟩;clear hw;clear HO_5;clear BK396;clear HB;have HO_5:=n0_;have BK396:=n1_;have HB:=n2_;clear n0_ n1_ n2_;have hcz22_0:=zcz BK396 0 (.int .i64 ((rd_T52 l0 x10_1).f0));have hcz22_1:=zcz BK396 1 (.int .i64 ((rd_T52 l0 x10_1).f1));have hcz22_2:=zcz BK396 2 (.int .i64 ((rd_T52 l0 x10_1).f2));have hfz22_0:=blk_frozen BK396.out 0;have hfz22_1:=blk_frozen BK396.out 1;have hfz22_2:=blk_frozen BK396.out 2;obtain⟨Ao23,co23,eo23⟩:=Kd.R_slice HO_5.out;subst eo23)|((with_reducible refine gate_callee (f:=70) rfl ?_);refine goesL_ (some 21) rfl rfl Try.func70 (by kernel_rfl) rfl #[.slice Ao23 x5_1.length co23,.int .i64 ((rd_T52 l0 x10_1).f1)] rfl zq2 ?_;(with_reducible refine(spec_l1Put.calls k1 (fun k_=>some k_= (.slice Ao23 x5_1.length co23:Value).ownBlock) (.slice Ao23 x5_1.length co23) x5_1 ((rd_T52 l0 x10_1).f1) t397 w _ ?side1 ?side2 A7.out).mono ?_);(case side1=>exact zk2 HB GE396.out);(case side2=>exact Kd.R_tight rfl HO_5.out);rintro e w24 ⟨v398,rfl,ho0,hb,hkp⟩;refine⟨_,rfl,?_⟩;have HO399:=Aside0.mk (Kd.R_mono (ok':=fun k_=>True) ho0 (fun k_ hk_=>trivial));replace BK396:=Aside0.mk (blk_kept (zq3 BK396) hkp (fun hs_=>(fun e_=>(Kd.R_ne HO_5.out BK396.out (by decide)) e_) hs_));replace HB:=Aside0.mk (hb);clear HO_5;(try clear hb);(try clear hkp);(try clear ho0);have hcz25_0:=zcz BK396 0 (.int .i64 ((rd_T52 l0 x10_1).f0));have hcz25_1:=zcz BK396 1 (.int .i64 ((rd_T52 l0 x10_1).f1));have hcz25_2:=zcz BK396 2 (.int .i64 ((rd_T52 l0 x10_1).f2));have hfz25_0:=blk_frozen BK396.out 0;have hfz25_1:=blk_frozen BK396.out 1;have hfz25_2:=blk_frozen BK396.out 2))
      go_roundg k1
      case measure=>have:=HK1.out;omega
      case rel=>exact⟨(t397),(wrap64 (x10_1+1)),zrs,H',⟨by have:=HK1.out;omega⟩,⟨zdr HO399⟩,⟨by exact zk2 HB GE396.out⟩⟩
    ·rw [if_neg c6] at H
     have c6b0:(((rd_T52 l0 x10_1).f0)==a1)=false:=beq_eq_false_iff_ne.mpr c6
     have c6b1:(((rd_T52 l0 x10_1).f0) !=a1)=true:=bne_iff_ne.mpr c6
     by_cases c26:((rd_T52 l0 x10_1).f1)=a1
     ·rw [if_pos c26] at H
      have c26b0:(((rd_T52 l0 x10_1).f1)==a1)=true:=beq_iff_eq.mpr c26
      have c26b1:(((rd_T52 l0 x10_1).f1) !=a1)=false:=bne_eq_false_iff_eq.mpr c26
      clear c26
      replace H:=Option.bind_eq_some_iff.mp H
      obtain⟨t403,A270,H⟩:=H
      replace H:(spec_l8Near.l0 k1 a1 t403 l0 (l0.length:Int) (wrap64 (x10_1+1)))=some r:=H
      have A27:=Aside0.mk A270
      clear A270
      have H':=Aside0.mk H
      clear H
      have p395: 0≤ (x10_1:Int):=of_decide_eq_true zq1
      have q395:x10_1< (l0.length:Int):=of_decide_eq_true zq1
      obtain⟨ad395,e395,hx395_0,hx395_1,hx395_2⟩:=at_T52 HR0.out x10_1 p395 q395
      cases e395
      replace hx395_0:=zhx HB hx395_0
      replace hx395_1:=zhx HB hx395_1
      replace hx395_2:=zhx HB hx395_2
      replace p395:=eq_true p395
      replace q395:=eq_true q395
      go_wp2_with (first|((with_reducible refine gate_dst (N:=7) rfl ?_);refine box_event ?hg (N:=7) ?hd (cs:= #[.int .i64 0,.int .i64 0,.int .i64 0]) (t:=52) ?hr ?_;(case hd=>rfl);(case hg=>rfl);(case hr=>first|(go_simp;done)|(go_simp;rfl));intro gb396 hg w28 hbox hb;have BK396:=Aside0.mk (hbox);have GW396:=Aside0.mk ((by rw [hg];exact(below_size (by exact zk1 HB)):w.heap.size≤gb396));have GE396:=GW396;replace HO_5:=Aside0.mk (Kd.R_below (zq4 HO_5) hb);replace HB:=Aside0.mk (below_step (by exact zk1 HB) hb);clear hb hbox hg;have hcz29_0:=zcz BK396 0 (.int .i64 0);have hcz29_1:=zcz BK396 1 (.int .i64 0);have hcz29_2:=zcz BK396 2 (.int .i64 0);have hfz29_0:=blk_frozen BK396.out 0;have hfz29_1:=blk_frozen BK396.out 1;have hfz29_2:=blk_frozen BK396.out 2)|((with_reducible refine gate_store (t:=52) (p:=7) rfl ?_);refine store_event (t:=52) (p:=7) (v:=?vo_w30) (w1:=(((w28.setCell ⟨gb396,0,none⟩ (.int .i64 ((rd_T52 l0 x10_1).f0))).setCell ⟨gb396,1,none⟩ (.int .i64 ((rd_T52 l0 x10_1).f1))).setCell ⟨gb396,2,none⟩ (.int .i64 ((rd_T52 l0 x10_1).f2)))) ?hg ?ho ?hn ?hr ?_;(case ho=>rfl);(case hg=>rfl);(case hn=>rfl);(case hr=>first|(go_simp;done)|(go_simp;rfl));intro w30 hw;have n0_:Aside0 (Kd.R (Kd.int .i64) 3 w30 w.heap.size (fun _=>True) u5 x5_1):=⟨(by rw [hw];exact(by(with_reducible repeat(first|apply Kd.R_alloc|apply Kd.R_drewN|apply Kd.R_drew));exact Kd.R_mono (Kd.R_far (p:=⟨gb396,2,none⟩) (Kd.R_far (p:=⟨gb396,1,none⟩) (Kd.R_far (p:=⟨gb396,0,none⟩) (Kd.R_types HO_5.out BK396.out (by decide)) (fun _ hk=>hk.2) (.int .i64 ((rd_T52 l0 x10_1).f0))) (fun _ hk=>hk.2) (.int .i64 ((rd_T52 l0 x10_1).f1))) (fun _ hk=>hk.2) (.int .i64 ((rd_T52 l0 x10_1).f2))) (fun _ hk=>trivial)))⟩;have n1_:Aside0 (w30.heap[gb396]?=some (.cells #[.int .i64 ((rd_T52 l0 x10_1).f0),.int .i64 ((rd_T52 l0 x10_1).f1),.int .i64 ((rd_T52 l0 x10_1).f2)] 52 (0,0))):=⟨(by rw [hw];exact(by(with_reducible repeat(first|refine blk_drewN ?_ _|refine blk_drew ?_ |refine blk_alloc ?_ _));refine blk_put (cs:= #[.int .i64 ((rd_T52 l0 x10_1).f0),.int .i64 ((rd_T52 l0 x10_1).f1),.int .i64 0]) ?_ 2 _ rfl;(with_reducible repeat(first|refine blk_drewN ?_ _|refine blk_drew ?_ |refine blk_alloc ?_ _));refine blk_put (cs:= #[.int .i64 ((rd_T52 l0 x10_1).f0),.int .i64 0,.int .i64 0]) ?_ 1 _ rfl;(with_reducible repeat(first|refine blk_drewN ?_ _|refine blk_drew ?_ |refine blk_alloc ?_ _));refine blk_put (cs:= #[.int .i64 0,.int .i64 0,.int .i64 0]) ?_ 0 _ rfl;(with_reducible repeat(first|refine blk_drewN ?_ _|refine blk_drew ?_ |refine blk_alloc ?_ _));exact BK396.out))⟩;have n2_:Aside0 (Below w.heap.size w w30):=⟨(by rw [hw];exact(by exact zk2 HB GE396.out))⟩;clear hw;clear HO_5;clear BK396;clear HB;have HO_5:=n0_;have BK396:=n1_;have HB:=n2_;clear n0_ n1_ n2_;have hcz31_0:=zcz BK396 0 (.int .i64 ((rd_T52 l0 x10_1).f0));have hcz31_1:=zcz BK396 1 (.int .i64 ((rd_T52 l0 x10_1).f1));have hcz31_2:=zcz BK396 2 (.int .i64 ((rd_T52 l0 x10_1).f2));have hfz31_0:=blk_frozen BK396.out 0;have hfz31_1:=blk_frozen BK396.out 1;have hfz31_2:=blk_frozen BK396.out 2;obtain⟨Ao32,co32,eo32⟩:=Kd.R_slice HO_5.out;subst eo32)|((with_reducible refine gate_callee (f:=70) rfl ?_);refine goesL_ (some 29) rfl rfl Try.func70 (by kernel_rfl) rfl #[.slice Ao32 x5_1.length co32,.int .i64 ((rd_T52 l0 x10_1).f0)] rfl zq2 ?_;(with_reducible refine(spec_l1Put.calls k1 (fun k_=>some k_= (.slice Ao32 x5_1.length co32:Value).ownBlock) (.slice Ao32 x5_1.length co32) x5_1 ((rd_T52 l0 x10_1).f0) t403 w _ ?side1 ?side2 A27.out).mono ?_);(case side1=>exact zk2 HB GE396.out);(case side2=>exact Kd.R_tight rfl HO_5.out);rintro e w33 ⟨v404,rfl,ho0,hb,hkp⟩;refine⟨_,rfl,?_⟩;have HO405:=Aside0.mk (Kd.R_mono (ok':=fun k_=>True) ho0 (fun k_ hk_=>trivial));replace BK396:=Aside0.mk (blk_kept (zq3 BK396) hkp (fun hs_=>(fun e_=>(Kd.R_ne HO_5.out BK396.out (by decide)) e_) hs_));replace HB:=Aside0.mk (hb);clear HO_5;(try clear hb);(try clear hkp);(try clear ho0)))
      go_roundg k1
      case measure=>have:=HK1.out;omega
      case rel=>exact⟨(t403),(wrap64 (x10_1+1)),zrs,H',⟨by have:=HK1.out;omega⟩,⟨zdr HO405⟩,⟨by exact zk2 HB GE396.out⟩⟩
     ·rw [if_neg c26] at H
      have c26b0:(((rd_T52 l0 x10_1).f1)==a1)=false:=beq_eq_false_iff_ne.mpr c26
      have c26b1:(((rd_T52 l0 x10_1).f1) !=a1)=true:=bne_iff_ne.mpr c26
      have H':=Aside0.mk H
      clear H
      have p395: 0≤ (x10_1:Int):=of_decide_eq_true zq1
      have q395:x10_1< (l0.length:Int):=of_decide_eq_true zq1
      obtain⟨ad395,e395,hx395_0,hx395_1,hx395_2⟩:=at_T52 HR0.out x10_1 p395 q395
      cases e395
      replace hx395_0:=zhx HB hx395_0
      replace hx395_1:=zhx HB hx395_1
      replace hx395_2:=zhx HB hx395_2
      replace p395:=eq_true p395
      replace q395:=eq_true q395
      go_wp2_with (first|((with_reducible refine gate_dst (N:=7) rfl ?_);refine box_event ?hg (N:=7) ?hd (cs:= #[.int .i64 0,.int .i64 0,.int .i64 0]) (t:=52) ?hr ?_;(case hd=>rfl);(case hg=>rfl);(case hr=>first|(go_simp;done)|(go_simp;rfl));intro gb396 hg w34 hbox hb;have BK396:=Aside0.mk (hbox);have GW396:=Aside0.mk ((by rw [hg];exact(below_size (by exact zk1 HB)):w.heap.size≤gb396));have GE396:=GW396;replace HO_5:=Aside0.mk (Kd.R_below (zq4 HO_5) hb);replace HB:=Aside0.mk (below_step (by exact zk1 HB) hb);clear hb hbox hg;have hcz35_0:=zcz BK396 0 (.int .i64 0);have hcz35_1:=zcz BK396 1 (.int .i64 0);have hcz35_2:=zcz BK396 2 (.int .i64 0);have hfz35_0:=blk_frozen BK396.out 0;have hfz35_1:=blk_frozen BK396.out 1;have hfz35_2:=blk_frozen BK396.out 2))
      go_roundg k1
      case measure=>have:=HK1.out;omega
      case rel=>exact⟨(x5_1),(wrap64 (x10_1+1)),zrs,H',⟨by have:=HK1.out;omega⟩,⟨by(with_reducible repeat(first|apply Kd.R_alloc|apply Kd.R_drewN|apply Kd.R_drew));exact Kd.R_mono (Kd.R_far (p:=⟨gb396,2,none⟩) (Kd.R_far (p:=⟨gb396,1,none⟩) (Kd.R_far (p:=⟨gb396,0,none⟩) (Kd.R_types HO_5.out BK396.out (by decide)) (fun _ hk=>hk.2) (.int .i64 ((rd_T52 l0 x10_1).f0))) (fun _ hk=>hk.2) (.int .i64 ((rd_T52 l0 x10_1).f1))) (fun _ hk=>hk.2) (.int .i64 ((rd_T52 l0 x10_1).f2))) (fun _ hk=>trivial)⟩,⟨by exact zk2 HB GE396.out⟩⟩
   ·rw [if_neg c3] at H
    have c3b0:decide (x10_1< (l0.length:Int))=false:=decide_eq_false c3
    clear c3
    obtain rfl:=Option.some.inj H
    go_wp2
    go_ret
    exact⟨_,zer,zdr HO_5,by exact zk1 HB⟩
end Go.Proofs.Ytpbnpepikkocmaa.P
