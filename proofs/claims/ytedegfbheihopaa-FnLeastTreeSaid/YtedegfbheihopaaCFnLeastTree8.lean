/- Functions, walks and plain lemmas that the law FnLeastTree reaches, part 8. -/
import Derived.Test.YtedegfbheihopaaCFnLeastTree7
import Derived.Below
import Derived.Deep.Draws
import Derived.Deep.AppendLies
import Derived.Maps.AppendAt
import Derived.OwnWalk
import Derived.Laws.BytesArg
import Derived.Laws.MakeOwn
import Derived.Laws.OwnMore
import Derived.Deep.OwnRows
import Derived.Tactics
import Derived.Lib.ConvBytes
import Derived.Laws.Slices
import Derived.WalkKit
import Derived.KernelRfl
import Derived.RowKit3
import Derived.Deep.LoopGhost
import Derived.Deep.QuietTactic
import Derived.BigQuiet
import Derived.WideLaws
import Derived.Deep.DeepCutAuto
import Derived.Deep.CutBlock
import Derived.Deep.RegionHeld3
import Derived.Laws.Rows
import Derived.Lib.AppendStr
import Derived.ArgAppend
import Derived.Laws.IdiomCopy
import Derived.OrdersHeld
import Derived.Laws.BitsLemmas
import Derived.RowKit
import Derived.WalkSpells
import Derived.Lib.SliceRun
import Derived.Shelf.Abstract
import Derived.Maps.OwnSet
import Derived.Maps.OwnOps
import Derived.ProofKit
import Derived.OpenShut
import Derived.ShutString
import Derived.ChangeOld
import Derived.SizedLaws
namespace Go.Proofs.Ytedegfbheihopaa.P
open Go.RowKit Go.Proofs.YtedegfbheihopaaW.PrintWords Go.Proofs.YtedegfbheihopaaW.PrintLast Go.Proofs.YtedegfbheihopaaW.PrintMore
attribute [local go_sem] max2_int min2_int max_two min_two max_three min_three max_four min_four   -- for this text's walks alone
set_option linter.unusedVariables false
set_option linter.unusedSimpArgs false
mutual
def impl_groups.l0:Nat→List (List Int)→List Int→Int→Int→Option (List Int)
 | 0,_,_,_,_=>none
 |k+1,x1,x5,x14,x15=>if x15<x14 then(if 0≤x15 then(if x15< (x5.length:Int) then(impl_groups.l0 k x1 (x5.set (x15:Int).toNat x15) x14 (wrap64 (x15+1))) else(none)) else(none)) else(impl_groups.l1 k x1 x5 true)
def impl_groups.l1:Nat→List (List Int)→List Int→Bool→Option (List Int)
 | 0,_,_,_=>none
 |k+1,x1,x5,x7=>if x7=true then(impl_groups.l2 k x1 x5 false x1 (x1.length:Int) 0) else(some x5)
def impl_groups.l2:Nat→List (List Int)→List Int→Bool→List (List Int)→Int→Int→Option (List Int)
 | 0,_,_,_,_,_,_=>none
 |k+1,x1,x5,x7,x24,x25,x26=>if x26<x25 then(if 0≤x26 then(if x26< (x24.length:Int) then(if 0< ((rd_L6 x24 x26).length:Int) then(if 0≤ (rd (rd_L6 x24 x26) 0) then(if (rd (rd_L6 x24 x26) 0)< (x5.length:Int) then(if 1< ((rd_L6 x24 x26).length:Int) then(if 0≤ (rd (rd_L6 x24 x26) 1) then(if (rd (rd_L6 x24 x26) 1)< (x5.length:Int) then(if x7=true then(impl_groups.l2 k x1 ((x5.set ((rd (rd_L6 x24 x26) 0):Int).toNat (mn (rd x5 (rd (rd_L6 x24 x26) 0)) (rd x5 (rd (rd_L6 x24 x26) 1)))).set ((rd (rd_L6 x24 x26) 1):Int).toNat (mn (rd x5 (rd (rd_L6 x24 x26) 0)) (rd x5 (rd (rd_L6 x24 x26) 1)))) true x24 x25 (wrap64 (x26+1))) else(if (rd x5 (rd (rd_L6 x24 x26) 0))= (mn (rd x5 (rd (rd_L6 x24 x26) 0)) (rd x5 (rd (rd_L6 x24 x26) 1))) then(impl_groups.l2 k x1 ((x5.set ((rd (rd_L6 x24 x26) 0):Int).toNat (mn (rd x5 (rd (rd_L6 x24 x26) 0)) (rd x5 (rd (rd_L6 x24 x26) 1)))).set ((rd (rd_L6 x24 x26) 1):Int).toNat (mn (rd x5 (rd (rd_L6 x24 x26) 0)) (rd x5 (rd (rd_L6 x24 x26) 1)))) ((rd x5 (rd (rd_L6 x24 x26) 1)) != (mn (rd x5 (rd (rd_L6 x24 x26) 0)) (rd x5 (rd (rd_L6 x24 x26) 1)))) x24 x25 (wrap64 (x26+1))) else(impl_groups.l2 k x1 ((x5.set ((rd (rd_L6 x24 x26) 0):Int).toNat (mn (rd x5 (rd (rd_L6 x24 x26) 0)) (rd x5 (rd (rd_L6 x24 x26) 1)))).set ((rd (rd_L6 x24 x26) 1):Int).toNat (mn (rd x5 (rd (rd_L6 x24 x26) 0)) (rd x5 (rd (rd_L6 x24 x26) 1)))) true x24 x25 (wrap64 (x26+1))))) else(none)) else(none)) else(none)) else(none)) else(none)) else(none)) else(none)) else(none)) else(impl_groups.l1 k x1 x5 x7)
end
def impl_groups.f (k:Nat) (a0:Int) (l1:List (List Int)):Option (List Int):=if 0≤a0 then(if (a0:Int).toNat≤35184372088832 then((some (List.replicate (a0:Int).toNat 0:List Int)).bind fun y740=>(impl_groups.l0 k l1 y740 (y740.length:Int) 0)) else(none)) else(none)
def impl_groups.T13:Bool × List (List Nat × List Nat):=(true,[([],[]),([],[]),([1],[1]),([2],[2]),([0,3],[0,3]),([4],[4]),([],[]),([],[]),([7],[7]),([8],[8]),([6,9],[6,9]),([10],[10]),([5,11],[5,11]),([12,0,1,2,3,4,5,6,7,8,9,10,11,12],[12])])
def impl_groups.B13:List Nat:= [0,0,2,6,15,31,0,0,128,384,960,1984,4095,8191]
theorem impl_groups.tab13:rtab .any (opsOf Try.f101 13)=impl_groups.T13:=by kernel_rfl
theorem impl_groups.bits13:waitsOk impl_groups.T13.2 impl_groups.B13=true:=by kernel_rfl
def impl_groups.T15:Bool × List (List Nat × List Nat):=(true,[([],[]),([],[]),([1],[1]),([2],[2]),([],[]),([],[]),([5],[5]),([6],[6]),([],[]),([],[]),([0,3,0,1,2,3,7,8],[0,3]),([10,8,0,1,2,3,7,8],[8,10]),([4,7,0,1,2,3,4,5,6,7,8,9,10,11],[4,7]),([12,9,11,0,1,2,3,4,5,6,7,8,9,10,11],[9,12])])
def impl_groups.B15:List Nat:= [0,0,2,6,0,0,32,96,0,0,495,1519,4095,8191]
theorem impl_groups.tab15:rtab .any (opsOf Try.f101 15)=impl_groups.T15:=by kernel_rfl
theorem impl_groups.bits15:waitsOk impl_groups.T15.2 impl_groups.B15=true:=by kernel_rfl
set_option maxHeartbeats 8000000 in
set_option maxRecDepth 100000 in
theorem impl_groups.calls (k:Nat) (a0:Int) (A1:Option Addr) (c1:Nat) (l1:List (List Int)) (r:List Int) (w:World) (hr1:Kd.C (Kd.slice 3 (Kd.int .i64)) w A1 l1.length l1) (hc1:l1.length≤c1) (h:impl_groups.f k a0 l1=some r):
  Calls Try.prog 101 #[.int .i64 a0,.slice A1 l1.length c1] w fun e w'=> ∃ v0_:Value,e= .returned (v0_)∧Kd.R (Kd.int .i64) 3 w' w.heap.size (fun _=>True) v0_ r∧Below w.heap.size w w':=by
 have HR1:=Aside0.mk hr1
 have HC1:=Aside0.mk hc1
 clear hr1 hc1
 have HB:=Aside0.mk (Below.refl w.heap.size w)
 have H:(if 0≤a0 then(if (a0:Int).toNat≤35184372088832 then((some (List.replicate (a0:Int).toNat 0:List Int)).bind fun y740=>(impl_groups.l0 k l1 y740 (y740.length:Int) 0)) else(none)) else(none))=some r:=h
 clear h
 by_cases c3: 0≤a0
 case neg=>exact znn c3 H
 rw [if_pos c3] at H
 have c3b0:=eq_true c3
 have c3b1:decide (0≤a0)=true:=decide_eq_true c3
 clear c3
 by_cases c4:(a0:Int).toNat≤35184372088832
 case neg=>exact znn c4 H
 rw [if_pos c4] at H
 have c4b0:=eq_true c4
 have c4b1:decide ((a0:Int).toNat≤35184372088832)=true:=decide_eq_true c4
 clear c4
 obtain⟨y740,hy740⟩ :∃ y_:List Int,y_= (List.replicate (a0:Int).toNat 0):=⟨_,rfl⟩
 replace H:(impl_groups.l0 k l1 y740 (y740.length:Int) 0)=some r:=zfh hy740 H
 have Ny740:=Aside0.mk hy740
 clear hy740
 have H':=Aside0.mk H
 clear H
 go_enter Try.func101,Try.ntmps101
 go_wp2_with (first|((with_reducible refine gate_dst (N:=12) rfl ?_);refine Kd.R_make (Kd.int .i64) _ 3 rfl (N:=12) rfl 22 _ _ rfl a0 rfl rfl Try.underlying22 (.int .i64 0) 8 info3 rfl (by decide) (by omega) 0 (ok:=fun _=>True) (okp:=fun _=>True) rfl (fun _ hk=>hk) trivial (of_decide_eq_true zq1) (Nat.le_trans (Nat.mul_le_mul_right _ (of_decide_eq_true zq1:a0.toNat≤35184372088832)) (by omega)) (Below.refl _ _) (Nat.le_refl _) ?_;intro v741 w5 ho6 hb hg_ hnew_;clear hg_ hnew_;(first|rw [← Ny740.out] at ho6|(simp only [Int.reduceToNat] at ho6;rw [← Ny740.out] at ho6));have HO742:=Aside0.mk (Kd.R_lower ho6 (below_size (by exact zk1 HB)));replace HB:=Aside0.mk (below_step (by exact zk1 HB) hb);clear hb ho6;obtain⟨Ao7,co7,eo7⟩:=Kd.R_slice HO742.out;subst eo7))
 go_loopg [15] k (fun kq v15 w'=> ∃ (x5_1:List Int) (x15_1:Int),v15= .int .i64 x15_1∧Aside0 (impl_groups.l0 kq l1 x5_1 (y740.length:Int) x15_1=some r)∧Aside0 (kq≤k)∧Aside0 (Kd.R (Kd.int .i64) 3 w' w.heap.size (fun _=>True) (.slice Ao7 y740.length co7) x5_1)∧Aside0 (Below w.heap.size w w'))
 case atStart=>exact⟨(y740),(0),zrs,H',⟨Nat.le_refl _⟩,⟨zdr HO742⟩,⟨by exact zk1 HB⟩⟩
 case round=>
  clear H'
  try clear c1
  try clear p2
  try clear c3
  try clear c3b0
  try clear c3b1
  try clear c4
  try clear c4b0
  try clear c4b1
  obtain⟨x5_1,x15_1,rfl,HA,HK1,HO_5,HB⟩:=hrel
  have hl5_1:=(Kd.R_reads' HO_5.out).1
  rw [hl5_1] at HO_5
  (try simp only [hl5_1])
  cases gk with
  |zero=>exact absurd HA.out (by simp [impl_groups.l0])
  |succ k1=>
   have H:=HA.out
   clear HA
   simp only [impl_groups.l0] at H
   by_cases c8:x15_1< (y740.length:Int)
   ·rw [if_pos c8] at H
    have c8b0:decide (x15_1< (y740.length:Int))=true:=decide_eq_true c8
    (try(have c8b0L:=c8b0;simp only [hl5_1] at c8b0L))
    clear c8
    by_cases c9: 0≤x15_1
    case neg=>exact znn c9 H
    rw [if_pos c9] at H
    have c9b0:decide (0≤x15_1)=true:=decide_eq_true c9
    clear c9
    by_cases c10:x15_1< (x5_1.length:Int)
    case neg=>exact znn c10 H
    rw [if_pos c10] at H
    have c10b0:decide (x15_1< (x5_1.length:Int))=true:=decide_eq_true c10
    (try(have c10b0L:=c10b0;simp only [hl5_1] at c10b0L))
    clear c10
    obtain⟨y743,hy743⟩ :∃ y_:List Int,y_= (x5_1.set (x15_1:Int).toNat x15_1):=⟨_,rfl⟩
    replace H:(impl_groups.l0 k1 l1 y743 (y740.length:Int) (wrap64 (x15_1+1)))=some r:=zfh hy743 H
    have Ny743:=Aside0.mk hy743
    clear hy743
    have H':=Aside0.mk H
    clear H
    have p11: 0≤ (x15_1:Int):=of_decide_eq_true zq1
    have q11:(x15_1:Int)< ((x5_1.length:Int):Int):=of_decide_eq_true zq1
    obtain⟨go11,co11,eo11,gb11,gl11,cl11,HG11⟩:=Kd.R_form HO_5.out (by omega)
    (first|cases eo11|(injection eo11 with ea_ en_ ec_;(first|subst ea_|(injection ea_ with ea_;subst ea_));subst ec_;clear en_))
    have GB11:=Aside0.mk gb11
    have GG11:=Aside0.mk HG11
    clear gb11 gl11 HG11
    obtain⟨hx11_0,hf11_0⟩:=Kd.R_celln 0 HO_5.out (x15_1:Int) p11 q11
    replace p11:=eq_true p11
    replace q11:=eq_true q11
    have HP12:=Kd.R_putg HO_5.out (x15_1:Int) x15_1
    go_wp2_with (first|((with_reducible refine gate_store (t:=3) (p:=21) rfl ?_);refine store_event (t:=3) (p:=21) (v:=?vo_w13) (w1:=(wr.setCell ⟨go11,(x15_1:Int).toNat,none⟩ (.int .i64 x15_1))) ?hg ?ho ?hn ?hr ?_;(case ho=>rfl);(case hg=>rfl);(case hn=>rfl);(case hr=>first|(go_simp;done)|(go_simp;rfl));intro w13 hw;have hg:wr.grownBy w13 (some go11):=(by rw [hw];exact HP12.2);have hp_:Kd.R (Kd.int .i64) 3 w13 w.heap.size (fun _=>True) (.slice (some ⟨go11,0,none⟩) x5_1.length co7) y743:=(by rw [hw,Ny743.out];exact HP12.1);clear HP12;replace HO_5:=Aside0.mk (hp_);replace HB:=Aside0.mk ((by rw [hw];exact below_set (HB.out) GB11.out:Below w.heap.size w w13));clear hg hw hp_))
    (try simp only [← hl5_1])
    go_roundg k1
    case measure=>have:=HK1.out;omega
    case rel=>exact⟨(y743),(wrap64 (x15_1+1)),zrs,H',⟨by have:=HK1.out;omega⟩,⟨by(try simp only [hl5_1]);(with_reducible repeat(first|apply Kd.R_alloc|apply Kd.R_drewN|apply Kd.R_drew));exact HO_5.out⟩,⟨by exact zk1 HB⟩⟩
   ·rw [if_neg c8] at H
    have c8b0:decide (x15_1< (y740.length:Int))=false:=decide_eq_false c8
    (try(have c8b0L:=c8b0;simp only [hl5_1] at c8b0L))
    clear c8
    have H':=Aside0.mk H
    clear H
    go_wp2
    go_loopg [7] k1 (fun kq v7 w'=> ∃ (x5_2:List Int) (x7_2:Bool),v7= .bool x7_2∧Aside0 (impl_groups.l1 kq l1 x5_2 x7_2=some r)∧Aside0 (kq≤k1)∧Aside0 (Kd.R (Kd.int .i64) 3 w' w.heap.size (fun _=>True) (.slice Ao7 x5_1.length co7) x5_2)∧Aside0 (Below w.heap.size w w'))
    case atStart=>exact⟨(x5_1),(true),zrs,H',⟨Nat.le_refl _⟩,⟨by(try simp only [hl5_1]);(with_reducible repeat(first|apply Kd.R_alloc|apply Kd.R_drewN|apply Kd.R_drew));exact HO_5.out⟩,⟨by exact zk1 HB⟩⟩
    case round=>
     clear H'
     try clear c1
     try clear p1
     try clear q1
     try clear hx1
     try clear p2
     try clear c3
     try clear c3b0
     try clear c3b1
     try clear c4
     try clear c4b0
     try clear c4b1
     try clear p6
     try clear c8
     try clear c8b0
     try clear c9
     try clear c9b0
     try clear c10
     try clear c10b0
     try clear p11
     try clear q11
     try clear hx11
     try clear hf11
     try clear hx11_0
     try clear p11
     try clear p2
     try clear q11
     obtain⟨x5_2,x7_2,rfl,HA,HK2,HO_5,HB⟩:=hrel
     have hl5_2:=(Kd.R_reads' HO_5.out).1
     rw [hl5_2] at HO_5
     (try simp only [hl5_2])
     cases gk with
     |zero=>exact absurd HA.out (by simp [impl_groups.l1])
     |succ k2=>
      have H:=HA.out
      clear HA
      simp only [impl_groups.l1] at H
      by_cases c14:x7_2=true
      ·subst c14
       have H1:(impl_groups.l2 k2 l1 x5_2 false l1 (l1.length:Int) 0)=some r:=by rw [if_pos rfl] at H;exact H
       clear H
       have H:=H1
       clear H1
       have H':=Aside0.mk H
       clear H
       go_wp2
       go_loopg [7,26] k2 (fun kq v7 v26 w'=> ∃ (x5_3:List Int) (x7_3:Bool) (x26_3:Int),v7= .bool x7_3∧v26= .int .i64 x26_3∧Aside0 (impl_groups.l2 kq l1 x5_3 x7_3 l1 (l1.length:Int) x26_3=some r)∧Aside0 (kq≤k2)∧Aside0 (Kd.R (Kd.int .i64) 3 w' w.heap.size (fun _=>True) (.slice Ao7 x5_2.length co7) x5_3)∧Aside0 (Below w.heap.size w w'))
       case atStart=>exact⟨(x5_2),(false),(0),zrs,zrs,H',⟨Nat.le_refl _⟩,⟨by(try simp only [hl5_1]);(try simp only [hl5_2]);(with_reducible repeat(first|apply Kd.R_alloc|apply Kd.R_drewN|apply Kd.R_drew));exact HO_5.out⟩,⟨by exact zk1 HB⟩⟩
       case round=>
        clear H'
        try clear c1
        try clear p1
        try clear q1
        try clear hx1
        try clear p2
        try clear c3
        try clear c3b0
        try clear c3b1
        try clear c4
        try clear c4b0
        try clear c4b1
        try clear p6
        try clear c8
        try clear c8b0
        try clear c9
        try clear c9b0
        try clear c10
        try clear c10b0
        try clear p11
        try clear q11
        try clear hx11
        try clear hf11
        try clear c14
        try clear hx11_0
        try clear p1
        try clear p11
        try clear p2
        try clear p6
        try clear q1
        try clear q11
        obtain⟨x5_3,x7_3,x26_3,rfl,rfl,HA,HK3,HO_5,HB⟩:=hrel
        have hl5_3:=(Kd.R_reads' HO_5.out).1
        rw [hl5_3] at HO_5
        (try simp only [hl5_3])
        cases gk with
        |zero=>exact absurd HA.out (by simp [impl_groups.l2])
        |succ k3=>
         have H:=HA.out
         clear HA
         simp only [impl_groups.l2] at H
         by_cases c15:x26_3< (l1.length:Int)
         ·rw [if_pos c15] at H
          have c15b0:decide (x26_3< (l1.length:Int))=true:=decide_eq_true c15
          (try(have c15b0L:=c15b0;simp only [hl5_1] at c15b0L))
          (try(have c15b0L:=c15b0;simp only [hl5_2] at c15b0L))
          (try(have c15b0L:=c15b0;simp only [hl5_3] at c15b0L))
          clear c15
          by_cases c16: 0≤x26_3
          case neg=>exact znn c16 H
          rw [if_pos c16] at H
          have c16b0:decide (0≤x26_3)=true:=decide_eq_true c16
          clear c16
          by_cases c17:x26_3< (l1.length:Int)
          case neg=>exact znn c17 H
          rw [if_pos c17] at H
          have c17b0:decide (x26_3< (l1.length:Int))=true:=decide_eq_true c17
          (try(have c17b0L:=c17b0;simp only [hl5_1] at c17b0L))
          (try(have c17b0L:=c17b0;simp only [hl5_2] at c17b0L))
          (try(have c17b0L:=c17b0;simp only [hl5_3] at c17b0L))
          clear c17
          by_cases c18: 0< ((rd_L6 l1 x26_3).length:Int)
          case neg=>exact znn c18 H
          rw [if_pos c18] at H
          have c18b0:decide (0< ((rd_L6 l1 x26_3).length:Int))=true:=decide_eq_true c18
          (try(have c18b0L:=c18b0;simp only [hl5_1] at c18b0L))
          (try(have c18b0L:=c18b0;simp only [hl5_2] at c18b0L))
          (try(have c18b0L:=c18b0;simp only [hl5_3] at c18b0L))
          have c18b1:decide (0< (rd_L6 l1 x26_3).length)=true:=decide_eq_true (by omega)
          clear c18
          by_cases c19: 0≤ (rd (rd_L6 l1 x26_3) 0)
          case neg=>exact znn c19 H
          rw [if_pos c19] at H
          have c19b0:decide (0≤ (rd (rd_L6 l1 x26_3) 0))=true:=decide_eq_true c19
          clear c19
          by_cases c20:(rd (rd_L6 l1 x26_3) 0)< (x5_3.length:Int)
          case neg=>exact znn c20 H
          rw [if_pos c20] at H
          have c20b0:decide ((rd (rd_L6 l1 x26_3) 0)< (x5_3.length:Int))=true:=decide_eq_true c20
          (try(have c20b0L:=c20b0;simp only [hl5_1] at c20b0L))
          (try(have c20b0L:=c20b0;simp only [hl5_2] at c20b0L))
          (try(have c20b0L:=c20b0;simp only [hl5_3] at c20b0L))
          clear c20
          by_cases c21: 1< ((rd_L6 l1 x26_3).length:Int)
          case neg=>exact znn c21 H
          rw [if_pos c21] at H
          have c21b0:decide (1< ((rd_L6 l1 x26_3).length:Int))=true:=decide_eq_true c21
          (try(have c21b0L:=c21b0;simp only [hl5_1] at c21b0L))
          (try(have c21b0L:=c21b0;simp only [hl5_2] at c21b0L))
          (try(have c21b0L:=c21b0;simp only [hl5_3] at c21b0L))
          have c21b1:decide (1< (rd_L6 l1 x26_3).length)=true:=decide_eq_true (by omega)
          clear c21
          by_cases c22: 0≤ (rd (rd_L6 l1 x26_3) 1)
          case neg=>exact znn c22 H
          rw [if_pos c22] at H
          have c22b0:decide (0≤ (rd (rd_L6 l1 x26_3) 1))=true:=decide_eq_true c22
          clear c22
          by_cases c23:(rd (rd_L6 l1 x26_3) 1)< (x5_3.length:Int)
          case neg=>exact znn c23 H
          rw [if_pos c23] at H
          have c23b0:decide ((rd (rd_L6 l1 x26_3) 1)< (x5_3.length:Int))=true:=decide_eq_true c23
          (try(have c23b0L:=c23b0;simp only [hl5_1] at c23b0L))
          (try(have c23b0L:=c23b0;simp only [hl5_2] at c23b0L))
          (try(have c23b0L:=c23b0;simp only [hl5_3] at c23b0L))
          clear c23
          obtain⟨ji24,hji24⟩ :∃ j_:Int,(mn (rd x5_3 (rd (rd_L6 l1 x26_3) 0)) (rd x5_3 (rd (rd_L6 l1 x26_3) 1)))=j_:=⟨_,rfl⟩
          replace H:(if x7_3=true then(impl_groups.l2 k3 l1 ((x5_3.set ((rd (rd_L6 l1 x26_3) 0):Int).toNat (ji24)).set ((rd (rd_L6 l1 x26_3) 1):Int).toNat (ji24)) true l1 (l1.length:Int) (wrap64 (x26_3+1))) else(if (rd x5_3 (rd (rd_L6 l1 x26_3) 0))= (ji24) then(impl_groups.l2 k3 l1 ((x5_3.set ((rd (rd_L6 l1 x26_3) 0):Int).toNat (ji24)).set ((rd (rd_L6 l1 x26_3) 1):Int).toNat (ji24)) ((rd x5_3 (rd (rd_L6 l1 x26_3) 1)) != (ji24)) l1 (l1.length:Int) (wrap64 (x26_3+1))) else(impl_groups.l2 k3 l1 ((x5_3.set ((rd (rd_L6 l1 x26_3) 0):Int).toNat (ji24)).set ((rd (rd_L6 l1 x26_3) 1):Int).toNat (ji24)) true l1 (l1.length:Int) (wrap64 (x26_3+1)))))=some r:=by first|(rw [hji24] at H;exact H)|(simp only [hji24] at H ⊢;exact H)
          have hji24_:(if (rd x5_3 (rd (rd_L6 l1 x26_3) 1))< (rd x5_3 (rd (rd_L6 l1 x26_3) 0)) then(rd x5_3 (rd (rd_L6 l1 x26_3) 1)) else(rd x5_3 (rd (rd_L6 l1 x26_3) 0)))=ji24:=hji24
          by_cases c25:x7_3=true
          ·subst c25
           have H1:(impl_groups.l2 k3 l1 ((x5_3.set ((rd (rd_L6 l1 x26_3) 0):Int).toNat (ji24)).set ((rd (rd_L6 l1 x26_3) 1):Int).toNat (ji24)) true l1 (l1.length:Int) (wrap64 (x26_3+1)))=some r:=by rw [if_pos rfl] at H;exact H
           clear H
           have H:=H1
           clear H1
           obtain⟨y751,hy751⟩ :∃ y_:List Int,y_= (x5_3.set ((rd (rd_L6 l1 x26_3) 0):Int).toNat (ji24)):=⟨_,rfl⟩
           replace H:(impl_groups.l2 k3 l1 (y751.set ((rd (rd_L6 l1 x26_3) 1):Int).toNat (ji24)) true l1 (l1.length:Int) (wrap64 (x26_3+1)))=some r:=zfh hy751 H
           have Ny751:=Aside0.mk hy751
           clear hy751
           obtain⟨y752,hy752⟩ :∃ y_:List Int,y_= (y751.set ((rd (rd_L6 l1 x26_3) 1):Int).toNat (ji24)):=⟨_,rfl⟩
           replace H:(impl_groups.l2 k3 l1 y752 true l1 (l1.length:Int) (wrap64 (x26_3+1)))=some r:=zfh hy752 H
           have Ny752:=Aside0.mk hy752
           clear hy752
           have H':=Aside0.mk H
           clear H
           have p744: 0≤ (x26_3:Int):=of_decide_eq_true zq1
           have q744:x26_3< (l1.length:Int):=of_decide_eq_true zq1
           obtain⟨ad744,A744_0,c744_0,e744,hx744_0,hl744_0,hi744_0⟩:=at_L6 HR1.out x26_3 p744 q744
           cases e744
           replace hx744_0:=zhx HB hx744_0
           have HR744_0:=Aside0.mk hi744_0
           have HC744_0:=Aside0.mk hl744_0
           clear hi744_0 hl744_0
           replace p744:=eq_true p744
           replace q744:=eq_true q744
           try go_wp2
           replace HO_5:=Aside0.mk (Kd.R_drew HO_5.out)
           replace HB:=Aside0.mk (below_drew1 HB.out)
           have p745: 0≤ (0:Int):=(by omega)
           have q745: 0< ((rd_L6 l1 x26_3).length:Int):=of_decide_eq_true zq1
           obtain⟨ad745,e745,hx745_0⟩:=Kd.at_int HR744_0.out 0 p745 q745
           have hw745_0:=hx745_0
           (try rw [show ((0:Int)).toNat=0 from rfl] at hw745_0)
           (try rw [show 0 * 1=0 from rfl] at hw745_0)
           (try rw [Addr.add_zero'] at hw745_0)
           cases e745
           have qi745:(0< (rd_L6 l1 x26_3).length)=True:=eq_true (by omega)
           (try rw [show ((0:Int)).toNat=0 from rfl] at hx745_0)
           (try rw [Addr.add_zero'] at hx745_0)
           replace hx745_0:=zhx HB hx745_0
           replace p745:=eq_true p745
           replace q745:=eq_true q745
           have p746: 0≤ ((rd (rd_L6 l1 x26_3) 0):Int):=of_decide_eq_true zq1
           have q746:(rd (rd_L6 l1 x26_3) 0)< (x5_3.length:Int):=of_decide_eq_true zq1
           obtain⟨ad746,e746,hx746_0⟩:=Kd.at_int (Kd.R_reads' HO_5.out).2.2 (rd (rd_L6 l1 x26_3) 0) p746 q746
           cases e746
           replace p746:=eq_true p746
           replace q746:=eq_true q746
           have p747: 0≤ (1:Int):=(by omega)
           have q747: 1< ((rd_L6 l1 x26_3).length:Int):=of_decide_eq_true zq1
           obtain⟨ad747,e747,hx747_0⟩:=Kd.at_int HR744_0.out 1 p747 q747
           have hw747_0:=hx747_0
           (try rw [show ((1:Int)).toNat=1 from rfl] at hw747_0)
           (try rw [show 1 * 1=1 from rfl] at hw747_0)
           (try simp only [Nat.reduceMul,Nat.reduceEqDiff,Go.Addr.add, ↓reduceIte] at hw747_0)
           obtain rfl:ad745=ad747:=(by injection e747)
           (try simp only [show (1:Int).toNat=1 from rfl,Nat.reduceMul,Nat.reduceEqDiff,Go.Addr.add, ↓reduceIte] at hx747_0)
           have qi747:(1< (rd_L6 l1 x26_3).length)=True:=eq_true (by omega)
           (try rw [show ((1:Int)).toNat=1 from rfl] at hx747_0)
           replace hx747_0:=zhx HB hx747_0
           replace p747:=eq_true p747
           replace q747:=eq_true q747
           have p748: 0≤ ((rd (rd_L6 l1 x26_3) 1):Int):=of_decide_eq_true zq1
           have q748:(rd (rd_L6 l1 x26_3) 1)< (x5_3.length:Int):=of_decide_eq_true zq1
           obtain⟨ad748,e748,hx748_0⟩:=Kd.at_int (Kd.R_reads' HO_5.out).2.2 (rd (rd_L6 l1 x26_3) 1) p748 q748
           obtain rfl:ad746=ad748:=(by injection e748)
           replace p748:=eq_true p748
           replace q748:=eq_true q748
           refine start_ (n:=14) (S:=fun w'=>w'.cell? ad745=some (.int .i64 (rd (rd_L6 l1 x26_3) 0))∧w'.cell? (ad746.add ((rd (rd_L6 l1 x26_3) 0)).toNat)=some (.int .i64 (rd x5_3 (rd (rd_L6 l1 x26_3) 0)))∧w'.cell? ⟨ad745.block,ad745.off+1,none⟩=some (.int .i64 (rd (rd_L6 l1 x26_3) 1))∧w'.cell? (ad746.add ((rd (rd_L6 l1 x26_3) 1)).toNat)=some (.int .i64 (rd x5_3 (rd (rd_L6 l1 x26_3) 1)))) (ds:= []) (mb' 14 0) (by kernel_rfl) rfl rfl ⟨((zhx HB hw745_0).trans rfl),hx746_0,((zhx HB hw747_0).trans rfl),hx748_0⟩ (fun hHeld=>?_);refine with_tabW impl_groups.tab13 impl_groups.bits13 (fun HT_ HW_=>?_)
           generalize wr.drew=w28 at HO_5 HB hx745_0 hx746_0 hx747_0 hx748_0 hHeld ⊢
           refine zp1 HT_ 0 30 (mb' 14 1) rfl ?_
           refine zp1 HT_ 1 31 (mb' 14 3) rfl ?_
           refine zp1 HT_ 2 32 (mb' 14 7) rfl ?_
           refine zp1 HT_ 6 36 (mb' 14 71) rfl ?_
           refine zp1 HT_ 7 37 (mb' 14 199) rfl ?_
           refine zp1 HT_ 8 38 (mb' 14 455) rfl ?_
           refine zt1 HT_ HW_ (v:=?_) (a':=?_) 3 33 (mb' 14 463) rfl ?_ hHeld ?_ ?_;rotate_left;(rintro w' ⟨s0,s1,s2,s3⟩;go_simp;with_reducible rfl);rotate_left;exact zpa
           refine zp1 HT_ 4 34 (mb' 14 479) rfl ?_
           refine zt1 HT_ HW_ (v:=?_) (a':=?_) 5 35 (mb' 14 511) rfl ?_ hHeld ?_ ?_;rotate_left;(rintro w' ⟨s0,s1,s2,s3⟩;go_simp;with_reducible rfl);rotate_left;exact zpa
           refine zt1 HT_ HW_ (v:=?_) (a':=?_) 9 39 (mb' 14 1023) rfl ?_ hHeld ?_ ?_;rotate_left;(rintro w' ⟨s0,s1,s2,s3⟩;go_simp;with_reducible rfl);rotate_left;exact zpa
           refine zp1 HT_ 10 40 (mb' 14 2047) rfl ?_
           refine zt1 HT_ HW_ (v:=?_) (a':=?_) 11 41 (mb' 14 4095) rfl ?_ hHeld ?_ ?_;rotate_left;(rintro w' ⟨s0,s1,s2,s3⟩;go_simp;with_reducible rfl);rotate_left;exact zpa
           refine zp1 HT_ 12 42 (mb' 14 8191) rfl ?_
           refine zp1 HT_ 13 10 (mb' 14 16383) rfl ?_
           refine done_ (done_of HT_.out (by kernel_rfl)) ?_
           try go_wp2
           replace HO_5:=Aside0.mk (Kd.R_drew HO_5.out)
           replace HB:=Aside0.mk (below_drew1 HB.out)
           have p749: 0≤ (0:Int):=(by omega)
           have q749: 0< ((rd_L6 l1 x26_3).length:Int):=of_decide_eq_true zq1
           obtain⟨ad749,e749,hx749_0⟩:=Kd.at_int HR744_0.out 0 p749 q749
           have hw749_0:=hx749_0
           (try rw [show ((0:Int)).toNat=0 from rfl] at hw749_0)
           (try rw [show 0 * 1=0 from rfl] at hw749_0)
           (try rw [Addr.add_zero'] at hw749_0)
           obtain rfl:ad745=ad749:=(by injection e749)
           have qi749:(0< (rd_L6 l1 x26_3).length)=True:=eq_true (by omega)
           (try rw [show ((0:Int)).toNat=0 from rfl] at hx749_0)
           (try rw [Addr.add_zero'] at hx749_0)
           replace hx749_0:=zhx HB hx749_0
           replace p749:=eq_true p749
           replace q749:=eq_true q749
           have p750: 0≤ (1:Int):=(by omega)
           have q750: 1< ((rd_L6 l1 x26_3).length:Int):=of_decide_eq_true zq1
           obtain⟨ad750,e750,hx750_0⟩:=Kd.at_int HR744_0.out 1 p750 q750
           have hw750_0:=hx750_0
           (try rw [show ((1:Int)).toNat=1 from rfl] at hw750_0)
           (try rw [show 1 * 1=1 from rfl] at hw750_0)
           (try simp only [Nat.reduceMul,Nat.reduceEqDiff,Go.Addr.add, ↓reduceIte] at hw750_0)
           obtain rfl:ad745=ad750:=(by injection e750)
           (try simp only [show (1:Int).toNat=1 from rfl,Nat.reduceMul,Nat.reduceEqDiff,Go.Addr.add, ↓reduceIte] at hx750_0)
           have qi750:(1< (rd_L6 l1 x26_3).length)=True:=eq_true (by omega)
           (try rw [show ((1:Int)).toNat=1 from rfl] at hx750_0)
           replace hx750_0:=zhx HB hx750_0
           replace p750:=eq_true p750
           replace q750:=eq_true q750
           have p26: 0≤ ((rd (rd_L6 l1 x26_3) 0):Int):=of_decide_eq_true zq1
           have q26:((rd (rd_L6 l1 x26_3) 0):Int)< ((x5_3.length:Int):Int):=of_decide_eq_true zq1
           obtain⟨go26,co26,eo26,gb26,gl26,cl26,HG26⟩:=Kd.R_form HO_5.out (by omega)
           (first|cases eo26|(injection eo26 with ea_ en_ ec_;(first|subst ea_|(injection ea_ with ea_;subst ea_));subst ec_;clear en_))
           have GB26:=Aside0.mk gb26
           have GG26:=Aside0.mk HG26
           clear gb26 gl26 HG26
           (first|simp only [add_plain] at hx746_0|skip)
           (first|simp only [add_plain] at hx748_0|skip)
           obtain⟨hx26_0,hf26_0⟩:=Kd.R_celln 0 HO_5.out ((rd (rd_L6 l1 x26_3) 0):Int) p26 q26
           replace p26:=eq_true p26
           replace q26:=eq_true q26
           have HP30:=Kd.R_putn HO_5.out ((rd (rd_L6 l1 x26_3) 0):Int) ji24
           rw [← Ny751.out] at HP30
           have HQ30:=Aside0.mk HP30
           clear HP30
           have p27: 0≤ ((rd (rd_L6 l1 x26_3) 1):Int):=of_decide_eq_true zq1
           have q27:((rd (rd_L6 l1 x26_3) 1):Int)< ((x5_3.length:Int):Int):=of_decide_eq_true zq1
           obtain⟨hx27_0,hf27_0⟩:=Kd.R_celln 0 HQ30.out ((rd (rd_L6 l1 x26_3) 1):Int) p27 q27
           replace p27:=eq_true p27
           replace q27:=eq_true q27
           have HP31:=Kd.R_putn HQ30.out ((rd (rd_L6 l1 x26_3) 1):Int) ji24
           rw [← Ny752.out] at HP31
           have HQ31:=Aside0.mk HP31
           clear HP31
           refine start_ (n:=14) (S:=fun w'=>w'.cell? ad745=some (.int .i64 (rd (rd_L6 l1 x26_3) 0))∧w'.cell? ⟨ad745.block,ad745.off+1,none⟩=some (.int .i64 (rd (rd_L6 l1 x26_3) 1))) (ds:= [11,13]) (mb' 14 0) (by kernel_rfl) rfl rfl ⟨((zhx HB hw749_0).trans rfl),((zhx HB hw750_0).trans rfl)⟩ (fun hHeld=>?_);refine with_tabW impl_groups.tab15 impl_groups.bits15 (fun HT_ HW_=>?_)
           generalize w28.drew=w29 at HO_5 HB GG26 HQ30 HQ31 hf26_0 hf27_0 hx26_0 hx27_0 hx746_0 hx748_0 hx749_0 hx750_0 hHeld ⊢
           refine zp1 HT_ 0 64 (mb' 14 1) rfl ?_
           refine zp1 HT_ 1 65 (mb' 14 3) rfl ?_
           refine zp1 HT_ 2 66 (mb' 14 7) rfl ?_
           refine zp1 HT_ 4 68 (mb' 14 23) rfl ?_
           refine zp1 HT_ 5 69 (mb' 14 55) rfl ?_
           refine zp1 HT_ 6 70 (mb' 14 119) rfl ?_
           refine zp1 HT_ 8 72 (mb' 14 375) rfl ?_
           refine zp1 HT_ 9 73 (mb' 14 887) rfl ?_
           refine zt1 HT_ HW_ (v:=?_) (a':=?_) 3 67 (mb' 14 895) rfl ?_ hHeld ?_ ?_;rotate_left;(rintro w' ⟨s0,s1⟩;go_simp;with_reducible rfl);rotate_left;exact zpa
           refine zt1 HT_ HW_ (v:=?_) (a':=?_) 7 71 (mb' 14 1023) rfl ?_ hHeld ?_ ?_;rotate_left;(rintro w' ⟨s0,s1⟩;go_simp;with_reducible rfl);rotate_left;exact zpa
           refine zp1 HT_ 10 74 (mb' 14 2047) rfl ?_
           refine last_ (i:=11) (N:=none) (mb' 14 4095) rfl rfl (one_of HT_.out (by kernel_rfl)) (by decide) (fun K hK=>?_)
           refine skip_ (w1:=?_) (by rfl) rfl ?_ ?_
           rotate_left
           ·go_simp
            rfl
           refine hK.out _ _ ?_
           clear hK K
           refine zp1 HT_ 12 75 (mb' 14 8191) rfl ?_
           refine last_ (i:=13) (N:=none) (mb' 14 16383) rfl rfl (one_of HT_.out (by kernel_rfl)) (by decide) (fun K hK=>?_)
           refine skip_ (w1:=?_) (by rfl) rfl ?_ ?_
           rotate_left
           ·go_simp
            rfl
           refine hK.out _ _ ?_
           clear hK K
           refine done_ (done_of HT_.out (by kernel_rfl)) ?_
           try go_wp2
           (try simp only [← hl5_3])
           go_roundg k3
           case measure=>have:=HK1.out;have:=HK2.out;have:=HK3.out;omega
           case rel=>exact⟨(y752),(true),(wrap64 (x26_3+1)),zrs,zrs,H',⟨by have:=HK1.out;have:=HK2.out;have:=HK3.out;omega⟩,⟨by(try simp only [hl5_1]);(try simp only [hl5_2]);(try simp only [hl5_3]);(with_reducible repeat(first|apply Kd.R_alloc|apply Kd.R_drewN|apply Kd.R_drew));exact HQ31.out⟩,⟨by exact zk3 HB GB26.out GB26.out⟩⟩
          ·replace c25:=Bool.eq_false_iff.mpr c25
           subst c25
           have H1:(if (rd x5_3 (rd (rd_L6 l1 x26_3) 0))= (ji24) then(impl_groups.l2 k3 l1 ((x5_3.set ((rd (rd_L6 l1 x26_3) 0):Int).toNat (ji24)).set ((rd (rd_L6 l1 x26_3) 1):Int).toNat (ji24)) ((rd x5_3 (rd (rd_L6 l1 x26_3) 1)) != (ji24)) l1 (l1.length:Int) (wrap64 (x26_3+1))) else(impl_groups.l2 k3 l1 ((x5_3.set ((rd (rd_L6 l1 x26_3) 0):Int).toNat (ji24)).set ((rd (rd_L6 l1 x26_3) 1):Int).toNat (ji24)) true l1 (l1.length:Int) (wrap64 (x26_3+1))))=some r:=by rw [if_neg (show ¬ (false=true) by decide)] at H;exact H
           clear H
           have H:=H1
           clear H1
           by_cases c32:(rd x5_3 (rd (rd_L6 l1 x26_3) 0))= (ji24)
           ·rw [if_pos c32] at H
            have c32b0:((rd x5_3 (rd (rd_L6 l1 x26_3) 0))== (ji24))=true:=beq_iff_eq.mpr c32
            have c32b1:((rd x5_3 (rd (rd_L6 l1 x26_3) 0)) != (ji24))=false:=bne_eq_false_iff_eq.mpr c32
            clear c32
            obtain⟨y759,hy759⟩ :∃ y_:List Int,y_= (x5_3.set ((rd (rd_L6 l1 x26_3) 0):Int).toNat (ji24)):=⟨_,rfl⟩
            replace H:(impl_groups.l2 k3 l1 (y759.set ((rd (rd_L6 l1 x26_3) 1):Int).toNat (ji24)) ((rd x5_3 (rd (rd_L6 l1 x26_3) 1)) != (ji24)) l1 (l1.length:Int) (wrap64 (x26_3+1)))=some r:=zfh hy759 H
            have Ny759:=Aside0.mk hy759
            clear hy759
            obtain⟨y760,hy760⟩ :∃ y_:List Int,y_= (y759.set ((rd (rd_L6 l1 x26_3) 1):Int).toNat (ji24)):=⟨_,rfl⟩
            replace H:(impl_groups.l2 k3 l1 y760 ((rd x5_3 (rd (rd_L6 l1 x26_3) 1)) != (ji24)) l1 (l1.length:Int) (wrap64 (x26_3+1)))=some r:=zfh hy760 H
            have Ny760:=Aside0.mk hy760
            clear hy760
            have H':=Aside0.mk H
            clear H
            have p744: 0≤ (x26_3:Int):=of_decide_eq_true zq1
            have q744:x26_3< (l1.length:Int):=of_decide_eq_true zq1
            obtain⟨ad744,A744_0,c744_0,e744,hx744_0,hl744_0,hi744_0⟩:=at_L6 HR1.out x26_3 p744 q744
            cases e744
            replace hx744_0:=zhx HB hx744_0
            have HR744_0:=Aside0.mk hi744_0
            have HC744_0:=Aside0.mk hl744_0
            clear hi744_0 hl744_0
            replace p744:=eq_true p744
            replace q744:=eq_true q744
            try go_wp2
            replace HO_5:=Aside0.mk (Kd.R_drew HO_5.out)
            replace HB:=Aside0.mk (below_drew1 HB.out)
            have p745: 0≤ (0:Int):=(by omega)
            have q745: 0< ((rd_L6 l1 x26_3).length:Int):=of_decide_eq_true zq1
            obtain⟨ad745,e745,hx745_0⟩:=Kd.at_int HR744_0.out 0 p745 q745
            have hw745_0:=hx745_0
            (try rw [show ((0:Int)).toNat=0 from rfl] at hw745_0)
            (try rw [show 0 * 1=0 from rfl] at hw745_0)
            (try rw [Addr.add_zero'] at hw745_0)
            cases e745
            have qi745:(0< (rd_L6 l1 x26_3).length)=True:=eq_true (by omega)
            (try rw [show ((0:Int)).toNat=0 from rfl] at hx745_0)
            (try rw [Addr.add_zero'] at hx745_0)
            replace hx745_0:=zhx HB hx745_0
            replace p745:=eq_true p745
            replace q745:=eq_true q745
            have p746: 0≤ ((rd (rd_L6 l1 x26_3) 0):Int):=of_decide_eq_true zq1
            have q746:(rd (rd_L6 l1 x26_3) 0)< (x5_3.length:Int):=of_decide_eq_true zq1
            obtain⟨ad746,e746,hx746_0⟩:=Kd.at_int (Kd.R_reads' HO_5.out).2.2 (rd (rd_L6 l1 x26_3) 0) p746 q746
            cases e746
            replace p746:=eq_true p746
            replace q746:=eq_true q746
            have p747: 0≤ (1:Int):=(by omega)
            have q747: 1< ((rd_L6 l1 x26_3).length:Int):=of_decide_eq_true zq1
            obtain⟨ad747,e747,hx747_0⟩:=Kd.at_int HR744_0.out 1 p747 q747
            have hw747_0:=hx747_0
            (try rw [show ((1:Int)).toNat=1 from rfl] at hw747_0)
            (try rw [show 1 * 1=1 from rfl] at hw747_0)
            (try simp only [Nat.reduceMul,Nat.reduceEqDiff,Go.Addr.add, ↓reduceIte] at hw747_0)
            obtain rfl:ad745=ad747:=(by injection e747)
            (try simp only [show (1:Int).toNat=1 from rfl,Nat.reduceMul,Nat.reduceEqDiff,Go.Addr.add, ↓reduceIte] at hx747_0)
            have qi747:(1< (rd_L6 l1 x26_3).length)=True:=eq_true (by omega)
            (try rw [show ((1:Int)).toNat=1 from rfl] at hx747_0)
            replace hx747_0:=zhx HB hx747_0
            replace p747:=eq_true p747
            replace q747:=eq_true q747
            have p748: 0≤ ((rd (rd_L6 l1 x26_3) 1):Int):=of_decide_eq_true zq1
            have q748:(rd (rd_L6 l1 x26_3) 1)< (x5_3.length:Int):=of_decide_eq_true zq1
            obtain⟨ad748,e748,hx748_0⟩:=Kd.at_int (Kd.R_reads' HO_5.out).2.2 (rd (rd_L6 l1 x26_3) 1) p748 q748
            obtain rfl:ad746=ad748:=(by injection e748)
            replace p748:=eq_true p748
            replace q748:=eq_true q748
            refine start_ (n:=14) (S:=fun w'=>w'.cell? ad745=some (.int .i64 (rd (rd_L6 l1 x26_3) 0))∧w'.cell? (ad746.add ((rd (rd_L6 l1 x26_3) 0)).toNat)=some (.int .i64 (rd x5_3 (rd (rd_L6 l1 x26_3) 0)))∧w'.cell? ⟨ad745.block,ad745.off+1,none⟩=some (.int .i64 (rd (rd_L6 l1 x26_3) 1))∧w'.cell? (ad746.add ((rd (rd_L6 l1 x26_3) 1)).toNat)=some (.int .i64 (rd x5_3 (rd (rd_L6 l1 x26_3) 1)))) (ds:= []) (mb' 14 0) (by kernel_rfl) rfl rfl ⟨((zhx HB hw745_0).trans rfl),hx746_0,((zhx HB hw747_0).trans rfl),hx748_0⟩ (fun hHeld=>?_);refine with_tabW impl_groups.tab13 impl_groups.bits13 (fun HT_ HW_=>?_)
            generalize wr.drew=w35 at HO_5 HB hx745_0 hx746_0 hx747_0 hx748_0 hHeld ⊢
            refine zp1 HT_ 0 30 (mb' 14 1) rfl ?_
            refine zp1 HT_ 1 31 (mb' 14 3) rfl ?_
            refine zp1 HT_ 2 32 (mb' 14 7) rfl ?_
            refine zp1 HT_ 6 36 (mb' 14 71) rfl ?_
            refine zp1 HT_ 7 37 (mb' 14 199) rfl ?_
            refine zp1 HT_ 8 38 (mb' 14 455) rfl ?_
            refine zt1 HT_ HW_ (v:=?_) (a':=?_) 3 33 (mb' 14 463) rfl ?_ hHeld ?_ ?_;rotate_left;(rintro w' ⟨s0,s1,s2,s3⟩;go_simp;with_reducible rfl);rotate_left;exact zpa
            refine zp1 HT_ 4 34 (mb' 14 479) rfl ?_
            refine zt1 HT_ HW_ (v:=?_) (a':=?_) 5 35 (mb' 14 511) rfl ?_ hHeld ?_ ?_;rotate_left;(rintro w' ⟨s0,s1,s2,s3⟩;go_simp;with_reducible rfl);rotate_left;exact zpa
            refine zt1 HT_ HW_ (v:=?_) (a':=?_) 9 39 (mb' 14 1023) rfl ?_ hHeld ?_ ?_;rotate_left;(rintro w' ⟨s0,s1,s2,s3⟩;go_simp;with_reducible rfl);rotate_left;exact zpa
            refine zp1 HT_ 10 40 (mb' 14 2047) rfl ?_
            refine zt1 HT_ HW_ (v:=?_) (a':=?_) 11 41 (mb' 14 4095) rfl ?_ hHeld ?_ ?_;rotate_left;(rintro w' ⟨s0,s1,s2,s3⟩;go_simp;with_reducible rfl);rotate_left;exact zpa
            refine zp1 HT_ 12 42 (mb' 14 8191) rfl ?_
            refine zp1 HT_ 13 10 (mb' 14 16383) rfl ?_
            refine done_ (done_of HT_.out (by kernel_rfl)) ?_
            have p753: 0≤ (0:Int):=(by omega)
            have q753: 0< ((rd_L6 l1 x26_3).length:Int):=of_decide_eq_true zq1
            obtain⟨ad753,e753,hx753_0⟩:=Kd.at_int HR744_0.out 0 p753 q753
            obtain rfl:ad745=ad753:=(by injection e753)
            have qi753:(0< (rd_L6 l1 x26_3).length)=True:=eq_true (by omega)
            (try rw [show ((0:Int)).toNat=0 from rfl] at hx753_0)
            (try rw [Addr.add_zero'] at hx753_0)
            replace hx753_0:=zhx HB hx753_0
            replace p753:=eq_true p753
            replace q753:=eq_true q753
            have p754: 0≤ ((rd (rd_L6 l1 x26_3) 0):Int):=of_decide_eq_true zq1
            have q754:(rd (rd_L6 l1 x26_3) 0)< (x5_3.length:Int):=of_decide_eq_true zq1
            obtain⟨ad754,e754,hx754_0⟩:=Kd.at_int (Kd.R_reads' HO_5.out).2.2 (rd (rd_L6 l1 x26_3) 0) p754 q754
            obtain rfl:ad746=ad754:=(by injection e754)
            replace p754:=eq_true p754
            replace q754:=eq_true q754
            have p755: 0≤ (1:Int):=(by omega)
            have q755: 1< ((rd_L6 l1 x26_3).length:Int):=of_decide_eq_true zq1
            obtain⟨ad755,e755,hx755_0⟩:=Kd.at_int HR744_0.out 1 p755 q755
            obtain rfl:ad745=ad755:=(by injection e755)
            (try simp only [show (1:Int).toNat=1 from rfl,Nat.reduceMul,Nat.reduceEqDiff,Go.Addr.add, ↓reduceIte] at hx755_0)
            have qi755:(1< (rd_L6 l1 x26_3).length)=True:=eq_true (by omega)
            (try rw [show ((1:Int)).toNat=1 from rfl] at hx755_0)
            replace hx755_0:=zhx HB hx755_0
            replace p755:=eq_true p755
            replace q755:=eq_true q755
            have p756: 0≤ ((rd (rd_L6 l1 x26_3) 1):Int):=of_decide_eq_true zq1
            have q756:(rd (rd_L6 l1 x26_3) 1)< (x5_3.length:Int):=of_decide_eq_true zq1
            obtain⟨ad756,e756,hx756_0⟩:=Kd.at_int (Kd.R_reads' HO_5.out).2.2 (rd (rd_L6 l1 x26_3) 1) p756 q756
            obtain rfl:ad746=ad756:=(by injection e756)
            replace p756:=eq_true p756
            replace q756:=eq_true q756
            try go_wp2
            replace HO_5:=Aside0.mk (Kd.R_drew HO_5.out)
            replace HB:=Aside0.mk (below_drew1 HB.out)
            have p757: 0≤ (0:Int):=(by omega)
            have q757: 0< ((rd_L6 l1 x26_3).length:Int):=of_decide_eq_true zq1
            obtain⟨ad757,e757,hx757_0⟩:=Kd.at_int HR744_0.out 0 p757 q757
            have hw757_0:=hx757_0
            (try rw [show ((0:Int)).toNat=0 from rfl] at hw757_0)
            (try rw [show 0 * 1=0 from rfl] at hw757_0)
            (try rw [Addr.add_zero'] at hw757_0)
            obtain rfl:ad745=ad757:=(by injection e757)
            have qi757:(0< (rd_L6 l1 x26_3).length)=True:=eq_true (by omega)
            (try rw [show ((0:Int)).toNat=0 from rfl] at hx757_0)
            (try rw [Addr.add_zero'] at hx757_0)
            replace hx757_0:=zhx HB hx757_0
            replace p757:=eq_true p757
            replace q757:=eq_true q757
            have p758: 0≤ (1:Int):=(by omega)
            have q758: 1< ((rd_L6 l1 x26_3).length:Int):=of_decide_eq_true zq1
            obtain⟨ad758,e758,hx758_0⟩:=Kd.at_int HR744_0.out 1 p758 q758
            have hw758_0:=hx758_0
            (try rw [show ((1:Int)).toNat=1 from rfl] at hw758_0)
            (try rw [show 1 * 1=1 from rfl] at hw758_0)
            (try simp only [Nat.reduceMul,Nat.reduceEqDiff,Go.Addr.add, ↓reduceIte] at hw758_0)
            obtain rfl:ad745=ad758:=(by injection e758)
            (try simp only [show (1:Int).toNat=1 from rfl,Nat.reduceMul,Nat.reduceEqDiff,Go.Addr.add, ↓reduceIte] at hx758_0)
            have qi758:(1< (rd_L6 l1 x26_3).length)=True:=eq_true (by omega)
            (try rw [show ((1:Int)).toNat=1 from rfl] at hx758_0)
            replace hx758_0:=zhx HB hx758_0
            replace p758:=eq_true p758
            replace q758:=eq_true q758
            have p33: 0≤ ((rd (rd_L6 l1 x26_3) 0):Int):=of_decide_eq_true zq1
            have q33:((rd (rd_L6 l1 x26_3) 0):Int)< ((x5_3.length:Int):Int):=of_decide_eq_true zq1
            obtain⟨go33,co33,eo33,gb33,gl33,cl33,HG33⟩:=Kd.R_form HO_5.out (by omega)
            (first|cases eo33|(injection eo33 with ea_ en_ ec_;(first|subst ea_|(injection ea_ with ea_;subst ea_));subst ec_;clear en_))
            have GB33:=Aside0.mk gb33
            have GG33:=Aside0.mk HG33
            clear gb33 gl33 HG33
            (first|simp only [add_plain] at hx746_0|skip)
            (first|simp only [add_plain] at hx748_0|skip)
            (first|simp only [add_plain] at hx754_0|skip)
            (first|simp only [add_plain] at hx756_0|skip)
            obtain⟨hx33_0,hf33_0⟩:=Kd.R_celln 0 HO_5.out ((rd (rd_L6 l1 x26_3) 0):Int) p33 q33
            replace p33:=eq_true p33
            replace q33:=eq_true q33
            have HP37:=Kd.R_putn HO_5.out ((rd (rd_L6 l1 x26_3) 0):Int) ji24
            rw [← Ny759.out] at HP37
            have HQ37:=Aside0.mk HP37
            clear HP37
            have p34: 0≤ ((rd (rd_L6 l1 x26_3) 1):Int):=of_decide_eq_true zq1
            have q34:((rd (rd_L6 l1 x26_3) 1):Int)< ((x5_3.length:Int):Int):=of_decide_eq_true zq1
            obtain⟨hx34_0,hf34_0⟩:=Kd.R_celln 0 HQ37.out ((rd (rd_L6 l1 x26_3) 1):Int) p34 q34
            replace p34:=eq_true p34
            replace q34:=eq_true q34
            have HP38:=Kd.R_putn HQ37.out ((rd (rd_L6 l1 x26_3) 1):Int) ji24
            rw [← Ny760.out] at HP38
            have HQ38:=Aside0.mk HP38
            clear HP38
            refine start_ (n:=14) (S:=fun w'=>w'.cell? ad745=some (.int .i64 (rd (rd_L6 l1 x26_3) 0))∧w'.cell? ⟨ad745.block,ad745.off+1,none⟩=some (.int .i64 (rd (rd_L6 l1 x26_3) 1))) (ds:= [11,13]) (mb' 14 0) (by kernel_rfl) rfl rfl ⟨((zhx HB hw757_0).trans rfl),((zhx HB hw758_0).trans rfl)⟩ (fun hHeld=>?_);refine with_tabW impl_groups.tab15 impl_groups.bits15 (fun HT_ HW_=>?_)
            generalize w35.drew=w36 at HO_5 HB GG33 HQ37 HQ38 hf33_0 hf34_0 hx33_0 hx34_0 hx746_0 hx748_0 hx754_0 hx756_0 hx757_0 hx758_0 hHeld ⊢
            refine zp1 HT_ 0 64 (mb' 14 1) rfl ?_
            refine zp1 HT_ 1 65 (mb' 14 3) rfl ?_
            refine zp1 HT_ 2 66 (mb' 14 7) rfl ?_
            refine zp1 HT_ 4 68 (mb' 14 23) rfl ?_
            refine zp1 HT_ 5 69 (mb' 14 55) rfl ?_
            refine zp1 HT_ 6 70 (mb' 14 119) rfl ?_
            refine zp1 HT_ 8 72 (mb' 14 375) rfl ?_
            refine zp1 HT_ 9 73 (mb' 14 887) rfl ?_
            refine zt1 HT_ HW_ (v:=?_) (a':=?_) 3 67 (mb' 14 895) rfl ?_ hHeld ?_ ?_;rotate_left;(rintro w' ⟨s0,s1⟩;go_simp;with_reducible rfl);rotate_left;exact zpa
            refine zt1 HT_ HW_ (v:=?_) (a':=?_) 7 71 (mb' 14 1023) rfl ?_ hHeld ?_ ?_;rotate_left;(rintro w' ⟨s0,s1⟩;go_simp;with_reducible rfl);rotate_left;exact zpa
            refine zp1 HT_ 10 74 (mb' 14 2047) rfl ?_
            refine last_ (i:=11) (N:=none) (mb' 14 4095) rfl rfl (one_of HT_.out (by kernel_rfl)) (by decide) (fun K hK=>?_)
            refine skip_ (w1:=?_) (by rfl) rfl ?_ ?_
            rotate_left
            ·go_simp
             rfl
            refine hK.out _ _ ?_
            clear hK K
            refine zp1 HT_ 12 75 (mb' 14 8191) rfl ?_
            refine last_ (i:=13) (N:=none) (mb' 14 16383) rfl rfl (one_of HT_.out (by kernel_rfl)) (by decide) (fun K hK=>?_)
            refine skip_ (w1:=?_) (by rfl) rfl ?_ ?_
            rotate_left
            ·go_simp
             rfl
            refine hK.out _ _ ?_
            clear hK K
            refine done_ (done_of HT_.out (by kernel_rfl)) ?_
            try go_wp2
            (try simp only [← hl5_3])
            go_roundg k3
            case measure=>have:=HK1.out;have:=HK2.out;have:=HK3.out;omega
            case rel=>exact⟨(y760),(((rd x5_3 (rd (rd_L6 l1 x26_3) 1)) != (ji24))),(wrap64 (x26_3+1)),(by first|rfl|(simp;done)|(simp only [← hji24]<;>(first|rfl|simp))|(simp [*];done)),zrs,H',⟨by have:=HK1.out;have:=HK2.out;have:=HK3.out;omega⟩,⟨by(try simp only [hl5_1]);(try simp only [hl5_2]);(try simp only [hl5_3]);(with_reducible repeat(first|apply Kd.R_alloc|apply Kd.R_drewN|apply Kd.R_drew));exact HQ38.out⟩,⟨by exact zk3 HB GB33.out GB33.out⟩⟩
           ·rw [if_neg c32] at H
            have c32b0:((rd x5_3 (rd (rd_L6 l1 x26_3) 0))== (ji24))=false:=beq_eq_false_iff_ne.mpr c32
            have c32b1:((rd x5_3 (rd (rd_L6 l1 x26_3) 0)) != (ji24))=true:=bne_iff_ne.mpr c32
            obtain⟨y763,hy763⟩ :∃ y_:List Int,y_= (x5_3.set ((rd (rd_L6 l1 x26_3) 0):Int).toNat (ji24)):=⟨_,rfl⟩
            replace H:(impl_groups.l2 k3 l1 (y763.set ((rd (rd_L6 l1 x26_3) 1):Int).toNat (ji24)) true l1 (l1.length:Int) (wrap64 (x26_3+1)))=some r:=zfh hy763 H
            have Ny763:=Aside0.mk hy763
            clear hy763
            obtain⟨y764,hy764⟩ :∃ y_:List Int,y_= (y763.set ((rd (rd_L6 l1 x26_3) 1):Int).toNat (ji24)):=⟨_,rfl⟩
            replace H:(impl_groups.l2 k3 l1 y764 true l1 (l1.length:Int) (wrap64 (x26_3+1)))=some r:=zfh hy764 H
            have Ny764:=Aside0.mk hy764
            clear hy764
            have H':=Aside0.mk H
            clear H
            have p744: 0≤ (x26_3:Int):=of_decide_eq_true zq1
            have q744:x26_3< (l1.length:Int):=of_decide_eq_true zq1
            obtain⟨ad744,A744_0,c744_0,e744,hx744_0,hl744_0,hi744_0⟩:=at_L6 HR1.out x26_3 p744 q744
            cases e744
            replace hx744_0:=zhx HB hx744_0
            have HR744_0:=Aside0.mk hi744_0
            have HC744_0:=Aside0.mk hl744_0
            clear hi744_0 hl744_0
            replace p744:=eq_true p744
            replace q744:=eq_true q744
            try go_wp2
            replace HO_5:=Aside0.mk (Kd.R_drew HO_5.out)
            replace HB:=Aside0.mk (below_drew1 HB.out)
            have p745: 0≤ (0:Int):=(by omega)
            have q745: 0< ((rd_L6 l1 x26_3).length:Int):=of_decide_eq_true zq1
            obtain⟨ad745,e745,hx745_0⟩:=Kd.at_int HR744_0.out 0 p745 q745
            have hw745_0:=hx745_0
            (try rw [show ((0:Int)).toNat=0 from rfl] at hw745_0)
            (try rw [show 0 * 1=0 from rfl] at hw745_0)
            (try rw [Addr.add_zero'] at hw745_0)
            cases e745
            have qi745:(0< (rd_L6 l1 x26_3).length)=True:=eq_true (by omega)
            (try rw [show ((0:Int)).toNat=0 from rfl] at hx745_0)
            (try rw [Addr.add_zero'] at hx745_0)
            replace hx745_0:=zhx HB hx745_0
            replace p745:=eq_true p745
            replace q745:=eq_true q745
            have p746: 0≤ ((rd (rd_L6 l1 x26_3) 0):Int):=of_decide_eq_true zq1
            have q746:(rd (rd_L6 l1 x26_3) 0)< (x5_3.length:Int):=of_decide_eq_true zq1
            obtain⟨ad746,e746,hx746_0⟩:=Kd.at_int (Kd.R_reads' HO_5.out).2.2 (rd (rd_L6 l1 x26_3) 0) p746 q746
            cases e746
            replace p746:=eq_true p746
            replace q746:=eq_true q746
            have p747: 0≤ (1:Int):=(by omega)
            have q747: 1< ((rd_L6 l1 x26_3).length:Int):=of_decide_eq_true zq1
            obtain⟨ad747,e747,hx747_0⟩:=Kd.at_int HR744_0.out 1 p747 q747
            have hw747_0:=hx747_0
            (try rw [show ((1:Int)).toNat=1 from rfl] at hw747_0)
            (try rw [show 1 * 1=1 from rfl] at hw747_0)
            (try simp only [Nat.reduceMul,Nat.reduceEqDiff,Go.Addr.add, ↓reduceIte] at hw747_0)
            obtain rfl:ad745=ad747:=(by injection e747)
            (try simp only [show (1:Int).toNat=1 from rfl,Nat.reduceMul,Nat.reduceEqDiff,Go.Addr.add, ↓reduceIte] at hx747_0)
            have qi747:(1< (rd_L6 l1 x26_3).length)=True:=eq_true (by omega)
            (try rw [show ((1:Int)).toNat=1 from rfl] at hx747_0)
            replace hx747_0:=zhx HB hx747_0
            replace p747:=eq_true p747
            replace q747:=eq_true q747
            have p748: 0≤ ((rd (rd_L6 l1 x26_3) 1):Int):=of_decide_eq_true zq1
            have q748:(rd (rd_L6 l1 x26_3) 1)< (x5_3.length:Int):=of_decide_eq_true zq1
            obtain⟨ad748,e748,hx748_0⟩:=Kd.at_int (Kd.R_reads' HO_5.out).2.2 (rd (rd_L6 l1 x26_3) 1) p748 q748
            obtain rfl:ad746=ad748:=(by injection e748)
            replace p748:=eq_true p748
            replace q748:=eq_true q748
            refine start_ (n:=14) (S:=fun w'=>w'.cell? ad745=some (.int .i64 (rd (rd_L6 l1 x26_3) 0))∧w'.cell? (ad746.add ((rd (rd_L6 l1 x26_3) 0)).toNat)=some (.int .i64 (rd x5_3 (rd (rd_L6 l1 x26_3) 0)))∧w'.cell? ⟨ad745.block,ad745.off+1,none⟩=some (.int .i64 (rd (rd_L6 l1 x26_3) 1))∧w'.cell? (ad746.add ((rd (rd_L6 l1 x26_3) 1)).toNat)=some (.int .i64 (rd x5_3 (rd (rd_L6 l1 x26_3) 1)))) (ds:= []) (mb' 14 0) (by kernel_rfl) rfl rfl ⟨((zhx HB hw745_0).trans rfl),hx746_0,((zhx HB hw747_0).trans rfl),hx748_0⟩ (fun hHeld=>?_);refine with_tabW impl_groups.tab13 impl_groups.bits13 (fun HT_ HW_=>?_)
            generalize wr.drew=w41 at HO_5 HB hx745_0 hx746_0 hx747_0 hx748_0 hHeld ⊢
            refine zp1 HT_ 0 30 (mb' 14 1) rfl ?_
            refine zp1 HT_ 1 31 (mb' 14 3) rfl ?_
            refine zp1 HT_ 2 32 (mb' 14 7) rfl ?_
            refine zp1 HT_ 6 36 (mb' 14 71) rfl ?_
            refine zp1 HT_ 7 37 (mb' 14 199) rfl ?_
            refine zp1 HT_ 8 38 (mb' 14 455) rfl ?_
            refine zt1 HT_ HW_ (v:=?_) (a':=?_) 3 33 (mb' 14 463) rfl ?_ hHeld ?_ ?_;rotate_left;(rintro w' ⟨s0,s1,s2,s3⟩;go_simp;with_reducible rfl);rotate_left;exact zpa
            refine zp1 HT_ 4 34 (mb' 14 479) rfl ?_
            refine zt1 HT_ HW_ (v:=?_) (a':=?_) 5 35 (mb' 14 511) rfl ?_ hHeld ?_ ?_;rotate_left;(rintro w' ⟨s0,s1,s2,s3⟩;go_simp;with_reducible rfl);rotate_left;exact zpa
            refine zt1 HT_ HW_ (v:=?_) (a':=?_) 9 39 (mb' 14 1023) rfl ?_ hHeld ?_ ?_;rotate_left;(rintro w' ⟨s0,s1,s2,s3⟩;go_simp;with_reducible rfl);rotate_left;exact zpa
            refine zp1 HT_ 10 40 (mb' 14 2047) rfl ?_
            refine zt1 HT_ HW_ (v:=?_) (a':=?_) 11 41 (mb' 14 4095) rfl ?_ hHeld ?_ ?_;rotate_left;(rintro w' ⟨s0,s1,s2,s3⟩;go_simp;with_reducible rfl);rotate_left;exact zpa
            refine zp1 HT_ 12 42 (mb' 14 8191) rfl ?_
            refine zp1 HT_ 13 10 (mb' 14 16383) rfl ?_
            refine done_ (done_of HT_.out (by kernel_rfl)) ?_
            have p753: 0≤ (0:Int):=(by omega)
            have q753: 0< ((rd_L6 l1 x26_3).length:Int):=of_decide_eq_true zq1
            obtain⟨ad753,e753,hx753_0⟩:=Kd.at_int HR744_0.out 0 p753 q753
            obtain rfl:ad745=ad753:=(by injection e753)
            have qi753:(0< (rd_L6 l1 x26_3).length)=True:=eq_true (by omega)
            (try rw [show ((0:Int)).toNat=0 from rfl] at hx753_0)
            (try rw [Addr.add_zero'] at hx753_0)
            replace hx753_0:=zhx HB hx753_0
            replace p753:=eq_true p753
            replace q753:=eq_true q753
            have p754: 0≤ ((rd (rd_L6 l1 x26_3) 0):Int):=of_decide_eq_true zq1
            have q754:(rd (rd_L6 l1 x26_3) 0)< (x5_3.length:Int):=of_decide_eq_true zq1
            obtain⟨ad754,e754,hx754_0⟩:=Kd.at_int (Kd.R_reads' HO_5.out).2.2 (rd (rd_L6 l1 x26_3) 0) p754 q754
            obtain rfl:ad746=ad754:=(by injection e754)
            replace p754:=eq_true p754
            replace q754:=eq_true q754
            try go_wp2
            replace HO_5:=Aside0.mk (Kd.R_drew HO_5.out)
            replace HB:=Aside0.mk (below_drew1 HB.out)
            have p761: 0≤ (0:Int):=(by omega)
            have q761: 0< ((rd_L6 l1 x26_3).length:Int):=of_decide_eq_true zq1
            obtain⟨ad761,e761,hx761_0⟩:=Kd.at_int HR744_0.out 0 p761 q761
            have hw761_0:=hx761_0
            (try rw [show ((0:Int)).toNat=0 from rfl] at hw761_0)
            (try rw [show 0 * 1=0 from rfl] at hw761_0)
            (try rw [Addr.add_zero'] at hw761_0)
            obtain rfl:ad745=ad761:=(by injection e761)
            have qi761:(0< (rd_L6 l1 x26_3).length)=True:=eq_true (by omega)
            (try rw [show ((0:Int)).toNat=0 from rfl] at hx761_0)
            (try rw [Addr.add_zero'] at hx761_0)
            replace hx761_0:=zhx HB hx761_0
            replace p761:=eq_true p761
            replace q761:=eq_true q761
            have p762: 0≤ (1:Int):=(by omega)
            have q762: 1< ((rd_L6 l1 x26_3).length:Int):=of_decide_eq_true zq1
            obtain⟨ad762,e762,hx762_0⟩:=Kd.at_int HR744_0.out 1 p762 q762
            have hw762_0:=hx762_0
            (try rw [show ((1:Int)).toNat=1 from rfl] at hw762_0)
            (try rw [show 1 * 1=1 from rfl] at hw762_0)
            (try simp only [Nat.reduceMul,Nat.reduceEqDiff,Go.Addr.add, ↓reduceIte] at hw762_0)
            obtain rfl:ad745=ad762:=(by injection e762)
            (try simp only [show (1:Int).toNat=1 from rfl,Nat.reduceMul,Nat.reduceEqDiff,Go.Addr.add, ↓reduceIte] at hx762_0)
            have qi762:(1< (rd_L6 l1 x26_3).length)=True:=eq_true (by omega)
            (try rw [show ((1:Int)).toNat=1 from rfl] at hx762_0)
            replace hx762_0:=zhx HB hx762_0
            replace p762:=eq_true p762
            replace q762:=eq_true q762
            have p39: 0≤ ((rd (rd_L6 l1 x26_3) 0):Int):=of_decide_eq_true zq1
            have q39:((rd (rd_L6 l1 x26_3) 0):Int)< ((x5_3.length:Int):Int):=of_decide_eq_true zq1
            obtain⟨go39,co39,eo39,gb39,gl39,cl39,HG39⟩:=Kd.R_form HO_5.out (by omega)
            (first|cases eo39|(injection eo39 with ea_ en_ ec_;(first|subst ea_|(injection ea_ with ea_;subst ea_));subst ec_;clear en_))
            have GB39:=Aside0.mk gb39
            have GG39:=Aside0.mk HG39
            clear gb39 gl39 HG39
            (first|simp only [add_plain] at hx746_0|skip)
            (first|simp only [add_plain] at hx748_0|skip)
            (first|simp only [add_plain] at hx754_0|skip)
            obtain⟨hx39_0,hf39_0⟩:=Kd.R_celln 0 HO_5.out ((rd (rd_L6 l1 x26_3) 0):Int) p39 q39
            replace p39:=eq_true p39
            replace q39:=eq_true q39
            have HP43:=Kd.R_putn HO_5.out ((rd (rd_L6 l1 x26_3) 0):Int) ji24
            rw [← Ny763.out] at HP43
            have HQ43:=Aside0.mk HP43
            clear HP43
            have p40: 0≤ ((rd (rd_L6 l1 x26_3) 1):Int):=of_decide_eq_true zq1
            have q40:((rd (rd_L6 l1 x26_3) 1):Int)< ((x5_3.length:Int):Int):=of_decide_eq_true zq1
            obtain⟨hx40_0,hf40_0⟩:=Kd.R_celln 0 HQ43.out ((rd (rd_L6 l1 x26_3) 1):Int) p40 q40
            replace p40:=eq_true p40
            replace q40:=eq_true q40
            have HP44:=Kd.R_putn HQ43.out ((rd (rd_L6 l1 x26_3) 1):Int) ji24
            rw [← Ny764.out] at HP44
            have HQ44:=Aside0.mk HP44
            clear HP44
            refine start_ (n:=14) (S:=fun w'=>w'.cell? ad745=some (.int .i64 (rd (rd_L6 l1 x26_3) 0))∧w'.cell? ⟨ad745.block,ad745.off+1,none⟩=some (.int .i64 (rd (rd_L6 l1 x26_3) 1))) (ds:= [11,13]) (mb' 14 0) (by kernel_rfl) rfl rfl ⟨((zhx HB hw761_0).trans rfl),((zhx HB hw762_0).trans rfl)⟩ (fun hHeld=>?_);refine with_tabW impl_groups.tab15 impl_groups.bits15 (fun HT_ HW_=>?_)
            generalize w41.drew=w42 at HO_5 HB GG39 HQ43 HQ44 hf39_0 hf40_0 hx39_0 hx40_0 hx746_0 hx748_0 hx754_0 hx761_0 hx762_0 hHeld ⊢
            refine zp1 HT_ 0 64 (mb' 14 1) rfl ?_
            refine zp1 HT_ 1 65 (mb' 14 3) rfl ?_
            refine zp1 HT_ 2 66 (mb' 14 7) rfl ?_
            refine zp1 HT_ 4 68 (mb' 14 23) rfl ?_
            refine zp1 HT_ 5 69 (mb' 14 55) rfl ?_
            refine zp1 HT_ 6 70 (mb' 14 119) rfl ?_
            refine zp1 HT_ 8 72 (mb' 14 375) rfl ?_
            refine zp1 HT_ 9 73 (mb' 14 887) rfl ?_
            refine zt1 HT_ HW_ (v:=?_) (a':=?_) 3 67 (mb' 14 895) rfl ?_ hHeld ?_ ?_;rotate_left;(rintro w' ⟨s0,s1⟩;go_simp;with_reducible rfl);rotate_left;exact zpa
            refine zt1 HT_ HW_ (v:=?_) (a':=?_) 7 71 (mb' 14 1023) rfl ?_ hHeld ?_ ?_;rotate_left;(rintro w' ⟨s0,s1⟩;go_simp;with_reducible rfl);rotate_left;exact zpa
            refine zp1 HT_ 10 74 (mb' 14 2047) rfl ?_
            refine last_ (i:=11) (N:=none) (mb' 14 4095) rfl rfl (one_of HT_.out (by kernel_rfl)) (by decide) (fun K hK=>?_)
            refine skip_ (w1:=?_) (by rfl) rfl ?_ ?_
            rotate_left
            ·go_simp
             rfl
            refine hK.out _ _ ?_
            clear hK K
            refine zp1 HT_ 12 75 (mb' 14 8191) rfl ?_
            refine last_ (i:=13) (N:=none) (mb' 14 16383) rfl rfl (one_of HT_.out (by kernel_rfl)) (by decide) (fun K hK=>?_)
            refine skip_ (w1:=?_) (by rfl) rfl ?_ ?_
            rotate_left
            ·go_simp
             rfl
            refine hK.out _ _ ?_
            clear hK K
            refine done_ (done_of HT_.out (by kernel_rfl)) ?_
            try go_wp2
            (try simp only [← hl5_3])
            go_roundg k3
            case measure=>have:=HK1.out;have:=HK2.out;have:=HK3.out;omega
            case rel=>exact⟨(y764),(true),(wrap64 (x26_3+1)),zrs,zrs,H',⟨by have:=HK1.out;have:=HK2.out;have:=HK3.out;omega⟩,⟨by(try simp only [hl5_1]);(try simp only [hl5_2]);(try simp only [hl5_3]);(with_reducible repeat(first|apply Kd.R_alloc|apply Kd.R_drewN|apply Kd.R_drew));exact HQ44.out⟩,⟨by exact zk3 HB GB39.out GB39.out⟩⟩
         ·rw [if_neg c15] at H
          have c15b0:decide (x26_3< (l1.length:Int))=false:=decide_eq_false c15
          (try(have c15b0L:=c15b0;simp only [hl5_1] at c15b0L))
          (try(have c15b0L:=c15b0;simp only [hl5_2] at c15b0L))
          (try(have c15b0L:=c15b0;simp only [hl5_3] at c15b0L))
          clear c15
          have H':=Aside0.mk H
          clear H
          go_wp2
          (try simp only [← hl5_2,← hl5_3])
          go_roundg k3
          case measure=>have:=HK1.out;have:=HK2.out;have:=HK3.out;omega
          case rel=>exact⟨(x5_3),(x7_3),zrs,H',⟨by have:=HK1.out;have:=HK2.out;have:=HK3.out;omega⟩,⟨by(try simp only [hl5_1]);(try simp only [hl5_2]);(try simp only [hl5_3]);(with_reducible repeat(first|apply Kd.R_alloc|apply Kd.R_drewN|apply Kd.R_drew));exact HO_5.out⟩,⟨by exact zk1 HB⟩⟩
      ·replace c14:=Bool.eq_false_iff.mpr c14
       subst c14
       have H1:(some x5_2)=some r:=by rw [if_neg (show ¬ (false=true) by decide)] at H;exact H
       clear H
       have H:=H1
       clear H1
       obtain rfl:=Option.some.inj H
       go_wp2
       go_ret
       exact⟨_,zer,zdr HO_5,by exact zk1 HB⟩
def impl_groupsOf.l0:Nat→Int→List (List Int)→List (S79)→Int→Int→Option (List Int)
 | 0,_,_,_,_,_=>none
 |k+1,x0,x5,x8,x9,x10=>if x10<x9 then(if 0≤x10 then(if x10< (x8.length:Int) then(if x5.length< 5864062014805 then(impl_groupsOf.l0 k x0 (x5++ [(([(rd_T79 x8 x10).f0,(rd_T79 x8 x10).f1] :List Int))]) x8 x9 (wrap64 (x10+1))) else(none)) else(none)) else(none)) else((impl_groups.f k x0 x5).bind fun t773=>(some t773))
def impl_groupsOf.f (k:Nat) (a0:Int) (l1:List (S79)):Option (List Int):=impl_groupsOf.l0 k a0 ([] :List (List Int)) l1 (l1.length:Int) 0
set_option maxHeartbeats 8000000 in
set_option maxRecDepth 100000 in
theorem impl_groupsOf.calls (k:Nat) (a0:Int) (A1:Option Addr) (c1:Nat) (l1:List (S79)) (r:List Int) (w:World) (hr1:Kd.C k79 w A1 l1.length l1) (hc1:l1.length≤c1) (h:impl_groupsOf.f k a0 l1=some r):
  Calls Try.prog 83 #[.int .i64 a0,.slice A1 l1.length c1] w fun e w'=> ∃ v0_:Value,e= .returned (v0_)∧Kd.R (Kd.int .i64) 3 w' w.heap.size (fun _=>True) v0_ r∧Below w.heap.size w w':=by
 have hu79:=Try.underlying79
 have HR1:=Aside0.mk hr1
 have HC1:=Aside0.mk hc1
 clear hr1 hc1
 have HB:=Aside0.mk (Below.refl w.heap.size w)
 have H:(impl_groupsOf.l0 k a0 ([] :List (List Int)) l1 (l1.length:Int) 0)=some r:=h
 clear h
 have H':=Aside0.mk H
 clear H
 go_enter Try.func83,Try.ntmps83
 go_wp2
 go_loopg [5,10] k (fun kq v5 v10 w'=> ∃ (x5_1:List (List Int)) (x10_1:Int),v10= .int .i64 x10_1∧Aside0 (impl_groupsOf.l0 kq a0 x5_1 l1 (l1.length:Int) x10_1=some r)∧Aside0 (kq≤k)∧Aside0 (Kd.S (Kd.slice 3 (Kd.int .i64)) 22 w' w.heap.size (fun _=>True) v5 x5_1)∧Aside0 (Below w.heap.size w w'))
 case atStart=>exact⟨(([] :List (List Int))),(0),zrs,H',⟨Nat.le_refl _⟩,⟨by first|exact Kd.S_nil _ _ _ _ _|exact Kd.N_nil _ _ _ _ _|exact Kd.V_nil _ _ _ _ _|exact Kd.Q_nil _ _ _ _ _|exact Kd.R_nil _ _ _ _ _⟩,⟨by exact zk1 HB⟩⟩
 case round=>
  clear H'
  try clear c1
  try clear p2
  obtain⟨x5_1,x10_1,rfl,HA,HK1,HO_5,HB⟩:=hrel
  cases gk with
  |zero=>exact absurd HA.out (by simp [impl_groupsOf.l0])
  |succ k1=>
   have H:=HA.out
   clear HA
   simp only [impl_groupsOf.l0] at H
   by_cases c3:x10_1< (l1.length:Int)
   ·rw [if_pos c3] at H
    have c3b0:decide (x10_1< (l1.length:Int))=true:=decide_eq_true c3
    clear c3
    by_cases c4: 0≤x10_1
    case neg=>exact znn c4 H
    rw [if_pos c4] at H
    have c4b0:decide (0≤x10_1)=true:=decide_eq_true c4
    clear c4
    by_cases c5:x10_1< (l1.length:Int)
    case neg=>exact znn c5 H
    rw [if_pos c5] at H
    have c5b0:decide (x10_1< (l1.length:Int))=true:=decide_eq_true c5
    clear c5
    obtain⟨y767,hy767⟩ :∃ y_:List Int,y_= (([(rd_T79 l1 x10_1).f0,(rd_T79 l1 x10_1).f1] :List Int)):=⟨_,rfl⟩
    replace H:(if x5_1.length< 5864062014805 then(impl_groupsOf.l0 k1 a0 (x5_1++ [y767]) l1 (l1.length:Int) (wrap64 (x10_1+1))) else(none))=some r:=zfh hy767 H
    have Ny767:=Aside0.mk hy767
    clear hy767
    by_cases c6:x5_1.length< 5864062014805
    case neg=>exact znn c6 H
    rw [if_pos c6] at H
    have LMc6:=Aside0.mk c6
    clear c6
    obtain⟨y770,hy770⟩ :∃ y_:List (List Int),y_= (x5_1++ [y767]):=⟨_,rfl⟩
    replace H:(impl_groupsOf.l0 k1 a0 y770 l1 (l1.length:Int) (wrap64 (x10_1+1)))=some r:=zfh hy770 H
    have Ny770:=Aside0.mk hy770
    clear hy770
    have H':=Aside0.mk H
    clear H
    have p765: 0≤ (x10_1:Int):=of_decide_eq_true zq1
    have q765:x10_1< (l1.length:Int):=of_decide_eq_true zq1
    obtain⟨ad765,e765,hx765_0,hx765_1,hx765_2⟩:=at_T79 HR1.out x10_1 p765 q765
    cases e765
    replace hx765_0:=zhx HB hx765_0
    replace hx765_1:=zhx HB hx765_1
    replace hx765_2:=zhx HB hx765_2
    replace p765:=eq_true p765
    replace q765:=eq_true q765
    go_wp2_with (first|((with_reducible refine gate_dst (N:=7) rfl ?_);refine box_event ?hg (N:=7) ?hd (cs:= #[.int .i64 0,.int .i64 0,.int .i64 0]) (t:=79) ?hr ?_;(case hd=>rfl);(case hg=>rfl);(case hr=>first|(go_simp;done)|(go_simp;rfl));intro gb766 hg w7 hbox hb;have BK766:=Aside0.mk (hbox);have GW766:=Aside0.mk ((by rw [hg];exact(below_size (by exact zk1 HB)):w.heap.size≤gb766));have GE766:=GW766;replace HO_5:=Aside0.mk (Kd.S_below (by(with_reducible repeat(first|apply Kd.S_alloc|apply Kd.S_drewN|apply Kd.S_drew));exact HO_5.out) hb);replace HB:=Aside0.mk (below_step (by exact zk1 HB) hb);clear hb hbox hg;have hcz8_0:=zcz BK766 0 (.int .i64 0);have hcz8_1:=zcz BK766 1 (.int .i64 0);have hcz8_2:=zcz BK766 2 (.int .i64 0);have hfz8_0:=blk_frozen BK766.out 0;have hfz8_1:=blk_frozen BK766.out 1;have hfz8_2:=blk_frozen BK766.out 2)|((with_reducible refine gate_dst (N:=19) rfl ?_);refine Kd.R_lit (Kd.int .i64) _ 3 ?hg (N:=19) ?hd (xs:=([(rd_T79 l1 x10_1).f0,(rd_T79 l1 x10_1).f1] :List Int)) (inner:= [.int .i64 ((rd_T79 l1 x10_1).f0),.int .i64 ((rd_T79 l1 x10_1).f1)]) (ok:=fun _=>True) (okp:=fun _=>True) ?hr ?hp (fun _ hk=>hk) trivial (Below.refl _ _) (Nat.le_refl _) (by simp) ?_;(case hd=>rfl);(case hg=>rfl);(case hr=>first|(go_simp;done)|(go_simp;rfl));(case hp=>exact(Reps.one (show Kd.M (Kd.int .i64) _ _ _ ((rd_T79 l1 x10_1).f0) [.int .i64 ((rd_T79 l1 x10_1).f0)] from rfl) (Reps.one (show Kd.M (Kd.int .i64) _ _ _ ((rd_T79 l1 x10_1).f1) [.int .i64 ((rd_T79 l1 x10_1).f1)] from rfl) (Reps.none _ _))));intro v768 w9 ho10 hb hg_ hnew_;clear hg_ hnew_;(first|rw [← Ny767.out] at ho10|(simp only [Int.reduceToNat] at ho10;rw [← Ny767.out] at ho10));have HO769:=Aside0.mk (Kd.R_lower ho10 (below_size (by exact zk2 HB GE766.out)));replace HO_5:=Aside0.mk (Kd.S_elder' (by(with_reducible repeat(first|apply Kd.S_alloc|apply Kd.S_drewN|apply Kd.S_drew));exact(Kd.S_mono (Kd.S_far (p:=⟨gb766,2,none⟩) (Kd.S_far (p:=⟨gb766,1,none⟩) (Kd.S_far (p:=⟨gb766,0,none⟩) (Kd.S_types HO_5.out BK766.out (by decide)) (fun _ hk=>hk.2) (.int .i64 ((rd_T79 l1 x10_1).f0))) (fun _ hk=>hk.2) (.int .i64 ((rd_T79 l1 x10_1).f1))) (fun _ hk=>hk.2) (.int .i64 ((rd_T79 l1 x10_1).f2))) (fun _ h_=>h_.1))) (Kd.R_base ho10) hb);replace BK766:=Aside0.mk (blk_below (g:=gb766) (o:= .cells #[.int .i64 ((rd_T79 l1 x10_1).f0),.int .i64 ((rd_T79 l1 x10_1).f1),.int .i64 ((rd_T79 l1 x10_1).f2)] 79 (0,0)) (by(with_reducible repeat(first|refine blk_drewN ?_ _|refine blk_drew ?_ |refine blk_alloc ?_ _));refine blk_put (cs:= #[.int .i64 ((rd_T79 l1 x10_1).f0),.int .i64 ((rd_T79 l1 x10_1).f1),.int .i64 0]) ?_ 2 _ rfl;(with_reducible repeat(first|refine blk_drewN ?_ _|refine blk_drew ?_ |refine blk_alloc ?_ _));refine blk_put (cs:= #[.int .i64 ((rd_T79 l1 x10_1).f0),.int .i64 0,.int .i64 0]) ?_ 1 _ rfl;(with_reducible repeat(first|refine blk_drewN ?_ _|refine blk_drew ?_ |refine blk_alloc ?_ _));refine blk_put (cs:= #[.int .i64 0,.int .i64 0,.int .i64 0]) ?_ 0 _ rfl;(with_reducible repeat(first|refine blk_drewN ?_ _|refine blk_drew ?_ |refine blk_alloc ?_ _));exact BK766.out) hb);replace HB:=Aside0.mk (below_step (by exact zk2 HB GE766.out) hb);clear hb ho10;obtain⟨Ao12,co12,eo12⟩:=Kd.R_slice HO769.out;subst eo12)|((with_reducible refine gate_builtin (b:= .append) (xs:= #[.tmp 14,.tmp 20]) rfl ?_);at_builtin;refine Kd.S_append (Kd.slice 3 (Kd.int .i64)) (w0:=w) w.heap.size rfl (.tmp 14) (.tmp 20) 48 22 (.slice none 0 0) 24 rfl Try.underlying48 info22 rfl (by decide) (by omega) u5 x5_1 y767 [.slice Ao12 y767.length co12] (fun _=>True) (fun k_=>some k_= (.slice Ao12 y767.length co12:Value).ownBlock) rfl rfl ?aP (fun k_ hk_=>((Kd.R_mono (ok':=fun k_=>((fun _=>True)) k_∧some k_≠ (u5:Value).ownBlock) (Kd.R_apart' (HO769.out) (Kd.S_typed HO_5.out) (by decide)) (fun k_ hk=>⟨trivial,hk.2⟩))).1 k_ hk_.symm) ?aF ?aO ?aB ?aS ?aL ?_;(case aP=>exact Kd.M_row (Kd.R_mono (Kd.R_tight rfl (Kd.R_mono (ok':=fun k_=>((fun _=>True)) k_∧some k_≠ (u5:Value).ownBlock) (Kd.R_apart' (HO769.out) (Kd.S_typed HO_5.out) (by decide)) (fun k_ hk=>⟨trivial,hk.2⟩))) (fun _ h_=>h_)));(case aB=>exact(by exact zk2 HB GE766.out));(case aF=>exact(fun _ _=>trivial));(case aO=>exact(by(with_reducible repeat(first|apply Kd.S_alloc|apply Kd.S_drewN|apply Kd.S_drew));exact Kd.S_mono HO_5.out (fun k_ hk=>⟨trivial,fun e_=>hk.2 e_⟩)));(case aS=>exact(below_size (by exact zk2 HB GE766.out)));(case aL=>have:=LMc6.out;omega);intro v771 w11 ho hb hg hat;rw [← Ny770.out] at ho;have HO772:=Aside0.mk (ho);replace BK766:=Aside0.mk (blk_grown (g:=gb766) (o:= .cells #[.int .i64 ((rd_T79 l1 x10_1).f0),.int .i64 ((rd_T79 l1 x10_1).f1),.int .i64 ((rd_T79 l1 x10_1).f2)] 79 (0,0)) (zq3 BK766) hg (Kd.S_ne HO_5.out BK766.out (by decide)));replace HB:=Aside0.mk (hb);clear HO_5 HO769;clear ho hb hg hat))
    go_roundg k1
    case measure=>have:=HK1.out;omega
    case rel=>exact⟨(y770),(wrap64 (x10_1+1)),zrs,H',⟨by have:=HK1.out;omega⟩,⟨by(with_reducible repeat(first|apply Kd.S_alloc|apply Kd.S_drewN|apply Kd.S_drew));exact HO772.out⟩,⟨by exact zk2 HB GE766.out⟩⟩
   ·rw [if_neg c3] at H
    have c3b0:decide (x10_1< (l1.length:Int))=false:=decide_eq_false c3
    clear c3
    replace H:=Option.bind_eq_some_iff.mp H
    obtain⟨t773,A130,H⟩:=H
    replace H:(some t773)=some r:=H
    have A13:=Aside0.mk A130
    clear A130
    obtain rfl:=Option.some.inj H
    obtain⟨Ao14,co14,eo14⟩:=Kd.S_slice HO_5.out
    subst eo14
    go_wp2_with (first|((with_reducible refine gate_callee (f:=101) rfl ?_);refine goesL_ (some 25) rfl rfl Try.func101 (by kernel_rfl) rfl #[.int .i64 a0,.slice Ao14 x5_1.length co14] rfl zq2 ?_;(with_reducible refine(impl_groups.calls k1 a0 _ _ x5_1 t773 _ ?side1 ?side2 A13.out).mono ?_);(case side1=>exact zcc ((Kd.S_reads' HO_5.out).2.2));(case side2=>exact(Kd.S_reads' HO_5.out).2.1);rintro e w15 ⟨v774,rfl,ho0,hb⟩;refine⟨_,rfl,?_⟩;have HO775:=Aside0.mk (Kd.R_lower ho0 (below_size (by exact zk1 HB)));replace HO_5:=Aside0.mk (Kd.S_elder' (by(with_reducible repeat(first|apply Kd.S_alloc|apply Kd.S_drewN|apply Kd.S_drew));exact HO_5.out) (Kd.R_base ho0) hb);replace HB:=Aside0.mk (below_step (by exact zk1 HB) hb);(try clear hb);(try clear hb2);(try clear hk);(try clear hi);(try clear ho0)))
    go_ret
    exact⟨_,zer,zdr HO775,by exact zk1 HB⟩
def impl_LeastTree.l0:Nat→Int→List (S79)→Int→List (S79)→Int→Int→Option ((List (S79)) × Int × Bool)
 | 0,_,_,_,_,_,_=>none
 |k+1,x0,x8,x9,x21,x22,x23=>if x23<x22 then(if 0≤x23 then(if x23< (x21.length:Int) then((impl_groupsOf.f k x0 x8).bind fun t783=>(if 0≤ ((rd_T79 x21 x23).f0) then(if ((rd_T79 x21 x23).f0)< (t783.length:Int) then(if 0≤ ((rd_T79 x21 x23).f1) then(if ((rd_T79 x21 x23).f1)< (t783.length:Int) then(if (rd t783 ((rd_T79 x21 x23).f0))= (rd t783 ((rd_T79 x21 x23).f1)) then(impl_LeastTree.l0 k x0 x8 x9 x21 x22 (wrap64 (x23+1))) else(if x8.length< 5864062014805 then(impl_LeastTree.l0 k x0 (x8++ [(⟨(rd_T79 x21 x23).f0,(rd_T79 x21 x23).f1,(rd_T79 x21 x23).f2⟩ :S79)]) (wrap64 (x9+ ((rd_T79 x21 x23).f2))) x21 x22 (wrap64 (x23+1))) else(none))) else(none)) else(none)) else(none)) else(none))) else(none)) else(none)) else(some (x8,x9,true))
def impl_LeastTree.f (k:Nat) (a0:Int) (l1:List (S79)):Option ((List (S79)) × Int × Bool):=(impl_GoodEdges.f k a0 l1).bind fun t776=>(if t776=true then((slices_Clone_Edge.f l1).bind fun t777=>((slices_SortStableFunc_Edge.f k t777 0).bind fun t780=>(impl_LeastTree.l0 k a0 ([] :List (S79)) 0 t780 (t777.length:Int) 0))) else(some (([] :List (S79)),0,false)))
set_option maxHeartbeats 8000000 in
set_option maxRecDepth 100000 in
theorem impl_LeastTree.calls (k:Nat) (a0:Int) (A1:Option Addr) (c1:Nat) (l1:List (S79)) (r1:List (S79)) (r2:Int) (r3:Bool) (w:World) (hr1:Kd.C k79 w A1 l1.length l1) (hc1:l1.length≤c1) (h:impl_LeastTree.f k a0 l1=some (r1,r2,r3)):
  Calls Try.prog 42 #[.int .i64 a0,.slice A1 l1.length c1] w fun e w'=> ∃ v0_:Value,e= .returned (.tuple #[v0_,.int .i64 r2,.bool r3])∧Kd.R k79 79 w' w.heap.size (fun _=>True) v0_ r1∧Below w.heap.size w w':=by
 have hu79:=Try.underlying79
 have HR1:=Aside0.mk hr1
 have HC1:=Aside0.mk hc1
 clear hr1 hc1
 have HB:=Aside0.mk (Below.refl w.heap.size w)
 have H:((impl_GoodEdges.f k a0 l1).bind fun t776=>(if t776=true then((slices_Clone_Edge.f l1).bind fun t777=>((slices_SortStableFunc_Edge.f k t777 0).bind fun t780=>(impl_LeastTree.l0 k a0 ([] :List (S79)) 0 t780 (t777.length:Int) 0))) else(some (([] :List (S79)),0,false))))=some (r1,r2,r3):=h
 clear h
 replace H:=Option.bind_eq_some_iff.mp H
 obtain⟨t776,A30,H⟩:=H
 replace H:(if t776=true then((slices_Clone_Edge.f l1).bind fun t777=>((slices_SortStableFunc_Edge.f k t777 0).bind fun t780=>(impl_LeastTree.l0 k a0 ([] :List (S79)) 0 t780 (t777.length:Int) 0))) else(some (([] :List (S79)),0,false)))=some (r1,r2,r3):=H
 have A3:=Aside0.mk A30
 clear A30
 by_cases c4:t776=true
 ·subst c4
  have H1:((slices_Clone_Edge.f l1).bind fun t777=>((slices_SortStableFunc_Edge.f k t777 0).bind fun t780=>(impl_LeastTree.l0 k a0 ([] :List (S79)) 0 t780 (t777.length:Int) 0)))=some (r1,r2,r3):=by rw [if_pos rfl] at H;exact H
  clear H
  have H:=H1
  clear H1
  replace H:=Option.bind_eq_some_iff.mp H
  obtain⟨t777,A50,H⟩:=H
  replace H:((slices_SortStableFunc_Edge.f k t777 0).bind fun t780=>(impl_LeastTree.l0 k a0 ([] :List (S79)) 0 t780 (t777.length:Int) 0))=some (r1,r2,r3):=H
  have A5:=Aside0.mk A50
  clear A50
  replace H:=Option.bind_eq_some_iff.mp H
  obtain⟨t780,A60,H⟩:=H
  replace H:(impl_LeastTree.l0 k a0 ([] :List (S79)) 0 t780 (t777.length:Int) 0)=some (r1,r2,r3):=H
  have A6:=Aside0.mk A60
  clear A60
  have H':=Aside0.mk H
  clear H
  go_enter Try.func42,Try.ntmps42
  go_wp2_with (first|(go_at_call 69;(with_reducible refine(impl_GoodEdges.calls k a0 _ _ l1 true _ ?side1 ?side2 A3.out).mono ?_);(case side1=>exact zcc (HR1.out));(case side2=>exact HC1.out);rintro e w7 ⟨rfl,hb⟩;replace HB:=Aside0.mk (below_step (by exact zk1 HB) hb);(try clear hb);(try clear hb2);(try clear hk);(try clear hi))|(go_at_call 80;(with_reducible refine(slices_Clone_Edge.calls _ _ l1 t777 _ ?side1 ?side2 A5.out).mono ?_);(case side1=>exact zcc ((Kd.C_below HR1.out HB.out)));(case side2=>exact HC1.out);rintro e w8 ⟨v778,rfl,ho0,hb⟩;have HO779:=Aside0.mk (Kd.R_lower ho0 (below_size (by exact zk1 HB)));replace HB:=Aside0.mk (below_step (by exact zk1 HB) hb);(try clear hb);(try clear hb2);(try clear hk);(try clear hi);(try clear ho0);obtain⟨Ao9,co9,eo9⟩:=Kd.R_slice HO779.out;subst eo9)|(go_at_call 81;(with_reducible refine(slices_SortStableFunc_Edge.calls k (fun k_=>some k_= (.slice Ao9 t777.length co9:Value).ownBlock) (.slice Ao9 t777.length co9) t777 0 t780 w _ ?side1 ?side2 A6.out).mono ?_);(case side1=>exact zk1 HB);(case side2=>exact Kd.R_tight rfl HO779.out);rintro e w10 ⟨rfl,hy0,hb,hkp⟩;replace HO779:=Aside0.mk (Kd.R_reok rfl hy0 (fun k_ e_=>HO779.out.1 k_ e_));replace HB:=Aside0.mk (hb);(try clear hb);(try clear hkp);(try clear hy0)))
  repeat(go_quiet (first|(go_at_call 69;(with_reducible refine(impl_GoodEdges.calls k a0 _ _ l1 true _ ?side1 ?side2 A3.out).mono ?_);(case side1=>exact zcc (HR1.out));(case side2=>exact HC1.out);rintro e w7 ⟨rfl,hb⟩;replace HB:=Aside0.mk (below_step (by exact zk1 HB) hb);(try clear hb);(try clear hb2);(try clear hk);(try clear hi))|(go_at_call 80;(with_reducible refine(slices_Clone_Edge.calls _ _ l1 t777 _ ?side1 ?side2 A5.out).mono ?_);(case side1=>exact zcc ((Kd.C_below HR1.out HB.out)));(case side2=>exact HC1.out);rintro e w8 ⟨v778,rfl,ho0,hb⟩;have HO779:=Aside0.mk (Kd.R_lower ho0 (below_size (by exact zk1 HB)));replace HB:=Aside0.mk (below_step (by exact zk1 HB) hb);(try clear hb);(try clear hb2);(try clear hk);(try clear hi);(try clear ho0);obtain⟨Ao9,co9,eo9⟩:=Kd.R_slice HO779.out;subst eo9)|(go_at_call 81;(with_reducible refine(slices_SortStableFunc_Edge.calls k (fun k_=>some k_= (.slice Ao9 t777.length co9:Value).ownBlock) (.slice Ao9 t777.length co9) t777 0 t780 w _ ?side1 ?side2 A6.out).mono ?_);(case side1=>exact zk1 HB);(case side2=>exact Kd.R_tight rfl HO779.out);rintro e w10 ⟨rfl,hy0,hb,hkp⟩;replace HO779:=Aside0.mk (Kd.R_reok rfl hy0 (fun k_ e_=>HO779.out.1 k_ e_));replace HB:=Aside0.mk (hb);(try clear hb);(try clear hkp);(try clear hy0)));try go_wp2_with (first|(go_at_call 69;(with_reducible refine(impl_GoodEdges.calls k a0 _ _ l1 true _ ?side1 ?side2 A3.out).mono ?_);(case side1=>exact zcc (HR1.out));(case side2=>exact HC1.out);rintro e w7 ⟨rfl,hb⟩;replace HB:=Aside0.mk (below_step (by exact zk1 HB) hb);(try clear hb);(try clear hb2);(try clear hk);(try clear hi))|(go_at_call 80;(with_reducible refine(slices_Clone_Edge.calls _ _ l1 t777 _ ?side1 ?side2 A5.out).mono ?_);(case side1=>exact zcc ((Kd.C_below HR1.out HB.out)));(case side2=>exact HC1.out);rintro e w8 ⟨v778,rfl,ho0,hb⟩;have HO779:=Aside0.mk (Kd.R_lower ho0 (below_size (by exact zk1 HB)));replace HB:=Aside0.mk (below_step (by exact zk1 HB) hb);(try clear hb);(try clear hb2);(try clear hk);(try clear hi);(try clear ho0);obtain⟨Ao9,co9,eo9⟩:=Kd.R_slice HO779.out;subst eo9)|(go_at_call 81;(with_reducible refine(slices_SortStableFunc_Edge.calls k (fun k_=>some k_= (.slice Ao9 t777.length co9:Value).ownBlock) (.slice Ao9 t777.length co9) t777 0 t780 w _ ?side1 ?side2 A6.out).mono ?_);(case side1=>exact zk1 HB);(case side2=>exact Kd.R_tight rfl HO779.out);rintro e w10 ⟨rfl,hy0,hb,hkp⟩;replace HO779:=Aside0.mk (Kd.R_reok rfl hy0 (fun k_ e_=>HO779.out.1 k_ e_));replace HB:=Aside0.mk (hb);(try clear hb);(try clear hkp);(try clear hy0))))
  go_loopg [8,9,23] k (fun kq v8 v9 v23 w'=> ∃ (x8_1:List (S79)) (x9_1:Int) (x23_1:Int),v9= .int .i64 x9_1∧v23= .int .i64 x23_1∧Aside0 (impl_LeastTree.l0 kq a0 x8_1 x9_1 t780 (t777.length:Int) x23_1=some (r1,r2,r3))∧Aside0 (kq≤k)∧Aside0 (Kd.R k79 79 w' w.heap.size (fun k_=>some k_≠ ((.slice Ao9 t777.length co9):Value).ownBlock) v8 x8_1)∧Aside0 (Kd.R k79 79 w' w.heap.size (fun k_=>some k_≠ (v8:Value).ownBlock) (.slice Ao9 t777.length co9) t780)∧Aside0 (Below w.heap.size w w'))
  case atStart=>exact⟨(([] :List (S79))),(0),(0),zrs,zrs,H',⟨Nat.le_refl _⟩,⟨by first|exact Kd.R_nil _ _ _ _ _|exact Kd.N_nil _ _ _ _ _|exact Kd.V_nil _ _ _ _ _|exact Kd.Q_nil _ _ _ _ _|exact Kd.S_nil _ _ _ _ _⟩,⟨by(with_reducible repeat(first|apply Kd.R_alloc|apply Kd.R_drewN|apply Kd.R_drew));exact Kd.R_mono HO779.out (fun _ hk=>(by simp [Value.ownBlock]))⟩,⟨by exact zk1 HB⟩⟩
  case round=>
   clear H'
   try clear c1
   try clear p2
   try clear c4
   obtain⟨x8_1,x9_1,x23_1,rfl,rfl,HA,HK1,HO_8,HO_21,HB⟩:=hrel
   have hl21_1:=(Kd.R_reads' HO_21.out).1
   rw [hl21_1] at HO_21
   (try simp only [hl21_1])
   (try simp only [hl21_1] at HO_8)
   cases gk with
   |zero=>exact absurd HA.out (by simp [impl_LeastTree.l0])
   |succ k1=>
    have H:=HA.out
    clear HA
    simp only [impl_LeastTree.l0] at H
    by_cases c11:x23_1< (t777.length:Int)
    ·rw [if_pos c11] at H
     have c11b0:decide (x23_1< (t777.length:Int))=true:=decide_eq_true c11
     (try(have c11b0L:=c11b0;simp only [hl21_1] at c11b0L))
     clear c11
     by_cases c12: 0≤x23_1
     case neg=>exact znn c12 H
     rw [if_pos c12] at H
     have c12b0:decide (0≤x23_1)=true:=decide_eq_true c12
     clear c12
     by_cases c13:x23_1< (t780.length:Int)
     case neg=>exact znn c13 H
     rw [if_pos c13] at H
     have c13b0:decide (x23_1< (t780.length:Int))=true:=decide_eq_true c13
     (try(have c13b0L:=c13b0;simp only [hl21_1] at c13b0L))
     clear c13
     replace H:=Option.bind_eq_some_iff.mp H
     obtain⟨t783,A140,H⟩:=H
     replace H:(if 0≤ ((rd_T79 t780 x23_1).f0) then(if ((rd_T79 t780 x23_1).f0)< (t783.length:Int) then(if 0≤ ((rd_T79 t780 x23_1).f1) then(if ((rd_T79 t780 x23_1).f1)< (t783.length:Int) then(if (rd t783 ((rd_T79 t780 x23_1).f0))= (rd t783 ((rd_T79 t780 x23_1).f1)) then(impl_LeastTree.l0 k1 a0 x8_1 x9_1 t780 (t777.length:Int) (wrap64 (x23_1+1))) else(if x8_1.length< 5864062014805 then(impl_LeastTree.l0 k1 a0 (x8_1++ [(⟨(rd_T79 t780 x23_1).f0,(rd_T79 t780 x23_1).f1,(rd_T79 t780 x23_1).f2⟩ :S79)]) (wrap64 (x9_1+ ((rd_T79 t780 x23_1).f2))) t780 (t777.length:Int) (wrap64 (x23_1+1))) else(none))) else(none)) else(none)) else(none)) else(none))=some (r1,r2,r3):=H
     have A14:=Aside0.mk A140
     clear A140
     by_cases c15: 0≤ ((rd_T79 t780 x23_1).f0)
     case neg=>exact znn c15 H
     rw [if_pos c15] at H
     have c15b0:decide (0≤ ((rd_T79 t780 x23_1).f0))=true:=decide_eq_true c15
     clear c15
     by_cases c16:((rd_T79 t780 x23_1).f0)< (t783.length:Int)
     case neg=>exact znn c16 H
     rw [if_pos c16] at H
     have c16b0:decide (((rd_T79 t780 x23_1).f0)< (t783.length:Int))=true:=decide_eq_true c16
     (try(have c16b0L:=c16b0;simp only [hl21_1] at c16b0L))
     clear c16
     by_cases c17: 0≤ ((rd_T79 t780 x23_1).f1)
     case neg=>exact znn c17 H
     rw [if_pos c17] at H
     have c17b0:decide (0≤ ((rd_T79 t780 x23_1).f1))=true:=decide_eq_true c17
     clear c17
     by_cases c18:((rd_T79 t780 x23_1).f1)< (t783.length:Int)
     case neg=>exact znn c18 H
     rw [if_pos c18] at H
     have c18b0:decide (((rd_T79 t780 x23_1).f1)< (t783.length:Int))=true:=decide_eq_true c18
     (try(have c18b0L:=c18b0;simp only [hl21_1] at c18b0L))
     clear c18
     by_cases c19:(rd t783 ((rd_T79 t780 x23_1).f0))= (rd t783 ((rd_T79 t780 x23_1).f1))
     ·rw [if_pos c19] at H
      have c19b0:((rd t783 ((rd_T79 t780 x23_1).f0))== (rd t783 ((rd_T79 t780 x23_1).f1)))=true:=beq_iff_eq.mpr c19
      have c19b1:((rd t783 ((rd_T79 t780 x23_1).f0)) != (rd t783 ((rd_T79 t780 x23_1).f1)))=false:=bne_eq_false_iff_eq.mpr c19
      clear c19
      have H':=Aside0.mk H
      clear H
      have p781: 0≤ (x23_1:Int):=of_decide_eq_true zq1
      have q781:x23_1< (t780.length:Int):=of_decide_eq_true zq1
      obtain⟨ad781,e781,hx781_0,hx781_1,hx781_2⟩:=at_T79 (Kd.R_reads' HO_21.out).2.2 x23_1 p781 q781
      cases e781
      replace p781:=eq_true p781
      replace q781:=eq_true q781
      go_wp2_with (first|((with_reducible refine gate_dst (N:=11) rfl ?_);refine box_event ?hg (N:=11) ?hd (cs:= #[.int .i64 0,.int .i64 0,.int .i64 0]) (t:=79) ?hr ?_;(case hd=>rfl);(case hg=>rfl);(case hr=>first|(go_simp;done)|(go_simp;rfl));intro gb782 hg w20 hbox hb;have BK782:=Aside0.mk (hbox);have GW782:=Aside0.mk ((by rw [hg];exact(below_size (by exact zk1 HB)):w.heap.size≤gb782));have GE782:=GW782;replace HO_8:=Aside0.mk (Kd.R_below (Kd.R_elderB (zq4 HO_8) gb782 (Nat.le_of_eq hg.symm)) hb);replace HO_21:=Aside0.mk (Kd.R_below (Kd.R_elderB (zq4 HO_21) gb782 (Nat.le_of_eq hg.symm)) hb);replace HB:=Aside0.mk (below_step (by exact zk1 HB) hb);clear hb hbox hg;have hcz21_0:=zcz BK782 0 (.int .i64 0);have hcz21_1:=zcz BK782 1 (.int .i64 0);have hcz21_2:=zcz BK782 2 (.int .i64 0);have hfz21_0:=blk_frozen BK782.out 0;have hfz21_1:=blk_frozen BK782.out 1;have hfz21_2:=blk_frozen BK782.out 2;obtain⟨Ao22,co22,eo22⟩:=Kd.R_slice HO_8.out;subst eo22)|(go_at_call 83;(with_reducible refine(impl_groupsOf.calls k1 a0 _ _ x8_1 t783 _ ?side1 ?side2 A14.out).mono ?_);(case side1=>refine(Kd.R_reads' (e:=79) (base:=w.heap.size) (ok:=fun k_=>(some k_≠ (.slice (some ad781) t780.length co9:Value).ownBlock∧k_≠gb782)) (n:=x8_1.length) (c:=co22) ?_).2.2;exact(by(with_reducible repeat(first|apply Kd.R_alloc|apply Kd.R_drewN|apply Kd.R_drew));exact(Kd.R_mono (Kd.R_far (p:=⟨gb782,2,none⟩) (Kd.R_far (p:=⟨gb782,1,none⟩) (Kd.R_far (p:=⟨gb782,0,none⟩) (Kd.R_mono HO_8.out (fun k_ hk=>(⟨hk,hk.2⟩ :_∧k_≠gb782))) (fun _ hk=>hk.2) (.int .i64 ((rd_T79 t780 x23_1).f0))) (fun _ hk=>hk.2) (.int .i64 ((rd_T79 t780 x23_1).f1))) (fun _ hk=>hk.2) (.int .i64 ((rd_T79 t780 x23_1).f2))) (fun _ h_=>h_.1))));(case side2=>exact(Kd.R_reads' HO_8.out).2.1);rintro e w23 ⟨v784,rfl,ho0,hb⟩;have HO785:=Aside0.mk (Kd.R_lower ho0 (below_size (by exact zk2 HB GE782.out)));replace HO_8:=Aside0.mk (Kd.R_below (by(with_reducible repeat(first|apply Kd.R_alloc|apply Kd.R_drewN|apply Kd.R_drew));exact(Kd.R_mono (Kd.R_far (p:=⟨gb782,2,none⟩) (Kd.R_far (p:=⟨gb782,1,none⟩) (Kd.R_far (p:=⟨gb782,0,none⟩) (Kd.R_mono HO_8.out (fun k_ hk=>(⟨hk,hk.2⟩ :_∧k_≠gb782))) (fun _ hk=>hk.2) (.int .i64 ((rd_T79 t780 x23_1).f0))) (fun _ hk=>hk.2) (.int .i64 ((rd_T79 t780 x23_1).f1))) (fun _ hk=>hk.2) (.int .i64 ((rd_T79 t780 x23_1).f2))) (fun _ h_=>h_.1))) hb);replace HO_21:=Aside0.mk (Kd.R_below (by(with_reducible repeat(first|apply Kd.R_alloc|apply Kd.R_drewN|apply Kd.R_drew));exact(Kd.R_mono (Kd.R_far (p:=⟨gb782,2,none⟩) (Kd.R_far (p:=⟨gb782,1,none⟩) (Kd.R_far (p:=⟨gb782,0,none⟩) (Kd.R_mono HO_21.out (fun k_ hk=>(⟨hk,hk.2⟩ :_∧k_≠gb782))) (fun _ hk=>hk.2) (.int .i64 ((rd_T79 t780 x23_1).f0))) (fun _ hk=>hk.2) (.int .i64 ((rd_T79 t780 x23_1).f1))) (fun _ hk=>hk.2) (.int .i64 ((rd_T79 t780 x23_1).f2))) (fun _ h_=>h_.1))) hb);replace BK782:=Aside0.mk (blk_below (g:=gb782) (o:= .cells #[.int .i64 ((rd_T79 t780 x23_1).f0),.int .i64 ((rd_T79 t780 x23_1).f1),.int .i64 ((rd_T79 t780 x23_1).f2)] 79 (0,0)) (by(with_reducible repeat(first|refine blk_drewN ?_ _|refine blk_drew ?_ |refine blk_alloc ?_ _));refine blk_put (cs:= #[.int .i64 ((rd_T79 t780 x23_1).f0),.int .i64 ((rd_T79 t780 x23_1).f1),.int .i64 0]) ?_ 2 _ rfl;(with_reducible repeat(first|refine blk_drewN ?_ _|refine blk_drew ?_ |refine blk_alloc ?_ _));refine blk_put (cs:= #[.int .i64 ((rd_T79 t780 x23_1).f0),.int .i64 0,.int .i64 0]) ?_ 1 _ rfl;(with_reducible repeat(first|refine blk_drewN ?_ _|refine blk_drew ?_ |refine blk_alloc ?_ _));refine blk_put (cs:= #[.int .i64 0,.int .i64 0,.int .i64 0]) ?_ 0 _ rfl;(with_reducible repeat(first|refine blk_drewN ?_ _|refine blk_drew ?_ |refine blk_alloc ?_ _));exact BK782.out) hb);replace HB:=Aside0.mk (below_step (by exact zk2 HB GE782.out) hb);(try clear hb);(try clear hb2);(try clear hk);(try clear hi);(try clear ho0);have hcz24_0:=zcz BK782 0 (.int .i64 ((rd_T79 t780 x23_1).f0));have hcz24_1:=zcz BK782 1 (.int .i64 ((rd_T79 t780 x23_1).f1));have hcz24_2:=zcz BK782 2 (.int .i64 ((rd_T79 t780 x23_1).f2));have hfz24_0:=blk_frozen BK782.out 0;have hfz24_1:=blk_frozen BK782.out 1;have hfz24_2:=blk_frozen BK782.out 2;obtain⟨Ao25,co25,eo25⟩:=Kd.R_slice HO785.out;subst eo25;have p786: 0≤ (((rd_T79 t780 x23_1).f0):Int):=of_decide_eq_true zq1;have q786:((rd_T79 t780 x23_1).f0)< (t783.length:Int):=of_decide_eq_true zq1;obtain⟨ad786,e786,hx786_0⟩:=Kd.at_int (Kd.R_reads' HO785.out).2.2 ((rd_T79 t780 x23_1).f0) p786 q786;cases e786;replace p786:=eq_true p786;replace q786:=eq_true q786;have p787: 0≤ (((rd_T79 t780 x23_1).f1):Int):=of_decide_eq_true zq1;have q787:((rd_T79 t780 x23_1).f1)< (t783.length:Int):=of_decide_eq_true zq1;obtain⟨ad787,e787,hx787_0⟩:=Kd.at_int (Kd.R_reads' HO785.out).2.2 ((rd_T79 t780 x23_1).f1) p787 q787;obtain rfl:ad786=ad787:=(by injection e787);replace p787:=eq_true p787;replace q787:=eq_true q787))
      repeat(go_quiet (first|((with_reducible refine gate_dst (N:=11) rfl ?_);refine box_event ?hg (N:=11) ?hd (cs:= #[.int .i64 0,.int .i64 0,.int .i64 0]) (t:=79) ?hr ?_;(case hd=>rfl);(case hg=>rfl);(case hr=>first|(go_simp;done)|(go_simp;rfl));intro gb782 hg w20 hbox hb;have BK782:=Aside0.mk (hbox);have GW782:=Aside0.mk ((by rw [hg];exact(below_size (by exact zk1 HB)):w.heap.size≤gb782));have GE782:=GW782;replace HO_8:=Aside0.mk (Kd.R_below (Kd.R_elderB (zq4 HO_8) gb782 (Nat.le_of_eq hg.symm)) hb);replace HO_21:=Aside0.mk (Kd.R_below (Kd.R_elderB (zq4 HO_21) gb782 (Nat.le_of_eq hg.symm)) hb);replace HB:=Aside0.mk (below_step (by exact zk1 HB) hb);clear hb hbox hg;have hcz21_0:=zcz BK782 0 (.int .i64 0);have hcz21_1:=zcz BK782 1 (.int .i64 0);have hcz21_2:=zcz BK782 2 (.int .i64 0);have hfz21_0:=blk_frozen BK782.out 0;have hfz21_1:=blk_frozen BK782.out 1;have hfz21_2:=blk_frozen BK782.out 2;obtain⟨Ao22,co22,eo22⟩:=Kd.R_slice HO_8.out;subst eo22)|(go_at_call 83;(with_reducible refine(impl_groupsOf.calls k1 a0 _ _ x8_1 t783 _ ?side1 ?side2 A14.out).mono ?_);(case side1=>refine(Kd.R_reads' (e:=79) (base:=w.heap.size) (ok:=fun k_=>(some k_≠ (.slice (some ad781) t780.length co9:Value).ownBlock∧k_≠gb782)) (n:=x8_1.length) (c:=co22) ?_).2.2;exact(by(with_reducible repeat(first|apply Kd.R_alloc|apply Kd.R_drewN|apply Kd.R_drew));exact(Kd.R_mono (Kd.R_far (p:=⟨gb782,2,none⟩) (Kd.R_far (p:=⟨gb782,1,none⟩) (Kd.R_far (p:=⟨gb782,0,none⟩) (Kd.R_mono HO_8.out (fun k_ hk=>(⟨hk,hk.2⟩ :_∧k_≠gb782))) (fun _ hk=>hk.2) (.int .i64 ((rd_T79 t780 x23_1).f0))) (fun _ hk=>hk.2) (.int .i64 ((rd_T79 t780 x23_1).f1))) (fun _ hk=>hk.2) (.int .i64 ((rd_T79 t780 x23_1).f2))) (fun _ h_=>h_.1))));(case side2=>exact(Kd.R_reads' HO_8.out).2.1);rintro e w23 ⟨v784,rfl,ho0,hb⟩;have HO785:=Aside0.mk (Kd.R_lower ho0 (below_size (by exact zk2 HB GE782.out)));replace HO_8:=Aside0.mk (Kd.R_below (by(with_reducible repeat(first|apply Kd.R_alloc|apply Kd.R_drewN|apply Kd.R_drew));exact(Kd.R_mono (Kd.R_far (p:=⟨gb782,2,none⟩) (Kd.R_far (p:=⟨gb782,1,none⟩) (Kd.R_far (p:=⟨gb782,0,none⟩) (Kd.R_mono HO_8.out (fun k_ hk=>(⟨hk,hk.2⟩ :_∧k_≠gb782))) (fun _ hk=>hk.2) (.int .i64 ((rd_T79 t780 x23_1).f0))) (fun _ hk=>hk.2) (.int .i64 ((rd_T79 t780 x23_1).f1))) (fun _ hk=>hk.2) (.int .i64 ((rd_T79 t780 x23_1).f2))) (fun _ h_=>h_.1))) hb);replace HO_21:=Aside0.mk (Kd.R_below (by(with_reducible repeat(first|apply Kd.R_alloc|apply Kd.R_drewN|apply Kd.R_drew));exact(Kd.R_mono (Kd.R_far (p:=⟨gb782,2,none⟩) (Kd.R_far (p:=⟨gb782,1,none⟩) (Kd.R_far (p:=⟨gb782,0,none⟩) (Kd.R_mono HO_21.out (fun k_ hk=>(⟨hk,hk.2⟩ :_∧k_≠gb782))) (fun _ hk=>hk.2) (.int .i64 ((rd_T79 t780 x23_1).f0))) (fun _ hk=>hk.2) (.int .i64 ((rd_T79 t780 x23_1).f1))) (fun _ hk=>hk.2) (.int .i64 ((rd_T79 t780 x23_1).f2))) (fun _ h_=>h_.1))) hb);replace BK782:=Aside0.mk (blk_below (g:=gb782) (o:= .cells #[.int .i64 ((rd_T79 t780 x23_1).f0),.int .i64 ((rd_T79 t780 x23_1).f1),.int .i64 ((rd_T79 t780 x23_1).f2)] 79 (0,0)) (by(with_reducible repeat(first|refine blk_drewN ?_ _|refine blk_drew ?_ |refine blk_alloc ?_ _));refine blk_put (cs:= #[.int .i64 ((rd_T79 t780 x23_1).f0),.int .i64 ((rd_T79 t780 x23_1).f1),.int .i64 0]) ?_ 2 _ rfl;(with_reducible repeat(first|refine blk_drewN ?_ _|refine blk_drew ?_ |refine blk_alloc ?_ _));refine blk_put (cs:= #[.int .i64 ((rd_T79 t780 x23_1).f0),.int .i64 0,.int .i64 0]) ?_ 1 _ rfl;(with_reducible repeat(first|refine blk_drewN ?_ _|refine blk_drew ?_ |refine blk_alloc ?_ _));refine blk_put (cs:= #[.int .i64 0,.int .i64 0,.int .i64 0]) ?_ 0 _ rfl;(with_reducible repeat(first|refine blk_drewN ?_ _|refine blk_drew ?_ |refine blk_alloc ?_ _));exact BK782.out) hb);replace HB:=Aside0.mk (below_step (by exact zk2 HB GE782.out) hb);(try clear hb);(try clear hb2);(try clear hk);(try clear hi);(try clear ho0);have hcz24_0:=zcz BK782 0 (.int .i64 ((rd_T79 t780 x23_1).f0));have hcz24_1:=zcz BK782 1 (.int .i64 ((rd_T79 t780 x23_1).f1));have hcz24_2:=zcz BK782 2 (.int .i64 ((rd_T79 t780 x23_1).f2));have hfz24_0:=blk_frozen BK782.out 0;have hfz24_1:=blk_frozen BK782.out 1;have hfz24_2:=blk_frozen BK782.out 2;obtain⟨Ao25,co25,eo25⟩:=Kd.R_slice HO785.out;subst eo25;have p786: 0≤ (((rd_T79 t780 x23_1).f0):Int):=of_decide_eq_true zq1;have q786:((rd_T79 t780 x23_1).f0)< (t783.length:Int):=of_decide_eq_true zq1;obtain⟨ad786,e786,hx786_0⟩:=Kd.at_int (Kd.R_reads' HO785.out).2.2 ((rd_T79 t780 x23_1).f0) p786 q786;cases e786;replace p786:=eq_true p786;replace q786:=eq_true q786;have p787: 0≤ (((rd_T79 t780 x23_1).f1):Int):=of_decide_eq_true zq1;have q787:((rd_T79 t780 x23_1).f1)< (t783.length:Int):=of_decide_eq_true zq1;obtain⟨ad787,e787,hx787_0⟩:=Kd.at_int (Kd.R_reads' HO785.out).2.2 ((rd_T79 t780 x23_1).f1) p787 q787;obtain rfl:ad786=ad787:=(by injection e787);replace p787:=eq_true p787;replace q787:=eq_true q787));try go_wp2_with (first|((with_reducible refine gate_dst (N:=11) rfl ?_);refine box_event ?hg (N:=11) ?hd (cs:= #[.int .i64 0,.int .i64 0,.int .i64 0]) (t:=79) ?hr ?_;(case hd=>rfl);(case hg=>rfl);(case hr=>first|(go_simp;done)|(go_simp;rfl));intro gb782 hg w20 hbox hb;have BK782:=Aside0.mk (hbox);have GW782:=Aside0.mk ((by rw [hg];exact(below_size (by exact zk1 HB)):w.heap.size≤gb782));have GE782:=GW782;replace HO_8:=Aside0.mk (Kd.R_below (Kd.R_elderB (zq4 HO_8) gb782 (Nat.le_of_eq hg.symm)) hb);replace HO_21:=Aside0.mk (Kd.R_below (Kd.R_elderB (zq4 HO_21) gb782 (Nat.le_of_eq hg.symm)) hb);replace HB:=Aside0.mk (below_step (by exact zk1 HB) hb);clear hb hbox hg;have hcz21_0:=zcz BK782 0 (.int .i64 0);have hcz21_1:=zcz BK782 1 (.int .i64 0);have hcz21_2:=zcz BK782 2 (.int .i64 0);have hfz21_0:=blk_frozen BK782.out 0;have hfz21_1:=blk_frozen BK782.out 1;have hfz21_2:=blk_frozen BK782.out 2;obtain⟨Ao22,co22,eo22⟩:=Kd.R_slice HO_8.out;subst eo22)|(go_at_call 83;(with_reducible refine(impl_groupsOf.calls k1 a0 _ _ x8_1 t783 _ ?side1 ?side2 A14.out).mono ?_);(case side1=>refine(Kd.R_reads' (e:=79) (base:=w.heap.size) (ok:=fun k_=>(some k_≠ (.slice (some ad781) t780.length co9:Value).ownBlock∧k_≠gb782)) (n:=x8_1.length) (c:=co22) ?_).2.2;exact(by(with_reducible repeat(first|apply Kd.R_alloc|apply Kd.R_drewN|apply Kd.R_drew));exact(Kd.R_mono (Kd.R_far (p:=⟨gb782,2,none⟩) (Kd.R_far (p:=⟨gb782,1,none⟩) (Kd.R_far (p:=⟨gb782,0,none⟩) (Kd.R_mono HO_8.out (fun k_ hk=>(⟨hk,hk.2⟩ :_∧k_≠gb782))) (fun _ hk=>hk.2) (.int .i64 ((rd_T79 t780 x23_1).f0))) (fun _ hk=>hk.2) (.int .i64 ((rd_T79 t780 x23_1).f1))) (fun _ hk=>hk.2) (.int .i64 ((rd_T79 t780 x23_1).f2))) (fun _ h_=>h_.1))));(case side2=>exact(Kd.R_reads' HO_8.out).2.1);rintro e w23 ⟨v784,rfl,ho0,hb⟩;have HO785:=Aside0.mk (Kd.R_lower ho0 (below_size (by exact zk2 HB GE782.out)));replace HO_8:=Aside0.mk (Kd.R_below (by(with_reducible repeat(first|apply Kd.R_alloc|apply Kd.R_drewN|apply Kd.R_drew));exact(Kd.R_mono (Kd.R_far (p:=⟨gb782,2,none⟩) (Kd.R_far (p:=⟨gb782,1,none⟩) (Kd.R_far (p:=⟨gb782,0,none⟩) (Kd.R_mono HO_8.out (fun k_ hk=>(⟨hk,hk.2⟩ :_∧k_≠gb782))) (fun _ hk=>hk.2) (.int .i64 ((rd_T79 t780 x23_1).f0))) (fun _ hk=>hk.2) (.int .i64 ((rd_T79 t780 x23_1).f1))) (fun _ hk=>hk.2) (.int .i64 ((rd_T79 t780 x23_1).f2))) (fun _ h_=>h_.1))) hb);replace HO_21:=Aside0.mk (Kd.R_below (by(with_reducible repeat(first|apply Kd.R_alloc|apply Kd.R_drewN|apply Kd.R_drew));exact(Kd.R_mono (Kd.R_far (p:=⟨gb782,2,none⟩) (Kd.R_far (p:=⟨gb782,1,none⟩) (Kd.R_far (p:=⟨gb782,0,none⟩) (Kd.R_mono HO_21.out (fun k_ hk=>(⟨hk,hk.2⟩ :_∧k_≠gb782))) (fun _ hk=>hk.2) (.int .i64 ((rd_T79 t780 x23_1).f0))) (fun _ hk=>hk.2) (.int .i64 ((rd_T79 t780 x23_1).f1))) (fun _ hk=>hk.2) (.int .i64 ((rd_T79 t780 x23_1).f2))) (fun _ h_=>h_.1))) hb);replace BK782:=Aside0.mk (blk_below (g:=gb782) (o:= .cells #[.int .i64 ((rd_T79 t780 x23_1).f0),.int .i64 ((rd_T79 t780 x23_1).f1),.int .i64 ((rd_T79 t780 x23_1).f2)] 79 (0,0)) (by(with_reducible repeat(first|refine blk_drewN ?_ _|refine blk_drew ?_ |refine blk_alloc ?_ _));refine blk_put (cs:= #[.int .i64 ((rd_T79 t780 x23_1).f0),.int .i64 ((rd_T79 t780 x23_1).f1),.int .i64 0]) ?_ 2 _ rfl;(with_reducible repeat(first|refine blk_drewN ?_ _|refine blk_drew ?_ |refine blk_alloc ?_ _));refine blk_put (cs:= #[.int .i64 ((rd_T79 t780 x23_1).f0),.int .i64 0,.int .i64 0]) ?_ 1 _ rfl;(with_reducible repeat(first|refine blk_drewN ?_ _|refine blk_drew ?_ |refine blk_alloc ?_ _));refine blk_put (cs:= #[.int .i64 0,.int .i64 0,.int .i64 0]) ?_ 0 _ rfl;(with_reducible repeat(first|refine blk_drewN ?_ _|refine blk_drew ?_ |refine blk_alloc ?_ _));exact BK782.out) hb);replace HB:=Aside0.mk (below_step (by exact zk2 HB GE782.out) hb);(try clear hb);(try clear hb2);(try clear hk);(try clear hi);(try clear ho0);have hcz24_0:=zcz BK782 0 (.int .i64 ((rd_T79 t780 x23_1).f0));have hcz24_1:=zcz BK782 1 (.int .i64 ((rd_T79 t780 x23_1).f1));have hcz24_2:=zcz BK782 2 (.int .i64 ((rd_T79 t780 x23_1).f2));have hfz24_0:=blk_frozen BK782.out 0;have hfz24_1:=blk_frozen BK782.out 1;have hfz24_2:=blk_frozen BK782.out 2;obtain⟨Ao25,co25,eo25⟩:=Kd.R_slice HO785.out;subst eo25;have p786: 0≤ (((rd_T79 t780 x23_1).f0):Int):=of_decide_eq_true zq1;have q786:((rd_T79 t780 x23_1).f0)< (t783.length:Int):=of_decide_eq_true zq1;obtain⟨ad786,e786,hx786_0⟩:=Kd.at_int (Kd.R_reads' HO785.out).2.2 ((rd_T79 t780 x23_1).f0) p786 q786;cases e786;replace p786:=eq_true p786;replace q786:=eq_true q786;have p787: 0≤ (((rd_T79 t780 x23_1).f1):Int):=of_decide_eq_true zq1;have q787:((rd_T79 t780 x23_1).f1)< (t783.length:Int):=of_decide_eq_true zq1;obtain⟨ad787,e787,hx787_0⟩:=Kd.at_int (Kd.R_reads' HO785.out).2.2 ((rd_T79 t780 x23_1).f1) p787 q787;obtain rfl:ad786=ad787:=(by injection e787);replace p787:=eq_true p787;replace q787:=eq_true q787)))
      (try simp only [← hl21_1])
      go_roundg k1
      case measure=>have:=HK1.out;omega
      case rel=>exact⟨(x8_1),(x9_1),(wrap64 (x23_1+1)),zrs,zrs,H',⟨by have:=HK1.out;omega⟩,⟨by(try simp only [hl21_1]);(with_reducible repeat(first|apply Kd.R_alloc|apply Kd.R_drewN|apply Kd.R_drew));exact Kd.R_mono HO_8.out (fun _ hk=>hk.1)⟩,⟨by(try simp only [hl21_1]);(with_reducible repeat(first|apply Kd.R_alloc|apply Kd.R_drewN|apply Kd.R_drew));exact Kd.R_mono HO_21.out (fun _ hk=>hk.1)⟩,⟨by exact zk2 HB GE782.out⟩⟩
     ·rw [if_neg c19] at H
      have c19b0:((rd t783 ((rd_T79 t780 x23_1).f0))== (rd t783 ((rd_T79 t780 x23_1).f1)))=false:=beq_eq_false_iff_ne.mpr c19
      have c19b1:((rd t783 ((rd_T79 t780 x23_1).f0)) != (rd t783 ((rd_T79 t780 x23_1).f1)))=true:=bne_iff_ne.mpr c19
      by_cases c26:x8_1.length< 5864062014805
      case neg=>exact znn c26 H
      rw [if_pos c26] at H
      have LMc26:=Aside0.mk c26
      clear c26
      obtain⟨y788,hy788⟩ :∃ y_:List (S79),y_= (x8_1++ [(⟨(rd_T79 t780 x23_1).f0,(rd_T79 t780 x23_1).f1,(rd_T79 t780 x23_1).f2⟩ :S79)]):=⟨_,rfl⟩
      replace H:(impl_LeastTree.l0 k1 a0 y788 (wrap64 (x9_1+ ((rd_T79 t780 x23_1).f2))) t780 (t777.length:Int) (wrap64 (x23_1+1)))=some (r1,r2,r3):=zfh hy788 H
      have Ny788:=Aside0.mk hy788
      clear hy788
      have H':=Aside0.mk H
      clear H
      have p781: 0≤ (x23_1:Int):=of_decide_eq_true zq1
      have q781:x23_1< (t780.length:Int):=of_decide_eq_true zq1
      obtain⟨ad781,e781,hx781_0,hx781_1,hx781_2⟩:=at_T79 (Kd.R_reads' HO_21.out).2.2 x23_1 p781 q781
      cases e781
      replace p781:=eq_true p781
      replace q781:=eq_true q781
      go_wp2_with (first|((with_reducible refine gate_dst (N:=11) rfl ?_);refine box_event ?hg (N:=11) ?hd (cs:= #[.int .i64 0,.int .i64 0,.int .i64 0]) (t:=79) ?hr ?_;(case hd=>rfl);(case hg=>rfl);(case hr=>first|(go_simp;done)|(go_simp;rfl));intro gb782 hg w27 hbox hb;have BK782:=Aside0.mk (hbox);have GW782:=Aside0.mk ((by rw [hg];exact(below_size (by exact zk1 HB)):w.heap.size≤gb782));have GE782:=GW782;replace HO_8:=Aside0.mk (Kd.R_below (Kd.R_elderB (zq4 HO_8) gb782 (Nat.le_of_eq hg.symm)) hb);replace HO_21:=Aside0.mk (Kd.R_below (Kd.R_elderB (zq4 HO_21) gb782 (Nat.le_of_eq hg.symm)) hb);replace HB:=Aside0.mk (below_step (by exact zk1 HB) hb);clear hb hbox hg;have hcz28_0:=zcz BK782 0 (.int .i64 0);have hcz28_1:=zcz BK782 1 (.int .i64 0);have hcz28_2:=zcz BK782 2 (.int .i64 0);have hfz28_0:=blk_frozen BK782.out 0;have hfz28_1:=blk_frozen BK782.out 1;have hfz28_2:=blk_frozen BK782.out 2;obtain⟨Ao29,co29,eo29⟩:=Kd.R_slice HO_8.out;subst eo29)|(go_at_call 83;(with_reducible refine(impl_groupsOf.calls k1 a0 _ _ x8_1 t783 _ ?side1 ?side2 A14.out).mono ?_);(case side1=>refine(Kd.R_reads' (e:=79) (base:=w.heap.size) (ok:=fun k_=>(some k_≠ (.slice (some ad781) t780.length co9:Value).ownBlock∧k_≠gb782)) (n:=x8_1.length) (c:=co29) ?_).2.2;exact(by(with_reducible repeat(first|apply Kd.R_alloc|apply Kd.R_drewN|apply Kd.R_drew));exact(Kd.R_mono (Kd.R_far (p:=⟨gb782,2,none⟩) (Kd.R_far (p:=⟨gb782,1,none⟩) (Kd.R_far (p:=⟨gb782,0,none⟩) (Kd.R_mono HO_8.out (fun k_ hk=>(⟨hk,hk.2⟩ :_∧k_≠gb782))) (fun _ hk=>hk.2) (.int .i64 ((rd_T79 t780 x23_1).f0))) (fun _ hk=>hk.2) (.int .i64 ((rd_T79 t780 x23_1).f1))) (fun _ hk=>hk.2) (.int .i64 ((rd_T79 t780 x23_1).f2))) (fun _ h_=>h_.1))));(case side2=>exact(Kd.R_reads' HO_8.out).2.1);rintro e w30 ⟨v784,rfl,ho0,hb⟩;have HO785:=Aside0.mk (Kd.R_lower ho0 (below_size (by exact zk2 HB GE782.out)));replace HO_8:=Aside0.mk (Kd.R_below (by(with_reducible repeat(first|apply Kd.R_alloc|apply Kd.R_drewN|apply Kd.R_drew));exact(Kd.R_mono (Kd.R_far (p:=⟨gb782,2,none⟩) (Kd.R_far (p:=⟨gb782,1,none⟩) (Kd.R_far (p:=⟨gb782,0,none⟩) (Kd.R_mono HO_8.out (fun k_ hk=>(⟨hk,hk.2⟩ :_∧k_≠gb782))) (fun _ hk=>hk.2) (.int .i64 ((rd_T79 t780 x23_1).f0))) (fun _ hk=>hk.2) (.int .i64 ((rd_T79 t780 x23_1).f1))) (fun _ hk=>hk.2) (.int .i64 ((rd_T79 t780 x23_1).f2))) (fun _ h_=>h_.1))) hb);replace HO_21:=Aside0.mk (Kd.R_below (by(with_reducible repeat(first|apply Kd.R_alloc|apply Kd.R_drewN|apply Kd.R_drew));exact(Kd.R_mono (Kd.R_far (p:=⟨gb782,2,none⟩) (Kd.R_far (p:=⟨gb782,1,none⟩) (Kd.R_far (p:=⟨gb782,0,none⟩) (Kd.R_mono HO_21.out (fun k_ hk=>(⟨hk,hk.2⟩ :_∧k_≠gb782))) (fun _ hk=>hk.2) (.int .i64 ((rd_T79 t780 x23_1).f0))) (fun _ hk=>hk.2) (.int .i64 ((rd_T79 t780 x23_1).f1))) (fun _ hk=>hk.2) (.int .i64 ((rd_T79 t780 x23_1).f2))) (fun _ h_=>h_.1))) hb);replace BK782:=Aside0.mk (blk_below (g:=gb782) (o:= .cells #[.int .i64 ((rd_T79 t780 x23_1).f0),.int .i64 ((rd_T79 t780 x23_1).f1),.int .i64 ((rd_T79 t780 x23_1).f2)] 79 (0,0)) (by(with_reducible repeat(first|refine blk_drewN ?_ _|refine blk_drew ?_ |refine blk_alloc ?_ _));refine blk_put (cs:= #[.int .i64 ((rd_T79 t780 x23_1).f0),.int .i64 ((rd_T79 t780 x23_1).f1),.int .i64 0]) ?_ 2 _ rfl;(with_reducible repeat(first|refine blk_drewN ?_ _|refine blk_drew ?_ |refine blk_alloc ?_ _));refine blk_put (cs:= #[.int .i64 ((rd_T79 t780 x23_1).f0),.int .i64 0,.int .i64 0]) ?_ 1 _ rfl;(with_reducible repeat(first|refine blk_drewN ?_ _|refine blk_drew ?_ |refine blk_alloc ?_ _));refine blk_put (cs:= #[.int .i64 0,.int .i64 0,.int .i64 0]) ?_ 0 _ rfl;(with_reducible repeat(first|refine blk_drewN ?_ _|refine blk_drew ?_ |refine blk_alloc ?_ _));exact BK782.out) hb);replace HB:=Aside0.mk (below_step (by exact zk2 HB GE782.out) hb);(try clear hb);(try clear hb2);(try clear hk);(try clear hi);(try clear ho0);have hcz31_0:=zcz BK782 0 (.int .i64 ((rd_T79 t780 x23_1).f0));have hcz31_1:=zcz BK782 1 (.int .i64 ((rd_T79 t780 x23_1).f1));have hcz31_2:=zcz BK782 2 (.int .i64 ((rd_T79 t780 x23_1).f2));have hfz31_0:=blk_frozen BK782.out 0;have hfz31_1:=blk_frozen BK782.out 1;have hfz31_2:=blk_frozen BK782.out 2;obtain⟨Ao32,co32,eo32⟩:=Kd.R_slice HO785.out;subst eo32;have p786: 0≤ (((rd_T79 t780 x23_1).f0):Int):=of_decide_eq_true zq1;have q786:((rd_T79 t780 x23_1).f0)< (t783.length:Int):=of_decide_eq_true zq1;obtain⟨ad786,e786,hx786_0⟩:=Kd.at_int (Kd.R_reads' HO785.out).2.2 ((rd_T79 t780 x23_1).f0) p786 q786;cases e786;replace p786:=eq_true p786;replace q786:=eq_true q786;have p787: 0≤ (((rd_T79 t780 x23_1).f1):Int):=of_decide_eq_true zq1;have q787:((rd_T79 t780 x23_1).f1)< (t783.length:Int):=of_decide_eq_true zq1;obtain⟨ad787,e787,hx787_0⟩:=Kd.at_int (Kd.R_reads' HO785.out).2.2 ((rd_T79 t780 x23_1).f1) p787 q787;obtain rfl:ad786=ad787:=(by injection e787);replace p787:=eq_true p787;replace q787:=eq_true q787)|((with_reducible refine gate_builtin (b:= .append) (xs:= #[.tmp 41,.tmp 43]) rfl ?_);at_builtin;refine Kd.R_append k79 (w0:=w) w.heap.size rfl (.tmp 41) (.tmp 43) 35 79 (.agg #[(.int .i64 0),(.int .i64 0),(.int .i64 0)]) 24 rfl Try.underlying35 info79 rfl (by decide) (by omega) (.slice Ao29 x8_1.length co29) x8_1 (⟨(rd_T79 t780 x23_1).f0,(rd_T79 t780 x23_1).f1,(rd_T79 t780 x23_1).f2⟩ :S79) [.int .i64 ((rd_T79 t780 x23_1).f0),.int .i64 ((rd_T79 t780 x23_1).f1),.int .i64 ((rd_T79 t780 x23_1).f2)] (fun k_=>some k_≠ (.slice (some ad781) t780.length co9:Value).ownBlock∧k_≠gb782) (fun _=>False) rfl rfl ?aP (fun _ hk=>hk.elim) ?aF ?aO ?aB ?aS ?aL ?_;(case aP=>exact k79_mkM _ _ _ (⟨(rd_T79 t780 x23_1).f0,(rd_T79 t780 x23_1).f1,(rd_T79 t780 x23_1).f2⟩ :S79));(case aB=>exact(by exact zk2 HB GE782.out));(case aF=>exact(fun k_ hk=>⟨Kd.fresh' (Kd.R_lt (zq4 HO_21)) k_ hk,Kd.freshB (g:=gb782) (o:= .cells #[.int .i64 ((rd_T79 t780 x23_1).f0),.int .i64 ((rd_T79 t780 x23_1).f1),.int .i64 ((rd_T79 t780 x23_1).f2)] 79 (0,0)) (zq3 BK782) k_ hk⟩));(case aO=>exact(zq4 HO_8));(case aS=>exact(below_size (by exact zk2 HB GE782.out)));(case aL=>have:=LMc26.out;omega);intro v789 w33 ho hb hg hat;rw [← Ny788.out] at ho;have HO790:=Aside0.mk (ho);replace HO_21:=Aside0.mk (Kd.R_after (ok:=(fun k_=>k_≠gb782)) (by(with_reducible repeat(first|apply Kd.R_alloc|apply Kd.R_drewN|apply Kd.R_drew));exact Kd.R_mono HO_21.out (fun _ hk=>⟨hk.2,hk.1⟩)) hg hat);replace BK782:=Aside0.mk (blk_grown (g:=gb782) (o:= .cells #[.int .i64 ((rd_T79 t780 x23_1).f0),.int .i64 ((rd_T79 t780 x23_1).f1),.int .i64 ((rd_T79 t780 x23_1).f2)] 79 (0,0)) (zq3 BK782) hg (Kd.R_away HO_8.out (fun _ hk=>hk.2)));replace HO785:=Aside0.mk (Kd.R_over' (zq4 HO785) (Kd.R_typed (zq4 HO_8)) (by decide) hg);replace HB:=Aside0.mk (hb);clear HO_8;clear ho hb hg hat;have hcz34_0:=zcz BK782 0 (.int .i64 ((rd_T79 t780 x23_1).f0));have hcz34_1:=zcz BK782 1 (.int .i64 ((rd_T79 t780 x23_1).f1));have hcz34_2:=zcz BK782 2 (.int .i64 ((rd_T79 t780 x23_1).f2));have hfz34_0:=blk_frozen BK782.out 0;have hfz34_1:=blk_frozen BK782.out 1;have hfz34_2:=blk_frozen BK782.out 2))
      repeat(go_quiet (first|((with_reducible refine gate_dst (N:=11) rfl ?_);refine box_event ?hg (N:=11) ?hd (cs:= #[.int .i64 0,.int .i64 0,.int .i64 0]) (t:=79) ?hr ?_;(case hd=>rfl);(case hg=>rfl);(case hr=>first|(go_simp;done)|(go_simp;rfl));intro gb782 hg w27 hbox hb;have BK782:=Aside0.mk (hbox);have GW782:=Aside0.mk ((by rw [hg];exact(below_size (by exact zk1 HB)):w.heap.size≤gb782));have GE782:=GW782;replace HO_8:=Aside0.mk (Kd.R_below (Kd.R_elderB (zq4 HO_8) gb782 (Nat.le_of_eq hg.symm)) hb);replace HO_21:=Aside0.mk (Kd.R_below (Kd.R_elderB (zq4 HO_21) gb782 (Nat.le_of_eq hg.symm)) hb);replace HB:=Aside0.mk (below_step (by exact zk1 HB) hb);clear hb hbox hg;have hcz28_0:=zcz BK782 0 (.int .i64 0);have hcz28_1:=zcz BK782 1 (.int .i64 0);have hcz28_2:=zcz BK782 2 (.int .i64 0);have hfz28_0:=blk_frozen BK782.out 0;have hfz28_1:=blk_frozen BK782.out 1;have hfz28_2:=blk_frozen BK782.out 2;obtain⟨Ao29,co29,eo29⟩:=Kd.R_slice HO_8.out;subst eo29)|(go_at_call 83;(with_reducible refine(impl_groupsOf.calls k1 a0 _ _ x8_1 t783 _ ?side1 ?side2 A14.out).mono ?_);(case side1=>refine(Kd.R_reads' (e:=79) (base:=w.heap.size) (ok:=fun k_=>(some k_≠ (.slice (some ad781) t780.length co9:Value).ownBlock∧k_≠gb782)) (n:=x8_1.length) (c:=co29) ?_).2.2;exact(by(with_reducible repeat(first|apply Kd.R_alloc|apply Kd.R_drewN|apply Kd.R_drew));exact(Kd.R_mono (Kd.R_far (p:=⟨gb782,2,none⟩) (Kd.R_far (p:=⟨gb782,1,none⟩) (Kd.R_far (p:=⟨gb782,0,none⟩) (Kd.R_mono HO_8.out (fun k_ hk=>(⟨hk,hk.2⟩ :_∧k_≠gb782))) (fun _ hk=>hk.2) (.int .i64 ((rd_T79 t780 x23_1).f0))) (fun _ hk=>hk.2) (.int .i64 ((rd_T79 t780 x23_1).f1))) (fun _ hk=>hk.2) (.int .i64 ((rd_T79 t780 x23_1).f2))) (fun _ h_=>h_.1))));(case side2=>exact(Kd.R_reads' HO_8.out).2.1);rintro e w30 ⟨v784,rfl,ho0,hb⟩;have HO785:=Aside0.mk (Kd.R_lower ho0 (below_size (by exact zk2 HB GE782.out)));replace HO_8:=Aside0.mk (Kd.R_below (by(with_reducible repeat(first|apply Kd.R_alloc|apply Kd.R_drewN|apply Kd.R_drew));exact(Kd.R_mono (Kd.R_far (p:=⟨gb782,2,none⟩) (Kd.R_far (p:=⟨gb782,1,none⟩) (Kd.R_far (p:=⟨gb782,0,none⟩) (Kd.R_mono HO_8.out (fun k_ hk=>(⟨hk,hk.2⟩ :_∧k_≠gb782))) (fun _ hk=>hk.2) (.int .i64 ((rd_T79 t780 x23_1).f0))) (fun _ hk=>hk.2) (.int .i64 ((rd_T79 t780 x23_1).f1))) (fun _ hk=>hk.2) (.int .i64 ((rd_T79 t780 x23_1).f2))) (fun _ h_=>h_.1))) hb);replace HO_21:=Aside0.mk (Kd.R_below (by(with_reducible repeat(first|apply Kd.R_alloc|apply Kd.R_drewN|apply Kd.R_drew));exact(Kd.R_mono (Kd.R_far (p:=⟨gb782,2,none⟩) (Kd.R_far (p:=⟨gb782,1,none⟩) (Kd.R_far (p:=⟨gb782,0,none⟩) (Kd.R_mono HO_21.out (fun k_ hk=>(⟨hk,hk.2⟩ :_∧k_≠gb782))) (fun _ hk=>hk.2) (.int .i64 ((rd_T79 t780 x23_1).f0))) (fun _ hk=>hk.2) (.int .i64 ((rd_T79 t780 x23_1).f1))) (fun _ hk=>hk.2) (.int .i64 ((rd_T79 t780 x23_1).f2))) (fun _ h_=>h_.1))) hb);replace BK782:=Aside0.mk (blk_below (g:=gb782) (o:= .cells #[.int .i64 ((rd_T79 t780 x23_1).f0),.int .i64 ((rd_T79 t780 x23_1).f1),.int .i64 ((rd_T79 t780 x23_1).f2)] 79 (0,0)) (by(with_reducible repeat(first|refine blk_drewN ?_ _|refine blk_drew ?_ |refine blk_alloc ?_ _));refine blk_put (cs:= #[.int .i64 ((rd_T79 t780 x23_1).f0),.int .i64 ((rd_T79 t780 x23_1).f1),.int .i64 0]) ?_ 2 _ rfl;(with_reducible repeat(first|refine blk_drewN ?_ _|refine blk_drew ?_ |refine blk_alloc ?_ _));refine blk_put (cs:= #[.int .i64 ((rd_T79 t780 x23_1).f0),.int .i64 0,.int .i64 0]) ?_ 1 _ rfl;(with_reducible repeat(first|refine blk_drewN ?_ _|refine blk_drew ?_ |refine blk_alloc ?_ _));refine blk_put (cs:= #[.int .i64 0,.int .i64 0,.int .i64 0]) ?_ 0 _ rfl;(with_reducible repeat(first|refine blk_drewN ?_ _|refine blk_drew ?_ |refine blk_alloc ?_ _));exact BK782.out) hb);replace HB:=Aside0.mk (below_step (by exact zk2 HB GE782.out) hb);(try clear hb);(try clear hb2);(try clear hk);(try clear hi);(try clear ho0);have hcz31_0:=zcz BK782 0 (.int .i64 ((rd_T79 t780 x23_1).f0));have hcz31_1:=zcz BK782 1 (.int .i64 ((rd_T79 t780 x23_1).f1));have hcz31_2:=zcz BK782 2 (.int .i64 ((rd_T79 t780 x23_1).f2));have hfz31_0:=blk_frozen BK782.out 0;have hfz31_1:=blk_frozen BK782.out 1;have hfz31_2:=blk_frozen BK782.out 2;obtain⟨Ao32,co32,eo32⟩:=Kd.R_slice HO785.out;subst eo32;have p786: 0≤ (((rd_T79 t780 x23_1).f0):Int):=of_decide_eq_true zq1;have q786:((rd_T79 t780 x23_1).f0)< (t783.length:Int):=of_decide_eq_true zq1;obtain⟨ad786,e786,hx786_0⟩:=Kd.at_int (Kd.R_reads' HO785.out).2.2 ((rd_T79 t780 x23_1).f0) p786 q786;cases e786;replace p786:=eq_true p786;replace q786:=eq_true q786;have p787: 0≤ (((rd_T79 t780 x23_1).f1):Int):=of_decide_eq_true zq1;have q787:((rd_T79 t780 x23_1).f1)< (t783.length:Int):=of_decide_eq_true zq1;obtain⟨ad787,e787,hx787_0⟩:=Kd.at_int (Kd.R_reads' HO785.out).2.2 ((rd_T79 t780 x23_1).f1) p787 q787;obtain rfl:ad786=ad787:=(by injection e787);replace p787:=eq_true p787;replace q787:=eq_true q787)|((with_reducible refine gate_builtin (b:= .append) (xs:= #[.tmp 41,.tmp 43]) rfl ?_);at_builtin;refine Kd.R_append k79 (w0:=w) w.heap.size rfl (.tmp 41) (.tmp 43) 35 79 (.agg #[(.int .i64 0),(.int .i64 0),(.int .i64 0)]) 24 rfl Try.underlying35 info79 rfl (by decide) (by omega) (.slice Ao29 x8_1.length co29) x8_1 (⟨(rd_T79 t780 x23_1).f0,(rd_T79 t780 x23_1).f1,(rd_T79 t780 x23_1).f2⟩ :S79) [.int .i64 ((rd_T79 t780 x23_1).f0),.int .i64 ((rd_T79 t780 x23_1).f1),.int .i64 ((rd_T79 t780 x23_1).f2)] (fun k_=>some k_≠ (.slice (some ad781) t780.length co9:Value).ownBlock∧k_≠gb782) (fun _=>False) rfl rfl ?aP (fun _ hk=>hk.elim) ?aF ?aO ?aB ?aS ?aL ?_;(case aP=>exact k79_mkM _ _ _ (⟨(rd_T79 t780 x23_1).f0,(rd_T79 t780 x23_1).f1,(rd_T79 t780 x23_1).f2⟩ :S79));(case aB=>exact(by exact zk2 HB GE782.out));(case aF=>exact(fun k_ hk=>⟨Kd.fresh' (Kd.R_lt (zq4 HO_21)) k_ hk,Kd.freshB (g:=gb782) (o:= .cells #[.int .i64 ((rd_T79 t780 x23_1).f0),.int .i64 ((rd_T79 t780 x23_1).f1),.int .i64 ((rd_T79 t780 x23_1).f2)] 79 (0,0)) (zq3 BK782) k_ hk⟩));(case aO=>exact(zq4 HO_8));(case aS=>exact(below_size (by exact zk2 HB GE782.out)));(case aL=>have:=LMc26.out;omega);intro v789 w33 ho hb hg hat;rw [← Ny788.out] at ho;have HO790:=Aside0.mk (ho);replace HO_21:=Aside0.mk (Kd.R_after (ok:=(fun k_=>k_≠gb782)) (by(with_reducible repeat(first|apply Kd.R_alloc|apply Kd.R_drewN|apply Kd.R_drew));exact Kd.R_mono HO_21.out (fun _ hk=>⟨hk.2,hk.1⟩)) hg hat);replace BK782:=Aside0.mk (blk_grown (g:=gb782) (o:= .cells #[.int .i64 ((rd_T79 t780 x23_1).f0),.int .i64 ((rd_T79 t780 x23_1).f1),.int .i64 ((rd_T79 t780 x23_1).f2)] 79 (0,0)) (zq3 BK782) hg (Kd.R_away HO_8.out (fun _ hk=>hk.2)));replace HO785:=Aside0.mk (Kd.R_over' (zq4 HO785) (Kd.R_typed (zq4 HO_8)) (by decide) hg);replace HB:=Aside0.mk (hb);clear HO_8;clear ho hb hg hat;have hcz34_0:=zcz BK782 0 (.int .i64 ((rd_T79 t780 x23_1).f0));have hcz34_1:=zcz BK782 1 (.int .i64 ((rd_T79 t780 x23_1).f1));have hcz34_2:=zcz BK782 2 (.int .i64 ((rd_T79 t780 x23_1).f2));have hfz34_0:=blk_frozen BK782.out 0;have hfz34_1:=blk_frozen BK782.out 1;have hfz34_2:=blk_frozen BK782.out 2));try go_wp2_with (first|((with_reducible refine gate_dst (N:=11) rfl ?_);refine box_event ?hg (N:=11) ?hd (cs:= #[.int .i64 0,.int .i64 0,.int .i64 0]) (t:=79) ?hr ?_;(case hd=>rfl);(case hg=>rfl);(case hr=>first|(go_simp;done)|(go_simp;rfl));intro gb782 hg w27 hbox hb;have BK782:=Aside0.mk (hbox);have GW782:=Aside0.mk ((by rw [hg];exact(below_size (by exact zk1 HB)):w.heap.size≤gb782));have GE782:=GW782;replace HO_8:=Aside0.mk (Kd.R_below (Kd.R_elderB (zq4 HO_8) gb782 (Nat.le_of_eq hg.symm)) hb);replace HO_21:=Aside0.mk (Kd.R_below (Kd.R_elderB (zq4 HO_21) gb782 (Nat.le_of_eq hg.symm)) hb);replace HB:=Aside0.mk (below_step (by exact zk1 HB) hb);clear hb hbox hg;have hcz28_0:=zcz BK782 0 (.int .i64 0);have hcz28_1:=zcz BK782 1 (.int .i64 0);have hcz28_2:=zcz BK782 2 (.int .i64 0);have hfz28_0:=blk_frozen BK782.out 0;have hfz28_1:=blk_frozen BK782.out 1;have hfz28_2:=blk_frozen BK782.out 2;obtain⟨Ao29,co29,eo29⟩:=Kd.R_slice HO_8.out;subst eo29)|(go_at_call 83;(with_reducible refine(impl_groupsOf.calls k1 a0 _ _ x8_1 t783 _ ?side1 ?side2 A14.out).mono ?_);(case side1=>refine(Kd.R_reads' (e:=79) (base:=w.heap.size) (ok:=fun k_=>(some k_≠ (.slice (some ad781) t780.length co9:Value).ownBlock∧k_≠gb782)) (n:=x8_1.length) (c:=co29) ?_).2.2;exact(by(with_reducible repeat(first|apply Kd.R_alloc|apply Kd.R_drewN|apply Kd.R_drew));exact(Kd.R_mono (Kd.R_far (p:=⟨gb782,2,none⟩) (Kd.R_far (p:=⟨gb782,1,none⟩) (Kd.R_far (p:=⟨gb782,0,none⟩) (Kd.R_mono HO_8.out (fun k_ hk=>(⟨hk,hk.2⟩ :_∧k_≠gb782))) (fun _ hk=>hk.2) (.int .i64 ((rd_T79 t780 x23_1).f0))) (fun _ hk=>hk.2) (.int .i64 ((rd_T79 t780 x23_1).f1))) (fun _ hk=>hk.2) (.int .i64 ((rd_T79 t780 x23_1).f2))) (fun _ h_=>h_.1))));(case side2=>exact(Kd.R_reads' HO_8.out).2.1);rintro e w30 ⟨v784,rfl,ho0,hb⟩;have HO785:=Aside0.mk (Kd.R_lower ho0 (below_size (by exact zk2 HB GE782.out)));replace HO_8:=Aside0.mk (Kd.R_below (by(with_reducible repeat(first|apply Kd.R_alloc|apply Kd.R_drewN|apply Kd.R_drew));exact(Kd.R_mono (Kd.R_far (p:=⟨gb782,2,none⟩) (Kd.R_far (p:=⟨gb782,1,none⟩) (Kd.R_far (p:=⟨gb782,0,none⟩) (Kd.R_mono HO_8.out (fun k_ hk=>(⟨hk,hk.2⟩ :_∧k_≠gb782))) (fun _ hk=>hk.2) (.int .i64 ((rd_T79 t780 x23_1).f0))) (fun _ hk=>hk.2) (.int .i64 ((rd_T79 t780 x23_1).f1))) (fun _ hk=>hk.2) (.int .i64 ((rd_T79 t780 x23_1).f2))) (fun _ h_=>h_.1))) hb);replace HO_21:=Aside0.mk (Kd.R_below (by(with_reducible repeat(first|apply Kd.R_alloc|apply Kd.R_drewN|apply Kd.R_drew));exact(Kd.R_mono (Kd.R_far (p:=⟨gb782,2,none⟩) (Kd.R_far (p:=⟨gb782,1,none⟩) (Kd.R_far (p:=⟨gb782,0,none⟩) (Kd.R_mono HO_21.out (fun k_ hk=>(⟨hk,hk.2⟩ :_∧k_≠gb782))) (fun _ hk=>hk.2) (.int .i64 ((rd_T79 t780 x23_1).f0))) (fun _ hk=>hk.2) (.int .i64 ((rd_T79 t780 x23_1).f1))) (fun _ hk=>hk.2) (.int .i64 ((rd_T79 t780 x23_1).f2))) (fun _ h_=>h_.1))) hb);replace BK782:=Aside0.mk (blk_below (g:=gb782) (o:= .cells #[.int .i64 ((rd_T79 t780 x23_1).f0),.int .i64 ((rd_T79 t780 x23_1).f1),.int .i64 ((rd_T79 t780 x23_1).f2)] 79 (0,0)) (by(with_reducible repeat(first|refine blk_drewN ?_ _|refine blk_drew ?_ |refine blk_alloc ?_ _));refine blk_put (cs:= #[.int .i64 ((rd_T79 t780 x23_1).f0),.int .i64 ((rd_T79 t780 x23_1).f1),.int .i64 0]) ?_ 2 _ rfl;(with_reducible repeat(first|refine blk_drewN ?_ _|refine blk_drew ?_ |refine blk_alloc ?_ _));refine blk_put (cs:= #[.int .i64 ((rd_T79 t780 x23_1).f0),.int .i64 0,.int .i64 0]) ?_ 1 _ rfl;(with_reducible repeat(first|refine blk_drewN ?_ _|refine blk_drew ?_ |refine blk_alloc ?_ _));refine blk_put (cs:= #[.int .i64 0,.int .i64 0,.int .i64 0]) ?_ 0 _ rfl;(with_reducible repeat(first|refine blk_drewN ?_ _|refine blk_drew ?_ |refine blk_alloc ?_ _));exact BK782.out) hb);replace HB:=Aside0.mk (below_step (by exact zk2 HB GE782.out) hb);(try clear hb);(try clear hb2);(try clear hk);(try clear hi);(try clear ho0);have hcz31_0:=zcz BK782 0 (.int .i64 ((rd_T79 t780 x23_1).f0));have hcz31_1:=zcz BK782 1 (.int .i64 ((rd_T79 t780 x23_1).f1));have hcz31_2:=zcz BK782 2 (.int .i64 ((rd_T79 t780 x23_1).f2));have hfz31_0:=blk_frozen BK782.out 0;have hfz31_1:=blk_frozen BK782.out 1;have hfz31_2:=blk_frozen BK782.out 2;obtain⟨Ao32,co32,eo32⟩:=Kd.R_slice HO785.out;subst eo32;have p786: 0≤ (((rd_T79 t780 x23_1).f0):Int):=of_decide_eq_true zq1;have q786:((rd_T79 t780 x23_1).f0)< (t783.length:Int):=of_decide_eq_true zq1;obtain⟨ad786,e786,hx786_0⟩:=Kd.at_int (Kd.R_reads' HO785.out).2.2 ((rd_T79 t780 x23_1).f0) p786 q786;cases e786;replace p786:=eq_true p786;replace q786:=eq_true q786;have p787: 0≤ (((rd_T79 t780 x23_1).f1):Int):=of_decide_eq_true zq1;have q787:((rd_T79 t780 x23_1).f1)< (t783.length:Int):=of_decide_eq_true zq1;obtain⟨ad787,e787,hx787_0⟩:=Kd.at_int (Kd.R_reads' HO785.out).2.2 ((rd_T79 t780 x23_1).f1) p787 q787;obtain rfl:ad786=ad787:=(by injection e787);replace p787:=eq_true p787;replace q787:=eq_true q787)|((with_reducible refine gate_builtin (b:= .append) (xs:= #[.tmp 41,.tmp 43]) rfl ?_);at_builtin;refine Kd.R_append k79 (w0:=w) w.heap.size rfl (.tmp 41) (.tmp 43) 35 79 (.agg #[(.int .i64 0),(.int .i64 0),(.int .i64 0)]) 24 rfl Try.underlying35 info79 rfl (by decide) (by omega) (.slice Ao29 x8_1.length co29) x8_1 (⟨(rd_T79 t780 x23_1).f0,(rd_T79 t780 x23_1).f1,(rd_T79 t780 x23_1).f2⟩ :S79) [.int .i64 ((rd_T79 t780 x23_1).f0),.int .i64 ((rd_T79 t780 x23_1).f1),.int .i64 ((rd_T79 t780 x23_1).f2)] (fun k_=>some k_≠ (.slice (some ad781) t780.length co9:Value).ownBlock∧k_≠gb782) (fun _=>False) rfl rfl ?aP (fun _ hk=>hk.elim) ?aF ?aO ?aB ?aS ?aL ?_;(case aP=>exact k79_mkM _ _ _ (⟨(rd_T79 t780 x23_1).f0,(rd_T79 t780 x23_1).f1,(rd_T79 t780 x23_1).f2⟩ :S79));(case aB=>exact(by exact zk2 HB GE782.out));(case aF=>exact(fun k_ hk=>⟨Kd.fresh' (Kd.R_lt (zq4 HO_21)) k_ hk,Kd.freshB (g:=gb782) (o:= .cells #[.int .i64 ((rd_T79 t780 x23_1).f0),.int .i64 ((rd_T79 t780 x23_1).f1),.int .i64 ((rd_T79 t780 x23_1).f2)] 79 (0,0)) (zq3 BK782) k_ hk⟩));(case aO=>exact(zq4 HO_8));(case aS=>exact(below_size (by exact zk2 HB GE782.out)));(case aL=>have:=LMc26.out;omega);intro v789 w33 ho hb hg hat;rw [← Ny788.out] at ho;have HO790:=Aside0.mk (ho);replace HO_21:=Aside0.mk (Kd.R_after (ok:=(fun k_=>k_≠gb782)) (by(with_reducible repeat(first|apply Kd.R_alloc|apply Kd.R_drewN|apply Kd.R_drew));exact Kd.R_mono HO_21.out (fun _ hk=>⟨hk.2,hk.1⟩)) hg hat);replace BK782:=Aside0.mk (blk_grown (g:=gb782) (o:= .cells #[.int .i64 ((rd_T79 t780 x23_1).f0),.int .i64 ((rd_T79 t780 x23_1).f1),.int .i64 ((rd_T79 t780 x23_1).f2)] 79 (0,0)) (zq3 BK782) hg (Kd.R_away HO_8.out (fun _ hk=>hk.2)));replace HO785:=Aside0.mk (Kd.R_over' (zq4 HO785) (Kd.R_typed (zq4 HO_8)) (by decide) hg);replace HB:=Aside0.mk (hb);clear HO_8;clear ho hb hg hat;have hcz34_0:=zcz BK782 0 (.int .i64 ((rd_T79 t780 x23_1).f0));have hcz34_1:=zcz BK782 1 (.int .i64 ((rd_T79 t780 x23_1).f1));have hcz34_2:=zcz BK782 2 (.int .i64 ((rd_T79 t780 x23_1).f2));have hfz34_0:=blk_frozen BK782.out 0;have hfz34_1:=blk_frozen BK782.out 1;have hfz34_2:=blk_frozen BK782.out 2)))
      (try simp only [← hl21_1])
      go_roundg k1
      case measure=>have:=HK1.out;omega
      case rel=>exact⟨(y788),(wrap64 (x9_1+ ((rd_T79 t780 x23_1).f2))),(wrap64 (x23_1+1)),zrs,zrs,H',⟨by have:=HK1.out;omega⟩,⟨by(try simp only [hl21_1]);(with_reducible repeat(first|apply Kd.R_alloc|apply Kd.R_drewN|apply Kd.R_drew));exact Kd.R_mono HO790.out (fun _ hk=>hk.1)⟩,⟨by(try simp only [hl21_1]);(with_reducible repeat(first|apply Kd.R_alloc|apply Kd.R_drewN|apply Kd.R_drew));exact Kd.R_mono HO_21.out (fun _ hk=>hk.2)⟩,⟨by exact zk2 HB GE782.out⟩⟩
    ·rw [if_neg c11] at H
     have c11b0:decide (x23_1< (t777.length:Int))=false:=decide_eq_false c11
     (try(have c11b0L:=c11b0;simp only [hl21_1] at c11b0L))
     clear c11
     simp only [Option.some.injEq,Prod.mk.injEq] at H
     obtain⟨rfl,rfl,rfl⟩:=H
     go_wp2
     repeat(go_quiet (fail);try go_wp2)
     go_ret3
     exact⟨_,zer,by(with_reducible repeat(first|apply Kd.R_alloc|apply Kd.R_drewN|apply Kd.R_drew));exact Kd.R_mono HO_8.out (fun _ hk=>trivial),by exact zk1 HB⟩
 ·replace c4:=Bool.eq_false_iff.mpr c4
  subst c4
  have H1:(some (([] :List (S79)),0,false))=some (r1,r2,r3):=by rw [if_neg (show ¬ (false=true) by decide)] at H;exact H
  clear H
  have H:=H1
  clear H1
  simp only [Option.some.injEq,Prod.mk.injEq] at H
  obtain⟨rfl,rfl,rfl⟩:=H
  go_enter Try.func42,Try.ntmps42
  go_wp2_with (first|(go_at_call 69;(with_reducible refine(impl_GoodEdges.calls k a0 _ _ l1 false _ ?side1 ?side2 A3.out).mono ?_);(case side1=>exact zcc (HR1.out));(case side2=>exact HC1.out);rintro e w35 ⟨rfl,hb⟩;replace HB:=Aside0.mk (below_step (by exact zk1 HB) hb);(try clear hb);(try clear hb2);(try clear hk);(try clear hi)))
  repeat(go_quiet (first|(go_at_call 69;(with_reducible refine(impl_GoodEdges.calls k a0 _ _ l1 false _ ?side1 ?side2 A3.out).mono ?_);(case side1=>exact zcc (HR1.out));(case side2=>exact HC1.out);rintro e w35 ⟨rfl,hb⟩;replace HB:=Aside0.mk (below_step (by exact zk1 HB) hb);(try clear hb);(try clear hb2);(try clear hk);(try clear hi)));try go_wp2_with (first|(go_at_call 69;(with_reducible refine(impl_GoodEdges.calls k a0 _ _ l1 false _ ?side1 ?side2 A3.out).mono ?_);(case side1=>exact zcc (HR1.out));(case side2=>exact HC1.out);rintro e w35 ⟨rfl,hb⟩;replace HB:=Aside0.mk (below_step (by exact zk1 HB) hb);(try clear hb);(try clear hb2);(try clear hk);(try clear hi))))
  go_ret3
  exact⟨_,zer,by first|exact Kd.R_nil _ _ _ _ _|exact Kd.N_nil _ _ _ _ _|exact Kd.V_nil _ _ _ _ _|exact Kd.Q_nil _ _ _ _ _|exact Kd.S_nil _ _ _ _ _,by exact zk1 HB⟩
theorem eqA79 (d:Nat) (w:World) (x0 y0:Int) (x1 y1:Int) (x2 y2:Int):
  (Op.equalIn (d+2) 79 (.agg #[.int .i64 x0,.int .i64 x1,.int .i64 x2]) (.agg #[.int .i64 y0,.int .i64 y1,.int .i64 y2])).run Try.prog w= .ok (x0==y0 && (x1==y1 && (x2==y2))) w:=by
 refine eqA_of Try.underlying79 (by kernel_rfl) ?_
 refine eqf_cons (by rfl) (by go_simp;rfl) (by go_simp;rfl) (by go_simp) ?_
 refine eqf_cons (by rfl) (by go_simp;rfl) (by go_simp;rfl) (by go_simp) ?_
 exact eqf_last (by rfl) (by go_simp;rfl) (by go_simp;rfl) (by go_simp)
/-- A state of type 94 at block g of W; what its slices lead to came in by w0. -/
def IsS94 (w0 W:World) (g:Nat) (f0:List Int) (f1:Int) (f2:Int):Prop:= ∃ A0 c0,W.heap[g]?=some (.cells #[.slice A0 f0.length c0,.int .i64 f1,.int .u64 f2] 94 (0,0))∧w0.heap.size≤g∧Kd.C (Kd.int .u8) w0 A0 f0.length f0
theorem IsS94.grown {w0 W:World} {g:Nat} {f0:List Int} {f1:Int} {f2:Int} {W1:World} {row:Option Nat} (h:IsS94 w0 W g f0 f1 f2) (hw:W.grownBy W1 row) (hne:some g≠row):IsS94 w0 W1 g f0 f1 f2:=by
 obtain⟨A0,c0,hb,hg,hr0⟩:=h
 exact⟨A0,c0,blk_grown hb hw hne,hg,hr0⟩
theorem IsS94.below {w0 W:World} {g:Nat} {f0:List Int} {f1:Int} {f2:Int} {W1:World} (h:IsS94 w0 W g f0 f1 f2) (hw:Below W.heap.size W W1):IsS94 w0 W1 g f0 f1 f2:=h.grown (grown_of_below hw none) (by simp)
theorem IsS94.drewN {w0 W:World} {g:Nat} {f0:List Int} {f1:Int} {f2:Int} (h:IsS94 w0 W g f0 f1 f2) (m:Nat):IsS94 w0 (W.drewN m) g f0 f1 f2:=h
theorem IsS94.apart {w0 W:World} {g:Nat} {f0:List Int} {f1:Int} {f2:Int} {α :Type} {d:Kd α} {e:Nat} {base:Nat} {ok:Nat→Prop} {v:Value} {xs:List α} (h:IsS94 w0 W g f0 f1 f2) (ho:d.R e W base ok v xs) (ht:∀ q,q ∈ e::d.E→q≠94):d.R e W base (fun k=>ok k∧k≠g) v xs:=by
 obtain⟨A0,c0,hb,hg,hr0⟩:=h
 exact Kd.R_types ho hb ht
theorem IsS94.own_ne {w0 W:World} {g:Nat} {f0:List Int} {f1:Int} {f2:Int} {α :Type} {d:Kd α} {e:Nat} {base:Nat} {ok:Nat→Prop} {v:Value} {xs:List α} (h:IsS94 w0 W g f0 f1 f2) (ho:d.R e W base ok v xs) (ht:e≠94):some g≠v.ownBlock:=by
 obtain⟨A0,c0,hb,hg,hr0⟩:=h
 exact Kd.R_ne ho hb ht
theorem IsS94.ge {w0 W:World} {g:Nat} {f0:List Int} {f1:Int} {f2:Int} (h:IsS94 w0 W g f0 f1 f2):w0.heap.size≤g:=by
 obtain⟨A0,c0,hb,hg,hr0⟩:=h
 exact hg
theorem cellS94_0 {W:World} {g:Nat} {A0:Option Addr} {c0:Nat} {f0:List Int} {f1:Int} {f2:Int} (h:W.heap[g]?=some (.cells #[.slice A0 f0.length c0,.int .i64 f1,.int .u64 f2] 94 (0,0))):W.cell? ⟨g,0,none⟩=some (.slice A0 f0.length c0):=(blk_cell h 0).trans rfl
theorem cellS94_1 {W:World} {g:Nat} {A0:Option Addr} {c0:Nat} {f0:List Int} {f1:Int} {f2:Int} (h:W.heap[g]?=some (.cells #[.slice A0 f0.length c0,.int .i64 f1,.int .u64 f2] 94 (0,0))):W.cell? ⟨g,1,none⟩=some (.int .i64 f1):=(blk_cell h 1).trans rfl
theorem IsS94.set_1 {w0 W:World} {g:Nat} {f0:List Int} {f1:Int} {f2:Int} (h:IsS94 w0 W g f0 f1 f2) (x:Int):IsS94 w0 (W.setCell ⟨g,1,none⟩ (.int .i64 x)) g f0 x f2:=by
 obtain⟨A0,c0,hb,hg,hr0⟩:=h
 exact⟨A0,c0,by simpa using blk_set hb 1 (.int .i64 x),hg,hr0⟩
theorem cellS94_2 {W:World} {g:Nat} {A0:Option Addr} {c0:Nat} {f0:List Int} {f1:Int} {f2:Int} (h:W.heap[g]?=some (.cells #[.slice A0 f0.length c0,.int .i64 f1,.int .u64 f2] 94 (0,0))):W.cell? ⟨g,2,none⟩=some (.int .u64 f2):=(blk_cell h 2).trans rfl
theorem IsS94.set_2 {w0 W:World} {g:Nat} {f0:List Int} {f1:Int} {f2:Int} (h:IsS94 w0 W g f0 f1 f2) (x:Int):IsS94 w0 (W.setCell ⟨g,2,none⟩ (.int .u64 x)) g f0 f1 x:=by
 obtain⟨A0,c0,hb,hg,hr0⟩:=h
 exact⟨A0,c0,by simpa using blk_set hb 2 (.int .u64 x),hg,hr0⟩
def spec_l1Cur_next.f (s0_0:List Int) (s0_1:Int) (s0_2:Int):Option (Int × Int × Int):=if s0_1< (s0_0.length:Int) then(if 0≤s0_1 then(if (wrap64 (s0_1+1))≤ (s0_0.length:Int) then(some (wrap64 (rd s0_0 s0_1),wrap64 (s0_1+1),IntKind.u64.wrap ((IntKind.u64.wrap ((IntKind.u64.wrap (s0_2 * 6364136223846793005))+ (IntKind.u64.wrap (wrap64 (rd s0_0 s0_1)))))+1442695040888963407))) else(some (wrap64 (Go.bits .and .u64 ((IntKind.u64.wrap ((IntKind.u64.wrap ((IntKind.u64.wrap (s0_2 * 6364136223846793005))+ (IntKind.u64.wrap (wrap64 (rd s0_0 s0_1)))))+1442695040888963407)) / 1099511627776) 255),wrap64 (s0_1+1),IntKind.u64.wrap ((IntKind.u64.wrap ((IntKind.u64.wrap (s0_2 * 6364136223846793005))+ (IntKind.u64.wrap (wrap64 (rd s0_0 s0_1)))))+1442695040888963407)))) else(none)) else(if (wrap64 (s0_1+1))≤ (s0_0.length:Int) then(some (0,wrap64 (s0_1+1),IntKind.u64.wrap ((IntKind.u64.wrap ((IntKind.u64.wrap (s0_2 * 6364136223846793005))))+1442695040888963407))) else(some (wrap64 (Go.bits .and .u64 ((IntKind.u64.wrap ((IntKind.u64.wrap ((IntKind.u64.wrap (s0_2 * 6364136223846793005))))+1442695040888963407)) / 1099511627776) 255),wrap64 (s0_1+1),IntKind.u64.wrap ((IntKind.u64.wrap ((IntKind.u64.wrap (s0_2 * 6364136223846793005))))+1442695040888963407))))
theorem zk6 {q p:Prop} (b:Aside0 q) (h:q→p:=by intro z;repeat(first|(with_reducible first|exact z|apply IsS94.alloc|apply IsS94.drewN|apply IsS94.drew|apply IsS94.set_1|apply IsS94.set_2)|exact z)):p:=h b.out
theorem zk7 {q p:Prop} (b:Aside0 q) (h:q→p:=by intro z;repeat(first|(with_reducible first|exact z|apply KeepBut.set_|apply keep_drewN|apply keep_drew|apply keep_alloc)|exact z)):p:=h b.out
set_option maxHeartbeats 8000000 in
set_option maxRecDepth 100000 in
theorem spec_l1Cur_next.calls (g:Nat) (s0_0:List Int) (s0_1:Int) (s0_2:Int) (r1:Int) (r2:Int) (r3:Int) (w0 w:World) (hI:IsS94 w0 w g s0_0 s0_1 s0_2) (hB:Below w0.heap.size w0 w) (h:spec_l1Cur_next.f s0_0 s0_1 s0_2=some (r1,r2,r3)):
  Calls Try.prog 103 #[.pointer (some ⟨g,0,none⟩)] w fun e w'=>e= .returned (.int .i64 r1)∧IsS94 w0 w' g s0_0 r2 r3∧Below w0.heap.size w0 w'∧KeepBut w w' g none:=by
 have HI0:=Aside0.mk hI
 have HK:=Aside0.mk (KeepBut.refl w g none)
 have HL:=Aside0.mk hB.size
 clear hI
 have HW0:=Aside0.mk hB.size
 have HB:=Aside0.mk hB
 clear hB
 have H:(if s0_1< (s0_0.length:Int) then(if 0≤s0_1 then(if (wrap64 (s0_1+1))≤ (s0_0.length:Int) then(some (wrap64 (rd s0_0 s0_1),wrap64 (s0_1+1),IntKind.u64.wrap ((IntKind.u64.wrap ((IntKind.u64.wrap (s0_2 * 6364136223846793005))+ (IntKind.u64.wrap (wrap64 (rd s0_0 s0_1)))))+1442695040888963407))) else(some (wrap64 (Go.bits .and .u64 ((IntKind.u64.wrap ((IntKind.u64.wrap ((IntKind.u64.wrap (s0_2 * 6364136223846793005))+ (IntKind.u64.wrap (wrap64 (rd s0_0 s0_1)))))+1442695040888963407)) / 1099511627776) 255),wrap64 (s0_1+1),IntKind.u64.wrap ((IntKind.u64.wrap ((IntKind.u64.wrap (s0_2 * 6364136223846793005))+ (IntKind.u64.wrap (wrap64 (rd s0_0 s0_1)))))+1442695040888963407)))) else(none)) else(if (wrap64 (s0_1+1))≤ (s0_0.length:Int) then(some (0,wrap64 (s0_1+1),IntKind.u64.wrap ((IntKind.u64.wrap ((IntKind.u64.wrap (s0_2 * 6364136223846793005))))+1442695040888963407))) else(some (wrap64 (Go.bits .and .u64 ((IntKind.u64.wrap ((IntKind.u64.wrap ((IntKind.u64.wrap (s0_2 * 6364136223846793005))))+1442695040888963407)) / 1099511627776) 255),wrap64 (s0_1+1),IntKind.u64.wrap ((IntKind.u64.wrap ((IntKind.u64.wrap (s0_2 * 6364136223846793005))))+1442695040888963407)))))=some (r1,r2,r3):=h
 clear h
 by_cases c2:s0_1< (s0_0.length:Int)
 ·rw [if_pos c2] at H
  have c2b0:decide (s0_1< (s0_0.length:Int))=true:=decide_eq_true c2
  clear c2
  by_cases c3: 0≤s0_1
  case neg=>exact znn c3 H
  rw [if_pos c3] at H
  have c3b0:decide (0≤s0_1)=true:=decide_eq_true c3
  clear c3
  by_cases c4:(wrap64 (s0_1+1))≤ (s0_0.length:Int)
  ·rw [if_pos c4] at H
   have c4b0:decide ((wrap64 (s0_1+1))≤ (s0_0.length:Int))=true:=decide_eq_true c4
   clear c4
   simp only [Option.some.injEq,Prod.mk.injEq] at H
   obtain⟨rfl,rfl,rfl⟩:=H
   obtain⟨ASz5_0,cSz5_0,HGz5,hgz5,HSz5_0⟩:=HI0.out
   have hcz5_0:=cellS94_0 HGz5
   have hcz5_1:=cellS94_1 HGz5
   have hcz5_2:=cellS94_2 HGz5
   have hfz5_1:=blk_frozen HGz5 1
   have hfz5_2:=blk_frozen HGz5 2
   clear HGz5 hgz5
   have p832: 0≤ (s0_1:Int):=of_decide_eq_true zq1
   have q832:s0_1< (s0_0.length:Int):=of_decide_eq_true zq1
   obtain⟨ad832,e832,hx832_0⟩:=Kd.at_int HSz5_0 s0_1 p832 q832
   cases e832
   replace hx832_0:=pw_cell_below HB.out hx832_0
   replace p832:=eq_true p832
   replace q832:=eq_true q832
   go_enter Try.func103,Try.ntmps103
   go_wp2
   repeat(go_quiet (fail);try go_wp2)
   go_ret
   exact⟨zer,by exact zk6 HI0,by exact zk2 HB (IsS94.ge HI0.out),by exact zk7 HK⟩
  ·rw [if_neg c4] at H
   have c4b0:decide ((wrap64 (s0_1+1))≤ (s0_0.length:Int))=false:=decide_eq_false c4
   clear c4
   simp only [Option.some.injEq,Prod.mk.injEq] at H
   obtain⟨rfl,rfl,rfl⟩:=H
   obtain⟨ASz6_0,cSz6_0,HGz6,hgz6,HSz6_0⟩:=HI0.out
   have hcz6_0:=cellS94_0 HGz6
   have hcz6_1:=cellS94_1 HGz6
   have hcz6_2:=cellS94_2 HGz6
   have hfz6_1:=blk_frozen HGz6 1
   have hfz6_2:=blk_frozen HGz6 2
   clear HGz6 hgz6
   have p832: 0≤ (s0_1:Int):=of_decide_eq_true zq1
   have q832:s0_1< (s0_0.length:Int):=of_decide_eq_true zq1
   obtain⟨ad832,e832,hx832_0⟩:=Kd.at_int HSz6_0 s0_1 p832 q832
   cases e832
   replace hx832_0:=pw_cell_below HB.out hx832_0
   replace p832:=eq_true p832
   replace q832:=eq_true q832
   go_enter Try.func103,Try.ntmps103
   go_wp2
   repeat(go_quiet (fail);try go_wp2)
   go_ret
   exact⟨zer,by exact zk6 HI0,by exact zk2 HB (IsS94.ge HI0.out),by exact zk7 HK⟩
 ·rw [if_neg c2] at H
  have c2b0:decide (s0_1< (s0_0.length:Int))=false:=decide_eq_false c2
  clear c2
  by_cases c7:(wrap64 (s0_1+1))≤ (s0_0.length:Int)
  ·rw [if_pos c7] at H
   have c7b0:decide ((wrap64 (s0_1+1))≤ (s0_0.length:Int))=true:=decide_eq_true c7
   clear c7
   simp only [Option.some.injEq,Prod.mk.injEq] at H
   obtain⟨rfl,rfl,rfl⟩:=H
   obtain⟨ASz8_0,cSz8_0,HGz8,hgz8,HSz8_0⟩:=HI0.out
   have hcz8_0:=cellS94_0 HGz8
   have hcz8_1:=cellS94_1 HGz8
   have hcz8_2:=cellS94_2 HGz8
   have hfz8_1:=blk_frozen HGz8 1
   have hfz8_2:=blk_frozen HGz8 2
   clear HGz8 hgz8
   go_enter Try.func103,Try.ntmps103
   go_wp2
   repeat(go_quiet (fail);try go_wp2)
   go_ret
   exact⟨zer,by exact zk6 HI0,by exact zk2 HB (IsS94.ge HI0.out),by exact zk7 HK⟩
  ·rw [if_neg c7] at H
   have c7b0:decide ((wrap64 (s0_1+1))≤ (s0_0.length:Int))=false:=decide_eq_false c7
   clear c7
   simp only [Option.some.injEq,Prod.mk.injEq] at H
   obtain⟨rfl,rfl,rfl⟩:=H
   obtain⟨ASz9_0,cSz9_0,HGz9,hgz9,HSz9_0⟩:=HI0.out
   have hcz9_0:=cellS94_0 HGz9
   have hcz9_1:=cellS94_1 HGz9
   have hcz9_2:=cellS94_2 HGz9
   have hfz9_1:=blk_frozen HGz9 1
   have hfz9_2:=blk_frozen HGz9 2
   clear HGz9 hgz9
   go_enter Try.func103,Try.ntmps103
   go_wp2
   repeat(go_quiet (fail);try go_wp2)
   go_ret
   exact⟨zer,by exact zk6 HI0,by exact zk2 HB (IsS94.ge HI0.out),by exact zk7 HK⟩
def spec_l1Cur_pick.f (s0_0:List Int) (s0_1:Int) (s0_2:Int) (a1:Int):Option (Int × Int × Int):=if a1≤1 then(some (0,s0_1,s0_2)) else((spec_l1Cur_next.f s0_0 s0_1 s0_2).bind fun bt833=>(if a1 > 200 then((spec_l1Cur_next.f s0_0 bt833.2.1 bt833.2.2).bind fun bt836=>(if a1=0 then(none) else(some (Int.tmod (wrap64 ((wrap64 (bt833.1 * 256))+bt836.1)) a1,bt836.2.1,bt836.2.2)))) else(if a1=0 then(none) else(some (Int.tmod bt833.1 a1,bt833.2.1,bt833.2.2)))))
set_option maxHeartbeats 8000000 in
set_option maxRecDepth 100000 in
theorem spec_l1Cur_pick.calls (g:Nat) (s0_0:List Int) (s0_1:Int) (s0_2:Int) (a1:Int) (r1:Int) (r2:Int) (r3:Int) (w0 w:World) (hI:IsS94 w0 w g s0_0 s0_1 s0_2) (hB:Below w0.heap.size w0 w) (h:spec_l1Cur_pick.f s0_0 s0_1 s0_2 a1=some (r1,r2,r3)):
  Calls Try.prog 87 #[.pointer (some ⟨g,0,none⟩),.int .i64 a1] w fun e w'=>e= .returned (.int .i64 r1)∧IsS94 w0 w' g s0_0 r2 r3∧Below w0.heap.size w0 w'∧KeepBut w w' g none:=by
 have HI0:=Aside0.mk hI
 have HK:=Aside0.mk (KeepBut.refl w g none)
 have HL:=Aside0.mk hB.size
 clear hI
 have HW0:=Aside0.mk hB.size
 have HB:=Aside0.mk hB
 clear hB
 have H:(if a1≤1 then(some (0,s0_1,s0_2)) else((spec_l1Cur_next.f s0_0 s0_1 s0_2).bind fun bt833=>(if a1 > 200 then((spec_l1Cur_next.f s0_0 bt833.2.1 bt833.2.2).bind fun bt836=>(if a1=0 then(none) else(some (Int.tmod (wrap64 ((wrap64 (bt833.1 * 256))+bt836.1)) a1,bt836.2.1,bt836.2.2)))) else(if a1=0 then(none) else(some (Int.tmod bt833.1 a1,bt833.2.1,bt833.2.2))))))=some (r1,r2,r3):=h
 clear h
 by_cases c3:a1≤1
 ·rw [if_pos c3] at H
  have c3b0:decide (a1≤1)=true:=decide_eq_true c3
  clear c3
  simp only [Option.some.injEq,Prod.mk.injEq] at H
  obtain⟨rfl,rfl,rfl⟩:=H
  go_enter Try.func87,Try.ntmps87
  go_wp2
  go_ret
  exact⟨zer,by exact zk6 HI0,by exact zk2 HB (IsS94.ge HI0.out),by exact zk7 HK⟩
 ·rw [if_neg c3] at H
  have c3b0:decide (a1≤1)=false:=decide_eq_false c3
  clear c3
  replace H:=Option.bind_eq_some_iff.mp H
  obtain⟨⟨t833,t834,t835⟩,A40,H⟩:=H
  replace H:(if a1 > 200 then((spec_l1Cur_next.f s0_0 t834 t835).bind fun bt836=>(if a1=0 then(none) else(some (Int.tmod (wrap64 ((wrap64 (t833 * 256))+bt836.1)) a1,bt836.2.1,bt836.2.2)))) else(if a1=0 then(none) else(some (Int.tmod t833 a1,t834,t835))))=some (r1,r2,r3):=H
  have A4:=Aside0.mk A40
  clear A40
  by_cases c5:a1 > 200
  ·rw [if_pos c5] at H
   have c5b0:decide (200<a1)=true:=decide_eq_true c5
   clear c5
   replace H:=Option.bind_eq_some_iff.mp H
   obtain⟨⟨t836,t837,t838⟩,A60,H⟩:=H
   replace H:(if a1=0 then(none) else(some (Int.tmod (wrap64 ((wrap64 (t833 * 256))+t836)) a1,t837,t838)))=some (r1,r2,r3):=H
   have A6:=Aside0.mk A60
   clear A60
   by_cases c7:a1=0
   ·rw [if_pos c7] at H
    exact absurd H (by simp)
   ·rw [if_neg c7] at H
    have c7b0:(a1==0)=false:=beq_eq_false_iff_ne.mpr c7
    have c7b1:(a1 !=0)=true:=bne_iff_ne.mpr c7
    simp only [Option.some.injEq,Prod.mk.injEq] at H
    obtain⟨rfl,rfl,rfl⟩:=H
    go_enter Try.func87,Try.ntmps87
    go_wp2_with (first|((with_reducible refine gate_callee (f:=103) rfl ?_);refine goesL_ (some 9) rfl rfl Try.func103 (by kernel_rfl) rfl #[.pointer (some ⟨g,0,none⟩)] rfl zq2 ?_;(with_reducible refine(spec_l1Cur_next.calls g s0_0 s0_1 s0_2 t833 t834 t835 w0 _ ?side1 ?side2 A4.out).mono ?_);(case side1=>exact zk6 HI0);(case side2=>exact zk2 HB (IsS94.ge HI0.out));rintro e w8 ⟨rfl,hi,hb,hk⟩;refine⟨_,rfl,?_⟩;replace HK:=Aside0.mk (KeepBut.trans (by exact zk7 HK) hk (.inl rfl));replace HB:=Aside0.mk (hb);replace HI0:=Aside0.mk (hi);(try clear hb);(try clear hb2);(try clear hk);(try clear hi))|((with_reducible refine gate_callee (f:=103) rfl ?_);refine goesL_ (some 15) rfl rfl Try.func103 (by kernel_rfl) rfl #[.pointer (some ⟨g,0,none⟩)] rfl zq2 ?_;(with_reducible refine(spec_l1Cur_next.calls g s0_0 t834 t835 t836 t837 t838 w0 _ ?side1 ?side2 A6.out).mono ?_);(case side1=>exact zk6 HI0);(case side2=>exact zk2 HB (IsS94.ge HI0.out));rintro e w9 ⟨rfl,hi,hb,hk⟩;refine⟨_,rfl,?_⟩;replace HK:=Aside0.mk (KeepBut.trans (by exact zk7 HK) hk (.inl rfl));replace HB:=Aside0.mk (hb);replace HI0:=Aside0.mk (hi);(try clear hb);(try clear hb2);(try clear hk);(try clear hi)))
    go_ret
    exact⟨zer,by exact zk6 HI0,by exact zk2 HB (IsS94.ge HI0.out),by exact zk7 HK⟩
  ·rw [if_neg c5] at H
   have c5b0:decide (200<a1)=false:=decide_eq_false c5
   clear c5
   by_cases c10:a1=0
   ·rw [if_pos c10] at H
    exact absurd H (by simp)
   ·rw [if_neg c10] at H
    have c10b0:(a1==0)=false:=beq_eq_false_iff_ne.mpr c10
    have c10b1:(a1 !=0)=true:=bne_iff_ne.mpr c10
    simp only [Option.some.injEq,Prod.mk.injEq] at H
    obtain⟨rfl,rfl,rfl⟩:=H
    go_enter Try.func87,Try.ntmps87
    go_wp2_with (first|((with_reducible refine gate_callee (f:=103) rfl ?_);refine goesL_ (some 9) rfl rfl Try.func103 (by kernel_rfl) rfl #[.pointer (some ⟨g,0,none⟩)] rfl zq2 ?_;(with_reducible refine(spec_l1Cur_next.calls g s0_0 s0_1 s0_2 t833 t834 t835 w0 _ ?side1 ?side2 A4.out).mono ?_);(case side1=>exact zk6 HI0);(case side2=>exact zk2 HB (IsS94.ge HI0.out));rintro e w11 ⟨rfl,hi,hb,hk⟩;refine⟨_,rfl,?_⟩;replace HK:=Aside0.mk (KeepBut.trans (by exact zk7 HK) hk (.inl rfl));replace HB:=Aside0.mk (hb);replace HI0:=Aside0.mk (hi);(try clear hb);(try clear hb2);(try clear hk);(try clear hi)))
    go_ret
    exact⟨zer,by exact zk6 HI0,by exact zk2 HB (IsS94.ge HI0.out),by exact zk7 HK⟩
def spec_l1Cur_one.f (s0_0:List Int) (s0_1:Int) (s0_2:Int) (a1:Int):Option (Bool × Int × Int):=(spec_l1Cur_pick.f s0_0 s0_1 s0_2 a1).bind fun bt839=>(some ((bt839.1==0),bt839.2.1,bt839.2.2))
set_option maxHeartbeats 8000000 in
set_option maxRecDepth 100000 in
theorem spec_l1Cur_one.calls (g:Nat) (s0_0:List Int) (s0_1:Int) (s0_2:Int) (a1:Int) (r1:Bool) (r2:Int) (r3:Int) (w0 w:World) (hI:IsS94 w0 w g s0_0 s0_1 s0_2) (hB:Below w0.heap.size w0 w) (h:spec_l1Cur_one.f s0_0 s0_1 s0_2 a1=some (r1,r2,r3)):
  Calls Try.prog 91 #[.pointer (some ⟨g,0,none⟩),.int .i64 a1] w fun e w'=>e= .returned (.bool r1)∧IsS94 w0 w' g s0_0 r2 r3∧Below w0.heap.size w0 w'∧KeepBut w w' g none:=by
 have HI0:=Aside0.mk hI
 have HK:=Aside0.mk (KeepBut.refl w g none)
 have HL:=Aside0.mk hB.size
 clear hI
 have HW0:=Aside0.mk hB.size
 have HB:=Aside0.mk hB
 clear hB
 have H:((spec_l1Cur_pick.f s0_0 s0_1 s0_2 a1).bind fun bt839=>(some ((bt839.1==0),bt839.2.1,bt839.2.2)))=some (r1,r2,r3):=h
 clear h
 replace H:=Option.bind_eq_some_iff.mp H
 obtain⟨⟨t839,t840,t841⟩,A30,H⟩:=H
 replace H:(some ((t839==0),t840,t841))=some (r1,r2,r3):=H
 have A3:=Aside0.mk A30
 clear A30
 simp only [Option.some.injEq,Prod.mk.injEq] at H
 obtain⟨rfl,rfl,rfl⟩:=H
 go_enter Try.func91,Try.ntmps91
 go_wp2_with (first|((with_reducible refine gate_callee (f:=87) rfl ?_);refine goesL_ (some 7) rfl rfl Try.func87 (by kernel_rfl) rfl #[.pointer (some ⟨g,0,none⟩),.int .i64 a1] rfl zq2 ?_;(with_reducible refine(spec_l1Cur_pick.calls g s0_0 s0_1 s0_2 a1 t839 t840 t841 w0 _ ?side1 ?side2 A3.out).mono ?_);(case side1=>exact zk6 HI0);(case side2=>exact zk2 HB (IsS94.ge HI0.out));rintro e w4 ⟨rfl,hi,hb,hk⟩;refine⟨_,rfl,?_⟩;replace HK:=Aside0.mk (KeepBut.trans (by exact zk7 HK) hk (.inl rfl));replace HB:=Aside0.mk (hb);replace HI0:=Aside0.mk (hi);(try clear hb);(try clear hb2);(try clear hk);(try clear hi)))
 go_ret
 exact⟨zer,by exact zk6 HI0,by exact zk2 HB (IsS94.ge HI0.out),by exact zk7 HK⟩
def spec_l1Cur_among.f (s0_0:List Int) (s0_1:Int) (s0_2:Int) (l1:List Int):Option (Int × Int × Int):=(spec_l1Cur_pick.f s0_0 s0_1 s0_2 (l1.length:Int)).bind fun bt842=>(if 0≤bt842.1 then(if bt842.1< (l1.length:Int) then(some (rd l1 bt842.1,bt842.2.1,bt842.2.2)) else(none)) else(none))
set_option maxHeartbeats 8000000 in
set_option maxRecDepth 100000 in
theorem spec_l1Cur_among.calls (g:Nat) (s0_0:List Int) (s0_1:Int) (s0_2:Int) (A1:Option Addr) (c1:Nat) (l1:List Int) (r1:Int) (r2:Int) (r3:Int) (w0 w:World) (hI:IsS94 w0 w g s0_0 s0_1 s0_2) (hB:Below w0.heap.size w0 w) (hr1:Kd.C (Kd.int .i64) w A1 l1.length l1) (hc1:l1.length≤c1) (hf1:∀ ad,A1=some ad→0<l1.length→ad.block≠g) (h:spec_l1Cur_among.f s0_0 s0_1 s0_2 l1=some (r1,r2,r3)):
  Calls Try.prog 104 #[.pointer (some ⟨g,0,none⟩),.slice A1 l1.length c1] w fun e w'=>e= .returned (.int .i64 r1)∧IsS94 w0 w' g s0_0 r2 r3∧Below w0.heap.size w0 w'∧KeepBut w w' g none:=by
 have HR1:=Aside0.mk hr1
 have HC1:=Aside0.mk hc1
 clear hr1 hc1
 have HI0:=Aside0.mk hI
 have HK:=Aside0.mk (KeepBut.refl w g none)
 have HL:=Aside0.mk hB.size
 clear hI
 have HW0:=Aside0.mk hB.size
 have HB:=Aside0.mk hB
 clear hB
 have H:((spec_l1Cur_pick.f s0_0 s0_1 s0_2 (l1.length:Int)).bind fun bt842=>(if 0≤bt842.1 then(if bt842.1< (l1.length:Int) then(some (rd l1 bt842.1,bt842.2.1,bt842.2.2)) else(none)) else(none)))=some (r1,r2,r3):=h
 clear h
 replace H:=Option.bind_eq_some_iff.mp H
 obtain⟨⟨t842,t843,t844⟩,A30,H⟩:=H
 replace H:(if 0≤t842 then(if t842< (l1.length:Int) then(some (rd l1 t842,t843,t844)) else(none)) else(none))=some (r1,r2,r3):=H
 have A3:=Aside0.mk A30
 clear A30
 by_cases c4: 0≤t842
 case neg=>exact znn c4 H
 rw [if_pos c4] at H
 have c4b0:decide (0≤t842)=true:=decide_eq_true c4
 clear c4
 by_cases c5:t842< (l1.length:Int)
 case neg=>exact znn c5 H
 rw [if_pos c5] at H
 have c5b0:decide (t842< (l1.length:Int))=true:=decide_eq_true c5
 clear c5
 simp only [Option.some.injEq,Prod.mk.injEq] at H
 obtain⟨rfl,rfl,rfl⟩:=H
 go_enter Try.func104,Try.ntmps104
 go_wp2_with (first|((with_reducible refine gate_callee (f:=87) rfl ?_);refine goesL_ (some 9) rfl rfl Try.func87 (by kernel_rfl) rfl #[.pointer (some ⟨g,0,none⟩),.int .i64 (l1.length:Int)] rfl zq2 ?_;(with_reducible refine(spec_l1Cur_pick.calls g s0_0 s0_1 s0_2 (l1.length:Int) t842 t843 t844 w0 _ ?side1 ?side2 A3.out).mono ?_);(case side1=>exact zk6 HI0);(case side2=>exact zk2 HB (IsS94.ge HI0.out));rintro e w6 ⟨rfl,hi,hb,hk⟩;refine⟨_,rfl,?_⟩;replace HK:=Aside0.mk (KeepBut.trans (by exact zk7 HK) hk (.inl rfl));replace HB:=Aside0.mk (hb);replace HI0:=Aside0.mk (hi);(try clear hb);(try clear hb2);(try clear hk);(try clear hi);have p845: 0≤ (t842:Int):=of_decide_eq_true zq1;have q845:t842< (l1.length:Int):=of_decide_eq_true zq1;obtain⟨ad845,e845,hx845_0⟩:=Kd.at_int HR1.out t842 p845 q845;cases e845;replace hx845_0:=keep_cell HK.out hx845_0 (by first|(rw [add_block];exact hf1 _ rfl (by omega))|exact hf1 _ rfl (by omega)|exact hf1 ad845 rfl (by omega));replace p845:=eq_true p845;replace q845:=eq_true q845))
 go_ret
 exact⟨zer,by exact zk6 HI0,by exact zk2 HB (IsS94.ge HI0.out),by exact zk7 HK⟩
end Go.Proofs.Ytedegfbheihopaa.P
