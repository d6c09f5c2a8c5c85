/- Functions, walks and plain lemmas that the law FnMatches reaches, part 4. -/
import Derived.Test.YtoipbblhmcpneaaCFnMatches3
import Derived.Below
import Derived.Deep.Draws
import Derived.Deep.AppendLies
import Derived.Maps.AppendAt
import Derived.OwnWalk
import Derived.Laws.BytesArg
import Derived.Laws.MakeOwn
import Derived.Laws.OwnMore
import Derived.Deep.OwnRows
import Derived.Tactics
import Derived.Lib.ConvBytes
import Derived.Laws.Slices
import Derived.WalkKit
import Derived.KernelRfl
import Derived.RowKit3
import Derived.Deep.LoopGhost
import Derived.Deep.QuietTactic
import Derived.BigQuiet
import Derived.WideLaws
import Derived.Deep.DeepCutAuto
import Derived.Deep.CutBlock
import Derived.Deep.RegionHeld3
import Derived.Laws.Rows
import Derived.Lib.AppendStr
import Derived.ArgAppend
import Derived.Laws.IdiomCopy
import Derived.OrdersHeld
import Derived.Laws.BitsLemmas
import Derived.RowKit
import Derived.WalkSpells
import Derived.Lib.SliceRun
import Derived.Shelf.Abstract
import Derived.ProofKit
import Derived.OpenShut
import Derived.ShutString
import Derived.ChangeOld
import Derived.SizedLaws
namespace Go.Proofs.Ytoipbblhmcpneaa.P
open Go.RowKit Go.Proofs.YtoipbblhmcpneaaW.PrintWords Go.Proofs.YtoipbblhmcpneaaW.PrintLast Go.Proofs.YtoipbblhmcpneaaW.PrintMore
attribute [local go_sem] max2_int min2_int max_two min_two max_three min_three max_four min_four   -- for this text's walks alone
set_option linter.unusedVariables false
set_option linter.unusedSimpArgs false
mutual
def spec_MatchAll.l0:Nat→List Int→Int→Int→List (List Int)→List (List Int)→List Int→Option (List Int × Bool)
 | 0,_,_,_,_,_,_=>none
 |k+1,x4,x14,x15,x641000,x641001,x641002=>if x15<x14 then(if x4.length< 17592186044416 then(spec_MatchAll.l0 k (x4++ [(-1)]) x14 (wrap64 (x15+1)) x641000 x641001 x641002) else(none)) else(if 0≤ (x4.length:Int) then(if ((x4.length:Int):Int).toNat≤35184372088832 then(spec_MatchAll.l1 k x4 (List.replicate ((x4.length:Int):Int).toNat 0) x641000 x641001 x641002) else(none)) else(none))
def spec_MatchAll.l1:Nat→List Int→List Int→List (List Int)→List (List Int)→List Int→Option (List Int × Bool)
 | 0,_,_,_,_,_=>none
 |k+1,x4,x5,x641000,x641001,x641002=>spec_MatchAll.l2 k x4 x5 (-1) (x4.length:Int) 0 x641000 x641001 x641002
def spec_MatchAll.l2:Nat→List Int→List Int→Int→Int→Int→List (List Int)→List (List Int)→List Int→Option (List Int × Bool)
 | 0,_,_,_,_,_,_,_,_=>none
 |k+1,x4,x5,x6,x25,x26,x641000,x641001,x641002=>if x26<x25 then(if x6< 0 then(if 0≤x26 then(if x26< (x4.length:Int) then(if (rd x4 x26)< 0 then(if x26< (x5.length:Int) then(if (rd x5 x26)< (x641001.length:Int) then(spec_MatchAll.l2 k x4 x5 x26 x25 (wrap64 (x26+1)) x641000 x641001 x641002) else(spec_MatchAll.l2 k x4 x5 x6 x25 (wrap64 (x26+1)) x641000 x641001 x641002)) else(none)) else(spec_MatchAll.l2 k x4 x5 x6 x25 (wrap64 (x26+1)) x641000 x641001 x641002)) else(none)) else(none)) else(spec_MatchAll.l2 k x4 x5 x6 x25 (wrap64 (x26+1)) x641000 x641001 x641002)) else(if x6< 0 then(some (x4,true)) else(if 0≤x6 then(if x6< (x641000.length:Int) then(if x6< (x5.length:Int) then(if 0≤ (rd x5 x6) then(if (rd x5 x6)< ((rd_L1 x641000 x6).length:Int) then((some (x5.set (x6:Int).toNat (wrap64 ((rd x5 x6)+1)):List Int)).bind fun y654=>((spec_l12Would.f k x641000 x641001 x641002 x4 (rd (rd_L1 x641000 x6) (rd x5 x6)) x6).bind fun t655=>(if t655=true then((spec_l12Has.f k x4 (rd (rd_L1 x641000 x6) (rd x5 x6))).bind fun t656=>(if 0≤ (rd (rd_L1 x641000 x6) (rd x5 x6)) then(if (rd (rd_L1 x641000 x6) (rd x5 x6))< (x641002.length:Int) then(if (t656.length:Int)= (rd x641002 (rd (rd_L1 x641000 x6) (rd x5 x6))) then((spec_l12Worst.f k x641000 x641001 x641002 x4 (rd (rd_L1 x641000 x6) (rd x5 x6))).bind fun t660=>(if 0≤t660 then(if t660< (x4.length:Int) then(if x6< (x4.length:Int) then(spec_MatchAll.l1 k ((x4.set (t660:Int).toNat (-1)).set (x6:Int).toNat (rd (rd_L1 x641000 x6) (rd x5 x6))) y654 x641000 x641001 x641002) else(none)) else(none)) else(none))) else(if x6< (x4.length:Int) then(spec_MatchAll.l1 k (x4.set (x6:Int).toNat (rd (rd_L1 x641000 x6) (rd x5 x6))) y654 x641000 x641001 x641002) else(none))) else(none)) else(none))) else(spec_MatchAll.l1 k x4 y654 x641000 x641001 x641002)))) else(none)) else(none)) else(none)) else(none)) else(none)))
end
def spec_MatchAll.f (k:Nat) (l0_0:List (List Int)) (l0_1:List (List Int)) (l0_2:List Int):Option (List Int × Bool):=(spec_GoodWishes.f k l0_0 l0_1 l0_2).bind fun t641=>(if t641=true then(spec_MatchAll.l0 k ([] :List Int) (l0_0.length:Int) 0 l0_0 l0_1 l0_2) else(some (([] :List Int),false)))
def spec_MatchAll.T13:Bool × List (List Nat × List Nat):=(true,[([],[]),([0],[0]),([1],[1]),([2],[2]),([2],[2]),([3,4,2],[2,3,4]),([5,2],[2,5]),([6,2],[2,6]),([2,7],[2,7]),([8,2],[8]),([9],[9]),([9],[9]),([10,11,9],[9,10,11]),([12,9],[9,12]),([9],[9]),([14,9],[9,14]),([15,9],[9,15]),([13,16,9],[9,13,16]),([9,17],[9,17])])
def spec_MatchAll.B13:List Nat:= [0,1,3,7,7,31,63,127,255,511,1023,1023,4095,8191,1023,17407,50175,131071,262143]
theorem spec_MatchAll.tab13:rtab .any (opsOf Try.f35 13)=spec_MatchAll.T13:=by kernel_rfl
theorem spec_MatchAll.bits13:waitsOk spec_MatchAll.T13.2 spec_MatchAll.B13=true:=by kernel_rfl
def spec_MatchAll.T18:Bool × List (List Nat × List Nat):=(true,[([],[]),([0],[0]),([],[]),([1,2],[1,2]),([3],[3]),([],[]),([],[]),([5,6],[5,6]),([7],[7]),([4,8],[4,8]),([9],[9]),([10,0,1,2,3,4,5,6,7,8,9,10],[10])])
def spec_MatchAll.B18:List Nat:= [0,1,0,7,15,0,0,96,224,511,1023,2047]
theorem spec_MatchAll.tab18:rtab .any (opsOf Try.f35 18)=spec_MatchAll.T18:=by kernel_rfl
theorem spec_MatchAll.bits18:waitsOk spec_MatchAll.T18.2 spec_MatchAll.B18=true:=by kernel_rfl
def spec_MatchAll.T21:Bool × List (List Nat × List Nat):=(true,[([],[]),([],[]),([0,1],[0,1]),([2],[2]),([],[]),([4],[4]),([],[]),([5,6],[5,6]),([7],[7]),([3,8],[3,8])])
def spec_MatchAll.B21:List Nat:= [0,0,3,7,0,16,0,112,240,511]
theorem spec_MatchAll.tab21:rtab .any (opsOf Try.f35 21)=spec_MatchAll.T21:=by kernel_rfl
theorem spec_MatchAll.bits21:waitsOk spec_MatchAll.T21.2 spec_MatchAll.B21=true:=by kernel_rfl
set_option maxHeartbeats 8000000 in
set_option maxRecDepth 100000 in
theorem spec_MatchAll.calls (k:Nat) (A0_0:Option Addr) (c0_0:Nat) (l0_0:List (List Int)) (A0_1:Option Addr) (c0_1:Nat) (l0_1:List (List Int)) (A0_2:Option Addr) (c0_2:Nat) (l0_2:List Int) (r1:List Int) (r2:Bool) (w:World) (hr0_0:Kd.C (Kd.slice 3 (Kd.int .i64)) w A0_0 l0_0.length l0_0) (hc0_0:l0_0.length≤c0_0) (hr0_1:Kd.C (Kd.slice 3 (Kd.int .i64)) w A0_1 l0_1.length l0_1) (hc0_1:l0_1.length≤c0_1) (hr0_2:Kd.C (Kd.int .i64) w A0_2 l0_2.length l0_2) (hc0_2:l0_2.length≤c0_2) (h:spec_MatchAll.f k l0_0 l0_1 l0_2=some (r1,r2)):
  Calls Try.prog 35 #[.agg #[.slice A0_0 l0_0.length c0_0,.slice A0_1 l0_1.length c0_1,.slice A0_2 l0_2.length c0_2]] w fun e w'=> ∃ v0_:Value,e= .returned (.tuple #[v0_,.bool r2])∧Kd.R (Kd.int .i64) 3 w' w.heap.size (fun _=>True) v0_ r1∧Below w.heap.size w w':=by
 have hu33:=Try.underlying33
 have HR0_0:=Aside0.mk hr0_0
 have HC0_0:=Aside0.mk hc0_0
 clear hr0_0 hc0_0
 have HR0_1:=Aside0.mk hr0_1
 have HC0_1:=Aside0.mk hc0_1
 clear hr0_1 hc0_1
 have HR0_2:=Aside0.mk hr0_2
 have HC0_2:=Aside0.mk hc0_2
 clear hr0_2 hc0_2
 have HB:=Aside0.mk (Below.refl w.heap.size w)
 have H:((spec_GoodWishes.f k l0_0 l0_1 l0_2).bind fun t641=>(if t641=true then(spec_MatchAll.l0 k ([] :List Int) (l0_0.length:Int) 0 l0_0 l0_1 l0_2) else(some (([] :List Int),false))))=some (r1,r2):=h
 clear h
 replace H:=Option.bind_eq_some_iff.mp H
 obtain⟨t641,A20,H⟩:=H
 replace H:(if t641=true then(spec_MatchAll.l0 k ([] :List Int) (l0_0.length:Int) 0 l0_0 l0_1 l0_2) else(some (([] :List Int),false)))=some (r1,r2):=H
 have A2:=Aside0.mk A20
 clear A20
 by_cases c3:t641=true
 ·subst c3
  have H1:(spec_MatchAll.l0 k ([] :List Int) (l0_0.length:Int) 0 l0_0 l0_1 l0_2)=some (r1,r2):=by rw [if_pos rfl] at H;exact H
  clear H
  have H:=H1
  clear H1
  have H':=Aside0.mk H
  clear H
  go_enter Try.func35,Try.ntmps35
  go_wp2_with (first|((with_reducible refine gate_dst (N:=1) rfl ?_);(try(refine gate_guard (by rfl) ?_;dsimp only));refine box_event ?hg (N:=1) ?hd (cs:= #[.slice A0_0 l0_0.length c0_0,.slice A0_1 l0_1.length c0_1,.slice A0_2 l0_2.length c0_2]) (t:=33) ?hr ?_;(case hd=>rfl);(case hg=>rfl);(case hr=>first|(go_simp;done)|(go_simp;rfl));intro gb640 hg w4 hbox hb;have BK640:=Aside0.mk (hbox);have GW640:=Aside0.mk ((by rw [hg];exact(below_size (by exact zk1 HB)):w.heap.size≤gb640));have GE640:=GW640;replace HB:=Aside0.mk (below_step (by exact zk1 HB) hb);clear hb hbox hg;have hcz5_0:=zcz BK640 0 (.slice A0_0 l0_0.length c0_0);have hcz5_1:=zcz BK640 1 (.slice A0_1 l0_1.length c0_1);have hcz5_2:=zcz BK640 2 (.slice A0_2 l0_2.length c0_2);have hfz5_0:=blk_frozen BK640.out 0;have hfz5_1:=blk_frozen BK640.out 1;have hfz5_2:=blk_frozen BK640.out 2)|((with_reducible refine gate_callee (f:=18) rfl ?_);refine goesL_ (some 10) rfl rfl Try.func18 (by kernel_rfl) rfl #[.agg #[.slice A0_0 l0_0.length c0_0,.slice A0_1 l0_1.length c0_1,.slice A0_2 l0_2.length c0_2]] rfl zq2 ?_;(with_reducible refine(spec_GoodWishes.calls k _ _ l0_0 _ _ l0_1 _ _ l0_2 true _ ?side1 ?side2 ?side3 ?side4 ?side5 ?side6 A2.out).mono ?_);(case side1=>exact zcc ((Kd.C_below HR0_0.out HB.out)));(case side2=>exact HC0_0.out);(case side3=>exact zcc ((Kd.C_below HR0_1.out HB.out)));(case side4=>exact HC0_1.out);(case side5=>exact zcc ((Kd.C_below HR0_2.out HB.out)));(case side6=>exact HC0_2.out);rintro e w6 ⟨rfl,hb⟩;refine⟨_,rfl,?_⟩;replace BK640:=Aside0.mk (blk_below (g:=gb640) (o:= .cells #[.slice A0_0 l0_0.length c0_0,.slice A0_1 l0_1.length c0_1,.slice A0_2 l0_2.length c0_2] 33 (0,0)) (zq3 BK640) hb);replace HB:=Aside0.mk (below_step (by exact zk2 HB GE640.out) hb);(try clear hb);(try clear hb2);(try clear hk);(try clear hi);have hcz7_0:=zcz BK640 0 (.slice A0_0 l0_0.length c0_0);have hcz7_1:=zcz BK640 1 (.slice A0_1 l0_1.length c0_1);have hcz7_2:=zcz BK640 2 (.slice A0_2 l0_2.length c0_2);have hfz7_0:=blk_frozen BK640.out 0;have hfz7_1:=blk_frozen BK640.out 1;have hfz7_2:=blk_frozen BK640.out 2))
  go_loopg [4,15] k (fun kq v4 v15 w'=> ∃ (x4_1:List Int) (x15_1:Int),v15= .int .i64 x15_1∧Aside0 (spec_MatchAll.l0 kq x4_1 (l0_0.length:Int) x15_1 l0_0 l0_1 l0_2=some (r1,r2))∧Aside0 (kq≤k)∧Aside0 (Kd.R (Kd.int .i64) 3 w' w.heap.size (fun _=>True) v4 x4_1)∧Aside0 (w'.heap[gb640]?=some (.cells #[(.slice A0_0 l0_0.length c0_0),(.slice A0_1 l0_1.length c0_1),(.slice A0_2 l0_2.length c0_2)] 33 (0,0)))∧Aside0 (Below w.heap.size w w'))
  case atStart=>exact⟨(([] :List Int)),(0),zrs,H',⟨Nat.le_refl _⟩,⟨by first|exact Kd.R_nil _ _ _ _ _|exact Kd.N_nil _ _ _ _ _|exact Kd.V_nil _ _ _ _ _|exact Kd.Q_nil _ _ _ _ _|exact Kd.S_nil _ _ _ _ _⟩,⟨by(with_reducible repeat(first|refine blk_drewN ?_ _|refine blk_drew ?_ |refine blk_alloc ?_ _));exact BK640.out⟩,⟨by exact zk2 HB GE640.out⟩⟩
  case round=>
   clear H'
   try clear c1
   try clear p2
   try clear c3
   try clear hcz5_0
   try clear hcz5_1
   try clear hcz5_2
   try clear hcz7_0
   try clear hcz7_1
   try clear hcz7_2
   try clear hfz5_0
   try clear hfz5_1
   try clear hfz5_2
   try clear hfz7_0
   try clear hfz7_1
   try clear hfz7_2
   obtain⟨x4_1,x15_1,rfl,HA,HK1,HO_4,BK640,HB⟩:=hrel
   cases gk with
   |zero=>exact absurd HA.out (by simp [spec_MatchAll.l0])
   |succ k1=>
    have H:=HA.out
    clear HA
    simp only [spec_MatchAll.l0] at H
    by_cases c8:x15_1< (l0_0.length:Int)
    ·rw [if_pos c8] at H
     have c8b0:decide (x15_1< (l0_0.length:Int))=true:=decide_eq_true c8
     clear c8
     by_cases c9:x4_1.length< 17592186044416
     case neg=>exact znn c9 H
     rw [if_pos c9] at H
     have LMc9:=Aside0.mk c9
     clear c9
     obtain⟨y642,hy642⟩ :∃ y_:List Int,y_= (x4_1++ [(-1)]):=⟨_,rfl⟩
     replace H:(spec_MatchAll.l0 k1 y642 (l0_0.length:Int) (wrap64 (x15_1+1)) l0_0 l0_1 l0_2)=some (r1,r2):=zfh hy642 H
     have Ny642:=Aside0.mk hy642
     clear hy642
     have H':=Aside0.mk H
     clear H
     go_wp2_with (first|((with_reducible refine gate_builtin (b:= .append) (xs:= #[.tmp 17,.tmp 18]) rfl ?_);(try(refine gate_guard (by rfl) ?_;dsimp only));at_builtin;refine Kd.R_append (Kd.int .i64) (w0:=w) w.heap.size rfl (.tmp 17) (.tmp 18) 22 3 (.int .i64 0) 8 rfl Try.underlying22 info3 rfl (by decide) (by omega) u4 x4_1 (-1) [.int .i64 (-1)] (fun _=>True) (fun _=>False) rfl rfl ?aP (fun _ hk=>hk.elim) ?aF ?aO ?aB ?aS ?aL ?_;(case aP=>exact rfl);(case aB=>exact(by exact zk2 HB GE640.out));(case aF=>exact(fun _ _=>trivial));(case aO=>exact(zq4 HO_4));(case aS=>exact(below_size (by exact zk2 HB GE640.out)));(case aL=>have:=LMc9.out;omega);intro v643 w10 ho hb hg hat;rw [← Ny642.out] at ho;have HO644:=Aside0.mk (ho);replace BK640:=Aside0.mk (blk_grown (g:=gb640) (o:= .cells #[.slice A0_0 l0_0.length c0_0,.slice A0_1 l0_1.length c0_1,.slice A0_2 l0_2.length c0_2] 33 (0,0)) (zq3 BK640) hg (Kd.R_ne HO_4.out BK640.out (by decide)));replace HB:=Aside0.mk (hb);clear HO_4;clear ho hb hg hat))
     go_roundg k1
     case measure=>have:=HK1.out;omega
     case rel=>exact⟨(y642),(wrap64 (x15_1+1)),zrs,H',⟨by have:=HK1.out;omega⟩,⟨zdr HO644⟩,⟨by(with_reducible repeat(first|refine blk_drewN ?_ _|refine blk_drew ?_ |refine blk_alloc ?_ _));exact BK640.out⟩,⟨by exact zk2 HB GE640.out⟩⟩
    ·rw [if_neg c8] at H
     have c8b0:decide (x15_1< (l0_0.length:Int))=false:=decide_eq_false c8
     clear c8
     by_cases c11: 0≤ (x4_1.length:Int)
     case neg=>exact znn c11 H
     rw [if_pos c11] at H
     have c11b0:=eq_true c11
     have c11b1:decide (0≤ (x4_1.length:Int))=true:=decide_eq_true c11
     clear c11
     by_cases c12:((x4_1.length:Int):Int).toNat≤35184372088832
     case neg=>exact znn c12 H
     rw [if_pos c12] at H
     have c12b0:=eq_true c12
     have c12b1:decide (((x4_1.length:Int):Int).toNat≤35184372088832)=true:=decide_eq_true c12
     clear c12
     obtain⟨y645,hy645⟩ :∃ y_:List Int,y_= (List.replicate ((x4_1.length:Int):Int).toNat 0):=⟨_,rfl⟩
     replace H:(spec_MatchAll.l1 k1 x4_1 y645 l0_0 l0_1 l0_2)=some (r1,r2):=zfh hy645 H
     have Ny645:=Aside0.mk hy645
     clear hy645
     have H':=Aside0.mk H
     clear H
     obtain⟨Ao13,co13,eo13⟩:=Kd.R_slice HO_4.out
     subst eo13
     go_wp2_with (first|((with_reducible refine gate_dst (N:=23) rfl ?_);(try(refine gate_guard (by rfl) ?_;dsimp only));refine Kd.R_make (Kd.int .i64) _ 3 rfl (N:=23) rfl 22 _ _ rfl (x4_1.length:Int) rfl rfl Try.underlying22 (.int .i64 0) 8 info3 rfl (by decide) (by omega) 0 (ok:=fun _=>True) (okp:=fun _=>True) rfl (fun _ hk=>hk) trivial (of_decide_eq_true zq1) (Nat.le_trans (Nat.mul_le_mul_right _ (of_decide_eq_true zq1:(x4_1.length:Int).toNat≤35184372088832)) (by omega)) (Below.refl _ _) (Nat.le_refl _) ?_;intro v646 w14 ho15 hb hg_ hnew_;clear hg_ hnew_;(first|rw [← Ny645.out] at ho15|(simp only [Int.reduceToNat] at ho15;rw [← Ny645.out] at ho15));have HO647:=Aside0.mk (Kd.R_lower (Kd.R_new' ho15 (Kd.R_lt (zq4 HO_4))) (below_size (by exact zk2 HB GE640.out)));replace HO_4:=Aside0.mk (Kd.R_elder' (zq4 HO_4) (Kd.R_base ho15) hb);replace BK640:=Aside0.mk (blk_below (g:=gb640) (o:= .cells #[.slice A0_0 l0_0.length c0_0,.slice A0_1 l0_1.length c0_1,.slice A0_2 l0_2.length c0_2] 33 (0,0)) (zq3 BK640) hb);replace HB:=Aside0.mk (below_step (by exact zk2 HB GE640.out) hb);clear hb ho15))
     go_loopg [] k1 (fun kq w'=> ∃ (x4_2:List Int) (x5_2:List Int),Aside0 (spec_MatchAll.l1 kq x4_2 x5_2 l0_0 l0_1 l0_2=some (r1,r2))∧Aside0 (kq≤k1)∧Aside0 (Kd.R (Kd.int .i64) 3 w' w.heap.size (fun k_=>some k_≠ (v646:Value).ownBlock) (.slice Ao13 x4_1.length co13) x4_2)∧Aside0 (Kd.R (Kd.int .i64) 3 w' w.heap.size (fun k_=>some k_≠ ((.slice Ao13 x4_1.length co13):Value).ownBlock) v646 x5_2)∧Aside0 (w'.heap[gb640]?=some (.cells #[(.slice A0_0 l0_0.length c0_0),(.slice A0_1 l0_1.length c0_1),(.slice A0_2 l0_2.length c0_2)] 33 (0,0)))∧Aside0 (Below w.heap.size w w'))
     case atStart=>exact⟨(x4_1),(y645),H',⟨Nat.le_refl _⟩,⟨by(with_reducible repeat(first|apply Kd.R_alloc|apply Kd.R_drewN|apply Kd.R_drew));exact Kd.R_mono HO_4.out (fun _ hk=>hk.2)⟩,⟨by(with_reducible repeat(first|apply Kd.R_alloc|apply Kd.R_drewN|apply Kd.R_drew));exact Kd.R_mono HO647.out (fun _ hk=>hk.2)⟩,⟨by(with_reducible repeat(first|refine blk_drewN ?_ _|refine blk_drew ?_ |refine blk_alloc ?_ _));exact BK640.out⟩,⟨by exact zk2 HB GE640.out⟩⟩
     case round=>
      clear H'
      try clear c1
      try clear p2
      try clear c3
      try clear p6
      try clear c8
      try clear c8b0
      try clear c9
      try clear c11
      try clear c11b0
      try clear c11b1
      try clear c12
      try clear c12b0
      try clear c12b1
      try clear hcz5_0
      try clear hcz5_1
      try clear hcz5_2
      try clear hcz7_0
      try clear hcz7_1
      try clear hcz7_2
      try clear hfz5_0
      try clear hfz5_1
      try clear hfz5_2
      try clear hfz7_0
      try clear hfz7_1
      try clear hfz7_2
      try clear p2
      obtain⟨x4_2,x5_2,HA,HK2,HO_4,HO_5,BK640,HB⟩:=hrel
      have hl4_2:=(Kd.R_reads' HO_4.out).1
      rw [hl4_2] at HO_4
      (try simp only [hl4_2])
      (try simp only [hl4_2] at BK640)
      (try simp only [hl4_2] at HO_5)
      cases gk with
      |zero=>exact absurd HA.out (by simp [spec_MatchAll.l1])
      |succ k2=>
       have H:=HA.out
       clear HA
       simp only [spec_MatchAll.l1] at H
       have H':=Aside0.mk H
       clear H
       go_wp2
       go_loopg [6,26] k2 (fun kq v6 v26 w'=> ∃ (x6_3:Int) (x26_3:Int),v6= .int .i64 x6_3∧v26= .int .i64 x26_3∧Aside0 (spec_MatchAll.l2 kq x4_2 x5_2 x6_3 (x4_2.length:Int) x26_3 l0_0 l0_1 l0_2=some (r1,r2))∧Aside0 (kq≤k2)∧Aside0 (Kd.R (Kd.int .i64) 3 w' w.heap.size (fun k_=>some k_≠ (v646:Value).ownBlock) (.slice Ao13 x4_2.length co13) x4_2)∧Aside0 (Kd.R (Kd.int .i64) 3 w' w.heap.size (fun k_=>some k_≠ ((.slice Ao13 x4_2.length co13):Value).ownBlock) v646 x5_2)∧Aside0 (w'.heap[gb640]?=some (.cells #[(.slice A0_0 l0_0.length c0_0),(.slice A0_1 l0_1.length c0_1),(.slice A0_2 l0_2.length c0_2)] 33 (0,0)))∧Aside0 (Below w.heap.size w w'))
       case atStart=>exact⟨((-1)),(0),zrs,zrs,H',⟨Nat.le_refl _⟩,⟨by(try simp only [hl4_2]);(with_reducible repeat(first|apply Kd.R_alloc|apply Kd.R_drewN|apply Kd.R_drew));exact HO_4.out⟩,⟨by(try simp only [hl4_2]);(with_reducible repeat(first|apply Kd.R_alloc|apply Kd.R_drewN|apply Kd.R_drew));exact HO_5.out⟩,⟨by(try simp only [hl4_2]);(with_reducible repeat(first|refine blk_drewN ?_ _|refine blk_drew ?_ |refine blk_alloc ?_ _));exact BK640.out⟩,⟨by exact zk2 HB GE640.out⟩⟩
       case round=>
        clear H'
        try clear c1
        try clear p2
        try clear c3
        try clear p6
        try clear c8
        try clear c8b0
        try clear c9
        try clear c11
        try clear c11b0
        try clear c11b1
        try clear c12
        try clear c12b0
        try clear c12b1
        try clear hcz5_0
        try clear hcz5_1
        try clear hcz5_2
        try clear hcz7_0
        try clear hcz7_1
        try clear hcz7_2
        try clear hfz5_0
        try clear hfz5_1
        try clear hfz5_2
        try clear hfz7_0
        try clear hfz7_1
        try clear hfz7_2
        try clear p2
        try clear p6
        obtain⟨x6_3,x26_3,rfl,rfl,HA,HK3,HO_4,HO_5,BK640,HB⟩:=hrel
        cases gk with
        |zero=>exact absurd HA.out (by simp [spec_MatchAll.l2])
        |succ k3=>
         have H:=HA.out
         clear HA
         simp only [spec_MatchAll.l2] at H
         by_cases c16:x26_3< (x4_2.length:Int)
         ·rw [if_pos c16] at H
          have c16b0:decide (x26_3< (x4_2.length:Int))=true:=decide_eq_true c16
          (try(have c16b0L:=c16b0;simp only [hl4_2] at c16b0L))
          clear c16
          by_cases c17:x6_3< 0
          ·rw [if_pos c17] at H
           have c17b0:decide (x6_3< 0)=true:=decide_eq_true c17
           clear c17
           by_cases c18: 0≤x26_3
           case neg=>exact znn c18 H
           rw [if_pos c18] at H
           have c18b0:decide (0≤x26_3)=true:=decide_eq_true c18
           clear c18
           by_cases c19:x26_3< (x4_2.length:Int)
           case neg=>exact znn c19 H
           rw [if_pos c19] at H
           have c19b0:decide (x26_3< (x4_2.length:Int))=true:=decide_eq_true c19
           (try(have c19b0L:=c19b0;simp only [hl4_2] at c19b0L))
           clear c19
           by_cases c20:(rd x4_2 x26_3)< 0
           ·rw [if_pos c20] at H
            have c20b0:decide ((rd x4_2 x26_3)< 0)=true:=decide_eq_true c20
            clear c20
            by_cases c21:x26_3< (x5_2.length:Int)
            case neg=>exact znn c21 H
            rw [if_pos c21] at H
            have c21b0:decide (x26_3< (x5_2.length:Int))=true:=decide_eq_true c21
            (try(have c21b0L:=c21b0;simp only [hl4_2] at c21b0L))
            clear c21
            by_cases c22:(rd x5_2 x26_3)< (l0_1.length:Int)
            ·rw [if_pos c22] at H
             have c22b0:decide ((rd x5_2 x26_3)< (l0_1.length:Int))=true:=decide_eq_true c22
             (try(have c22b0L:=c22b0;simp only [hl4_2] at c22b0L))
             clear c22
             have H':=Aside0.mk H
             clear H
             try go_wp2
             replace HO_4:=Aside0.mk (Kd.R_drew HO_4.out)
             replace HO_5:=Aside0.mk (Kd.R_drew HO_5.out)
             replace BK640:=Aside0.mk (blk_drew BK640.out)
             replace HB:=Aside0.mk (below_drew1 HB.out)
             have p648: 0≤ (x26_3:Int):=of_decide_eq_true zq1
             have q648:x26_3< (x4_2.length:Int):=of_decide_eq_true zq1
             obtain⟨ad648,e648,hx648_0⟩:=Kd.at_int (Kd.R_reads' HO_4.out).2.2 x26_3 p648 q648
             cases e648
             replace p648:=eq_true p648
             replace q648:=eq_true q648
             obtain⟨Ao24,co24,eo24⟩:=Kd.R_slice HO_5.out
             (first|subst eo24|(injection eo24 with f1_ f2_ f3_;have f4_:=f1_.symm;have f5_:=f3_.symm;clear f1_ f2_ f3_;subst f4_;subst f5_))
             have p649: 0≤ (x26_3:Int):=of_decide_eq_true zq1
             have q649:x26_3< (x5_2.length:Int):=of_decide_eq_true zq1
             obtain⟨ad649,e649,hx649_0⟩:=Kd.at_int (Kd.R_reads' HO_5.out).2.2 x26_3 p649 q649
             cases e649
             replace p649:=eq_true p649
             replace q649:=eq_true q649
             refine start_ (n:=19) (S:=fun w'=>w'.cell? ⟨gb640,0,none⟩=some (.slice A0_0 l0_0.length c0_0)∧w'.cell? ⟨gb640,1,none⟩=some (.slice A0_1 l0_1.length c0_1)∧w'.cell? ⟨gb640,2,none⟩=some (.slice A0_2 l0_2.length c0_2)∧w'.cell? (ad648.add (x26_3).toNat)=some (.int .i64 (rd x4_2 x26_3))∧w'.cell? (ad649.add (x26_3).toNat)=some (.int .i64 (rd x5_2 x26_3))) (ds:= []) (mb' 19 0) (by kernel_rfl) rfl rfl ⟨(blk_cell BK640.out 0).trans rfl,(blk_cell BK640.out 1).trans rfl,(blk_cell BK640.out 2).trans rfl,hx648_0,hx649_0⟩ (fun hHeld=>?_);refine with_tabW spec_MatchAll.tab13 spec_MatchAll.bits13 (fun HT_ HW_=>?_)
             generalize wr.drew=w23 at HO_4 HO_5 BK640 HB hx648_0 hx649_0 hHeld ⊢
             refine zp1 HT_ 0 29 (mb' 19 1) rfl ?_
             refine zp1 HT_ 1 30 (mb' 19 3) rfl ?_
             refine zp1 HT_ 2 31 (mb' 19 7) rfl ?_
             refine zp1 HT_ 3 32 (mb' 19 15) rfl ?_
             refine zp1 HT_ 4 33 (mb' 19 31) rfl ?_
             refine zp1 HT_ 5 34 (mb' 19 63) rfl ?_
             refine zt1 HT_ HW_ (v:=?_) (a':=?_) 6 35 (mb' 19 127) rfl ?_ hHeld ?_ ?_;rotate_left;(rintro w' ⟨s0,s1,s2,s3,s4⟩;go_simp;with_reducible rfl);rotate_left;exact zpa
             refine zp1 HT_ 7 36 (mb' 19 255) rfl ?_
             refine zp1 HT_ 8 37 (mb' 19 511) rfl ?_
             refine zp1 HT_ 9 38 (mb' 19 1023) rfl ?_
             refine zp1 HT_ 10 39 (mb' 19 2047) rfl ?_
             refine zp1 HT_ 11 40 (mb' 19 4095) rfl ?_
             refine zp1 HT_ 12 41 (mb' 19 8191) rfl ?_
             refine zp1 HT_ 14 43 (mb' 19 24575) rfl ?_
             refine zt1 HT_ HW_ (v:=?_) (a':=?_) 13 42 (mb' 19 32767) rfl ?_ hHeld ?_ ?_;rotate_left;(rintro w' ⟨s0,s1,s2,s3,s4⟩;go_simp;with_reducible rfl);rotate_left;exact zpa
             refine zt1 HT_ HW_ (v:=?_) (a':=?_) 15 44 (mb' 19 65535) rfl ?_ hHeld ?_ ?_;rotate_left;(rintro w' ⟨s0,s1,s2,s3,s4⟩;go_simp;with_reducible rfl);rotate_left;exact zpa
             refine zp1 HT_ 16 45 (mb' 19 131071) rfl ?_
             refine zp1 HT_ 17 46 (mb' 19 262143) rfl ?_
             refine zp1 HT_ 18 47 (mb' 19 524287) rfl ?_
             refine done_ (done_of HT_.out (by kernel_rfl)) ?_
             try go_wp2
             go_roundg k3
             case measure=>have:=HK1.out;have:=HK2.out;have:=HK3.out;omega
             case rel=>exact⟨(x26_3),(wrap64 (x26_3+1)),zrs,zrs,H',⟨by have:=HK1.out;have:=HK2.out;have:=HK3.out;omega⟩,⟨by(try simp only [hl4_2]);(with_reducible repeat(first|apply Kd.R_alloc|apply Kd.R_drewN|apply Kd.R_drew));exact HO_4.out⟩,⟨by(try simp only [hl4_2]);(with_reducible repeat(first|apply Kd.R_alloc|apply Kd.R_drewN|apply Kd.R_drew));exact HO_5.out⟩,⟨by(try simp only [hl4_2]);(with_reducible repeat(first|refine blk_drewN ?_ _|refine blk_drew ?_ |refine blk_alloc ?_ _));exact BK640.out⟩,⟨by exact zk2 HB GE640.out⟩⟩
            ·rw [if_neg c22] at H
             have c22b0:decide ((rd x5_2 x26_3)< (l0_1.length:Int))=false:=decide_eq_false c22
             (try(have c22b0L:=c22b0;simp only [hl4_2] at c22b0L))
             clear c22
             have H':=Aside0.mk H
             clear H
             try go_wp2
             replace HO_4:=Aside0.mk (Kd.R_drew HO_4.out)
             replace HO_5:=Aside0.mk (Kd.R_drew HO_5.out)
             replace BK640:=Aside0.mk (blk_drew BK640.out)
             replace HB:=Aside0.mk (below_drew1 HB.out)
             have p648: 0≤ (x26_3:Int):=of_decide_eq_true zq1
             have q648:x26_3< (x4_2.length:Int):=of_decide_eq_true zq1
             obtain⟨ad648,e648,hx648_0⟩:=Kd.at_int (Kd.R_reads' HO_4.out).2.2 x26_3 p648 q648
             cases e648
             replace p648:=eq_true p648
             replace q648:=eq_true q648
             obtain⟨Ao26,co26,eo26⟩:=Kd.R_slice HO_5.out
             (first|subst eo26|(injection eo26 with f1_ f2_ f3_;have f4_:=f1_.symm;have f5_:=f3_.symm;clear f1_ f2_ f3_;subst f4_;subst f5_))
             have p649: 0≤ (x26_3:Int):=of_decide_eq_true zq1
             have q649:x26_3< (x5_2.length:Int):=of_decide_eq_true zq1
             obtain⟨ad649,e649,hx649_0⟩:=Kd.at_int (Kd.R_reads' HO_5.out).2.2 x26_3 p649 q649
             cases e649
             replace p649:=eq_true p649
             replace q649:=eq_true q649
             refine start_ (n:=19) (S:=fun w'=>w'.cell? ⟨gb640,0,none⟩=some (.slice A0_0 l0_0.length c0_0)∧w'.cell? ⟨gb640,1,none⟩=some (.slice A0_1 l0_1.length c0_1)∧w'.cell? ⟨gb640,2,none⟩=some (.slice A0_2 l0_2.length c0_2)∧w'.cell? (ad648.add (x26_3).toNat)=some (.int .i64 (rd x4_2 x26_3))∧w'.cell? (ad649.add (x26_3).toNat)=some (.int .i64 (rd x5_2 x26_3))) (ds:= []) (mb' 19 0) (by kernel_rfl) rfl rfl ⟨(blk_cell BK640.out 0).trans rfl,(blk_cell BK640.out 1).trans rfl,(blk_cell BK640.out 2).trans rfl,hx648_0,hx649_0⟩ (fun hHeld=>?_);refine with_tabW spec_MatchAll.tab13 spec_MatchAll.bits13 (fun HT_ HW_=>?_)
             generalize wr.drew=w25 at HO_4 HO_5 BK640 HB hx648_0 hx649_0 hHeld ⊢
             refine zp1 HT_ 0 29 (mb' 19 1) rfl ?_
             refine zp1 HT_ 1 30 (mb' 19 3) rfl ?_
             refine zp1 HT_ 2 31 (mb' 19 7) rfl ?_
             refine zp1 HT_ 3 32 (mb' 19 15) rfl ?_
             refine zp1 HT_ 4 33 (mb' 19 31) rfl ?_
             refine zp1 HT_ 5 34 (mb' 19 63) rfl ?_
             refine zt1 HT_ HW_ (v:=?_) (a':=?_) 6 35 (mb' 19 127) rfl ?_ hHeld ?_ ?_;rotate_left;(rintro w' ⟨s0,s1,s2,s3,s4⟩;go_simp;with_reducible rfl);rotate_left;exact zpa
             refine zp1 HT_ 7 36 (mb' 19 255) rfl ?_
             refine zp1 HT_ 8 37 (mb' 19 511) rfl ?_
             refine zp1 HT_ 9 38 (mb' 19 1023) rfl ?_
             refine zp1 HT_ 10 39 (mb' 19 2047) rfl ?_
             refine zp1 HT_ 11 40 (mb' 19 4095) rfl ?_
             refine zp1 HT_ 12 41 (mb' 19 8191) rfl ?_
             refine zp1 HT_ 14 43 (mb' 19 24575) rfl ?_
             refine zt1 HT_ HW_ (v:=?_) (a':=?_) 13 42 (mb' 19 32767) rfl ?_ hHeld ?_ ?_;rotate_left;(rintro w' ⟨s0,s1,s2,s3,s4⟩;go_simp;with_reducible rfl);rotate_left;exact zpa
             refine zt1 HT_ HW_ (v:=?_) (a':=?_) 15 44 (mb' 19 65535) rfl ?_ hHeld ?_ ?_;rotate_left;(rintro w' ⟨s0,s1,s2,s3,s4⟩;go_simp;with_reducible rfl);rotate_left;exact zpa
             refine zp1 HT_ 16 45 (mb' 19 131071) rfl ?_
             refine zp1 HT_ 17 46 (mb' 19 262143) rfl ?_
             refine zp1 HT_ 18 47 (mb' 19 524287) rfl ?_
             refine done_ (done_of HT_.out (by kernel_rfl)) ?_
             try go_wp2
             go_roundg k3
             case measure=>have:=HK1.out;have:=HK2.out;have:=HK3.out;omega
             case rel=>exact⟨(x6_3),(wrap64 (x26_3+1)),zrs,zrs,H',⟨by have:=HK1.out;have:=HK2.out;have:=HK3.out;omega⟩,⟨by(try simp only [hl4_2]);(with_reducible repeat(first|apply Kd.R_alloc|apply Kd.R_drewN|apply Kd.R_drew));exact HO_4.out⟩,⟨by(try simp only [hl4_2]);(with_reducible repeat(first|apply Kd.R_alloc|apply Kd.R_drewN|apply Kd.R_drew));exact HO_5.out⟩,⟨by(try simp only [hl4_2]);(with_reducible repeat(first|refine blk_drewN ?_ _|refine blk_drew ?_ |refine blk_alloc ?_ _));exact BK640.out⟩,⟨by exact zk2 HB GE640.out⟩⟩
           ·rw [if_neg c20] at H
            have c20b0:decide ((rd x4_2 x26_3)< 0)=false:=decide_eq_false c20
            clear c20
            have H':=Aside0.mk H
            clear H
            try go_wp2
            replace HO_4:=Aside0.mk (Kd.R_drew HO_4.out)
            replace HO_5:=Aside0.mk (Kd.R_drew HO_5.out)
            replace BK640:=Aside0.mk (blk_drew BK640.out)
            replace HB:=Aside0.mk (below_drew1 HB.out)
            have p648: 0≤ (x26_3:Int):=of_decide_eq_true zq1
            have q648:x26_3< (x4_2.length:Int):=of_decide_eq_true zq1
            obtain⟨ad648,e648,hx648_0⟩:=Kd.at_int (Kd.R_reads' HO_4.out).2.2 x26_3 p648 q648
            cases e648
            replace p648:=eq_true p648
            replace q648:=eq_true q648
            refine start_ (n:=19) (S:=fun w'=>w'.cell? (ad648.add (x26_3).toNat)=some (.int .i64 (rd x4_2 x26_3))) (ds:= []) (mb' 19 0) (by kernel_rfl) rfl rfl (hx648_0) (fun hHeld=>?_);refine with_tabW spec_MatchAll.tab13 spec_MatchAll.bits13 (fun HT_ HW_=>?_)
            generalize wr.drew=w27 at HO_4 HO_5 BK640 HB hx648_0 hHeld ⊢
            refine zp1 HT_ 0 29 (mb' 19 1) rfl ?_
            refine zp1 HT_ 1 30 (mb' 19 3) rfl ?_
            refine zp1 HT_ 2 31 (mb' 19 7) rfl ?_
            refine zp1 HT_ 3 32 (mb' 19 15) rfl ?_
            refine zp1 HT_ 4 33 (mb' 19 31) rfl ?_
            refine zp1 HT_ 5 34 (mb' 19 63) rfl ?_
            refine zt1 HT_ HW_ (v:=?_) (a':=?_) 6 35 (mb' 19 127) rfl ?_ hHeld ?_ ?_;rotate_left;(intro w' s0;go_simp;with_reducible rfl);rotate_left;exact zpa
            refine zp1 HT_ 7 36 (mb' 19 255) rfl ?_
            refine zp1 HT_ 8 37 (mb' 19 511) rfl ?_
            refine zp1 HT_ 9 38 (mb' 19 1023) rfl ?_
            refine zp2 HT_ 10 39 (mb' 19 2047) rfl ?_
            refine zp2 HT_ 11 40 (mb' 19 4095) rfl ?_
            refine zp2 HT_ 12 41 (mb' 19 8191) rfl ?_
            refine zp2 HT_ 13 42 (mb' 19 16383) rfl ?_
            refine zp2 HT_ 14 43 (mb' 19 32767) rfl ?_
            refine zp2 HT_ 15 44 (mb' 19 65535) rfl ?_
            refine zp2 HT_ 16 45 (mb' 19 131071) rfl ?_
            refine zp2 HT_ 17 46 (mb' 19 262143) rfl ?_
            refine zp1 HT_ 18 47 (mb' 19 524287) rfl ?_
            refine done_ (done_of HT_.out (by kernel_rfl)) ?_
            try go_wp2
            go_roundg k3
            case measure=>have:=HK1.out;have:=HK2.out;have:=HK3.out;omega
            case rel=>exact⟨(x6_3),(wrap64 (x26_3+1)),zrs,zrs,H',⟨by have:=HK1.out;have:=HK2.out;have:=HK3.out;omega⟩,⟨by(try simp only [hl4_2]);(with_reducible repeat(first|apply Kd.R_alloc|apply Kd.R_drewN|apply Kd.R_drew));exact HO_4.out⟩,⟨by(try simp only [hl4_2]);(with_reducible repeat(first|apply Kd.R_alloc|apply Kd.R_drewN|apply Kd.R_drew));exact HO_5.out⟩,⟨by(try simp only [hl4_2]);(with_reducible repeat(first|refine blk_drewN ?_ _|refine blk_drew ?_ |refine blk_alloc ?_ _));exact BK640.out⟩,⟨by exact zk2 HB GE640.out⟩⟩
          ·rw [if_neg c17] at H
           have c17b0:decide (x6_3< 0)=false:=decide_eq_false c17
           clear c17
           have H':=Aside0.mk H
           clear H
           try go_wp2
           replace HO_4:=Aside0.mk (Kd.R_drew HO_4.out)
           replace HO_5:=Aside0.mk (Kd.R_drew HO_5.out)
           replace BK640:=Aside0.mk (blk_drew BK640.out)
           replace HB:=Aside0.mk (below_drew1 HB.out)
           refine start_ (n:=19) (S:=fun w'=>True) (ds:= []) (mb' 19 0) (by kernel_rfl) rfl rfl trivial (fun hHeld=>?_);refine with_tabW spec_MatchAll.tab13 spec_MatchAll.bits13 (fun HT_ HW_=>?_)
           generalize wr.drew=w28 at HO_4 HO_5 BK640 HB hHeld ⊢
           refine zp1 HT_ 0 29 (mb' 19 1) rfl ?_
           refine zp1 HT_ 1 30 (mb' 19 3) rfl ?_
           refine zp1 HT_ 2 31 (mb' 19 7) rfl ?_
           refine zp2 HT_ 3 32 (mb' 19 15) rfl ?_
           refine zp2 HT_ 4 33 (mb' 19 31) rfl ?_
           refine zp2 HT_ 5 34 (mb' 19 63) rfl ?_
           refine zp2 HT_ 6 35 (mb' 19 127) rfl ?_
           refine zp2 HT_ 7 36 (mb' 19 255) rfl ?_
           refine zp1 HT_ 8 37 (mb' 19 511) rfl ?_
           refine zp1 HT_ 9 38 (mb' 19 1023) rfl ?_
           refine zp2 HT_ 10 39 (mb' 19 2047) rfl ?_
           refine zp2 HT_ 11 40 (mb' 19 4095) rfl ?_
           refine zp2 HT_ 12 41 (mb' 19 8191) rfl ?_
           refine zp2 HT_ 13 42 (mb' 19 16383) rfl ?_
           refine zp2 HT_ 14 43 (mb' 19 32767) rfl ?_
           refine zp2 HT_ 15 44 (mb' 19 65535) rfl ?_
           refine zp2 HT_ 16 45 (mb' 19 131071) rfl ?_
           refine zp2 HT_ 17 46 (mb' 19 262143) rfl ?_
           refine zp1 HT_ 18 47 (mb' 19 524287) rfl ?_
           refine done_ (done_of HT_.out (by kernel_rfl)) ?_
           try go_wp2
           go_roundg k3
           case measure=>have:=HK1.out;have:=HK2.out;have:=HK3.out;omega
           case rel=>exact⟨(x6_3),(wrap64 (x26_3+1)),zrs,zrs,H',⟨by have:=HK1.out;have:=HK2.out;have:=HK3.out;omega⟩,⟨by(try simp only [hl4_2]);(with_reducible repeat(first|apply Kd.R_alloc|apply Kd.R_drewN|apply Kd.R_drew));exact HO_4.out⟩,⟨by(try simp only [hl4_2]);(with_reducible repeat(first|apply Kd.R_alloc|apply Kd.R_drewN|apply Kd.R_drew));exact HO_5.out⟩,⟨by(try simp only [hl4_2]);(with_reducible repeat(first|refine blk_drewN ?_ _|refine blk_drew ?_ |refine blk_alloc ?_ _));exact BK640.out⟩,⟨by exact zk2 HB GE640.out⟩⟩
         ·rw [if_neg c16] at H
          have c16b0:decide (x26_3< (x4_2.length:Int))=false:=decide_eq_false c16
          (try(have c16b0L:=c16b0;simp only [hl4_2] at c16b0L))
          clear c16
          by_cases c29:x6_3< 0
          ·rw [if_pos c29] at H
           have c29b0:decide (x6_3< 0)=true:=decide_eq_true c29
           clear c29
           simp only [Option.some.injEq,Prod.mk.injEq] at H
           obtain⟨rfl,rfl⟩:=H
           go_wp2
           go_ret2
           exact⟨_,zer,by(with_reducible repeat(first|apply Kd.R_alloc|apply Kd.R_drewN|apply Kd.R_drew));exact Kd.R_mono HO_4.out (fun _ hk=>trivial),by exact zk2 HB GE640.out⟩
          ·rw [if_neg c29] at H
           have c29b0:decide (x6_3< 0)=false:=decide_eq_false c29
           clear c29
           by_cases c30: 0≤x6_3
           case neg=>exact znn c30 H
           rw [if_pos c30] at H
           have c30b0:decide (0≤x6_3)=true:=decide_eq_true c30
           clear c30
           by_cases c31:x6_3< (l0_0.length:Int)
           case neg=>exact znn c31 H
           rw [if_pos c31] at H
           have c31b0:decide (x6_3< (l0_0.length:Int))=true:=decide_eq_true c31
           (try(have c31b0L:=c31b0;simp only [hl4_2] at c31b0L))
           clear c31
           by_cases c32:x6_3< (x5_2.length:Int)
           case neg=>exact znn c32 H
           rw [if_pos c32] at H
           have c32b0:decide (x6_3< (x5_2.length:Int))=true:=decide_eq_true c32
           (try(have c32b0L:=c32b0;simp only [hl4_2] at c32b0L))
           clear c32
           by_cases c33: 0≤ (rd x5_2 x6_3)
           case neg=>exact znn c33 H
           rw [if_pos c33] at H
           have c33b0:decide (0≤ (rd x5_2 x6_3))=true:=decide_eq_true c33
           clear c33
           by_cases c34:(rd x5_2 x6_3)< ((rd_L1 l0_0 x6_3).length:Int)
           case neg=>exact znn c34 H
           rw [if_pos c34] at H
           have c34b0:decide ((rd x5_2 x6_3)< ((rd_L1 l0_0 x6_3).length:Int))=true:=decide_eq_true c34
           (try(have c34b0L:=c34b0;simp only [hl4_2] at c34b0L))
           clear c34
           obtain⟨y654,hy654⟩ :∃ y_:List Int,y_= (x5_2.set (x6_3:Int).toNat (wrap64 ((rd x5_2 x6_3)+1))):=⟨_,rfl⟩
           replace H:((spec_l12Would.f k3 l0_0 l0_1 l0_2 x4_2 (rd (rd_L1 l0_0 x6_3) (rd x5_2 x6_3)) x6_3).bind fun t655=>(if t655=true then((spec_l12Has.f k3 x4_2 (rd (rd_L1 l0_0 x6_3) (rd x5_2 x6_3))).bind fun t656=>(if 0≤ (rd (rd_L1 l0_0 x6_3) (rd x5_2 x6_3)) then(if (rd (rd_L1 l0_0 x6_3) (rd x5_2 x6_3))< (l0_2.length:Int) then(if (t656.length:Int)= (rd l0_2 (rd (rd_L1 l0_0 x6_3) (rd x5_2 x6_3))) then((spec_l12Worst.f k3 l0_0 l0_1 l0_2 x4_2 (rd (rd_L1 l0_0 x6_3) (rd x5_2 x6_3))).bind fun t660=>(if 0≤t660 then(if t660< (x4_2.length:Int) then(if x6_3< (x4_2.length:Int) then(spec_MatchAll.l1 k3 ((x4_2.set (t660:Int).toNat (-1)).set (x6_3:Int).toNat (rd (rd_L1 l0_0 x6_3) (rd x5_2 x6_3))) y654 l0_0 l0_1 l0_2) else(none)) else(none)) else(none))) else(if x6_3< (x4_2.length:Int) then(spec_MatchAll.l1 k3 (x4_2.set (x6_3:Int).toNat (rd (rd_L1 l0_0 x6_3) (rd x5_2 x6_3))) y654 l0_0 l0_1 l0_2) else(none))) else(none)) else(none))) else(spec_MatchAll.l1 k3 x4_2 y654 l0_0 l0_1 l0_2)))=some (r1,r2):=zfh hy654 H
           have Ny654:=Aside0.mk hy654
           clear hy654
           replace H:=Option.bind_eq_some_iff.mp H
           obtain⟨t655,A360,H⟩:=H
           replace H:(if t655=true then((spec_l12Has.f k3 x4_2 (rd (rd_L1 l0_0 x6_3) (rd x5_2 x6_3))).bind fun t656=>(if 0≤ (rd (rd_L1 l0_0 x6_3) (rd x5_2 x6_3)) then(if (rd (rd_L1 l0_0 x6_3) (rd x5_2 x6_3))< (l0_2.length:Int) then(if (t656.length:Int)= (rd l0_2 (rd (rd_L1 l0_0 x6_3) (rd x5_2 x6_3))) then((spec_l12Worst.f k3 l0_0 l0_1 l0_2 x4_2 (rd (rd_L1 l0_0 x6_3) (rd x5_2 x6_3))).bind fun t660=>(if 0≤t660 then(if t660< (x4_2.length:Int) then(if x6_3< (x4_2.length:Int) then(spec_MatchAll.l1 k3 ((x4_2.set (t660:Int).toNat (-1)).set (x6_3:Int).toNat (rd (rd_L1 l0_0 x6_3) (rd x5_2 x6_3))) y654 l0_0 l0_1 l0_2) else(none)) else(none)) else(none))) else(if x6_3< (x4_2.length:Int) then(spec_MatchAll.l1 k3 (x4_2.set (x6_3:Int).toNat (rd (rd_L1 l0_0 x6_3) (rd x5_2 x6_3))) y654 l0_0 l0_1 l0_2) else(none))) else(none)) else(none))) else(spec_MatchAll.l1 k3 x4_2 y654 l0_0 l0_1 l0_2))=some (r1,r2):=H
           have A36:=Aside0.mk A360
           clear A360
           by_cases c37:t655=true
           ·subst c37
            have H1:((spec_l12Has.f k3 x4_2 (rd (rd_L1 l0_0 x6_3) (rd x5_2 x6_3))).bind fun t656=>(if 0≤ (rd (rd_L1 l0_0 x6_3) (rd x5_2 x6_3)) then(if (rd (rd_L1 l0_0 x6_3) (rd x5_2 x6_3))< (l0_2.length:Int) then(if (t656.length:Int)= (rd l0_2 (rd (rd_L1 l0_0 x6_3) (rd x5_2 x6_3))) then((spec_l12Worst.f k3 l0_0 l0_1 l0_2 x4_2 (rd (rd_L1 l0_0 x6_3) (rd x5_2 x6_3))).bind fun t660=>(if 0≤t660 then(if t660< (x4_2.length:Int) then(if x6_3< (x4_2.length:Int) then(spec_MatchAll.l1 k3 ((x4_2.set (t660:Int).toNat (-1)).set (x6_3:Int).toNat (rd (rd_L1 l0_0 x6_3) (rd x5_2 x6_3))) y654 l0_0 l0_1 l0_2) else(none)) else(none)) else(none))) else(if x6_3< (x4_2.length:Int) then(spec_MatchAll.l1 k3 (x4_2.set (x6_3:Int).toNat (rd (rd_L1 l0_0 x6_3) (rd x5_2 x6_3))) y654 l0_0 l0_1 l0_2) else(none))) else(none)) else(none)))=some (r1,r2):=by rw [if_pos rfl] at H;exact H
            clear H
            have H:=H1
            clear H1
            replace H:=Option.bind_eq_some_iff.mp H
            obtain⟨t656,A380,H⟩:=H
            replace H:(if 0≤ (rd (rd_L1 l0_0 x6_3) (rd x5_2 x6_3)) then(if (rd (rd_L1 l0_0 x6_3) (rd x5_2 x6_3))< (l0_2.length:Int) then(if (t656.length:Int)= (rd l0_2 (rd (rd_L1 l0_0 x6_3) (rd x5_2 x6_3))) then((spec_l12Worst.f k3 l0_0 l0_1 l0_2 x4_2 (rd (rd_L1 l0_0 x6_3) (rd x5_2 x6_3))).bind fun t660=>(if 0≤t660 then(if t660< (x4_2.length:Int) then(if x6_3< (x4_2.length:Int) then(spec_MatchAll.l1 k3 ((x4_2.set (t660:Int).toNat (-1)).set (x6_3:Int).toNat (rd (rd_L1 l0_0 x6_3) (rd x5_2 x6_3))) y654 l0_0 l0_1 l0_2) else(none)) else(none)) else(none))) else(if x6_3< (x4_2.length:Int) then(spec_MatchAll.l1 k3 (x4_2.set (x6_3:Int).toNat (rd (rd_L1 l0_0 x6_3) (rd x5_2 x6_3))) y654 l0_0 l0_1 l0_2) else(none))) else(none)) else(none))=some (r1,r2):=H
            have A38:=Aside0.mk A380
            clear A380
            by_cases c39: 0≤ (rd (rd_L1 l0_0 x6_3) (rd x5_2 x6_3))
            case neg=>exact znn c39 H
            rw [if_pos c39] at H
            have c39b0:decide (0≤ (rd (rd_L1 l0_0 x6_3) (rd x5_2 x6_3)))=true:=decide_eq_true c39
            clear c39
            by_cases c40:(rd (rd_L1 l0_0 x6_3) (rd x5_2 x6_3))< (l0_2.length:Int)
            case neg=>exact znn c40 H
            rw [if_pos c40] at H
            have c40b0:decide ((rd (rd_L1 l0_0 x6_3) (rd x5_2 x6_3))< (l0_2.length:Int))=true:=decide_eq_true c40
            (try(have c40b0L:=c40b0;simp only [hl4_2] at c40b0L))
            clear c40
            by_cases c41:(t656.length:Int)= (rd l0_2 (rd (rd_L1 l0_0 x6_3) (rd x5_2 x6_3)))
            ·rw [if_pos c41] at H
             have c41b0:((t656.length:Int)== (rd l0_2 (rd (rd_L1 l0_0 x6_3) (rd x5_2 x6_3))))=true:=beq_iff_eq.mpr c41
             (try(have c41b0L:=c41b0;simp only [hl4_2] at c41b0L))
             have c41b1:((t656.length:Int) != (rd l0_2 (rd (rd_L1 l0_0 x6_3) (rd x5_2 x6_3))))=false:=bne_eq_false_iff_eq.mpr c41
             (try(have c41b1L:=c41b1;simp only [hl4_2] at c41b1L))
             clear c41
             replace H:=Option.bind_eq_some_iff.mp H
             obtain⟨t660,A420,H⟩:=H
             replace H:(if 0≤t660 then(if t660< (x4_2.length:Int) then(if x6_3< (x4_2.length:Int) then(spec_MatchAll.l1 k3 ((x4_2.set (t660:Int).toNat (-1)).set (x6_3:Int).toNat (rd (rd_L1 l0_0 x6_3) (rd x5_2 x6_3))) y654 l0_0 l0_1 l0_2) else(none)) else(none)) else(none))=some (r1,r2):=H
             have A42:=Aside0.mk A420
             clear A420
             by_cases c43: 0≤t660
             case neg=>exact znn c43 H
             rw [if_pos c43] at H
             have c43b0:decide (0≤t660)=true:=decide_eq_true c43
             clear c43
             by_cases c44:t660< (x4_2.length:Int)
             case neg=>exact znn c44 H
             rw [if_pos c44] at H
             have c44b0:decide (t660< (x4_2.length:Int))=true:=decide_eq_true c44
             (try(have c44b0L:=c44b0;simp only [hl4_2] at c44b0L))
             clear c44
             obtain⟨y661,hy661⟩ :∃ y_:List Int,y_= (x4_2.set (t660:Int).toNat (-1)):=⟨_,rfl⟩
             replace H:(if x6_3< (x4_2.length:Int) then(spec_MatchAll.l1 k3 (y661.set (x6_3:Int).toNat (rd (rd_L1 l0_0 x6_3) (rd x5_2 x6_3))) y654 l0_0 l0_1 l0_2) else(none))=some (r1,r2):=zfh hy661 H
             have Ny661:=Aside0.mk hy661
             clear hy661
             by_cases c46:x6_3< (x4_2.length:Int)
             case neg=>exact znn c46 H
             rw [if_pos c46] at H
             have c46b0:decide (x6_3< (x4_2.length:Int))=true:=decide_eq_true c46
             (try(have c46b0L:=c46b0;simp only [hl4_2] at c46b0L))
             clear c46
             obtain⟨y662,hy662⟩ :∃ y_:List Int,y_= (y661.set (x6_3:Int).toNat (rd (rd_L1 l0_0 x6_3) (rd x5_2 x6_3))):=⟨_,rfl⟩
             replace H:(spec_MatchAll.l1 k3 y662 y654 l0_0 l0_1 l0_2)=some (r1,r2):=zfh hy662 H
             have Ny662:=Aside0.mk hy662
             clear hy662
             have H':=Aside0.mk H
             clear H
             try go_wp2
             replace HO_4:=Aside0.mk (Kd.R_drew HO_4.out)
             replace HO_5:=Aside0.mk (Kd.R_drew HO_5.out)
             replace BK640:=Aside0.mk (blk_drew BK640.out)
             replace HB:=Aside0.mk (below_drew1 HB.out)
             have p650: 0≤ (x6_3:Int):=of_decide_eq_true zq1
             have q650:x6_3< (l0_0.length:Int):=of_decide_eq_true zq1
             obtain⟨ad650,A650_0,c650_0,e650,hx650_0,hl650_0,hi650_0⟩:=at_L1 HR0_0.out x6_3 p650 q650
             have hw650_0:=hx650_0
             cases e650
             replace hx650_0:=zhx HB hx650_0
             have HR650_0:=Aside0.mk hi650_0
             have HC650_0:=Aside0.mk hl650_0
             clear hi650_0 hl650_0
             replace p650:=eq_true p650
             replace q650:=eq_true q650
             obtain⟨Ao49,co49,eo49⟩:=Kd.R_slice HO_5.out
             (first|subst eo49|(injection eo49 with f1_ f2_ f3_;have f4_:=f1_.symm;have f5_:=f3_.symm;clear f1_ f2_ f3_;subst f4_;subst f5_))
             have p651: 0≤ (x6_3:Int):=of_decide_eq_true zq1
             have q651:x6_3< (x5_2.length:Int):=of_decide_eq_true zq1
             obtain⟨ad651,e651,hx651_0⟩:=Kd.at_int (Kd.R_reads' HO_5.out).2.2 x6_3 p651 q651
             cases e651
             replace p651:=eq_true p651
             replace q651:=eq_true q651
             have p652: 0≤ ((rd x5_2 x6_3):Int):=of_decide_eq_true zq1
             have q652:(rd x5_2 x6_3)< ((rd_L1 l0_0 x6_3).length:Int):=of_decide_eq_true zq1
             obtain⟨ad652,e652,hx652_0⟩:=Kd.at_int HR650_0.out (rd x5_2 x6_3) p652 q652
             have hw652_0:=hx652_0
             cases e652
             replace hx652_0:=zhx HB hx652_0
             replace p652:=eq_true p652
             replace q652:=eq_true q652
             refine start_ (n:=12) (S:=fun w'=>w'.cell? ⟨gb640,0,none⟩=some (.slice (some ad650) l0_0.length c0_0)∧w'.cell? ⟨gb640,1,none⟩=some (.slice A0_1 l0_1.length c0_1)∧w'.cell? ⟨gb640,2,none⟩=some (.slice A0_2 l0_2.length c0_2)∧w'.cell? (ad650.add (x6_3).toNat)=some (.slice (some ad652) (rd_L1 l0_0 x6_3).length c650_0)∧w'.cell? (ad651.add (x6_3).toNat)=some (.int .i64 (rd x5_2 x6_3))∧w'.cell? (ad652.add ((rd x5_2 x6_3)).toNat)=some (.int .i64 (rd (rd_L1 l0_0 x6_3) (rd x5_2 x6_3)))) (ds:= []) (mb' 12 0) (by kernel_rfl) rfl rfl ⟨(blk_cell BK640.out 0).trans rfl,(blk_cell BK640.out 1).trans rfl,(blk_cell BK640.out 2).trans rfl,((zhx HB hw650_0).trans rfl),hx651_0,((zhx HB hw652_0).trans rfl)⟩ (fun hHeld=>?_);refine with_tabW spec_MatchAll.tab18 spec_MatchAll.bits18 (fun HT_ HW_=>?_)
             generalize wr.drew=w48 at HO_4 HO_5 BK640 HB HR650_0 hx650_0 hx651_0 hx652_0 hHeld ⊢
             refine zp1 HT_ 0 53 (mb' 12 1) rfl ?_
             refine zp1 HT_ 2 55 (mb' 12 5) rfl ?_
             refine zp1 HT_ 5 58 (mb' 12 37) rfl ?_
             refine zp1 HT_ 6 59 (mb' 12 101) rfl ?_
             refine zp1 HT_ 7 60 (mb' 12 229) rfl ?_
             refine zt1 HT_ HW_ (v:=?_) (a':=?_) 1 54 (mb' 12 231) rfl ?_ hHeld ?_ ?_;rotate_left;(rintro w' ⟨s0,s1,s2,s3,s4,s5⟩;go_simp;with_reducible rfl);rotate_left;exact zpa
             refine zp1 HT_ 3 56 (mb' 12 239) rfl ?_
             refine zt1 HT_ HW_ (v:=?_) (a':=?_) 4 57 (mb' 12 255) rfl ?_ hHeld ?_ ?_;rotate_left;(rintro w' ⟨s0,s1,s2,s3,s4,s5⟩;go_simp;with_reducible rfl);rotate_left;exact zpa
             refine zt1 HT_ HW_ (v:=?_) (a':=?_) 8 61 (mb' 12 511) rfl ?_ hHeld ?_ ?_;rotate_left;(rintro w' ⟨s0,s1,s2,s3,s4,s5⟩;go_simp;with_reducible rfl);rotate_left;exact zpa
             refine zp1 HT_ 9 62 (mb' 12 1023) rfl ?_
             refine zt1 HT_ HW_ (v:=?_) (a':=?_) 10 63 (mb' 12 2047) rfl ?_ hHeld ?_ ?_;rotate_left;(rintro w' ⟨s0,s1,s2,s3,s4,s5⟩;go_simp;with_reducible rfl);rotate_left;exact zpa
             refine zp1 HT_ 11 8 (mb' 12 4095) rfl ?_
             refine done_ (done_of HT_.out (by kernel_rfl)) ?_
             have p653: 0≤ (x6_3:Int):=of_decide_eq_true zq1
             have q653:x6_3< (x5_2.length:Int):=of_decide_eq_true zq1
             obtain⟨ad653,e653,hx653_0⟩:=Kd.at_int (Kd.R_reads' HO_5.out).2.2 x6_3 p653 q653
             obtain rfl:ad651=ad653:=(by injection e653)
             replace p653:=eq_true p653
             replace q653:=eq_true q653
             have p35: 0≤ (x6_3:Int):=of_decide_eq_true zq1
             have q35:(x6_3:Int)< ((x5_2.length:Int):Int):=of_decide_eq_true zq1
             obtain⟨go35,co35,eo35,gb35,gl35,cl35,HG35⟩:=Kd.R_form HO_5.out (by omega)
             (first|cases eo35|(injection eo35 with ea_ en_ ec_;(first|subst ea_|(injection ea_ with ea_;subst ea_));subst ec_;clear en_))
             have GB35:=Aside0.mk gb35
             have GG35:=Aside0.mk HG35
             clear gb35 gl35 HG35
             (first|simp only [add_plain] at hx651_0|skip)
             (first|simp only [add_plain] at hx653_0|skip)
             obtain⟨hx35_0,hf35_0⟩:=Kd.R_celln 0 HO_5.out (x6_3:Int) p35 q35
             replace p35:=eq_true p35
             replace q35:=eq_true q35
             obtain⟨hy50_,hz50_⟩:=Kd.R_celln 0 HO_5.out (x6_3:Int) (of_decide_eq_true zq1) (of_decide_eq_true zq1)
             have HP50:=Kd.R_putg HO_5.out (x6_3:Int) (wrap64 ((rd x5_2 x6_3)+1))
             try go_wp2_with (first|((with_reducible refine gate_store (t:=3) (p:=69) rfl ?_);refine store_event (t:=3) (p:=69) (v:=?vo_w51) (w1:=(w48.setCell ⟨go35,(x6_3:Int).toNat,none⟩ (.int .i64 (wrap64 ((rd x5_2 x6_3)+1))))) ?hg ?ho ?hn ?hr ?_;(case ho=>rfl);(case hg=>rfl);(case hn=>rfl);(case hr=>first|(go_simp;done)|(go_simp;rfl));intro w51 hw;have hg:w48.grownBy w51 (some go35):=(by rw [hw];exact HP50.2);have hp_:Kd.R (Kd.int .i64) 3 w51 w.heap.size (fun k_=>some k_≠ (.slice Ao13 x4_2.length co13:Value).ownBlock) (.slice (some ⟨go35,0,none⟩) x5_2.length co49) y654:=(by rw [hw,Ny654.out];exact HP50.1);clear HP50;replace HO_4:=Aside0.mk (Kd.R_after (v:=(.slice (some ⟨go35,0,none⟩) x5_2.length co49)) (v1:=(.slice (some ⟨go35,0,none⟩) x5_2.length co49)) (ok:=(fun _=>True)) (by(with_reducible repeat(first|apply Kd.R_alloc|apply Kd.R_drewN|apply Kd.R_drew));exact Kd.R_mono HO_4.out (fun _ hk=>⟨trivial,hk⟩)) hg (.inl rfl));replace BK640:=Aside0.mk (blk_grown (g:=gb640) (o:= .cells #[.slice (some ad650) l0_0.length c0_0,.slice A0_1 l0_1.length c0_1,.slice A0_2 l0_2.length c0_2] 33 (0,0)) (zq3 BK640) hg (Kd.R_ne HO_5.out BK640.out (by decide)));replace HO_5:=Aside0.mk (hp_);replace HB:=Aside0.mk ((by rw [hw];exact below_set (HB.out) GB35.out:Below w.heap.size w w51));clear hg hw hp_;have hcz52_0:=zcz BK640 0 (.slice (some ad650) l0_0.length c0_0);have hcz52_1:=zcz BK640 1 (.slice A0_1 l0_1.length c0_1);have hcz52_2:=zcz BK640 2 (.slice A0_2 l0_2.length c0_2);have hfz52_0:=blk_frozen BK640.out 0;have hfz52_1:=blk_frozen BK640.out 1;have hfz52_2:=blk_frozen BK640.out 2)|((with_reducible refine gate_callee (f:=61) rfl ?_);refine goesL_ (some 74) rfl rfl Try.func61 (by kernel_rfl) rfl #[.agg #[.slice (some ad650) l0_0.length c0_0,.slice A0_1 l0_1.length c0_1,.slice A0_2 l0_2.length c0_2],.slice Ao13 x4_2.length co13,.int .i64 (rd (rd_L1 l0_0 x6_3) (rd x5_2 x6_3)),.int .i64 x6_3] rfl zq2 ?_;(with_reducible refine(spec_l12Would.calls k3 _ _ l0_0 _ _ l0_1 _ _ l0_2 _ _ x4_2 (rd (rd_L1 l0_0 x6_3) (rd x5_2 x6_3)) x6_3 true _ ?side1 ?side2 ?side3 ?side4 ?side5 ?side6 ?side7 ?side8 A36.out).mono ?_);(case side1=>exact zcc ((Kd.C_below HR0_0.out HB.out)));(case side2=>exact HC0_0.out);(case side3=>exact zcc ((Kd.C_below HR0_1.out HB.out)));(case side4=>exact HC0_1.out);(case side5=>exact zcc ((Kd.C_below HR0_2.out HB.out)));(case side6=>exact HC0_2.out);(case side7=>exact zcc ((Kd.R_reads' HO_4.out).2.2));(case side8=>exact(Kd.R_reads' HO_4.out).2.1);rintro e w53 ⟨rfl,hb⟩;refine⟨_,rfl,?_⟩;replace HO_4:=Aside0.mk (Kd.R_below (zq4 HO_4) hb);replace HO_5:=Aside0.mk (Kd.R_below (zq4 HO_5) hb);replace BK640:=Aside0.mk (blk_below (g:=gb640) (o:= .cells #[.slice (some ad650) l0_0.length c0_0,.slice A0_1 l0_1.length c0_1,.slice A0_2 l0_2.length c0_2] 33 (0,0)) (zq3 BK640) hb);replace HB:=Aside0.mk (below_step (by exact zk2 HB GE640.out) hb);(try clear hb);(try clear hb2);(try clear hk);(try clear hi)))
             replace HO_4:=Aside0.mk (Kd.R_drew HO_4.out)
             replace HO_5:=Aside0.mk (Kd.R_drew HO_5.out)
             replace BK640:=Aside0.mk (blk_drew BK640.out)
             replace HB:=Aside0.mk (below_drew1 HB.out)
             have p659: 0≤ ((rd (rd_L1 l0_0 x6_3) (rd x5_2 x6_3)):Int):=of_decide_eq_true zq1
             have q659:(rd (rd_L1 l0_0 x6_3) (rd x5_2 x6_3))< (l0_2.length:Int):=of_decide_eq_true zq1
             obtain⟨ad659,e659,hx659_0⟩:=Kd.at_int HR0_2.out (rd (rd_L1 l0_0 x6_3) (rd x5_2 x6_3)) p659 q659
             have hw659_0:=hx659_0
             cases e659
             replace hx659_0:=zhx HB hx659_0
             replace p659:=eq_true p659
             replace q659:=eq_true q659
             refine start_ (n:=10) (S:=fun w'=>w'.cell? ⟨gb640,0,none⟩=some (.slice (some ad650) l0_0.length c0_0)∧w'.cell? ⟨gb640,1,none⟩=some (.slice A0_1 l0_1.length c0_1)∧w'.cell? ⟨gb640,2,none⟩=some (.slice (some ad659) l0_2.length c0_2)∧w'.cell? (ad659.add ((rd (rd_L1 l0_0 x6_3) (rd x5_2 x6_3))).toNat)=some (.int .i64 (rd l0_2 (rd (rd_L1 l0_0 x6_3) (rd x5_2 x6_3))))) (ds:= []) (mb' 10 0) (by kernel_rfl) rfl rfl ⟨(blk_cell BK640.out 0).trans rfl,(blk_cell BK640.out 1).trans rfl,(blk_cell BK640.out 2).trans rfl,((zhx HB hw659_0).trans rfl)⟩ (fun hHeld=>?_);refine with_tabW spec_MatchAll.tab21 spec_MatchAll.bits21 (fun HT_ HW_=>?_)
             generalize w53.drew=w54 at HO_4 HO_5 BK640 HB hx659_0 hHeld ⊢
             refine zp1 HT_ 0 76 (mb' 10 1) rfl ?_
             refine zp1 HT_ 1 77 (mb' 10 3) rfl ?_
             refine zp1 HT_ 4 80 (mb' 10 19) rfl ?_
             refine zp1 HT_ 6 82 (mb' 10 83) rfl ?_
             refine zt1 HT_ HW_ (v:=?_) (a':=?_) 5 81 (mb' 10 115) rfl ?_ hHeld ?_ ?_;rotate_left;(rintro w' ⟨s0,s1,s2,s3⟩;go_simp;with_reducible rfl);rotate_left;exact zpa
             refine zp1 HT_ 7 83 (mb' 10 243) rfl ?_
             refine zt1 HT_ HW_ (v:=?_) (a':=?_) 8 84 (mb' 10 499) rfl ?_ hHeld ?_ ?_;rotate_left;(rintro w' ⟨s0,s1,s2,s3⟩;go_simp;with_reducible rfl);rotate_left;exact zpa
             refine one_ (i:=2) (N:=some 78) (mb' 10 503) rfl rfl (one_of HT_.out (by kernel_rfl)) (by decide) (fun K hK=>?_)
             refine goes_ Try.func55 (by kernel_rfl) rfl #[.slice Ao13 x4_2.length co13,.int .i64 (rd (rd_L1 l0_0 x6_3) (rd x5_2 x6_3))] (by rfl) rfl rfl zq2 ?_
             with_reducible refine(spec_l12Has.calls k3 _ _ x4_2 (rd (rd_L1 l0_0 x6_3) (rd x5_2 x6_3)) t656 _ ?side1 ?side2 A38.out).mono ?_
             (case side1=>exact zcc ((Kd.R_reads' HO_4.out).2.2))
             (case side2=>exact(Kd.R_reads' HO_4.out).2.1)
             rintro e w55 ⟨v657,rfl,ho0,hb⟩
             refine⟨_,rfl,?_⟩
             have HO658:=Aside0.mk (Kd.R_lower (Kd.R_new' (Kd.R_new' ho0 (Kd.R_lt (zq4 HO_4))) (Kd.R_lt (zq4 HO_5))) (below_size (by exact zk2 HB GE640.out)))
             replace HO_4:=Aside0.mk (Kd.R_elder' (zq4 HO_4) (Kd.R_base ho0) hb)
             replace HO_5:=Aside0.mk (Kd.R_elder' (zq4 HO_5) (Kd.R_base ho0) hb)
             replace BK640:=Aside0.mk (blk_below (g:=gb640) (o:= .cells #[.slice (some ad650) l0_0.length c0_0,.slice A0_1 l0_1.length c0_1,.slice (some ad659) l0_2.length c0_2] 33 (0,0)) (zq3 BK640) hb)
             replace HB:=Aside0.mk (below_step (by exact zk2 HB GE640.out) hb)
             (try clear hb)
             (try clear hb2)
             (try clear hk)
             (try clear hi)
             (try clear ho0)
             obtain⟨Ao56,co56,eo56⟩:=Kd.R_slice HO658.out
             (first|subst eo56|(injection eo56 with f1_ f2_ f3_;have f4_:=f1_.symm;have f5_:=f3_.symm;clear f1_ f2_ f3_;subst f4_;subst f5_))
             refine hK.out _ _ ⟨(blk_cell BK640.out 0).trans rfl,(blk_cell BK640.out 1).trans rfl,(blk_cell BK640.out 2).trans rfl,((zhx HB hw659_0).trans rfl)⟩ (fun hHeld=>?_)
             clear hK K
             refine norm_ (a':=?_) ?_ ?_
             rotate_left
             ·show Act.put _ (some 78) _=_
              simp only [Act.put,List.setIfInBounds_toArray,List.set_cons_zero,List.set_cons_succ,i64_w,i32_w]
              rfl
             refine zp1 HT_ 3 79 (mb' 10 511) rfl ?_
             refine zp1 HT_ 9 85 (mb' 10 1023) rfl ?_
             refine done_ (done_of HT_.out (by kernel_rfl)) ?_
             have hcz57_0:=zcz BK640 0 (.slice (some ad650) l0_0.length c0_0)
             have hcz57_1:=zcz BK640 1 (.slice A0_1 l0_1.length c0_1)
             have hcz57_2:=zcz BK640 2 (.slice (some ad659) l0_2.length c0_2)
             have hfz57_0:=blk_frozen BK640.out 0
             have hfz57_1:=blk_frozen BK640.out 1
             have hfz57_2:=blk_frozen BK640.out 2
             try go_wp2_with (first|((with_reducible refine gate_callee (f:=62) rfl ?_);refine goesL_ (some 90) rfl rfl Try.func62 (by kernel_rfl) rfl #[.agg #[.slice (some ad650) l0_0.length c0_0,.slice A0_1 l0_1.length c0_1,.slice (some ad659) l0_2.length c0_2],.slice Ao13 x4_2.length co13,.int .i64 (rd (rd_L1 l0_0 x6_3) (rd x5_2 x6_3))] rfl zq2 ?_;(with_reducible refine(spec_l12Worst.calls k3 _ _ l0_0 _ _ l0_1 _ _ l0_2 _ _ x4_2 (rd (rd_L1 l0_0 x6_3) (rd x5_2 x6_3)) t660 _ ?side1 ?side2 ?side3 ?side4 ?side5 ?side6 ?side7 ?side8 A42.out).mono ?_);(case side1=>exact zcc ((Kd.C_below HR0_0.out HB.out)));(case side2=>exact HC0_0.out);(case side3=>exact zcc ((Kd.C_below HR0_1.out HB.out)));(case side4=>exact HC0_1.out);(case side5=>exact zcc ((Kd.C_below HR0_2.out HB.out)));(case side6=>exact HC0_2.out);(case side7=>exact zcc ((Kd.R_reads' HO_4.out).2.2));(case side8=>exact(Kd.R_reads' HO_4.out).2.1);rintro e w58 ⟨rfl,hb⟩;refine⟨_,rfl,?_⟩;replace HO_4:=Aside0.mk (Kd.R_below (zq4 HO_4) hb);replace HO_5:=Aside0.mk (Kd.R_below (zq4 HO_5) hb);replace HO658:=Aside0.mk (Kd.R_below (zq4 HO658) hb);replace BK640:=Aside0.mk (blk_below (g:=gb640) (o:= .cells #[.slice (some ad650) l0_0.length c0_0,.slice A0_1 l0_1.length c0_1,.slice (some ad659) l0_2.length c0_2] 33 (0,0)) (zq3 BK640) hb);replace HB:=Aside0.mk (below_step (by exact zk2 HB GE640.out) hb);(try clear hb);(try clear hb2);(try clear hk);(try clear hi);have p45: 0≤ (t660:Int):=of_decide_eq_true zq1;have q45:(t660:Int)< ((x4_2.length:Int):Int):=of_decide_eq_true zq1;obtain⟨go45,co45,eo45,gb45,gl45,cl45,HG45⟩:=Kd.R_form HO_4.out (by omega);(first|cases eo45|(injection eo45 with ea_ en_ ec_;(first|subst ea_|(injection ea_ with ea_;subst ea_));subst ec_;clear en_));have GB45:=Aside0.mk gb45;have GG45:=Aside0.mk HG45;clear gb45 gl45 HG45;obtain⟨hx45_0,hf45_0⟩:=Kd.R_celln 0 HO_4.out (t660:Int) p45 q45;replace p45:=eq_true p45;replace q45:=eq_true q45;have n_:=Aside0.mk (Kd.R_mono (ok':=(fun k_=>some k_≠ (.slice (some ⟨go35,0,none⟩) x5_2.length co49:Value).ownBlock∧some k_≠ (.slice Ao56 t656.length co56:Value).ownBlock)) HO_4.out (fun k_ hk=>⟨hk.1.2,hk.2⟩));clear HO_4;have HO_4:=n_;clear n_;obtain⟨hy59_,hz59_⟩:=Kd.R_celln 0 HO_4.out (t660:Int) (of_decide_eq_true zq1) (of_decide_eq_true zq1);have HP59:=Kd.R_putg HO_4.out (t660:Int) (-1))|((with_reducible refine gate_store (t:=3) (p:=91) rfl ?_);refine store_event (t:=3) (p:=91) (v:=?vo_w60) (w1:=(w58.setCell ⟨go45,(t660:Int).toNat,none⟩ (.int .i64 (-1)))) ?hg ?ho ?hn ?hr ?_;(case ho=>rfl);(case hg=>rfl);(case hn=>rfl);(case hr=>first|(go_simp;done)|(go_simp;rfl));intro w60 hw;have hg:w58.grownBy w60 (some go45):=(by rw [hw];exact HP59.2);have hp_:Kd.R (Kd.int .i64) 3 w60 w.heap.size (fun k_=>some k_≠ (.slice (some ⟨go35,0,none⟩) x5_2.length co49:Value).ownBlock∧some k_≠ (.slice Ao56 t656.length co56:Value).ownBlock) (.slice (some ⟨go45,0,none⟩) x4_2.length co13) y661:=(by rw [hw,Ny661.out];exact HP59.1);clear HP59;replace HO_5:=Aside0.mk (Kd.R_after (v:=(.slice (some ⟨go45,0,none⟩) x4_2.length co13)) (v1:=(.slice (some ⟨go45,0,none⟩) x4_2.length co13)) (ok:=(fun k_=>some k_≠ (.slice Ao56 t656.length co56:Value).ownBlock)) (by(with_reducible repeat(first|apply Kd.R_alloc|apply Kd.R_drewN|apply Kd.R_drew));exact Kd.R_mono HO_5.out (fun _ hk=>⟨hk.2,hk.1⟩)) hg (.inl rfl));replace BK640:=Aside0.mk (blk_grown (g:=gb640) (o:= .cells #[.slice (some ad650) l0_0.length c0_0,.slice A0_1 l0_1.length c0_1,.slice (some ad659) l0_2.length c0_2] 33 (0,0)) (zq3 BK640) hg (Kd.R_ne HO_4.out BK640.out (by decide)));replace HO_4:=Aside0.mk (hp_);replace HO658:=Aside0.mk (Kd.R_after (v:=(.slice (some ⟨go45,0,none⟩) x4_2.length co13)) (v1:=(.slice (some ⟨go45,0,none⟩) x4_2.length co13)) (ok:=(fun k_=>some k_≠ (.slice (some ⟨go35,0,none⟩) x5_2.length co49:Value).ownBlock)) (by(with_reducible repeat(first|apply Kd.R_alloc|apply Kd.R_drewN|apply Kd.R_drew));exact Kd.R_mono HO658.out (fun _ hk=>⟨hk.2,hk.1.2⟩)) hg (.inl rfl));replace HB:=Aside0.mk ((by rw [hw];exact below_set (HB.out) GB45.out:Below w.heap.size w w60));clear hg hw hp_;have p47: 0≤ (x6_3:Int):=of_decide_eq_true zq1;have q47:(x6_3:Int)< ((x4_2.length:Int):Int):=of_decide_eq_true zq1;obtain⟨hx47_0,hf47_0⟩:=Kd.R_celln 0 HO_4.out (x6_3:Int) p47 q47;replace p47:=eq_true p47;replace q47:=eq_true q47;obtain⟨hy61_,hz61_⟩:=Kd.R_celln 0 HO_4.out (x6_3:Int) (of_decide_eq_true zq1) (of_decide_eq_true zq1);have HP61:=Kd.R_putg HO_4.out (x6_3:Int) (rd (rd_L1 l0_0 x6_3) (rd x5_2 x6_3)))|((with_reducible refine gate_store (t:=3) (p:=95) rfl ?_);refine store_event (t:=3) (p:=95) (v:=?vo_w62) (w1:=(w60.setCell ⟨go45,(x6_3:Int).toNat,none⟩ (.int .i64 (rd (rd_L1 l0_0 x6_3) (rd x5_2 x6_3))))) ?hg ?ho ?hn ?hr ?_;(case ho=>rfl);(case hg=>rfl);(case hn=>rfl);(case hr=>first|(go_simp;done)|(go_simp;rfl));intro w62 hw;have hg:w60.grownBy w62 (some go45):=(by rw [hw];exact HP61.2);have hp_:Kd.R (Kd.int .i64) 3 w62 w.heap.size (fun k_=>some k_≠ (.slice (some ⟨go35,0,none⟩) x5_2.length co49:Value).ownBlock∧some k_≠ (.slice Ao56 t656.length co56:Value).ownBlock) (.slice (some ⟨go45,0,none⟩) x4_2.length co13) y662:=(by rw [hw,Ny662.out];exact HP61.1);clear HP61;replace HO_5:=Aside0.mk (Kd.R_after (v:=(.slice (some ⟨go45,0,none⟩) x4_2.length co13)) (v1:=(.slice (some ⟨go45,0,none⟩) x4_2.length co13)) (ok:=(fun k_=>some k_≠ (.slice Ao56 t656.length co56:Value).ownBlock)) (zq4 HO_5) hg (.inl rfl));replace BK640:=Aside0.mk (blk_grown (g:=gb640) (o:= .cells #[.slice (some ad650) l0_0.length c0_0,.slice A0_1 l0_1.length c0_1,.slice (some ad659) l0_2.length c0_2] 33 (0,0)) (zq3 BK640) hg (Kd.R_ne HO_4.out BK640.out (by decide)));replace HO_4:=Aside0.mk (hp_);replace HO658:=Aside0.mk (Kd.R_after (v:=(.slice (some ⟨go45,0,none⟩) x4_2.length co13)) (v1:=(.slice (some ⟨go45,0,none⟩) x4_2.length co13)) (ok:=(fun k_=>some k_≠ (.slice (some ⟨go35,0,none⟩) x5_2.length co49:Value).ownBlock)) (zq4 HO658) hg (.inl rfl));replace HB:=Aside0.mk ((by rw [hw];exact below_set (HB.out) GB45.out:Below w.heap.size w w62));clear hg hw hp_))
             (try simp only [← hl4_2])
             go_roundg k3
             case measure=>have:=HK1.out;have:=HK2.out;have:=HK3.out;omega
             case rel=>exact⟨(y662),(y654),H',⟨by have:=HK1.out;have:=HK2.out;have:=HK3.out;omega⟩,⟨by(try simp only [hl4_2]);(with_reducible repeat(first|apply Kd.R_alloc|apply Kd.R_drewN|apply Kd.R_drew));exact Kd.R_mono HO_4.out (fun _ hk=>hk.1)⟩,⟨by(try simp only [hl4_2]);(with_reducible repeat(first|apply Kd.R_alloc|apply Kd.R_drewN|apply Kd.R_drew));exact Kd.R_mono HO_5.out (fun _ hk=>hk.2)⟩,⟨by(try simp only [hl4_2]);(with_reducible repeat(first|refine blk_drewN ?_ _|refine blk_drew ?_ |refine blk_alloc ?_ _));exact BK640.out⟩,⟨by exact zk2 HB GE640.out⟩⟩
            ·rw [if_neg c41] at H
             have c41b0:((t656.length:Int)== (rd l0_2 (rd (rd_L1 l0_0 x6_3) (rd x5_2 x6_3))))=false:=beq_eq_false_iff_ne.mpr c41
             (try(have c41b0L:=c41b0;simp only [hl4_2] at c41b0L))
             have c41b1:((t656.length:Int) != (rd l0_2 (rd (rd_L1 l0_0 x6_3) (rd x5_2 x6_3))))=true:=bne_iff_ne.mpr c41
             (try(have c41b1L:=c41b1;simp only [hl4_2] at c41b1L))
             by_cases c63:x6_3< (x4_2.length:Int)
             case neg=>exact znn c63 H
             rw [if_pos c63] at H
             have c63b0:decide (x6_3< (x4_2.length:Int))=true:=decide_eq_true c63
             (try(have c63b0L:=c63b0;simp only [hl4_2] at c63b0L))
             clear c63
             obtain⟨y663,hy663⟩ :∃ y_:List Int,y_= (x4_2.set (x6_3:Int).toNat (rd (rd_L1 l0_0 x6_3) (rd x5_2 x6_3))):=⟨_,rfl⟩
             replace H:(spec_MatchAll.l1 k3 y663 y654 l0_0 l0_1 l0_2)=some (r1,r2):=zfh hy663 H
             have Ny663:=Aside0.mk hy663
             clear hy663
             have H':=Aside0.mk H
             clear H
             try go_wp2
             replace HO_4:=Aside0.mk (Kd.R_drew HO_4.out)
             replace HO_5:=Aside0.mk (Kd.R_drew HO_5.out)
             replace BK640:=Aside0.mk (blk_drew BK640.out)
             replace HB:=Aside0.mk (below_drew1 HB.out)
             have p650: 0≤ (x6_3:Int):=of_decide_eq_true zq1
             have q650:x6_3< (l0_0.length:Int):=of_decide_eq_true zq1
             obtain⟨ad650,A650_0,c650_0,e650,hx650_0,hl650_0,hi650_0⟩:=at_L1 HR0_0.out x6_3 p650 q650
             have hw650_0:=hx650_0
             cases e650
             replace hx650_0:=zhx HB hx650_0
             have HR650_0:=Aside0.mk hi650_0
             have HC650_0:=Aside0.mk hl650_0
             clear hi650_0 hl650_0
             replace p650:=eq_true p650
             replace q650:=eq_true q650
             obtain⟨Ao66,co66,eo66⟩:=Kd.R_slice HO_5.out
             (first|subst eo66|(injection eo66 with f1_ f2_ f3_;have f4_:=f1_.symm;have f5_:=f3_.symm;clear f1_ f2_ f3_;subst f4_;subst f5_))
             have p651: 0≤ (x6_3:Int):=of_decide_eq_true zq1
             have q651:x6_3< (x5_2.length:Int):=of_decide_eq_true zq1
             obtain⟨ad651,e651,hx651_0⟩:=Kd.at_int (Kd.R_reads' HO_5.out).2.2 x6_3 p651 q651
             cases e651
             replace p651:=eq_true p651
             replace q651:=eq_true q651
             have p652: 0≤ ((rd x5_2 x6_3):Int):=of_decide_eq_true zq1
             have q652:(rd x5_2 x6_3)< ((rd_L1 l0_0 x6_3).length:Int):=of_decide_eq_true zq1
             obtain⟨ad652,e652,hx652_0⟩:=Kd.at_int HR650_0.out (rd x5_2 x6_3) p652 q652
             have hw652_0:=hx652_0
             cases e652
             replace hx652_0:=zhx HB hx652_0
             replace p652:=eq_true p652
             replace q652:=eq_true q652
             refine start_ (n:=12) (S:=fun w'=>w'.cell? ⟨gb640,0,none⟩=some (.slice (some ad650) l0_0.length c0_0)∧w'.cell? ⟨gb640,1,none⟩=some (.slice A0_1 l0_1.length c0_1)∧w'.cell? ⟨gb640,2,none⟩=some (.slice A0_2 l0_2.length c0_2)∧w'.cell? (ad650.add (x6_3).toNat)=some (.slice (some ad652) (rd_L1 l0_0 x6_3).length c650_0)∧w'.cell? (ad651.add (x6_3).toNat)=some (.int .i64 (rd x5_2 x6_3))∧w'.cell? (ad652.add ((rd x5_2 x6_3)).toNat)=some (.int .i64 (rd (rd_L1 l0_0 x6_3) (rd x5_2 x6_3)))) (ds:= []) (mb' 12 0) (by kernel_rfl) rfl rfl ⟨(blk_cell BK640.out 0).trans rfl,(blk_cell BK640.out 1).trans rfl,(blk_cell BK640.out 2).trans rfl,((zhx HB hw650_0).trans rfl),hx651_0,((zhx HB hw652_0).trans rfl)⟩ (fun hHeld=>?_);refine with_tabW spec_MatchAll.tab18 spec_MatchAll.bits18 (fun HT_ HW_=>?_)
             generalize wr.drew=w65 at HO_4 HO_5 BK640 HB HR650_0 hx650_0 hx651_0 hx652_0 hHeld ⊢
             refine zp1 HT_ 0 53 (mb' 12 1) rfl ?_
             refine zp1 HT_ 2 55 (mb' 12 5) rfl ?_
             refine zp1 HT_ 5 58 (mb' 12 37) rfl ?_
             refine zp1 HT_ 6 59 (mb' 12 101) rfl ?_
             refine zp1 HT_ 7 60 (mb' 12 229) rfl ?_
             refine zt1 HT_ HW_ (v:=?_) (a':=?_) 1 54 (mb' 12 231) rfl ?_ hHeld ?_ ?_;rotate_left;(rintro w' ⟨s0,s1,s2,s3,s4,s5⟩;go_simp;with_reducible rfl);rotate_left;exact zpa
             refine zp1 HT_ 3 56 (mb' 12 239) rfl ?_
             refine zt1 HT_ HW_ (v:=?_) (a':=?_) 4 57 (mb' 12 255) rfl ?_ hHeld ?_ ?_;rotate_left;(rintro w' ⟨s0,s1,s2,s3,s4,s5⟩;go_simp;with_reducible rfl);rotate_left;exact zpa
             refine zt1 HT_ HW_ (v:=?_) (a':=?_) 8 61 (mb' 12 511) rfl ?_ hHeld ?_ ?_;rotate_left;(rintro w' ⟨s0,s1,s2,s3,s4,s5⟩;go_simp;with_reducible rfl);rotate_left;exact zpa
             refine zp1 HT_ 9 62 (mb' 12 1023) rfl ?_
             refine zt1 HT_ HW_ (v:=?_) (a':=?_) 10 63 (mb' 12 2047) rfl ?_ hHeld ?_ ?_;rotate_left;(rintro w' ⟨s0,s1,s2,s3,s4,s5⟩;go_simp;with_reducible rfl);rotate_left;exact zpa
             refine zp1 HT_ 11 8 (mb' 12 4095) rfl ?_
             refine done_ (done_of HT_.out (by kernel_rfl)) ?_
             have p653: 0≤ (x6_3:Int):=of_decide_eq_true zq1
             have q653:x6_3< (x5_2.length:Int):=of_decide_eq_true zq1
             obtain⟨ad653,e653,hx653_0⟩:=Kd.at_int (Kd.R_reads' HO_5.out).2.2 x6_3 p653 q653
             obtain rfl:ad651=ad653:=(by injection e653)
             replace p653:=eq_true p653
             replace q653:=eq_true q653
             have p35: 0≤ (x6_3:Int):=of_decide_eq_true zq1
             have q35:(x6_3:Int)< ((x5_2.length:Int):Int):=of_decide_eq_true zq1
             obtain⟨go35,co35,eo35,gb35,gl35,cl35,HG35⟩:=Kd.R_form HO_5.out (by omega)
             (first|cases eo35|(injection eo35 with ea_ en_ ec_;(first|subst ea_|(injection ea_ with ea_;subst ea_));subst ec_;clear en_))
             have GB35:=Aside0.mk gb35
             have GG35:=Aside0.mk HG35
             clear gb35 gl35 HG35
             (first|simp only [add_plain] at hx651_0|skip)
             (first|simp only [add_plain] at hx653_0|skip)
             obtain⟨hx35_0,hf35_0⟩:=Kd.R_celln 0 HO_5.out (x6_3:Int) p35 q35
             replace p35:=eq_true p35
             replace q35:=eq_true q35
             obtain⟨hy67_,hz67_⟩:=Kd.R_celln 0 HO_5.out (x6_3:Int) (of_decide_eq_true zq1) (of_decide_eq_true zq1)
             have HP67:=Kd.R_putg HO_5.out (x6_3:Int) (wrap64 ((rd x5_2 x6_3)+1))
             try go_wp2_with (first|((with_reducible refine gate_store (t:=3) (p:=69) rfl ?_);refine store_event (t:=3) (p:=69) (v:=?vo_w68) (w1:=(w65.setCell ⟨go35,(x6_3:Int).toNat,none⟩ (.int .i64 (wrap64 ((rd x5_2 x6_3)+1))))) ?hg ?ho ?hn ?hr ?_;(case ho=>rfl);(case hg=>rfl);(case hn=>rfl);(case hr=>first|(go_simp;done)|(go_simp;rfl));intro w68 hw;have hg:w65.grownBy w68 (some go35):=(by rw [hw];exact HP67.2);have hp_:Kd.R (Kd.int .i64) 3 w68 w.heap.size (fun k_=>some k_≠ (.slice Ao13 x4_2.length co13:Value).ownBlock) (.slice (some ⟨go35,0,none⟩) x5_2.length co66) y654:=(by rw [hw,Ny654.out];exact HP67.1);clear HP67;replace HO_4:=Aside0.mk (Kd.R_after (v:=(.slice (some ⟨go35,0,none⟩) x5_2.length co66)) (v1:=(.slice (some ⟨go35,0,none⟩) x5_2.length co66)) (ok:=(fun _=>True)) (by(with_reducible repeat(first|apply Kd.R_alloc|apply Kd.R_drewN|apply Kd.R_drew));exact Kd.R_mono HO_4.out (fun _ hk=>⟨trivial,hk⟩)) hg (.inl rfl));replace BK640:=Aside0.mk (blk_grown (g:=gb640) (o:= .cells #[.slice (some ad650) l0_0.length c0_0,.slice A0_1 l0_1.length c0_1,.slice A0_2 l0_2.length c0_2] 33 (0,0)) (zq3 BK640) hg (Kd.R_ne HO_5.out BK640.out (by decide)));replace HO_5:=Aside0.mk (hp_);replace HB:=Aside0.mk ((by rw [hw];exact below_set (HB.out) GB35.out:Below w.heap.size w w68));clear hg hw hp_;have hcz69_0:=zcz BK640 0 (.slice (some ad650) l0_0.length c0_0);have hcz69_1:=zcz BK640 1 (.slice A0_1 l0_1.length c0_1);have hcz69_2:=zcz BK640 2 (.slice A0_2 l0_2.length c0_2);have hfz69_0:=blk_frozen BK640.out 0;have hfz69_1:=blk_frozen BK640.out 1;have hfz69_2:=blk_frozen BK640.out 2)|((with_reducible refine gate_callee (f:=61) rfl ?_);refine goesL_ (some 74) rfl rfl Try.func61 (by kernel_rfl) rfl #[.agg #[.slice (some ad650) l0_0.length c0_0,.slice A0_1 l0_1.length c0_1,.slice A0_2 l0_2.length c0_2],.slice Ao13 x4_2.length co13,.int .i64 (rd (rd_L1 l0_0 x6_3) (rd x5_2 x6_3)),.int .i64 x6_3] rfl zq2 ?_;(with_reducible refine(spec_l12Would.calls k3 _ _ l0_0 _ _ l0_1 _ _ l0_2 _ _ x4_2 (rd (rd_L1 l0_0 x6_3) (rd x5_2 x6_3)) x6_3 true _ ?side1 ?side2 ?side3 ?side4 ?side5 ?side6 ?side7 ?side8 A36.out).mono ?_);(case side1=>exact zcc ((Kd.C_below HR0_0.out HB.out)));(case side2=>exact HC0_0.out);(case side3=>exact zcc ((Kd.C_below HR0_1.out HB.out)));(case side4=>exact HC0_1.out);(case side5=>exact zcc ((Kd.C_below HR0_2.out HB.out)));(case side6=>exact HC0_2.out);(case side7=>exact zcc ((Kd.R_reads' HO_4.out).2.2));(case side8=>exact(Kd.R_reads' HO_4.out).2.1);rintro e w70 ⟨rfl,hb⟩;refine⟨_,rfl,?_⟩;replace HO_4:=Aside0.mk (Kd.R_below (zq4 HO_4) hb);replace HO_5:=Aside0.mk (Kd.R_below (zq4 HO_5) hb);replace BK640:=Aside0.mk (blk_below (g:=gb640) (o:= .cells #[.slice (some ad650) l0_0.length c0_0,.slice A0_1 l0_1.length c0_1,.slice A0_2 l0_2.length c0_2] 33 (0,0)) (zq3 BK640) hb);replace HB:=Aside0.mk (below_step (by exact zk2 HB GE640.out) hb);(try clear hb);(try clear hb2);(try clear hk);(try clear hi)))
             replace HO_4:=Aside0.mk (Kd.R_drew HO_4.out)
             replace HO_5:=Aside0.mk (Kd.R_drew HO_5.out)
             replace BK640:=Aside0.mk (blk_drew BK640.out)
             replace HB:=Aside0.mk (below_drew1 HB.out)
             have p659: 0≤ ((rd (rd_L1 l0_0 x6_3) (rd x5_2 x6_3)):Int):=of_decide_eq_true zq1
             have q659:(rd (rd_L1 l0_0 x6_3) (rd x5_2 x6_3))< (l0_2.length:Int):=of_decide_eq_true zq1
             obtain⟨ad659,e659,hx659_0⟩:=Kd.at_int HR0_2.out (rd (rd_L1 l0_0 x6_3) (rd x5_2 x6_3)) p659 q659
             have hw659_0:=hx659_0
             cases e659
             replace hx659_0:=zhx HB hx659_0
             replace p659:=eq_true p659
             replace q659:=eq_true q659
             refine start_ (n:=10) (S:=fun w'=>w'.cell? ⟨gb640,0,none⟩=some (.slice (some ad650) l0_0.length c0_0)∧w'.cell? ⟨gb640,1,none⟩=some (.slice A0_1 l0_1.length c0_1)∧w'.cell? ⟨gb640,2,none⟩=some (.slice (some ad659) l0_2.length c0_2)∧w'.cell? (ad659.add ((rd (rd_L1 l0_0 x6_3) (rd x5_2 x6_3))).toNat)=some (.int .i64 (rd l0_2 (rd (rd_L1 l0_0 x6_3) (rd x5_2 x6_3))))) (ds:= []) (mb' 10 0) (by kernel_rfl) rfl rfl ⟨(blk_cell BK640.out 0).trans rfl,(blk_cell BK640.out 1).trans rfl,(blk_cell BK640.out 2).trans rfl,((zhx HB hw659_0).trans rfl)⟩ (fun hHeld=>?_);refine with_tabW spec_MatchAll.tab21 spec_MatchAll.bits21 (fun HT_ HW_=>?_)
             generalize w70.drew=w71 at HO_4 HO_5 BK640 HB hx659_0 hHeld ⊢
             refine zp1 HT_ 0 76 (mb' 10 1) rfl ?_
             refine zp1 HT_ 1 77 (mb' 10 3) rfl ?_
             refine zp1 HT_ 4 80 (mb' 10 19) rfl ?_
             refine zp1 HT_ 6 82 (mb' 10 83) rfl ?_
             refine zt1 HT_ HW_ (v:=?_) (a':=?_) 5 81 (mb' 10 115) rfl ?_ hHeld ?_ ?_;rotate_left;(rintro w' ⟨s0,s1,s2,s3⟩;go_simp;with_reducible rfl);rotate_left;exact zpa
             refine zp1 HT_ 7 83 (mb' 10 243) rfl ?_
             refine zt1 HT_ HW_ (v:=?_) (a':=?_) 8 84 (mb' 10 499) rfl ?_ hHeld ?_ ?_;rotate_left;(rintro w' ⟨s0,s1,s2,s3⟩;go_simp;with_reducible rfl);rotate_left;exact zpa
             refine one_ (i:=2) (N:=some 78) (mb' 10 503) rfl rfl (one_of HT_.out (by kernel_rfl)) (by decide) (fun K hK=>?_)
             refine goes_ Try.func55 (by kernel_rfl) rfl #[.slice Ao13 x4_2.length co13,.int .i64 (rd (rd_L1 l0_0 x6_3) (rd x5_2 x6_3))] (by rfl) rfl rfl zq2 ?_
             with_reducible refine(spec_l12Has.calls k3 _ _ x4_2 (rd (rd_L1 l0_0 x6_3) (rd x5_2 x6_3)) t656 _ ?side1 ?side2 A38.out).mono ?_
             (case side1=>exact zcc ((Kd.R_reads' HO_4.out).2.2))
             (case side2=>exact(Kd.R_reads' HO_4.out).2.1)
             rintro e w72 ⟨v657,rfl,ho0,hb⟩
             refine⟨_,rfl,?_⟩
             have HO658:=Aside0.mk (Kd.R_lower (Kd.R_new' (Kd.R_new' ho0 (Kd.R_lt (zq4 HO_4))) (Kd.R_lt (zq4 HO_5))) (below_size (by exact zk2 HB GE640.out)))
             replace HO_4:=Aside0.mk (Kd.R_elder' (zq4 HO_4) (Kd.R_base ho0) hb)
             replace HO_5:=Aside0.mk (Kd.R_elder' (zq4 HO_5) (Kd.R_base ho0) hb)
             replace BK640:=Aside0.mk (blk_below (g:=gb640) (o:= .cells #[.slice (some ad650) l0_0.length c0_0,.slice A0_1 l0_1.length c0_1,.slice (some ad659) l0_2.length c0_2] 33 (0,0)) (zq3 BK640) hb)
             replace HB:=Aside0.mk (below_step (by exact zk2 HB GE640.out) hb)
             (try clear hb)
             (try clear hb2)
             (try clear hk)
             (try clear hi)
             (try clear ho0)
             obtain⟨Ao73,co73,eo73⟩:=Kd.R_slice HO658.out
             (first|subst eo73|(injection eo73 with f1_ f2_ f3_;have f4_:=f1_.symm;have f5_:=f3_.symm;clear f1_ f2_ f3_;subst f4_;subst f5_))
             refine hK.out _ _ ⟨(blk_cell BK640.out 0).trans rfl,(blk_cell BK640.out 1).trans rfl,(blk_cell BK640.out 2).trans rfl,((zhx HB hw659_0).trans rfl)⟩ (fun hHeld=>?_)
             clear hK K
             refine norm_ (a':=?_) ?_ ?_
             rotate_left
             ·show Act.put _ (some 78) _=_
              simp only [Act.put,List.setIfInBounds_toArray,List.set_cons_zero,List.set_cons_succ,i64_w,i32_w]
              rfl
             refine zp1 HT_ 3 79 (mb' 10 511) rfl ?_
             refine zp1 HT_ 9 85 (mb' 10 1023) rfl ?_
             refine done_ (done_of HT_.out (by kernel_rfl)) ?_
             have p64: 0≤ (x6_3:Int):=of_decide_eq_true zq1
             have q64:(x6_3:Int)< ((x4_2.length:Int):Int):=of_decide_eq_true zq1
             obtain⟨go64,co64,eo64,gb64,gl64,cl64,HG64⟩:=Kd.R_form HO_4.out (by omega)
             (first|cases eo64|(injection eo64 with ea_ en_ ec_;(first|subst ea_|(injection ea_ with ea_;subst ea_));subst ec_;clear en_))
             have GB64:=Aside0.mk gb64
             have GG64:=Aside0.mk HG64
             clear gb64 gl64 HG64
             obtain⟨hx64_0,hf64_0⟩:=Kd.R_celln 0 HO_4.out (x6_3:Int) p64 q64
             replace p64:=eq_true p64
             replace q64:=eq_true q64
             have n_:=Aside0.mk (Kd.R_mono (ok':=(fun k_=>some k_≠ (.slice (some ⟨go35,0,none⟩) x5_2.length co66:Value).ownBlock∧some k_≠ (.slice Ao73 t656.length co73:Value).ownBlock)) HO_4.out (fun k_ hk=>⟨hk.1.2,hk.2⟩))
             clear HO_4
             have HO_4:=n_
             clear n_
             obtain⟨hy74_,hz74_⟩:=Kd.R_celln 0 HO_4.out (x6_3:Int) (of_decide_eq_true zq1) (of_decide_eq_true zq1)
             have HP74:=Kd.R_putg HO_4.out (x6_3:Int) (rd (rd_L1 l0_0 x6_3) (rd x5_2 x6_3))
             try go_wp2_with (first|((with_reducible refine gate_store (t:=3) (p:=95) rfl ?_);refine store_event (t:=3) (p:=95) (v:=?vo_w75) (w1:=(w72.setCell ⟨go64,(x6_3:Int).toNat,none⟩ (.int .i64 (rd (rd_L1 l0_0 x6_3) (rd x5_2 x6_3))))) ?hg ?ho ?hn ?hr ?_;(case ho=>rfl);(case hg=>rfl);(case hn=>rfl);(case hr=>first|(go_simp;done)|(go_simp;rfl));intro w75 hw;have hg:w72.grownBy w75 (some go64):=(by rw [hw];exact HP74.2);have hp_:Kd.R (Kd.int .i64) 3 w75 w.heap.size (fun k_=>some k_≠ (.slice (some ⟨go35,0,none⟩) x5_2.length co66:Value).ownBlock∧some k_≠ (.slice Ao73 t656.length co73:Value).ownBlock) (.slice (some ⟨go64,0,none⟩) x4_2.length co13) y663:=(by rw [hw,Ny663.out];exact HP74.1);clear HP74;replace HO_5:=Aside0.mk (Kd.R_after (v:=(.slice (some ⟨go64,0,none⟩) x4_2.length co13)) (v1:=(.slice (some ⟨go64,0,none⟩) x4_2.length co13)) (ok:=(fun k_=>some k_≠ (.slice Ao73 t656.length co73:Value).ownBlock)) (by(with_reducible repeat(first|apply Kd.R_alloc|apply Kd.R_drewN|apply Kd.R_drew));exact Kd.R_mono HO_5.out (fun _ hk=>⟨hk.2,hk.1⟩)) hg (.inl rfl));replace BK640:=Aside0.mk (blk_grown (g:=gb640) (o:= .cells #[.slice (some ad650) l0_0.length c0_0,.slice A0_1 l0_1.length c0_1,.slice (some ad659) l0_2.length c0_2] 33 (0,0)) (zq3 BK640) hg (Kd.R_ne HO_4.out BK640.out (by decide)));replace HO_4:=Aside0.mk (hp_);replace HO658:=Aside0.mk (Kd.R_after (v:=(.slice (some ⟨go64,0,none⟩) x4_2.length co13)) (v1:=(.slice (some ⟨go64,0,none⟩) x4_2.length co13)) (ok:=(fun k_=>some k_≠ (.slice (some ⟨go35,0,none⟩) x5_2.length co66:Value).ownBlock)) (by(with_reducible repeat(first|apply Kd.R_alloc|apply Kd.R_drewN|apply Kd.R_drew));exact Kd.R_mono HO658.out (fun _ hk=>⟨hk.2,hk.1.2⟩)) hg (.inl rfl));replace HB:=Aside0.mk ((by rw [hw];exact below_set (HB.out) GB64.out:Below w.heap.size w w75));clear hg hw hp_))
             (try simp only [← hl4_2])
             go_roundg k3
             case measure=>have:=HK1.out;have:=HK2.out;have:=HK3.out;omega
             case rel=>exact⟨(y663),(y654),H',⟨by have:=HK1.out;have:=HK2.out;have:=HK3.out;omega⟩,⟨by(try simp only [hl4_2]);(with_reducible repeat(first|apply Kd.R_alloc|apply Kd.R_drewN|apply Kd.R_drew));exact Kd.R_mono HO_4.out (fun _ hk=>hk.1)⟩,⟨by(try simp only [hl4_2]);(with_reducible repeat(first|apply Kd.R_alloc|apply Kd.R_drewN|apply Kd.R_drew));exact Kd.R_mono HO_5.out (fun _ hk=>hk.2)⟩,⟨by(try simp only [hl4_2]);(with_reducible repeat(first|refine blk_drewN ?_ _|refine blk_drew ?_ |refine blk_alloc ?_ _));exact BK640.out⟩,⟨by exact zk2 HB GE640.out⟩⟩
           ·replace c37:=Bool.eq_false_iff.mpr c37
            subst c37
            have H1:(spec_MatchAll.l1 k3 x4_2 y654 l0_0 l0_1 l0_2)=some (r1,r2):=by rw [if_neg (show ¬ (false=true) by decide)] at H;exact H
            clear H
            have H:=H1
            clear H1
            have H':=Aside0.mk H
            clear H
            try go_wp2
            replace HO_4:=Aside0.mk (Kd.R_drew HO_4.out)
            replace HO_5:=Aside0.mk (Kd.R_drew HO_5.out)
            replace BK640:=Aside0.mk (blk_drew BK640.out)
            replace HB:=Aside0.mk (below_drew1 HB.out)
            have p650: 0≤ (x6_3:Int):=of_decide_eq_true zq1
            have q650:x6_3< (l0_0.length:Int):=of_decide_eq_true zq1
            obtain⟨ad650,A650_0,c650_0,e650,hx650_0,hl650_0,hi650_0⟩:=at_L1 HR0_0.out x6_3 p650 q650
            have hw650_0:=hx650_0
            cases e650
            replace hx650_0:=zhx HB hx650_0
            have HR650_0:=Aside0.mk hi650_0
            have HC650_0:=Aside0.mk hl650_0
            clear hi650_0 hl650_0
            replace p650:=eq_true p650
            replace q650:=eq_true q650
            obtain⟨Ao77,co77,eo77⟩:=Kd.R_slice HO_5.out
            (first|subst eo77|(injection eo77 with f1_ f2_ f3_;have f4_:=f1_.symm;have f5_:=f3_.symm;clear f1_ f2_ f3_;subst f4_;subst f5_))
            have p651: 0≤ (x6_3:Int):=of_decide_eq_true zq1
            have q651:x6_3< (x5_2.length:Int):=of_decide_eq_true zq1
            obtain⟨ad651,e651,hx651_0⟩:=Kd.at_int (Kd.R_reads' HO_5.out).2.2 x6_3 p651 q651
            cases e651
            replace p651:=eq_true p651
            replace q651:=eq_true q651
            have p652: 0≤ ((rd x5_2 x6_3):Int):=of_decide_eq_true zq1
            have q652:(rd x5_2 x6_3)< ((rd_L1 l0_0 x6_3).length:Int):=of_decide_eq_true zq1
            obtain⟨ad652,e652,hx652_0⟩:=Kd.at_int HR650_0.out (rd x5_2 x6_3) p652 q652
            have hw652_0:=hx652_0
            cases e652
            replace hx652_0:=zhx HB hx652_0
            replace p652:=eq_true p652
            replace q652:=eq_true q652
            refine start_ (n:=12) (S:=fun w'=>w'.cell? ⟨gb640,0,none⟩=some (.slice (some ad650) l0_0.length c0_0)∧w'.cell? ⟨gb640,1,none⟩=some (.slice A0_1 l0_1.length c0_1)∧w'.cell? ⟨gb640,2,none⟩=some (.slice A0_2 l0_2.length c0_2)∧w'.cell? (ad650.add (x6_3).toNat)=some (.slice (some ad652) (rd_L1 l0_0 x6_3).length c650_0)∧w'.cell? (ad651.add (x6_3).toNat)=some (.int .i64 (rd x5_2 x6_3))∧w'.cell? (ad652.add ((rd x5_2 x6_3)).toNat)=some (.int .i64 (rd (rd_L1 l0_0 x6_3) (rd x5_2 x6_3)))) (ds:= []) (mb' 12 0) (by kernel_rfl) rfl rfl ⟨(blk_cell BK640.out 0).trans rfl,(blk_cell BK640.out 1).trans rfl,(blk_cell BK640.out 2).trans rfl,((zhx HB hw650_0).trans rfl),hx651_0,((zhx HB hw652_0).trans rfl)⟩ (fun hHeld=>?_);refine with_tabW spec_MatchAll.tab18 spec_MatchAll.bits18 (fun HT_ HW_=>?_)
            generalize wr.drew=w76 at HO_4 HO_5 BK640 HB HR650_0 hx650_0 hx651_0 hx652_0 hHeld ⊢
            refine zp1 HT_ 0 53 (mb' 12 1) rfl ?_
            refine zp1 HT_ 2 55 (mb' 12 5) rfl ?_
            refine zp1 HT_ 5 58 (mb' 12 37) rfl ?_
            refine zp1 HT_ 6 59 (mb' 12 101) rfl ?_
            refine zp1 HT_ 7 60 (mb' 12 229) rfl ?_
            refine zt1 HT_ HW_ (v:=?_) (a':=?_) 1 54 (mb' 12 231) rfl ?_ hHeld ?_ ?_;rotate_left;(rintro w' ⟨s0,s1,s2,s3,s4,s5⟩;go_simp;with_reducible rfl);rotate_left;exact zpa
            refine zp1 HT_ 3 56 (mb' 12 239) rfl ?_
            refine zt1 HT_ HW_ (v:=?_) (a':=?_) 4 57 (mb' 12 255) rfl ?_ hHeld ?_ ?_;rotate_left;(rintro w' ⟨s0,s1,s2,s3,s4,s5⟩;go_simp;with_reducible rfl);rotate_left;exact zpa
            refine zt1 HT_ HW_ (v:=?_) (a':=?_) 8 61 (mb' 12 511) rfl ?_ hHeld ?_ ?_;rotate_left;(rintro w' ⟨s0,s1,s2,s3,s4,s5⟩;go_simp;with_reducible rfl);rotate_left;exact zpa
            refine zp1 HT_ 9 62 (mb' 12 1023) rfl ?_
            refine zt1 HT_ HW_ (v:=?_) (a':=?_) 10 63 (mb' 12 2047) rfl ?_ hHeld ?_ ?_;rotate_left;(rintro w' ⟨s0,s1,s2,s3,s4,s5⟩;go_simp;with_reducible rfl);rotate_left;exact zpa
            refine zp1 HT_ 11 8 (mb' 12 4095) rfl ?_
            refine done_ (done_of HT_.out (by kernel_rfl)) ?_
            have p653: 0≤ (x6_3:Int):=of_decide_eq_true zq1
            have q653:x6_3< (x5_2.length:Int):=of_decide_eq_true zq1
            obtain⟨ad653,e653,hx653_0⟩:=Kd.at_int (Kd.R_reads' HO_5.out).2.2 x6_3 p653 q653
            obtain rfl:ad651=ad653:=(by injection e653)
            replace p653:=eq_true p653
            replace q653:=eq_true q653
            have p35: 0≤ (x6_3:Int):=of_decide_eq_true zq1
            have q35:(x6_3:Int)< ((x5_2.length:Int):Int):=of_decide_eq_true zq1
            obtain⟨go35,co35,eo35,gb35,gl35,cl35,HG35⟩:=Kd.R_form HO_5.out (by omega)
            (first|cases eo35|(injection eo35 with ea_ en_ ec_;(first|subst ea_|(injection ea_ with ea_;subst ea_));subst ec_;clear en_))
            have GB35:=Aside0.mk gb35
            have GG35:=Aside0.mk HG35
            clear gb35 gl35 HG35
            (first|simp only [add_plain] at hx651_0|skip)
            (first|simp only [add_plain] at hx653_0|skip)
            obtain⟨hx35_0,hf35_0⟩:=Kd.R_celln 0 HO_5.out (x6_3:Int) p35 q35
            replace p35:=eq_true p35
            replace q35:=eq_true q35
            obtain⟨hy78_,hz78_⟩:=Kd.R_celln 0 HO_5.out (x6_3:Int) (of_decide_eq_true zq1) (of_decide_eq_true zq1)
            have HP78:=Kd.R_putg HO_5.out (x6_3:Int) (wrap64 ((rd x5_2 x6_3)+1))
            try go_wp2_with (first|((with_reducible refine gate_store (t:=3) (p:=69) rfl ?_);refine store_event (t:=3) (p:=69) (v:=?vo_w79) (w1:=(w76.setCell ⟨go35,(x6_3:Int).toNat,none⟩ (.int .i64 (wrap64 ((rd x5_2 x6_3)+1))))) ?hg ?ho ?hn ?hr ?_;(case ho=>rfl);(case hg=>rfl);(case hn=>rfl);(case hr=>first|(go_simp;done)|(go_simp;rfl));intro w79 hw;have hg:w76.grownBy w79 (some go35):=(by rw [hw];exact HP78.2);have hp_:Kd.R (Kd.int .i64) 3 w79 w.heap.size (fun k_=>some k_≠ (.slice Ao13 x4_2.length co13:Value).ownBlock) (.slice (some ⟨go35,0,none⟩) x5_2.length co77) y654:=(by rw [hw,Ny654.out];exact HP78.1);clear HP78;replace HO_4:=Aside0.mk (Kd.R_after (v:=(.slice (some ⟨go35,0,none⟩) x5_2.length co77)) (v1:=(.slice (some ⟨go35,0,none⟩) x5_2.length co77)) (ok:=(fun _=>True)) (by(with_reducible repeat(first|apply Kd.R_alloc|apply Kd.R_drewN|apply Kd.R_drew));exact Kd.R_mono HO_4.out (fun _ hk=>⟨trivial,hk⟩)) hg (.inl rfl));replace BK640:=Aside0.mk (blk_grown (g:=gb640) (o:= .cells #[.slice (some ad650) l0_0.length c0_0,.slice A0_1 l0_1.length c0_1,.slice A0_2 l0_2.length c0_2] 33 (0,0)) (zq3 BK640) hg (Kd.R_ne HO_5.out BK640.out (by decide)));replace HO_5:=Aside0.mk (hp_);replace HB:=Aside0.mk ((by rw [hw];exact below_set (HB.out) GB35.out:Below w.heap.size w w79));clear hg hw hp_;have hcz80_0:=zcz BK640 0 (.slice (some ad650) l0_0.length c0_0);have hcz80_1:=zcz BK640 1 (.slice A0_1 l0_1.length c0_1);have hcz80_2:=zcz BK640 2 (.slice A0_2 l0_2.length c0_2);have hfz80_0:=blk_frozen BK640.out 0;have hfz80_1:=blk_frozen BK640.out 1;have hfz80_2:=blk_frozen BK640.out 2)|((with_reducible refine gate_callee (f:=61) rfl ?_);refine goesL_ (some 74) rfl rfl Try.func61 (by kernel_rfl) rfl #[.agg #[.slice (some ad650) l0_0.length c0_0,.slice A0_1 l0_1.length c0_1,.slice A0_2 l0_2.length c0_2],.slice Ao13 x4_2.length co13,.int .i64 (rd (rd_L1 l0_0 x6_3) (rd x5_2 x6_3)),.int .i64 x6_3] rfl zq2 ?_;(with_reducible refine(spec_l12Would.calls k3 _ _ l0_0 _ _ l0_1 _ _ l0_2 _ _ x4_2 (rd (rd_L1 l0_0 x6_3) (rd x5_2 x6_3)) x6_3 false _ ?side1 ?side2 ?side3 ?side4 ?side5 ?side6 ?side7 ?side8 A36.out).mono ?_);(case side1=>exact zcc ((Kd.C_below HR0_0.out HB.out)));(case side2=>exact HC0_0.out);(case side3=>exact zcc ((Kd.C_below HR0_1.out HB.out)));(case side4=>exact HC0_1.out);(case side5=>exact zcc ((Kd.C_below HR0_2.out HB.out)));(case side6=>exact HC0_2.out);(case side7=>exact zcc ((Kd.R_reads' HO_4.out).2.2));(case side8=>exact(Kd.R_reads' HO_4.out).2.1);rintro e w81 ⟨rfl,hb⟩;refine⟨_,rfl,?_⟩;replace HO_4:=Aside0.mk (Kd.R_below (zq4 HO_4) hb);replace HO_5:=Aside0.mk (Kd.R_below (zq4 HO_5) hb);replace BK640:=Aside0.mk (blk_below (g:=gb640) (o:= .cells #[.slice (some ad650) l0_0.length c0_0,.slice A0_1 l0_1.length c0_1,.slice A0_2 l0_2.length c0_2] 33 (0,0)) (zq3 BK640) hb);replace HB:=Aside0.mk (below_step (by exact zk2 HB GE640.out) hb);(try clear hb);(try clear hb2);(try clear hk);(try clear hi)))
            (try simp only [← hl4_2])
            go_roundg k3
            case measure=>have:=HK1.out;have:=HK2.out;have:=HK3.out;omega
            case rel=>exact⟨(x4_2),(y654),H',⟨by have:=HK1.out;have:=HK2.out;have:=HK3.out;omega⟩,⟨by(try simp only [hl4_2]);(with_reducible repeat(first|apply Kd.R_alloc|apply Kd.R_drewN|apply Kd.R_drew));exact Kd.R_mono HO_4.out (fun _ hk=>hk.2)⟩,⟨by(try simp only [hl4_2]);(with_reducible repeat(first|apply Kd.R_alloc|apply Kd.R_drewN|apply Kd.R_drew));exact HO_5.out⟩,⟨by(try simp only [hl4_2]);(with_reducible repeat(first|refine blk_drewN ?_ _|refine blk_drew ?_ |refine blk_alloc ?_ _));exact BK640.out⟩,⟨by exact zk2 HB GE640.out⟩⟩
 ·replace c3:=Bool.eq_false_iff.mpr c3
  subst c3
  have H1:(some (([] :List Int),false))=some (r1,r2):=by rw [if_neg (show ¬ (false=true) by decide)] at H;exact H
  clear H
  have H:=H1
  clear H1
  simp only [Option.some.injEq,Prod.mk.injEq] at H
  obtain⟨rfl,rfl⟩:=H
  go_enter Try.func35,Try.ntmps35
  go_wp2_with (first|((with_reducible refine gate_dst (N:=1) rfl ?_);(try(refine gate_guard (by rfl) ?_;dsimp only));refine box_event ?hg (N:=1) ?hd (cs:= #[.slice A0_0 l0_0.length c0_0,.slice A0_1 l0_1.length c0_1,.slice A0_2 l0_2.length c0_2]) (t:=33) ?hr ?_;(case hd=>rfl);(case hg=>rfl);(case hr=>first|(go_simp;done)|(go_simp;rfl));intro gb640 hg w82 hbox hb;have BK640:=Aside0.mk (hbox);have GW640:=Aside0.mk ((by rw [hg];exact(below_size (by exact zk1 HB)):w.heap.size≤gb640));have GE640:=GW640;replace HB:=Aside0.mk (below_step (by exact zk1 HB) hb);clear hb hbox hg;have hcz83_0:=zcz BK640 0 (.slice A0_0 l0_0.length c0_0);have hcz83_1:=zcz BK640 1 (.slice A0_1 l0_1.length c0_1);have hcz83_2:=zcz BK640 2 (.slice A0_2 l0_2.length c0_2);have hfz83_0:=blk_frozen BK640.out 0;have hfz83_1:=blk_frozen BK640.out 1;have hfz83_2:=blk_frozen BK640.out 2)|((with_reducible refine gate_callee (f:=18) rfl ?_);refine goesL_ (some 10) rfl rfl Try.func18 (by kernel_rfl) rfl #[.agg #[.slice A0_0 l0_0.length c0_0,.slice A0_1 l0_1.length c0_1,.slice A0_2 l0_2.length c0_2]] rfl zq2 ?_;(with_reducible refine(spec_GoodWishes.calls k _ _ l0_0 _ _ l0_1 _ _ l0_2 false _ ?side1 ?side2 ?side3 ?side4 ?side5 ?side6 A2.out).mono ?_);(case side1=>exact zcc ((Kd.C_below HR0_0.out HB.out)));(case side2=>exact HC0_0.out);(case side3=>exact zcc ((Kd.C_below HR0_1.out HB.out)));(case side4=>exact HC0_1.out);(case side5=>exact zcc ((Kd.C_below HR0_2.out HB.out)));(case side6=>exact HC0_2.out);rintro e w84 ⟨rfl,hb⟩;refine⟨_,rfl,?_⟩;replace BK640:=Aside0.mk (blk_below (g:=gb640) (o:= .cells #[.slice A0_0 l0_0.length c0_0,.slice A0_1 l0_1.length c0_1,.slice A0_2 l0_2.length c0_2] 33 (0,0)) (zq3 BK640) hb);replace HB:=Aside0.mk (below_step (by exact zk2 HB GE640.out) hb);(try clear hb);(try clear hb2);(try clear hk);(try clear hi)))
  go_ret2
  exact⟨_,zer,by first|exact Kd.R_nil _ _ _ _ _|exact Kd.N_nil _ _ _ _ _|exact Kd.V_nil _ _ _ _ _|exact Kd.Q_nil _ _ _ _ _|exact Kd.S_nil _ _ _ _ _,by exact zk2 HB GE640.out⟩
end Go.Proofs.Ytoipbblhmcpneaa.P
