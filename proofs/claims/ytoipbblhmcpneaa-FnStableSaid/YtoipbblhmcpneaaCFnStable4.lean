/- Functions, walks and plain lemmas that the law FnStable reaches, part 4. -/
import Derived.Test.YtoipbblhmcpneaaCFnStable3
import Derived.Below
import Derived.Deep.Draws
import Derived.Deep.AppendLies
import Derived.Maps.AppendAt
import Derived.OwnWalk
import Derived.Laws.BytesArg
import Derived.Laws.MakeOwn
import Derived.Laws.OwnMore
import Derived.Deep.OwnRows
import Derived.Tactics
import Derived.Lib.ConvBytes
import Derived.Laws.Slices
import Derived.WalkKit
import Derived.KernelRfl
import Derived.RowKit3
import Derived.Deep.LoopGhost
import Derived.Deep.QuietTactic
import Derived.BigQuiet
import Derived.WideLaws
import Derived.Deep.DeepCutAuto
import Derived.Deep.CutBlock
import Derived.Deep.RegionHeld3
import Derived.Laws.Rows
import Derived.Lib.AppendStr
import Derived.ArgAppend
import Derived.Laws.IdiomCopy
import Derived.OrdersHeld
import Derived.Laws.BitsLemmas
import Derived.RowKit
import Derived.WalkSpells
import Derived.Lib.SliceRun
import Derived.Shelf.Abstract
import Derived.ProofKit
import Derived.OpenShut
import Derived.ShutString
import Derived.ChangeOld
import Derived.SizedLaws
namespace Go.Proofs.Ytoipbblhmcpneaa.P
open Go.RowKit Go.Proofs.YtoipbblhmcpneaaW.PrintWords Go.Proofs.YtoipbblhmcpneaaW.PrintLast Go.Proofs.YtoipbblhmcpneaaW.PrintMore
attribute [local go_sem] max2_int min2_int max_two min_two max_three min_three max_four min_four   -- for this text's walks alone
set_option linter.unusedVariables false
set_option linter.unusedSimpArgs false
mutual
def impl_MatchAll.l0:Nat→List Int→List Int→Int→Int→List (List Int)→List (List Int)→List Int→Option (List Int × Bool)
 | 0,_,_,_,_,_,_,_=>none
 |k+1,x4,x5,x23,x24,x665000,x665001,x665002=>if x24<x23 then(if 0≤x24 then(if x24< (x4.length:Int) then(impl_MatchAll.l0 k (x4.set (x24:Int).toNat (-1)) x5 x23 (wrap64 (x24+1)) x665000 x665001 x665002) else(none)) else(none)) else(impl_MatchAll.l1 k x4 x5 x665000 x665001 x665002)
def impl_MatchAll.l1:Nat→List Int→List Int→List (List Int)→List (List Int)→List Int→Option (List Int × Bool)
 | 0,_,_,_,_,_=>none
 |k+1,x4,x5,x665000,x665001,x665002=>impl_MatchAll.l2 k x4 x5 0 x665000 x665001 x665002
def impl_MatchAll.j3:Nat→List Int→List Int→Int→List (List Int)→List (List Int)→List Int→Option (List Int × Bool)
 | 0,_,_,_,_,_,_=>none
 |k+1,x4,x5,x7,x665000,x665001,x665002=>if x7= (x4.length:Int) then(some (x4,true)) else(if 0≤x7 then(if x7< (x665000.length:Int) then(if x7< (x5.length:Int) then(if 0≤ (rd x5 x7) then(if (rd x5 x7)< ((rd_L1 x665000 x7).length:Int) then((some (x5.set (x7:Int).toNat (wrap64 ((rd x5 x7)+1)):List Int)).bind fun y679=>((impl_takes.f k x665000 x665001 x665002 x4 (rd (rd_L1 x665000 x7) (rd x5 x7)) x7).bind fun bt680=>(if bt680.2=true then(if bt680.1≥0 then(if 0≤bt680.1 then(if bt680.1< (x4.length:Int) then(if x7< (x4.length:Int) then(impl_MatchAll.l1 k ((x4.set (bt680.1:Int).toNat (-1)).set (x7:Int).toNat (rd (rd_L1 x665000 x7) (rd x5 x7))) y679 x665000 x665001 x665002) else(none)) else(none)) else(none)) else(if x7< (x4.length:Int) then(impl_MatchAll.l1 k (x4.set (x7:Int).toNat (rd (rd_L1 x665000 x7) (rd x5 x7))) y679 x665000 x665001 x665002) else(none))) else(impl_MatchAll.l1 k x4 y679 x665000 x665001 x665002)))) else(none)) else(none)) else(none)) else(none)) else(none))
def impl_MatchAll.l2:Nat→List Int→List Int→Int→List (List Int)→List (List Int)→List Int→Option (List Int × Bool)
 | 0,_,_,_,_,_,_=>none
 |k+1,x4,x5,x7,x665000,x665001,x665002=>if x7< (x4.length:Int) then(if 0≤x7 then(if (rd x4 x7)≥0 then(impl_MatchAll.l2 k x4 x5 (wrap64 (x7+1)) x665000 x665001 x665002) else(if x7< (x5.length:Int) then(if (rd x5 x7)= (x665001.length:Int) then(impl_MatchAll.l2 k x4 x5 (wrap64 (x7+1)) x665000 x665001 x665002) else(impl_MatchAll.j3 k x4 x5 x7 x665000 x665001 x665002)) else(none))) else(none)) else(impl_MatchAll.j3 k x4 x5 x7 x665000 x665001 x665002)
end
def impl_MatchAll.f (k:Nat) (l0_0:List (List Int)) (l0_1:List (List Int)) (l0_2:List Int):Option (List Int × Bool):=(impl_GoodWishes.f k l0_0 l0_1 l0_2).bind fun t665=>(if t665=true then(if 0≤ (l0_0.length:Int) then(if ((l0_0.length:Int):Int).toNat≤35184372088832 then((some (List.replicate ((l0_0.length:Int):Int).toNat 0:List Int)).bind fun y666=>(impl_MatchAll.l0 k y666 (List.replicate ((l0_0.length:Int):Int).toNat 0) (y666.length:Int) 0 l0_0 l0_1 l0_2)) else(none)) else(none)) else(some (([] :List Int),false)))
def impl_MatchAll.T3:Bool × List (List Nat × List Nat):=(true,[([],[]),([0],[0]),([1],[1]),([2,2],[2]),([],[]),([4],[4]),([5],[5]),([6,6],[6]),([3,0,1,2,3],[3]),([7,8,0,1,2,3,4,5,6,7,8],[7])])
def impl_MatchAll.B3:List Nat:= [0,1,3,7,0,16,48,112,15,511]
theorem impl_MatchAll.tab3:rtab .any (opsOf Try.f36 3)=impl_MatchAll.T3:=by kernel_rfl
theorem impl_MatchAll.bits3:waitsOk impl_MatchAll.T3.2 impl_MatchAll.B3=true:=by kernel_rfl
def impl_MatchAll.T10:Bool × List (List Nat × List Nat):=(true,[([],[]),([],[]),([1],[1]),([0,2],[0,2]),([3],[3]),([4],[4]),([4],[4]),([5,6,4],[4,5,6]),([7,4],[4,7]),([8,4],[4,8]),([9,4,4],[4,9]),([10],[10]),([10],[10]),([11,12,10],[10,11,12]),([13,10],[10,13]),([10],[10]),([15,10],[10,15]),([16,10],[10,16]),([14,17,10],[10,14,17]),([10,18,4],[4,10,18]),([4,19],[4,19])])
def impl_MatchAll.B10:List Nat:= [0,0,2,7,15,31,31,127,255,511,1023,2047,2047,8191,16383,2047,34815,100351,262143,524287,1048575]
theorem impl_MatchAll.tab10:rtab .any (opsOf Try.f36 10)=impl_MatchAll.T10:=by kernel_rfl
theorem impl_MatchAll.bits10:waitsOk impl_MatchAll.T10.2 impl_MatchAll.B10=true:=by kernel_rfl
def impl_MatchAll.T14:Bool × List (List Nat × List Nat):=(true,[([],[]),([0],[0]),([],[]),([1,2],[1,2]),([3],[3]),([],[]),([],[]),([5,6],[5,6]),([7],[7]),([4,8],[4,8]),([9],[9]),([10,0,1,2,3,4,5,6,7,8,9,10],[10])])
def impl_MatchAll.B14:List Nat:= [0,1,0,7,15,0,0,96,224,511,1023,2047]
theorem impl_MatchAll.tab14:rtab .any (opsOf Try.f36 14)=impl_MatchAll.T14:=by kernel_rfl
theorem impl_MatchAll.bits14:waitsOk impl_MatchAll.T14.2 impl_MatchAll.B14=true:=by kernel_rfl
set_option maxHeartbeats 8000000 in
set_option maxRecDepth 100000 in
theorem impl_MatchAll.calls (k:Nat) (A0_0:Option Addr) (c0_0:Nat) (l0_0:List (List Int)) (A0_1:Option Addr) (c0_1:Nat) (l0_1:List (List Int)) (A0_2:Option Addr) (c0_2:Nat) (l0_2:List Int) (r1:List Int) (r2:Bool) (w:World) (hr0_0:Kd.C (Kd.slice 3 (Kd.int .i64)) w A0_0 l0_0.length l0_0) (hc0_0:l0_0.length≤c0_0) (hr0_1:Kd.C (Kd.slice 3 (Kd.int .i64)) w A0_1 l0_1.length l0_1) (hc0_1:l0_1.length≤c0_1) (hr0_2:Kd.C (Kd.int .i64) w A0_2 l0_2.length l0_2) (hc0_2:l0_2.length≤c0_2) (h:impl_MatchAll.f k l0_0 l0_1 l0_2=some (r1,r2)):
  Calls Try.prog 36 #[.agg #[.slice A0_0 l0_0.length c0_0,.slice A0_1 l0_1.length c0_1,.slice A0_2 l0_2.length c0_2]] w fun e w'=> ∃ v0_:Value,e= .returned (.tuple #[v0_,.bool r2])∧Kd.R (Kd.int .i64) 3 w' w.heap.size (fun _=>True) v0_ r1∧Below w.heap.size w w':=by
 have hu33:=Try.underlying33
 have HR0_0:=Aside0.mk hr0_0
 have HC0_0:=Aside0.mk hc0_0
 clear hr0_0 hc0_0
 have HR0_1:=Aside0.mk hr0_1
 have HC0_1:=Aside0.mk hc0_1
 clear hr0_1 hc0_1
 have HR0_2:=Aside0.mk hr0_2
 have HC0_2:=Aside0.mk hc0_2
 clear hr0_2 hc0_2
 have HB:=Aside0.mk (Below.refl w.heap.size w)
 have H:((impl_GoodWishes.f k l0_0 l0_1 l0_2).bind fun t665=>(if t665=true then(if 0≤ (l0_0.length:Int) then(if ((l0_0.length:Int):Int).toNat≤35184372088832 then((some (List.replicate ((l0_0.length:Int):Int).toNat 0:List Int)).bind fun y666=>(impl_MatchAll.l0 k y666 (List.replicate ((l0_0.length:Int):Int).toNat 0) (y666.length:Int) 0 l0_0 l0_1 l0_2)) else(none)) else(none)) else(some (([] :List Int),false))))=some (r1,r2):=h
 clear h
 replace H:=Option.bind_eq_some_iff.mp H
 obtain⟨t665,A20,H⟩:=H
 replace H:(if t665=true then(if 0≤ (l0_0.length:Int) then(if ((l0_0.length:Int):Int).toNat≤35184372088832 then((some (List.replicate ((l0_0.length:Int):Int).toNat 0:List Int)).bind fun y666=>(impl_MatchAll.l0 k y666 (List.replicate ((l0_0.length:Int):Int).toNat 0) (y666.length:Int) 0 l0_0 l0_1 l0_2)) else(none)) else(none)) else(some (([] :List Int),false)))=some (r1,r2):=H
 have A2:=Aside0.mk A20
 clear A20
 by_cases c3:t665=true
 ·subst c3
  have H1:(if 0≤ (l0_0.length:Int) then(if ((l0_0.length:Int):Int).toNat≤35184372088832 then((some (List.replicate ((l0_0.length:Int):Int).toNat 0:List Int)).bind fun y666=>(impl_MatchAll.l0 k y666 (List.replicate ((l0_0.length:Int):Int).toNat 0) (y666.length:Int) 0 l0_0 l0_1 l0_2)) else(none)) else(none))=some (r1,r2):=by rw [if_pos rfl] at H;exact H
  clear H
  have H:=H1
  clear H1
  by_cases c4: 0≤ (l0_0.length:Int)
  case neg=>exact znn c4 H
  rw [if_pos c4] at H
  have c4b0:=eq_true c4
  have c4b1:decide (0≤ (l0_0.length:Int))=true:=decide_eq_true c4
  clear c4
  by_cases c5:((l0_0.length:Int):Int).toNat≤35184372088832
  case neg=>exact znn c5 H
  rw [if_pos c5] at H
  have c5b0:=eq_true c5
  have c5b1:decide (((l0_0.length:Int):Int).toNat≤35184372088832)=true:=decide_eq_true c5
  clear c5
  obtain⟨y666,hy666⟩ :∃ y_:List Int,y_= (List.replicate ((l0_0.length:Int):Int).toNat 0):=⟨_,rfl⟩
  replace H:(impl_MatchAll.l0 k y666 (List.replicate ((l0_0.length:Int):Int).toNat 0) (y666.length:Int) 0 l0_0 l0_1 l0_2)=some (r1,r2):=zfh hy666 H
  have Ny666:=Aside0.mk hy666
  clear hy666
  obtain⟨y669,hy669⟩ :∃ y_:List Int,y_= (List.replicate ((l0_0.length:Int):Int).toNat 0):=⟨_,rfl⟩
  replace H:(impl_MatchAll.l0 k y666 y669 (y666.length:Int) 0 l0_0 l0_1 l0_2)=some (r1,r2):=zfh hy669 H
  have Ny669:=Aside0.mk hy669
  clear hy669
  have H':=Aside0.mk H
  clear H
  go_enter Try.func36,Try.ntmps36
  try go_wp2_with (first|((with_reducible refine gate_dst (N:=1) rfl ?_);(try(refine gate_guard (by rfl) ?_;dsimp only));refine box_event ?hg (N:=1) ?hd (cs:= #[.slice A0_0 l0_0.length c0_0,.slice A0_1 l0_1.length c0_1,.slice A0_2 l0_2.length c0_2]) (t:=33) ?hr ?_;(case hd=>rfl);(case hg=>rfl);(case hr=>first|(go_simp;done)|(go_simp;rfl));intro gb664 hg w6 hbox hb;have BK664:=Aside0.mk (hbox);have GW664:=Aside0.mk ((by rw [hg];exact(below_size (by exact zk1 HB)):w.heap.size≤gb664));have GE664:=GW664;replace HB:=Aside0.mk (below_step (by exact zk1 HB) hb);clear hb hbox hg;have hcz7_0:=zcz BK664 0 (.slice A0_0 l0_0.length c0_0);have hcz7_1:=zcz BK664 1 (.slice A0_1 l0_1.length c0_1);have hcz7_2:=zcz BK664 2 (.slice A0_2 l0_2.length c0_2);have hfz7_0:=blk_frozen BK664.out 0;have hfz7_1:=blk_frozen BK664.out 1;have hfz7_2:=blk_frozen BK664.out 2)|((with_reducible refine gate_callee (f:=20) rfl ?_);refine goesL_ (some 12) rfl rfl Try.func20 (by kernel_rfl) rfl #[.agg #[.slice A0_0 l0_0.length c0_0,.slice A0_1 l0_1.length c0_1,.slice A0_2 l0_2.length c0_2]] rfl zq2 ?_;(with_reducible refine(impl_GoodWishes.calls k _ _ l0_0 _ _ l0_1 _ _ l0_2 true _ ?side1 ?side2 ?side3 ?side4 ?side5 ?side6 A2.out).mono ?_);(case side1=>exact zcc ((Kd.C_below HR0_0.out HB.out)));(case side2=>exact HC0_0.out);(case side3=>exact zcc ((Kd.C_below HR0_1.out HB.out)));(case side4=>exact HC0_1.out);(case side5=>exact zcc ((Kd.C_below HR0_2.out HB.out)));(case side6=>exact HC0_2.out);rintro e w8 ⟨rfl,hb⟩;refine⟨_,rfl,?_⟩;replace BK664:=Aside0.mk (blk_below (g:=gb664) (o:= .cells #[.slice A0_0 l0_0.length c0_0,.slice A0_1 l0_1.length c0_1,.slice A0_2 l0_2.length c0_2] 33 (0,0)) (zq3 BK664) hb);replace HB:=Aside0.mk (below_step (by exact zk2 HB GE664.out) hb);(try clear hb);(try clear hb2);(try clear hk);(try clear hi)))
  replace BK664:=Aside0.mk (blk_drew BK664.out)
  replace HB:=Aside0.mk (below_drew1 HB.out)
  refine start_ (n:=10) (S:=fun w'=>w'.cell? ⟨gb664,0,none⟩=some (.slice A0_0 l0_0.length c0_0)∧w'.cell? ⟨gb664,1,none⟩=some (.slice A0_1 l0_1.length c0_1)∧w'.cell? ⟨gb664,2,none⟩=some (.slice A0_2 l0_2.length c0_2)) (ds:= []) (mb' 10 0) (by kernel_rfl) rfl rfl ⟨(blk_cell BK664.out 0).trans rfl,(blk_cell BK664.out 1).trans rfl,(blk_cell BK664.out 2).trans rfl⟩ (fun hHeld=>?_);refine with_tabW impl_MatchAll.tab3 impl_MatchAll.bits3 (fun HT_ HW_=>?_)
  generalize w8.drew=w9 at BK664 HB hHeld ⊢
  refine zp1 HT_ 0 14 (mb' 10 1) rfl ?_
  refine zp1 HT_ 4 18 (mb' 10 17) rfl ?_
  refine zt1 HT_ HW_ (v:=?_) (a':=?_) 1 15 (mb' 10 19) rfl ?_ hHeld ?_ ?_;rotate_left;(rintro w' ⟨s0,s1,s2⟩;go_simp;with_reducible rfl);rotate_left;exact zpa
  refine zp1 HT_ 2 16 (mb' 10 23) rfl ?_
  refine zt1 HT_ HW_ (v:=?_) (a':=?_) 5 19 (mb' 10 55) rfl ?_ hHeld ?_ ?_;rotate_left;(rintro w' ⟨s0,s1,s2⟩;go_simp;with_reducible rfl);rotate_left;exact zpa
  refine zp1 HT_ 6 20 (mb' 10 119) rfl ?_
  refine join_ (σ :=Value × Value) 1 (mb' 10 511) (fun s_=> [(17,s_.1),(21,s_.2),(4,s_.1)]) (fun s_ w'=>(w'.cell? ⟨gb664,0,none⟩=some (.slice A0_0 l0_0.length c0_0)∧w'.cell? ⟨gb664,1,none⟩=some (.slice A0_1 l0_1.length c0_1)∧w'.cell? ⟨gb664,2,none⟩=some (.slice A0_2 l0_2.length c0_2))∧ (Kd.R (Kd.int .i64) 3 w' w.heap.size (fun k_=>some k_≠ (s_.2:Value).ownBlock) s_.1 y666)∧ (Kd.R (Kd.int .i64) 3 w' w.heap.size (fun k_=>some k_≠ (s_.1:Value).ownBlock) s_.2 y669)∧ (w'.heap[gb664]?=some (.cells #[.slice A0_0 l0_0.length c0_0,.slice A0_1 l0_1.length c0_1,.slice A0_2 l0_2.length c0_2] 33 (0,0)))∧ (Below w.heap.size w w')) ?_ ?_
  rotate_left
  ·intro hCont
   refine two_ (i:=3) (j:=7) (Ni:=some 17) (Nj:=some 21) (mb' 10 127) (mb' 10 247) rfl rfl rfl rfl (two_of HT_.out (by kernel_rfl)) (by decide) (by decide) (fun K hK=>?_) (fun K hK=>?_)
   ·skip
    refine Kd.R_make_step (Kd.int .i64) _ 3 (by rfl) (N:=17) rfl 22 _ _ rfl (l0_0.length:Int) rfl rfl Try.underlying22 (.int .i64 0) 8 info3 rfl (by decide) (by omega) 0 (ok:=fun _=>True) (okp:=fun _=>True) rfl (fun _ hk=>hk) trivial (of_decide_eq_true zq1) (Nat.le_trans (Nat.mul_le_mul_right _ (of_decide_eq_true zq1:(l0_0.length:Int).toNat≤35184372088832)) (by omega)) (Below.refl _ _) (Nat.le_refl _) ?_
    intro v667 w10 ho11 hb hg_ hnew_
    clear hg_ hnew_
    (first|rw [← Ny666.out] at ho11|(simp only [Int.reduceToNat] at ho11;rw [← Ny666.out] at ho11))
    have HO668:=Aside0.mk (Kd.R_lower ho11 (below_size (by exact zk2 HB GE664.out)))
    replace BK664:=Aside0.mk (blk_below (g:=gb664) (o:= .cells #[.slice A0_0 l0_0.length c0_0,.slice A0_1 l0_1.length c0_1,.slice A0_2 l0_2.length c0_2] 33 (0,0)) (zq3 BK664) hb)
    replace HB:=Aside0.mk (below_step (by exact zk2 HB GE664.out) hb)
    clear hb ho11
    refine hK.out _ _ ⟨(blk_cell BK664.out 0).trans rfl,(blk_cell BK664.out 1).trans rfl,(blk_cell BK664.out 2).trans rfl⟩ (fun hHeld=>?_)
    clear hK K
    refine norm_ (a':=?_) ?_ ?_
    rotate_left
    ·show Act.put _ (some 17) _=_
     simp only [Act.put,List.setIfInBounds_toArray,List.set_cons_zero,List.set_cons_succ,i64_w,i32_w]
     rfl
    refine zp1 HT_ 8 4 (mb' 10 383) rfl ?_
    refine one_ (i:=7) (N:=some 21) (mb' 10 511) rfl rfl (one_of HT_.out (by kernel_rfl)) (by decide) (fun K hK=>?_)
    refine Kd.R_make_step (Kd.int .i64) _ 3 (by rfl) (N:=21) rfl 22 _ _ rfl (l0_0.length:Int) rfl rfl Try.underlying22 (.int .i64 0) 8 info3 rfl (by decide) (by omega) 0 (ok:=fun _=>True) (okp:=fun _=>True) rfl (fun _ hk=>hk) trivial (of_decide_eq_true zq1) (Nat.le_trans (Nat.mul_le_mul_right _ (of_decide_eq_true zq1:(l0_0.length:Int).toNat≤35184372088832)) (by omega)) (Below.refl _ _) (Nat.le_refl _) ?_
    intro v670 w12 ho13 hb hg_ hnew_
    clear hg_ hnew_
    (first|rw [← Ny669.out] at ho13|(simp only [Int.reduceToNat] at ho13;rw [← Ny669.out] at ho13))
    have HO671:=Aside0.mk (Kd.R_lower (Kd.R_new' ho13 (Kd.R_lt (zq4 HO668))) (below_size (by exact zk2 HB GE664.out)))
    replace HO668:=Aside0.mk (Kd.R_elder' (zq4 HO668) (Kd.R_base ho13) hb)
    replace BK664:=Aside0.mk (blk_below (g:=gb664) (o:= .cells #[.slice A0_0 l0_0.length c0_0,.slice A0_1 l0_1.length c0_1,.slice A0_2 l0_2.length c0_2] 33 (0,0)) (zq3 BK664) hb)
    replace HB:=Aside0.mk (below_step (by exact zk2 HB GE664.out) hb)
    clear hb ho13
    refine hK.out _ _ ⟨(blk_cell BK664.out 0).trans rfl,(blk_cell BK664.out 1).trans rfl,(blk_cell BK664.out 2).trans rfl⟩ (fun hHeld=>?_)
    clear hK K
    refine norm_ (a':=?_) ?_ ?_
    rotate_left
    ·show Act.put _ (some 21) _=_
     simp only [Act.put,List.setIfInBounds_toArray,List.set_cons_zero,List.set_cons_succ,i64_w,i32_w]
     rfl
    exact norm_ (by simp only [putAll,Act.put,List.setIfInBounds_toArray,List.set_cons_zero,List.set_cons_succ]) (hCont (v667,v670) _ ⟨hHeld,(by(with_reducible repeat(first|apply Kd.R_alloc|apply Kd.R_drewN|apply Kd.R_drew));exact Kd.R_mono HO668.out (fun _ hk=>hk.2)),(by(with_reducible repeat(first|apply Kd.R_alloc|apply Kd.R_drewN|apply Kd.R_drew));exact Kd.R_mono HO671.out (fun _ hk=>hk.2)),(zq3 BK664),(by exact zk2 HB GE664.out)⟩)
   ·skip
    refine Kd.R_make_step (Kd.int .i64) _ 3 (by rfl) (N:=21) rfl 22 _ _ rfl (l0_0.length:Int) rfl rfl Try.underlying22 (.int .i64 0) 8 info3 rfl (by decide) (by omega) 0 (ok:=fun _=>True) (okp:=fun _=>True) rfl (fun _ hk=>hk) trivial (of_decide_eq_true zq1) (Nat.le_trans (Nat.mul_le_mul_right _ (of_decide_eq_true zq1:(l0_0.length:Int).toNat≤35184372088832)) (by omega)) (Below.refl _ _) (Nat.le_refl _) ?_
    intro v670 w10 ho11 hb hg_ hnew_
    clear hg_ hnew_
    (first|rw [← Ny669.out] at ho11|(simp only [Int.reduceToNat] at ho11;rw [← Ny669.out] at ho11))
    have HO671:=Aside0.mk (Kd.R_lower ho11 (below_size (by exact zk2 HB GE664.out)))
    replace BK664:=Aside0.mk (blk_below (g:=gb664) (o:= .cells #[.slice A0_0 l0_0.length c0_0,.slice A0_1 l0_1.length c0_1,.slice A0_2 l0_2.length c0_2] 33 (0,0)) (zq3 BK664) hb)
    replace HB:=Aside0.mk (below_step (by exact zk2 HB GE664.out) hb)
    clear hb ho11
    refine hK.out _ _ ⟨(blk_cell BK664.out 0).trans rfl,(blk_cell BK664.out 1).trans rfl,(blk_cell BK664.out 2).trans rfl⟩ (fun hHeld=>?_)
    clear hK K
    refine norm_ (a':=?_) ?_ ?_
    rotate_left
    ·show Act.put _ (some 21) _=_
     simp only [Act.put,List.setIfInBounds_toArray,List.set_cons_zero,List.set_cons_succ,i64_w,i32_w]
     rfl
    refine one_ (i:=3) (N:=some 17) (mb' 10 255) rfl rfl (one_of HT_.out (by kernel_rfl)) (by decide) (fun K hK=>?_)
    refine Kd.R_make_step (Kd.int .i64) _ 3 (by rfl) (N:=17) rfl 22 _ _ rfl (l0_0.length:Int) rfl rfl Try.underlying22 (.int .i64 0) 8 info3 rfl (by decide) (by omega) 0 (ok:=fun _=>True) (okp:=fun _=>True) rfl (fun _ hk=>hk) trivial (of_decide_eq_true zq1) (Nat.le_trans (Nat.mul_le_mul_right _ (of_decide_eq_true zq1:(l0_0.length:Int).toNat≤35184372088832)) (by omega)) (Below.refl _ _) (Nat.le_refl _) ?_
    intro v667 w12 ho13 hb hg_ hnew_
    clear hg_ hnew_
    (first|rw [← Ny666.out] at ho13|(simp only [Int.reduceToNat] at ho13;rw [← Ny666.out] at ho13))
    have HO668:=Aside0.mk (Kd.R_lower (Kd.R_new' ho13 (Kd.R_lt (zq4 HO671))) (below_size (by exact zk2 HB GE664.out)))
    replace HO671:=Aside0.mk (Kd.R_elder' (zq4 HO671) (Kd.R_base ho13) hb)
    replace BK664:=Aside0.mk (blk_below (g:=gb664) (o:= .cells #[.slice A0_0 l0_0.length c0_0,.slice A0_1 l0_1.length c0_1,.slice A0_2 l0_2.length c0_2] 33 (0,0)) (zq3 BK664) hb)
    replace HB:=Aside0.mk (below_step (by exact zk2 HB GE664.out) hb)
    clear hb ho13
    refine hK.out _ _ ⟨(blk_cell BK664.out 0).trans rfl,(blk_cell BK664.out 1).trans rfl,(blk_cell BK664.out 2).trans rfl⟩ (fun hHeld=>?_)
    clear hK K
    refine norm_ (a':=?_) ?_ ?_
    rotate_left
    ·show Act.put _ (some 17) _=_
     simp only [Act.put,List.setIfInBounds_toArray,List.set_cons_zero,List.set_cons_succ,i64_w,i32_w]
     rfl
    refine zp1 HT_ 8 4 (mb' 10 511) rfl ?_
    exact norm_ (by simp only [putAll,Act.put,List.setIfInBounds_toArray,List.set_cons_zero,List.set_cons_succ]) (hCont (v667,v670) _ ⟨hHeld,(by(with_reducible repeat(first|apply Kd.R_alloc|apply Kd.R_drewN|apply Kd.R_drew));exact Kd.R_mono HO668.out (fun _ hk=>hk.2)),(by(with_reducible repeat(first|apply Kd.R_alloc|apply Kd.R_drewN|apply Kd.R_drew));exact Kd.R_mono HO671.out (fun _ hk=>hk.2)),(zq3 BK664),(by exact zk2 HB GE664.out)⟩)
  rintro⟨v667,v670⟩ w14 ⟨hS_,h0_,h1_,h2_,h3_⟩
  have n0_:Aside0 (Kd.R (Kd.int .i64) 3 w14 w.heap.size (fun k_=>some k_≠ (v670:Value).ownBlock) v667 y666):=⟨h0_⟩
  have n1_:Aside0 (Kd.R (Kd.int .i64) 3 w14 w.heap.size (fun k_=>some k_≠ (v667:Value).ownBlock) v670 y669):=⟨h1_⟩
  have n2_:Aside0 (w14.heap[gb664]?=some (.cells #[.slice A0_0 l0_0.length c0_0,.slice A0_1 l0_1.length c0_1,.slice A0_2 l0_2.length c0_2] 33 (0,0))):=⟨h2_⟩
  have n3_:Aside0 (Below w.heap.size w w14):=⟨h3_⟩
  clear BK664
  clear HB
  clear h0_ h1_ h2_ h3_
  have HO668:=n0_
  have HO671:=n1_
  have BK664:=n2_
  have HB:=n3_
  clear n0_ n1_ n2_ n3_
  have hHeld:w14.cell? ⟨gb664,0,none⟩=some (.slice A0_0 l0_0.length c0_0)∧w14.cell? ⟨gb664,1,none⟩=some (.slice A0_1 l0_1.length c0_1)∧w14.cell? ⟨gb664,2,none⟩=some (.slice A0_2 l0_2.length c0_2):=hS_
  refine norm_ (a':=?_) ?_ ?_
  rotate_left
  ·simp only [putAll,Act.put,List.setIfInBounds_toArray,List.set_cons_zero,List.set_cons_succ]
   rfl
  refine zp1 HT_ 9 5 (mb' 10 1023) rfl ?_
  refine done_ (done_of HT_.out (by kernel_rfl)) ?_
  obtain⟨Ao15,co15,eo15⟩:=Kd.R_slice HO668.out
  subst eo15
  try go_wp2
  go_loopg [24] k (fun kq v24 w'=> ∃ (x4_1:List Int) (x24_1:Int),v24= .int .i64 x24_1∧Aside0 (impl_MatchAll.l0 kq x4_1 y669 (y666.length:Int) x24_1 l0_0 l0_1 l0_2=some (r1,r2))∧Aside0 (kq≤k)∧Aside0 (Kd.R (Kd.int .i64) 3 w' w.heap.size (fun k_=>some k_≠ (v670:Value).ownBlock) (.slice Ao15 y666.length co15) x4_1)∧Aside0 (Kd.R (Kd.int .i64) 3 w' w.heap.size (fun k_=>some k_≠ ((.slice Ao15 y666.length co15):Value).ownBlock) v670 y669)∧Aside0 (w'.heap[gb664]?=some (.cells #[(.slice A0_0 l0_0.length c0_0),(.slice A0_1 l0_1.length c0_1),(.slice A0_2 l0_2.length c0_2)] 33 (0,0)))∧Aside0 (Below w.heap.size w w'))
  case atStart=>exact⟨(y666),(0),zrs,H',⟨Nat.le_refl _⟩,⟨zdr HO668⟩,⟨zdr HO671⟩,⟨by(with_reducible repeat(first|refine blk_drewN ?_ _|refine blk_drew ?_ |refine blk_alloc ?_ _));exact BK664.out⟩,⟨by exact zk2 HB GE664.out⟩⟩
  case round=>
   clear H'
   try clear c2
   try clear p2
   try clear c3
   try clear c4
   try clear c4b0
   try clear c4b1
   try clear c5
   try clear c5b0
   try clear c5b1
   try clear hcz7_0
   try clear hcz7_1
   try clear hcz7_2
   try clear hfz7_0
   try clear hfz7_1
   try clear hfz7_2
   obtain⟨x4_1,x24_1,rfl,HA,HK1,HO_4,HO_5,BK664,HB⟩:=hrel
   have hl4_1:=(Kd.R_reads' HO_4.out).1
   rw [hl4_1] at HO_4
   (try simp only [hl4_1])
   (try simp only [hl4_1] at BK664)
   (try simp only [hl4_1] at HO_5)
   cases gk with
   |zero=>exact absurd HA.out (by simp [impl_MatchAll.l0])
   |succ k1=>
    have H:=HA.out
    clear HA
    simp only [impl_MatchAll.l0] at H
    by_cases c16:x24_1< (y666.length:Int)
    ·rw [if_pos c16] at H
     have c16b0:decide (x24_1< (y666.length:Int))=true:=decide_eq_true c16
     (try(have c16b0L:=c16b0;simp only [hl4_1] at c16b0L))
     clear c16
     by_cases c17: 0≤x24_1
     case neg=>exact znn c17 H
     rw [if_pos c17] at H
     have c17b0:decide (0≤x24_1)=true:=decide_eq_true c17
     clear c17
     by_cases c18:x24_1< (x4_1.length:Int)
     case neg=>exact znn c18 H
     rw [if_pos c18] at H
     have c18b0:decide (x24_1< (x4_1.length:Int))=true:=decide_eq_true c18
     (try(have c18b0L:=c18b0;simp only [hl4_1] at c18b0L))
     clear c18
     obtain⟨y672,hy672⟩ :∃ y_:List Int,y_= (x4_1.set (x24_1:Int).toNat (-1)):=⟨_,rfl⟩
     replace H:(impl_MatchAll.l0 k1 y672 y669 (y666.length:Int) (wrap64 (x24_1+1)) l0_0 l0_1 l0_2)=some (r1,r2):=zfh hy672 H
     have Ny672:=Aside0.mk hy672
     clear hy672
     have H':=Aside0.mk H
     clear H
     have p19: 0≤ (x24_1:Int):=of_decide_eq_true zq1
     have q19:(x24_1:Int)< ((x4_1.length:Int):Int):=of_decide_eq_true zq1
     obtain⟨go19,co19,eo19,gb19,gl19,cl19,HG19⟩:=Kd.R_form HO_4.out (by omega)
     (first|cases eo19|(injection eo19 with ea_ en_ ec_;(first|subst ea_|(injection ea_ with ea_;subst ea_));subst ec_;clear en_))
     have GB19:=Aside0.mk gb19
     have GG19:=Aside0.mk HG19
     clear gb19 gl19 HG19
     obtain⟨hx19_0,hf19_0⟩:=Kd.R_celln 0 HO_4.out (x24_1:Int) p19 q19
     replace p19:=eq_true p19
     replace q19:=eq_true q19
     have HP20:=Kd.R_putg HO_4.out (x24_1:Int) (-1)
     go_wp2_with (first|((with_reducible refine gate_store (t:=3) (p:=29) rfl ?_);refine store_event (t:=3) (p:=29) (v:=?vo_w21) (w1:=(wr.setCell ⟨go19,(x24_1:Int).toNat,none⟩ (.int .i64 (-1)))) ?hg ?ho ?hn ?hr ?_;(case ho=>rfl);(case hg=>rfl);(case hn=>rfl);(case hr=>first|(go_simp;done)|(go_simp;rfl));intro w21 hw;have hg:wr.grownBy w21 (some go19):=(by rw [hw];exact HP20.2);have hp_:Kd.R (Kd.int .i64) 3 w21 w.heap.size (fun k_=>some k_≠ (v670:Value).ownBlock) (.slice (some ⟨go19,0,none⟩) x4_1.length co15) y672:=(by rw [hw,Ny672.out];exact HP20.1);clear HP20;replace HO_5:=Aside0.mk (Kd.R_after (v:=(.slice (some ⟨go19,0,none⟩) x4_1.length co15)) (v1:=(.slice (some ⟨go19,0,none⟩) x4_1.length co15)) (ok:=(fun _=>True)) (by(with_reducible repeat(first|apply Kd.R_alloc|apply Kd.R_drewN|apply Kd.R_drew));exact Kd.R_mono HO_5.out (fun _ hk=>⟨trivial,hk⟩)) hg (.inl rfl));replace BK664:=Aside0.mk (blk_grown (g:=gb664) (o:= .cells #[.slice A0_0 l0_0.length c0_0,.slice A0_1 l0_1.length c0_1,.slice A0_2 l0_2.length c0_2] 33 (0,0)) (zq3 BK664) hg (Kd.R_ne HO_4.out BK664.out (by decide)));replace HO_4:=Aside0.mk (hp_);replace HB:=Aside0.mk ((by rw [hw];exact below_set (HB.out) GB19.out:Below w.heap.size w w21));clear hg hw hp_))
     (try simp only [← hl4_1])
     go_roundg k1
     case measure=>have:=HK1.out;omega
     case rel=>exact⟨(y672),(wrap64 (x24_1+1)),zrs,H',⟨by have:=HK1.out;omega⟩,⟨by(try simp only [hl4_1]);(with_reducible repeat(first|apply Kd.R_alloc|apply Kd.R_drewN|apply Kd.R_drew));exact HO_4.out⟩,⟨by(try simp only [hl4_1]);(with_reducible repeat(first|apply Kd.R_alloc|apply Kd.R_drewN|apply Kd.R_drew));exact Kd.R_mono HO_5.out (fun _ hk=>hk.2)⟩,⟨by(try simp only [hl4_1]);(with_reducible repeat(first|refine blk_drewN ?_ _|refine blk_drew ?_ |refine blk_alloc ?_ _));exact BK664.out⟩,⟨by exact zk2 HB GE664.out⟩⟩
    ·rw [if_neg c16] at H
     have c16b0:decide (x24_1< (y666.length:Int))=false:=decide_eq_false c16
     (try(have c16b0L:=c16b0;simp only [hl4_1] at c16b0L))
     clear c16
     have H':=Aside0.mk H
     clear H
     go_wp2
     go_loopg [] k1 (fun kq w'=> ∃ (x4_2:List Int) (x5_2:List Int),Aside0 (impl_MatchAll.l1 kq x4_2 x5_2 l0_0 l0_1 l0_2=some (r1,r2))∧Aside0 (kq≤k1)∧Aside0 (Kd.R (Kd.int .i64) 3 w' w.heap.size (fun k_=>some k_≠ (v670:Value).ownBlock) (.slice Ao15 x4_1.length co15) x4_2)∧Aside0 (Kd.R (Kd.int .i64) 3 w' w.heap.size (fun k_=>some k_≠ ((.slice Ao15 x4_1.length co15):Value).ownBlock) v670 x5_2)∧Aside0 (w'.heap[gb664]?=some (.cells #[(.slice A0_0 l0_0.length c0_0),(.slice A0_1 l0_1.length c0_1),(.slice A0_2 l0_2.length c0_2)] 33 (0,0)))∧Aside0 (Below w.heap.size w w'))
     case atStart=>exact⟨(x4_1),(y669),H',⟨Nat.le_refl _⟩,⟨by(try simp only [hl4_1]);(with_reducible repeat(first|apply Kd.R_alloc|apply Kd.R_drewN|apply Kd.R_drew));exact HO_4.out⟩,⟨by(try simp only [hl4_1]);(with_reducible repeat(first|apply Kd.R_alloc|apply Kd.R_drewN|apply Kd.R_drew));exact HO_5.out⟩,⟨by(try simp only [hl4_1]);(with_reducible repeat(first|refine blk_drewN ?_ _|refine blk_drew ?_ |refine blk_alloc ?_ _));exact BK664.out⟩,⟨by exact zk2 HB GE664.out⟩⟩
     case round=>
      clear H'
      try clear c1
      try clear p1
      try clear q1
      try clear hx1
      try clear hf1
      try clear c2
      try clear p2
      try clear c3
      try clear c4
      try clear c4b0
      try clear c4b1
      try clear c5
      try clear c5b0
      try clear c5b1
      try clear p6
      try clear c16
      try clear c16b0
      try clear c17
      try clear c17b0
      try clear c18
      try clear c18b0
      try clear p19
      try clear q19
      try clear hx19
      try clear hf19
      try clear c20
      try clear hcz7_0
      try clear hcz7_1
      try clear hcz7_2
      try clear hfz7_0
      try clear hfz7_1
      try clear hfz7_2
      try clear hx19_0
      try clear p19
      try clear p2
      try clear q19
      obtain⟨x4_2,x5_2,HA,HK2,HO_4,HO_5,BK664,HB⟩:=hrel
      have hl4_2:=(Kd.R_reads' HO_4.out).1
      rw [hl4_2] at HO_4
      (try simp only [hl4_2])
      (try simp only [hl4_2] at BK664)
      (try simp only [hl4_2] at HO_5)
      cases gk with
      |zero=>exact absurd HA.out (by simp [impl_MatchAll.l1])
      |succ k2=>
       have H:=HA.out
       clear HA
       simp only [impl_MatchAll.l1] at H
       have HC22:=Aside0.mk H
       clear H
       go_upto_block 4 with (fail)
       go_cut [7] (fun v7 wc=> ∃ (kq:Nat) (x7_21:Int),v7= .int .i64 x7_21∧Aside0 (impl_MatchAll.j3 kq x4_2 x5_2 x7_21 l0_0 l0_1 l0_2=some (r1,r2))∧Aside0 (kq≤k2)∧Aside0 (Kd.R (Kd.int .i64) 3 wc w.heap.size (fun k_=>some k_≠ (v670:Value).ownBlock) (.slice Ao15 x4_2.length co15) x4_2)∧Aside0 (Kd.R (Kd.int .i64) 3 wc w.heap.size (fun k_=>some k_≠ ((.slice Ao15 x4_2.length co15):Value).ownBlock) v670 x5_2)∧Aside0 (wc.heap[gb664]?=some (.cells #[(.slice A0_0 l0_0.length c0_0),(.slice A0_1 l0_1.length c0_1),(.slice A0_2 l0_2.length c0_2)] 33 (0,0)))∧Aside0 (Below w.heap.size w wc))
       case first=>
        have H:=HC22.out
        clear HC22
        have H':=Aside0.mk H
        clear H
        go_wp2
        go_loopg [7] k2 (fun kq v7 w'=> ∃ (x7_3:Int),v7= .int .i64 x7_3∧Aside0 (impl_MatchAll.l2 kq x4_2 x5_2 x7_3 l0_0 l0_1 l0_2=some (r1,r2))∧Aside0 (kq≤k2)∧Aside0 (Kd.R (Kd.int .i64) 3 w' w.heap.size (fun k_=>some k_≠ (v670:Value).ownBlock) (.slice Ao15 x4_2.length co15) x4_2)∧Aside0 (Kd.R (Kd.int .i64) 3 w' w.heap.size (fun k_=>some k_≠ ((.slice Ao15 x4_2.length co15):Value).ownBlock) v670 x5_2)∧Aside0 (w'.heap[gb664]?=some (.cells #[(.slice A0_0 l0_0.length c0_0),(.slice A0_1 l0_1.length c0_1),(.slice A0_2 l0_2.length c0_2)] 33 (0,0)))∧Aside0 (Below w.heap.size w w'))
        case atStart=>exact⟨(0),zrs,H',⟨Nat.le_refl _⟩,⟨by(try simp only [hl4_1]);(try simp only [hl4_2]);(with_reducible repeat(first|apply Kd.R_alloc|apply Kd.R_drewN|apply Kd.R_drew));exact HO_4.out⟩,⟨by(try simp only [hl4_1]);(try simp only [hl4_2]);(with_reducible repeat(first|apply Kd.R_alloc|apply Kd.R_drewN|apply Kd.R_drew));exact HO_5.out⟩,⟨by(try simp only [hl4_1]);(try simp only [hl4_2]);(with_reducible repeat(first|refine blk_drewN ?_ _|refine blk_drew ?_ |refine blk_alloc ?_ _));exact BK664.out⟩,⟨by exact zk2 HB GE664.out⟩⟩
        case round=>
         clear H'
         try clear c1
         try clear p1
         try clear q1
         try clear hx1
         try clear hf1
         try clear c2
         try clear p2
         try clear c3
         try clear c4
         try clear c4b0
         try clear c4b1
         try clear c5
         try clear c5b0
         try clear c5b1
         try clear p6
         try clear c16
         try clear c16b0
         try clear c17
         try clear c17b0
         try clear c18
         try clear c18b0
         try clear p19
         try clear q19
         try clear hx19
         try clear hf19
         try clear c20
         try clear hcz7_0
         try clear hcz7_1
         try clear hcz7_2
         try clear hfz7_0
         try clear hfz7_1
         try clear hfz7_2
         try clear hx19_0
         try clear p1
         try clear p19
         try clear p2
         try clear p6
         try clear q1
         try clear q19
         obtain⟨x7_3,rfl,HA,HK3,HO_4,HO_5,BK664,HB⟩:=hrel
         cases gk with
         |zero=>exact absurd HA.out (by simp [impl_MatchAll.l2])
         |succ k3=>
          have H:=HA.out
          clear HA
          simp only [impl_MatchAll.l2] at H
          by_cases c23:x7_3< (x4_2.length:Int)
          ·rw [if_pos c23] at H
           have c23b0:decide (x7_3< (x4_2.length:Int))=true:=decide_eq_true c23
           (try(have c23b0L:=c23b0;simp only [hl4_1] at c23b0L))
           (try(have c23b0L:=c23b0;simp only [hl4_2] at c23b0L))
           clear c23
           (first|rw [c23b0]|(simp only [i64_w,i32_w];rw [c23b0])|skip)
           by_cases c24: 0≤x7_3
           case neg=>exact znn c24 H
           rw [if_pos c24] at H
           have c24b0:decide (0≤x7_3)=true:=decide_eq_true c24
           clear c24
           by_cases c25:(rd x4_2 x7_3)≥0
           ·rw [if_pos c25] at H
            have c25b0:decide (0≤ (rd x4_2 x7_3))=true:=decide_eq_true c25
            clear c25
            have H':=Aside0.mk H
            clear H
            try go_wp2
            replace HO_4:=Aside0.mk (Kd.R_drew HO_4.out)
            replace HO_5:=Aside0.mk (Kd.R_drew HO_5.out)
            replace BK664:=Aside0.mk (blk_drew BK664.out)
            replace HB:=Aside0.mk (below_drew1 HB.out)
            have p673: 0≤ (x7_3:Int):=of_decide_eq_true zq1
            have q673:x7_3< (x4_2.length:Int):=of_decide_eq_true zq1
            obtain⟨ad673,e673,hx673_0⟩:=Kd.at_int (Kd.R_reads' HO_4.out).2.2 x7_3 p673 q673
            cases e673
            replace p673:=eq_true p673
            replace q673:=eq_true q673
            refine start_ (n:=21) (S:=fun w'=>w'.cell? (ad673.add (x7_3).toNat)=some (.int .i64 (rd x4_2 x7_3))) (ds:= []) (mb' 21 0) (by kernel_rfl) rfl rfl (hx673_0) (fun hHeld=>?_);refine with_tabW impl_MatchAll.tab10 impl_MatchAll.bits10 (fun HT_ HW_=>?_)
            generalize wr.drew=w26 at HO_4 HO_5 BK664 HB hx673_0 hHeld ⊢
            refine zp1 HT_ 0 31 (mb' 21 1) rfl ?_
            refine zp1 HT_ 1 32 (mb' 21 3) rfl ?_
            refine zp1 HT_ 2 33 (mb' 21 7) rfl ?_
            refine zp1 HT_ 3 34 (mb' 21 15) rfl ?_
            refine zp1 HT_ 4 35 (mb' 21 31) rfl ?_
            refine zp1 HT_ 5 36 (mb' 21 63) rfl ?_
            refine zp1 HT_ 6 37 (mb' 21 127) rfl ?_
            refine zp1 HT_ 7 38 (mb' 21 255) rfl ?_
            refine zt1 HT_ HW_ (v:=?_) (a':=?_) 8 39 (mb' 21 511) rfl ?_ hHeld ?_ ?_;rotate_left;(intro w' s0;go_simp;with_reducible rfl);rotate_left;exact zpa
            refine zp1 HT_ 9 40 (mb' 21 1023) rfl ?_
            refine zp1 HT_ 10 41 (mb' 21 2047) rfl ?_
            refine zp2 HT_ 11 42 (mb' 21 4095) rfl ?_
            refine zp2 HT_ 12 43 (mb' 21 8191) rfl ?_
            refine zp2 HT_ 13 44 (mb' 21 16383) rfl ?_
            refine zp2 HT_ 14 45 (mb' 21 32767) rfl ?_
            refine zp2 HT_ 15 46 (mb' 21 65535) rfl ?_
            refine zp2 HT_ 16 47 (mb' 21 131071) rfl ?_
            refine zp2 HT_ 17 48 (mb' 21 262143) rfl ?_
            refine zp2 HT_ 18 49 (mb' 21 524287) rfl ?_
            refine zp1 HT_ 19 50 (mb' 21 1048575) rfl ?_
            refine zp1 HT_ 20 51 (mb' 21 2097151) rfl ?_
            refine done_ (done_of HT_.out (by kernel_rfl)) ?_
            try go_wp2
            go_roundg k3
            case measure=>have:=HK1.out;have:=HK2.out;have:=HK3.out;omega
            case rel=>exact⟨(wrap64 (x7_3+1)),zrs,H',⟨by have:=HK1.out;have:=HK2.out;have:=HK3.out;omega⟩,⟨by(try simp only [hl4_1]);(try simp only [hl4_2]);(with_reducible repeat(first|apply Kd.R_alloc|apply Kd.R_drewN|apply Kd.R_drew));exact HO_4.out⟩,⟨by(try simp only [hl4_1]);(try simp only [hl4_2]);(with_reducible repeat(first|apply Kd.R_alloc|apply Kd.R_drewN|apply Kd.R_drew));exact HO_5.out⟩,⟨by(try simp only [hl4_1]);(try simp only [hl4_2]);(with_reducible repeat(first|refine blk_drewN ?_ _|refine blk_drew ?_ |refine blk_alloc ?_ _));exact BK664.out⟩,⟨by exact zk2 HB GE664.out⟩⟩
           ·rw [if_neg c25] at H
            have c25b0:decide (0≤ (rd x4_2 x7_3))=false:=decide_eq_false c25
            clear c25
            by_cases c27:x7_3< (x5_2.length:Int)
            case neg=>exact znn c27 H
            rw [if_pos c27] at H
            have c27b0:decide (x7_3< (x5_2.length:Int))=true:=decide_eq_true c27
            (try(have c27b0L:=c27b0;simp only [hl4_1] at c27b0L))
            (try(have c27b0L:=c27b0;simp only [hl4_2] at c27b0L))
            clear c27
            by_cases c28:(rd x5_2 x7_3)= (l0_1.length:Int)
            ·rw [if_pos c28] at H
             have c28b0:((rd x5_2 x7_3)== (l0_1.length:Int))=true:=beq_iff_eq.mpr c28
             (try(have c28b0L:=c28b0;simp only [hl4_1] at c28b0L))
             (try(have c28b0L:=c28b0;simp only [hl4_2] at c28b0L))
             have c28b1:((rd x5_2 x7_3) != (l0_1.length:Int))=false:=bne_eq_false_iff_eq.mpr c28
             (try(have c28b1L:=c28b1;simp only [hl4_1] at c28b1L))
             (try(have c28b1L:=c28b1;simp only [hl4_2] at c28b1L))
             clear c28
             have H':=Aside0.mk H
             clear H
             try go_wp2
             replace HO_4:=Aside0.mk (Kd.R_drew HO_4.out)
             replace HO_5:=Aside0.mk (Kd.R_drew HO_5.out)
             replace BK664:=Aside0.mk (blk_drew BK664.out)
             replace HB:=Aside0.mk (below_drew1 HB.out)
             have p673: 0≤ (x7_3:Int):=of_decide_eq_true zq1
             have q673:x7_3< (x4_2.length:Int):=of_decide_eq_true zq1
             obtain⟨ad673,e673,hx673_0⟩:=Kd.at_int (Kd.R_reads' HO_4.out).2.2 x7_3 p673 q673
             cases e673
             replace p673:=eq_true p673
             replace q673:=eq_true q673
             obtain⟨Ao30,co30,eo30⟩:=Kd.R_slice HO_5.out
             (first|subst eo30|(injection eo30 with f1_ f2_ f3_;have f4_:=f1_.symm;have f5_:=f3_.symm;clear f1_ f2_ f3_;subst f4_;subst f5_))
             have p674: 0≤ (x7_3:Int):=of_decide_eq_true zq1
             have q674:x7_3< (x5_2.length:Int):=of_decide_eq_true zq1
             obtain⟨ad674,e674,hx674_0⟩:=Kd.at_int (Kd.R_reads' HO_5.out).2.2 x7_3 p674 q674
             cases e674
             replace p674:=eq_true p674
             replace q674:=eq_true q674
             refine start_ (n:=21) (S:=fun w'=>w'.cell? ⟨gb664,0,none⟩=some (.slice A0_0 l0_0.length c0_0)∧w'.cell? ⟨gb664,1,none⟩=some (.slice A0_1 l0_1.length c0_1)∧w'.cell? ⟨gb664,2,none⟩=some (.slice A0_2 l0_2.length c0_2)∧w'.cell? (ad673.add (x7_3).toNat)=some (.int .i64 (rd x4_2 x7_3))∧w'.cell? (ad674.add (x7_3).toNat)=some (.int .i64 (rd x5_2 x7_3))) (ds:= []) (mb' 21 0) (by kernel_rfl) rfl rfl ⟨(blk_cell BK664.out 0).trans rfl,(blk_cell BK664.out 1).trans rfl,(blk_cell BK664.out 2).trans rfl,hx673_0,hx674_0⟩ (fun hHeld=>?_);refine with_tabW impl_MatchAll.tab10 impl_MatchAll.bits10 (fun HT_ HW_=>?_)
             generalize wr.drew=w29 at HO_4 HO_5 BK664 HB hx673_0 hx674_0 hHeld ⊢
             refine zp1 HT_ 0 31 (mb' 21 1) rfl ?_
             refine zp1 HT_ 1 32 (mb' 21 3) rfl ?_
             refine zp1 HT_ 2 33 (mb' 21 7) rfl ?_
             refine zp1 HT_ 3 34 (mb' 21 15) rfl ?_
             refine zp1 HT_ 4 35 (mb' 21 31) rfl ?_
             refine zp1 HT_ 5 36 (mb' 21 63) rfl ?_
             refine zp1 HT_ 6 37 (mb' 21 127) rfl ?_
             refine zp1 HT_ 7 38 (mb' 21 255) rfl ?_
             refine zt1 HT_ HW_ (v:=?_) (a':=?_) 8 39 (mb' 21 511) rfl ?_ hHeld ?_ ?_;rotate_left;(rintro w' ⟨s0,s1,s2,s3,s4⟩;go_simp;with_reducible rfl);rotate_left;exact zpa
             refine zp1 HT_ 9 40 (mb' 21 1023) rfl ?_
             refine zp1 HT_ 10 41 (mb' 21 2047) rfl ?_
             refine zp1 HT_ 11 42 (mb' 21 4095) rfl ?_
             refine zp1 HT_ 12 43 (mb' 21 8191) rfl ?_
             refine zp1 HT_ 13 44 (mb' 21 16383) rfl ?_
             refine zp1 HT_ 15 46 (mb' 21 49151) rfl ?_
             refine zt1 HT_ HW_ (v:=?_) (a':=?_) 14 45 (mb' 21 65535) rfl ?_ hHeld ?_ ?_;rotate_left;(rintro w' ⟨s0,s1,s2,s3,s4⟩;go_simp;with_reducible rfl);rotate_left;exact zpa
             refine zt1 HT_ HW_ (v:=?_) (a':=?_) 16 47 (mb' 21 131071) rfl ?_ hHeld ?_ ?_;rotate_left;(rintro w' ⟨s0,s1,s2,s3,s4⟩;go_simp;with_reducible rfl);rotate_left;exact zpa
             refine zp1 HT_ 17 48 (mb' 21 262143) rfl ?_
             refine zp1 HT_ 18 49 (mb' 21 524287) rfl ?_
             refine zp1 HT_ 19 50 (mb' 21 1048575) rfl ?_
             refine zp1 HT_ 20 51 (mb' 21 2097151) rfl ?_
             refine done_ (done_of HT_.out (by kernel_rfl)) ?_
             try go_wp2
             go_roundg k3
             case measure=>have:=HK1.out;have:=HK2.out;have:=HK3.out;omega
             case rel=>exact⟨(wrap64 (x7_3+1)),zrs,H',⟨by have:=HK1.out;have:=HK2.out;have:=HK3.out;omega⟩,⟨by(try simp only [hl4_1]);(try simp only [hl4_2]);(with_reducible repeat(first|apply Kd.R_alloc|apply Kd.R_drewN|apply Kd.R_drew));exact HO_4.out⟩,⟨by(try simp only [hl4_1]);(try simp only [hl4_2]);(with_reducible repeat(first|apply Kd.R_alloc|apply Kd.R_drewN|apply Kd.R_drew));exact HO_5.out⟩,⟨by(try simp only [hl4_1]);(try simp only [hl4_2]);(with_reducible repeat(first|refine blk_drewN ?_ _|refine blk_drew ?_ |refine blk_alloc ?_ _));exact BK664.out⟩,⟨by exact zk2 HB GE664.out⟩⟩
            ·rw [if_neg c28] at H
             have c28b0:((rd x5_2 x7_3)== (l0_1.length:Int))=false:=beq_eq_false_iff_ne.mpr c28
             (try(have c28b0L:=c28b0;simp only [hl4_1] at c28b0L))
             (try(have c28b0L:=c28b0;simp only [hl4_2] at c28b0L))
             have c28b1:((rd x5_2 x7_3) != (l0_1.length:Int))=true:=bne_iff_ne.mpr c28
             (try(have c28b1L:=c28b1;simp only [hl4_1] at c28b1L))
             (try(have c28b1L:=c28b1;simp only [hl4_2] at c28b1L))
             have H':=Aside0.mk H
             clear H
             try go_wp2
             replace HO_4:=Aside0.mk (Kd.R_drew HO_4.out)
             replace HO_5:=Aside0.mk (Kd.R_drew HO_5.out)
             replace BK664:=Aside0.mk (blk_drew BK664.out)
             replace HB:=Aside0.mk (below_drew1 HB.out)
             have p673: 0≤ (x7_3:Int):=of_decide_eq_true zq1
             have q673:x7_3< (x4_2.length:Int):=of_decide_eq_true zq1
             obtain⟨ad673,e673,hx673_0⟩:=Kd.at_int (Kd.R_reads' HO_4.out).2.2 x7_3 p673 q673
             cases e673
             replace p673:=eq_true p673
             replace q673:=eq_true q673
             obtain⟨Ao32,co32,eo32⟩:=Kd.R_slice HO_5.out
             (first|subst eo32|(injection eo32 with f1_ f2_ f3_;have f4_:=f1_.symm;have f5_:=f3_.symm;clear f1_ f2_ f3_;subst f4_;subst f5_))
             have p674: 0≤ (x7_3:Int):=of_decide_eq_true zq1
             have q674:x7_3< (x5_2.length:Int):=of_decide_eq_true zq1
             obtain⟨ad674,e674,hx674_0⟩:=Kd.at_int (Kd.R_reads' HO_5.out).2.2 x7_3 p674 q674
             cases e674
             replace p674:=eq_true p674
             replace q674:=eq_true q674
             refine start_ (n:=21) (S:=fun w'=>w'.cell? ⟨gb664,0,none⟩=some (.slice A0_0 l0_0.length c0_0)∧w'.cell? ⟨gb664,1,none⟩=some (.slice A0_1 l0_1.length c0_1)∧w'.cell? ⟨gb664,2,none⟩=some (.slice A0_2 l0_2.length c0_2)∧w'.cell? (ad673.add (x7_3).toNat)=some (.int .i64 (rd x4_2 x7_3))∧w'.cell? (ad674.add (x7_3).toNat)=some (.int .i64 (rd x5_2 x7_3))) (ds:= []) (mb' 21 0) (by kernel_rfl) rfl rfl ⟨(blk_cell BK664.out 0).trans rfl,(blk_cell BK664.out 1).trans rfl,(blk_cell BK664.out 2).trans rfl,hx673_0,hx674_0⟩ (fun hHeld=>?_);refine with_tabW impl_MatchAll.tab10 impl_MatchAll.bits10 (fun HT_ HW_=>?_)
             generalize wr.drew=w31 at HO_4 HO_5 BK664 HB hx673_0 hx674_0 hHeld ⊢
             refine zp1 HT_ 0 31 (mb' 21 1) rfl ?_
             refine zp1 HT_ 1 32 (mb' 21 3) rfl ?_
             refine zp1 HT_ 2 33 (mb' 21 7) rfl ?_
             refine zp1 HT_ 3 34 (mb' 21 15) rfl ?_
             refine zp1 HT_ 4 35 (mb' 21 31) rfl ?_
             refine zp1 HT_ 5 36 (mb' 21 63) rfl ?_
             refine zp1 HT_ 6 37 (mb' 21 127) rfl ?_
             refine zp1 HT_ 7 38 (mb' 21 255) rfl ?_
             refine zt1 HT_ HW_ (v:=?_) (a':=?_) 8 39 (mb' 21 511) rfl ?_ hHeld ?_ ?_;rotate_left;(rintro w' ⟨s0,s1,s2,s3,s4⟩;go_simp;with_reducible rfl);rotate_left;exact zpa
             refine zp1 HT_ 9 40 (mb' 21 1023) rfl ?_
             refine zp1 HT_ 10 41 (mb' 21 2047) rfl ?_
             refine zp1 HT_ 11 42 (mb' 21 4095) rfl ?_
             refine zp1 HT_ 12 43 (mb' 21 8191) rfl ?_
             refine zp1 HT_ 13 44 (mb' 21 16383) rfl ?_
             refine zp1 HT_ 15 46 (mb' 21 49151) rfl ?_
             refine zt1 HT_ HW_ (v:=?_) (a':=?_) 14 45 (mb' 21 65535) rfl ?_ hHeld ?_ ?_;rotate_left;(rintro w' ⟨s0,s1,s2,s3,s4⟩;go_simp;with_reducible rfl);rotate_left;exact zpa
             refine zt1 HT_ HW_ (v:=?_) (a':=?_) 16 47 (mb' 21 131071) rfl ?_ hHeld ?_ ?_;rotate_left;(rintro w' ⟨s0,s1,s2,s3,s4⟩;go_simp;with_reducible rfl);rotate_left;exact zpa
             refine zp1 HT_ 17 48 (mb' 21 262143) rfl ?_
             refine zp1 HT_ 18 49 (mb' 21 524287) rfl ?_
             refine zp1 HT_ 19 50 (mb' 21 1048575) rfl ?_
             refine zp1 HT_ 20 51 (mb' 21 2097151) rfl ?_
             refine done_ (done_of HT_.out (by kernel_rfl)) ?_
             try go_wp2
             go_meet
             case rel=>exact⟨_,(x7_3),zrs,H',⟨by have:=HK1.out;have:=HK2.out;have:=HK3.out;first|omega|exact Nat.le_refl _⟩,⟨by(try simp only [hl4_1]);(try simp only [hl4_2]);(with_reducible repeat(first|apply Kd.R_alloc|apply Kd.R_drewN|apply Kd.R_drew));exact HO_4.out⟩,⟨by(try simp only [hl4_1]);(try simp only [hl4_2]);(with_reducible repeat(first|apply Kd.R_alloc|apply Kd.R_drewN|apply Kd.R_drew));exact HO_5.out⟩,⟨by(try simp only [hl4_1]);(try simp only [hl4_2]);(with_reducible repeat(first|refine blk_drewN ?_ _|refine blk_drew ?_ |refine blk_alloc ?_ _));exact BK664.out⟩,⟨by exact zk2 HB GE664.out⟩⟩
          ·rw [if_neg c23] at H
           have c23b0:decide (x7_3< (x4_2.length:Int))=false:=decide_eq_false c23
           (try(have c23b0L:=c23b0;simp only [hl4_1] at c23b0L))
           (try(have c23b0L:=c23b0;simp only [hl4_2] at c23b0L))
           clear c23
           (first|rw [c23b0]|(simp only [i64_w,i32_w];rw [c23b0])|skip)
           have H':=Aside0.mk H
           clear H
           try go_wp2
           replace HO_4:=Aside0.mk (Kd.R_drew HO_4.out)
           replace HO_5:=Aside0.mk (Kd.R_drew HO_5.out)
           replace BK664:=Aside0.mk (blk_drew BK664.out)
           replace HB:=Aside0.mk (below_drew1 HB.out)
           refine start_ (n:=21) (S:=fun w'=>True) (ds:= []) (mb' 21 0) (by kernel_rfl) rfl rfl trivial (fun hHeld=>?_);refine with_tabW impl_MatchAll.tab10 impl_MatchAll.bits10 (fun HT_ HW_=>?_)
           generalize wr.drew=w33 at HO_4 HO_5 BK664 HB hHeld ⊢
           refine zp1 HT_ 0 31 (mb' 21 1) rfl ?_
           refine zp1 HT_ 1 32 (mb' 21 3) rfl ?_
           refine zp1 HT_ 2 33 (mb' 21 7) rfl ?_
           refine zp1 HT_ 3 34 (mb' 21 15) rfl ?_
           refine zp1 HT_ 4 35 (mb' 21 31) rfl ?_
           refine zp2 HT_ 5 36 (mb' 21 63) rfl ?_
           refine zp2 HT_ 6 37 (mb' 21 127) rfl ?_
           refine zp2 HT_ 7 38 (mb' 21 255) rfl ?_
           refine zp2 HT_ 8 39 (mb' 21 511) rfl ?_
           refine zp2 HT_ 9 40 (mb' 21 1023) rfl ?_
           refine zp2 HT_ 10 41 (mb' 21 2047) rfl ?_
           refine zp2 HT_ 11 42 (mb' 21 4095) rfl ?_
           refine zp2 HT_ 12 43 (mb' 21 8191) rfl ?_
           refine zp2 HT_ 13 44 (mb' 21 16383) rfl ?_
           refine zp2 HT_ 14 45 (mb' 21 32767) rfl ?_
           refine zp2 HT_ 15 46 (mb' 21 65535) rfl ?_
           refine zp2 HT_ 16 47 (mb' 21 131071) rfl ?_
           refine zp2 HT_ 17 48 (mb' 21 262143) rfl ?_
           refine zp2 HT_ 18 49 (mb' 21 524287) rfl ?_
           refine zp2 HT_ 19 50 (mb' 21 1048575) rfl ?_
           refine zp1 HT_ 20 51 (mb' 21 2097151) rfl ?_
           refine done_ (done_of HT_.out (by kernel_rfl)) ?_
           try go_wp2
           go_meet
           case rel=>exact⟨_,(x7_3),zrs,H',⟨by have:=HK1.out;have:=HK2.out;have:=HK3.out;first|omega|exact Nat.le_refl _⟩,⟨by(try simp only [hl4_1]);(try simp only [hl4_2]);(with_reducible repeat(first|apply Kd.R_alloc|apply Kd.R_drewN|apply Kd.R_drew));exact HO_4.out⟩,⟨by(try simp only [hl4_1]);(try simp only [hl4_2]);(with_reducible repeat(first|apply Kd.R_alloc|apply Kd.R_drewN|apply Kd.R_drew));exact HO_5.out⟩,⟨by(try simp only [hl4_1]);(try simp only [hl4_2]);(with_reducible repeat(first|refine blk_drewN ?_ _|refine blk_drew ?_ |refine blk_alloc ?_ _));exact BK664.out⟩,⟨by exact zk2 HB GE664.out⟩⟩
       case rest=>
        clear HC22
        try clear c2
        try clear p2
        try clear p6
        try clear q6
        try clear hx6
        try clear c23
        try clear c23b0
        try clear c24
        try clear c25
        try clear c25b0
        try clear c27
        try clear c27b0
        try clear c28
        try clear c28b0
        try clear c28b1
        try clear hx673_0
        try clear hx674_0
        try clear p673
        try clear p674
        try clear q673
        try clear q674
        obtain⟨kq,x7_21,rfl,HA,HJ21,HO_4,HO_5,BK664,HB⟩:=hcut
        cases kq with
        |zero=>exact absurd HA.out (by simp [impl_MatchAll.j3])
        |succ kj21=>
         have H:=HA.out
         clear HA
         simp only [impl_MatchAll.j3] at H
         by_cases c34:x7_21= (x4_2.length:Int)
         ·rw [if_pos c34] at H
          have c34b0:(x7_21== (x4_2.length:Int))=true:=beq_iff_eq.mpr c34
          (try(have c34b0L:=c34b0;simp only [hl4_1] at c34b0L))
          (try(have c34b0L:=c34b0;simp only [hl4_2] at c34b0L))
          have c34b1:(x7_21 != (x4_2.length:Int))=false:=bne_eq_false_iff_eq.mpr c34
          (try(have c34b1L:=c34b1;simp only [hl4_1] at c34b1L))
          (try(have c34b1L:=c34b1;simp only [hl4_2] at c34b1L))
          clear c34
          simp only [Option.some.injEq,Prod.mk.injEq] at H
          obtain⟨rfl,rfl⟩:=H
          go_wp2
          go_ret2
          exact⟨_,zer,by(with_reducible repeat(first|apply Kd.R_alloc|apply Kd.R_drewN|apply Kd.R_drew));exact Kd.R_mono HO_4.out (fun _ hk=>trivial),by exact zk2 HB GE664.out⟩
         ·rw [if_neg c34] at H
          have c34b0:(x7_21== (x4_2.length:Int))=false:=beq_eq_false_iff_ne.mpr c34
          (try(have c34b0L:=c34b0;simp only [hl4_1] at c34b0L))
          (try(have c34b0L:=c34b0;simp only [hl4_2] at c34b0L))
          have c34b1:(x7_21 != (x4_2.length:Int))=true:=bne_iff_ne.mpr c34
          (try(have c34b1L:=c34b1;simp only [hl4_1] at c34b1L))
          (try(have c34b1L:=c34b1;simp only [hl4_2] at c34b1L))
          by_cases c35: 0≤x7_21
          case neg=>exact znn c35 H
          rw [if_pos c35] at H
          have c35b0:decide (0≤x7_21)=true:=decide_eq_true c35
          clear c35
          by_cases c36:x7_21< (l0_0.length:Int)
          case neg=>exact znn c36 H
          rw [if_pos c36] at H
          have c36b0:decide (x7_21< (l0_0.length:Int))=true:=decide_eq_true c36
          (try(have c36b0L:=c36b0;simp only [hl4_1] at c36b0L))
          (try(have c36b0L:=c36b0;simp only [hl4_2] at c36b0L))
          clear c36
          by_cases c37:x7_21< (x5_2.length:Int)
          case neg=>exact znn c37 H
          rw [if_pos c37] at H
          have c37b0:decide (x7_21< (x5_2.length:Int))=true:=decide_eq_true c37
          (try(have c37b0L:=c37b0;simp only [hl4_1] at c37b0L))
          (try(have c37b0L:=c37b0;simp only [hl4_2] at c37b0L))
          clear c37
          by_cases c38: 0≤ (rd x5_2 x7_21)
          case neg=>exact znn c38 H
          rw [if_pos c38] at H
          have c38b0:decide (0≤ (rd x5_2 x7_21))=true:=decide_eq_true c38
          clear c38
          by_cases c39:(rd x5_2 x7_21)< ((rd_L1 l0_0 x7_21).length:Int)
          case neg=>exact znn c39 H
          rw [if_pos c39] at H
          have c39b0:decide ((rd x5_2 x7_21)< ((rd_L1 l0_0 x7_21).length:Int))=true:=decide_eq_true c39
          (try(have c39b0L:=c39b0;simp only [hl4_1] at c39b0L))
          (try(have c39b0L:=c39b0;simp only [hl4_2] at c39b0L))
          clear c39
          obtain⟨y679,hy679⟩ :∃ y_:List Int,y_= (x5_2.set (x7_21:Int).toNat (wrap64 ((rd x5_2 x7_21)+1))):=⟨_,rfl⟩
          replace H:((impl_takes.f kj21 l0_0 l0_1 l0_2 x4_2 (rd (rd_L1 l0_0 x7_21) (rd x5_2 x7_21)) x7_21).bind fun bt680=>(if bt680.2=true then(if bt680.1≥0 then(if 0≤bt680.1 then(if bt680.1< (x4_2.length:Int) then(if x7_21< (x4_2.length:Int) then(impl_MatchAll.l1 kj21 ((x4_2.set (bt680.1:Int).toNat (-1)).set (x7_21:Int).toNat (rd (rd_L1 l0_0 x7_21) (rd x5_2 x7_21))) y679 l0_0 l0_1 l0_2) else(none)) else(none)) else(none)) else(if x7_21< (x4_2.length:Int) then(impl_MatchAll.l1 kj21 (x4_2.set (x7_21:Int).toNat (rd (rd_L1 l0_0 x7_21) (rd x5_2 x7_21))) y679 l0_0 l0_1 l0_2) else(none))) else(impl_MatchAll.l1 kj21 x4_2 y679 l0_0 l0_1 l0_2)))=some (r1,r2):=zfh hy679 H
          have Ny679:=Aside0.mk hy679
          clear hy679
          replace H:=Option.bind_eq_some_iff.mp H
          obtain⟨⟨t680,t681⟩,A410,H⟩:=H
          replace H:(if t681=true then(if t680≥0 then(if 0≤t680 then(if t680< (x4_2.length:Int) then(if x7_21< (x4_2.length:Int) then(impl_MatchAll.l1 kj21 ((x4_2.set (t680:Int).toNat (-1)).set (x7_21:Int).toNat (rd (rd_L1 l0_0 x7_21) (rd x5_2 x7_21))) y679 l0_0 l0_1 l0_2) else(none)) else(none)) else(none)) else(if x7_21< (x4_2.length:Int) then(impl_MatchAll.l1 kj21 (x4_2.set (x7_21:Int).toNat (rd (rd_L1 l0_0 x7_21) (rd x5_2 x7_21))) y679 l0_0 l0_1 l0_2) else(none))) else(impl_MatchAll.l1 kj21 x4_2 y679 l0_0 l0_1 l0_2))=some (r1,r2):=H
          have A41:=Aside0.mk A410
          clear A410
          by_cases c42:t681=true
          ·subst c42
           have H1:(if t680≥0 then(if 0≤t680 then(if t680< (x4_2.length:Int) then(if x7_21< (x4_2.length:Int) then(impl_MatchAll.l1 kj21 ((x4_2.set (t680:Int).toNat (-1)).set (x7_21:Int).toNat (rd (rd_L1 l0_0 x7_21) (rd x5_2 x7_21))) y679 l0_0 l0_1 l0_2) else(none)) else(none)) else(none)) else(if x7_21< (x4_2.length:Int) then(impl_MatchAll.l1 kj21 (x4_2.set (x7_21:Int).toNat (rd (rd_L1 l0_0 x7_21) (rd x5_2 x7_21))) y679 l0_0 l0_1 l0_2) else(none)))=some (r1,r2):=by rw [if_pos rfl] at H;exact H
           clear H
           have H:=H1
           clear H1
           by_cases c43:t680≥0
           ·rw [if_pos c43] at H
            have c43b0:decide (0≤t680)=true:=decide_eq_true c43
            clear c43
            by_cases c44: 0≤t680
            case neg=>exact znn c44 H
            rw [if_pos c44] at H
            have c44b0:decide (0≤t680)=true:=decide_eq_true c44
            clear c44
            by_cases c45:t680< (x4_2.length:Int)
            case neg=>exact znn c45 H
            rw [if_pos c45] at H
            have c45b0:decide (t680< (x4_2.length:Int))=true:=decide_eq_true c45
            (try(have c45b0L:=c45b0;simp only [hl4_1] at c45b0L))
            (try(have c45b0L:=c45b0;simp only [hl4_2] at c45b0L))
            clear c45
            obtain⟨y682,hy682⟩ :∃ y_:List Int,y_= (x4_2.set (t680:Int).toNat (-1)):=⟨_,rfl⟩
            replace H:(if x7_21< (x4_2.length:Int) then(impl_MatchAll.l1 kj21 (y682.set (x7_21:Int).toNat (rd (rd_L1 l0_0 x7_21) (rd x5_2 x7_21))) y679 l0_0 l0_1 l0_2) else(none))=some (r1,r2):=zfh hy682 H
            have Ny682:=Aside0.mk hy682
            clear hy682
            by_cases c47:x7_21< (x4_2.length:Int)
            case neg=>exact znn c47 H
            rw [if_pos c47] at H
            have c47b0:decide (x7_21< (x4_2.length:Int))=true:=decide_eq_true c47
            (try(have c47b0L:=c47b0;simp only [hl4_1] at c47b0L))
            (try(have c47b0L:=c47b0;simp only [hl4_2] at c47b0L))
            clear c47
            obtain⟨y683,hy683⟩ :∃ y_:List Int,y_= (y682.set (x7_21:Int).toNat (rd (rd_L1 l0_0 x7_21) (rd x5_2 x7_21))):=⟨_,rfl⟩
            replace H:(impl_MatchAll.l1 kj21 y683 y679 l0_0 l0_1 l0_2)=some (r1,r2):=zfh hy683 H
            have Ny683:=Aside0.mk hy683
            clear hy683
            have H':=Aside0.mk H
            clear H
            try go_wp2
            replace HO_4:=Aside0.mk (Kd.R_drew HO_4.out)
            replace HO_5:=Aside0.mk (Kd.R_drew HO_5.out)
            replace BK664:=Aside0.mk (blk_drew BK664.out)
            replace HB:=Aside0.mk (below_drew1 HB.out)
            have p675: 0≤ (x7_21:Int):=of_decide_eq_true zq1
            have q675:x7_21< (l0_0.length:Int):=of_decide_eq_true zq1
            obtain⟨ad675,A675_0,c675_0,e675,hx675_0,hl675_0,hi675_0⟩:=at_L1 HR0_0.out x7_21 p675 q675
            have hw675_0:=hx675_0
            cases e675
            replace hx675_0:=zhx HB hx675_0
            have HR675_0:=Aside0.mk hi675_0
            have HC675_0:=Aside0.mk hl675_0
            clear hi675_0 hl675_0
            replace p675:=eq_true p675
            replace q675:=eq_true q675
            obtain⟨Ao50,co50,eo50⟩:=Kd.R_slice HO_5.out
            (first|subst eo50|(injection eo50 with f1_ f2_ f3_;have f4_:=f1_.symm;have f5_:=f3_.symm;clear f1_ f2_ f3_;subst f4_;subst f5_))
            have p676: 0≤ (x7_21:Int):=of_decide_eq_true zq1
            have q676:x7_21< (x5_2.length:Int):=of_decide_eq_true zq1
            obtain⟨ad676,e676,hx676_0⟩:=Kd.at_int (Kd.R_reads' HO_5.out).2.2 x7_21 p676 q676
            cases e676
            replace p676:=eq_true p676
            replace q676:=eq_true q676
            have p677: 0≤ ((rd x5_2 x7_21):Int):=of_decide_eq_true zq1
            have q677:(rd x5_2 x7_21)< ((rd_L1 l0_0 x7_21).length:Int):=of_decide_eq_true zq1
            obtain⟨ad677,e677,hx677_0⟩:=Kd.at_int HR675_0.out (rd x5_2 x7_21) p677 q677
            have hw677_0:=hx677_0
            cases e677
            replace hx677_0:=zhx HB hx677_0
            replace p677:=eq_true p677
            replace q677:=eq_true q677
            refine start_ (n:=12) (S:=fun w'=>w'.cell? ⟨gb664,0,none⟩=some (.slice (some ad675) l0_0.length c0_0)∧w'.cell? ⟨gb664,1,none⟩=some (.slice A0_1 l0_1.length c0_1)∧w'.cell? ⟨gb664,2,none⟩=some (.slice A0_2 l0_2.length c0_2)∧w'.cell? (ad675.add (x7_21).toNat)=some (.slice (some ad677) (rd_L1 l0_0 x7_21).length c675_0)∧w'.cell? (ad676.add (x7_21).toNat)=some (.int .i64 (rd x5_2 x7_21))∧w'.cell? (ad677.add ((rd x5_2 x7_21)).toNat)=some (.int .i64 (rd (rd_L1 l0_0 x7_21) (rd x5_2 x7_21)))) (ds:= []) (mb' 12 0) (by kernel_rfl) rfl rfl ⟨(blk_cell BK664.out 0).trans rfl,(blk_cell BK664.out 1).trans rfl,(blk_cell BK664.out 2).trans rfl,((zhx HB hw675_0).trans rfl),hx676_0,((zhx HB hw677_0).trans rfl)⟩ (fun hHeld=>?_);refine with_tabW impl_MatchAll.tab14 impl_MatchAll.bits14 (fun HT_ HW_=>?_)
            generalize wc.drew=w49 at HO_4 HO_5 BK664 HB HR675_0 hx675_0 hx676_0 hx677_0 hHeld ⊢
            refine zp1 HT_ 0 59 (mb' 12 1) rfl ?_
            refine zp1 HT_ 2 61 (mb' 12 5) rfl ?_
            refine zp1 HT_ 5 64 (mb' 12 37) rfl ?_
            refine zp1 HT_ 6 65 (mb' 12 101) rfl ?_
            refine zp1 HT_ 7 66 (mb' 12 229) rfl ?_
            refine zt1 HT_ HW_ (v:=?_) (a':=?_) 1 60 (mb' 12 231) rfl ?_ hHeld ?_ ?_;rotate_left;(rintro w' ⟨s0,s1,s2,s3,s4,s5⟩;go_simp;with_reducible rfl);rotate_left;exact zpa
            refine zp1 HT_ 3 62 (mb' 12 239) rfl ?_
            refine zt1 HT_ HW_ (v:=?_) (a':=?_) 4 63 (mb' 12 255) rfl ?_ hHeld ?_ ?_;rotate_left;(rintro w' ⟨s0,s1,s2,s3,s4,s5⟩;go_simp;with_reducible rfl);rotate_left;exact zpa
            refine zt1 HT_ HW_ (v:=?_) (a':=?_) 8 67 (mb' 12 511) rfl ?_ hHeld ?_ ?_;rotate_left;(rintro w' ⟨s0,s1,s2,s3,s4,s5⟩;go_simp;with_reducible rfl);rotate_left;exact zpa
            refine zp1 HT_ 9 68 (mb' 12 1023) rfl ?_
            refine zt1 HT_ HW_ (v:=?_) (a':=?_) 10 69 (mb' 12 2047) rfl ?_ hHeld ?_ ?_;rotate_left;(rintro w' ⟨s0,s1,s2,s3,s4,s5⟩;go_simp;with_reducible rfl);rotate_left;exact zpa
            refine zp1 HT_ 11 8 (mb' 12 4095) rfl ?_
            refine done_ (done_of HT_.out (by kernel_rfl)) ?_
            have p678: 0≤ (x7_21:Int):=of_decide_eq_true zq1
            have q678:x7_21< (x5_2.length:Int):=of_decide_eq_true zq1
            obtain⟨ad678,e678,hx678_0⟩:=Kd.at_int (Kd.R_reads' HO_5.out).2.2 x7_21 p678 q678
            obtain rfl:ad676=ad678:=(by injection e678)
            replace p678:=eq_true p678
            replace q678:=eq_true q678
            have p40: 0≤ (x7_21:Int):=of_decide_eq_true zq1
            have q40:(x7_21:Int)< ((x5_2.length:Int):Int):=of_decide_eq_true zq1
            obtain⟨go40,co40,eo40,gb40,gl40,cl40,HG40⟩:=Kd.R_form HO_5.out (by omega)
            (first|cases eo40|(injection eo40 with ea_ en_ ec_;(first|subst ea_|(injection ea_ with ea_;subst ea_));subst ec_;clear en_))
            have GB40:=Aside0.mk gb40
            have GG40:=Aside0.mk HG40
            clear gb40 gl40 HG40
            (first|simp only [add_plain] at hx676_0|skip)
            (first|simp only [add_plain] at hx678_0|skip)
            obtain⟨hx40_0,hf40_0⟩:=Kd.R_celln 0 HO_5.out (x7_21:Int) p40 q40
            replace p40:=eq_true p40
            replace q40:=eq_true q40
            obtain⟨hy51_,hz51_⟩:=Kd.R_celln 0 HO_5.out (x7_21:Int) (of_decide_eq_true zq1) (of_decide_eq_true zq1)
            have HP51:=Kd.R_putg HO_5.out (x7_21:Int) (wrap64 ((rd x5_2 x7_21)+1))
            try go_wp2_with (first|((with_reducible refine gate_store (t:=3) (p:=75) rfl ?_);refine store_event (t:=3) (p:=75) (v:=?vo_w52) (w1:=(w49.setCell ⟨go40,(x7_21:Int).toNat,none⟩ (.int .i64 (wrap64 ((rd x5_2 x7_21)+1))))) ?hg ?ho ?hn ?hr ?_;(case ho=>rfl);(case hg=>rfl);(case hn=>rfl);(case hr=>first|(go_simp;done)|(go_simp;rfl));intro w52 hw;have hg:w49.grownBy w52 (some go40):=(by rw [hw];exact HP51.2);have hp_:Kd.R (Kd.int .i64) 3 w52 w.heap.size (fun k_=>some k_≠ (.slice Ao15 x4_2.length co15:Value).ownBlock) (.slice (some ⟨go40,0,none⟩) x5_2.length co50) y679:=(by rw [hw,Ny679.out];exact HP51.1);clear HP51;replace HO_4:=Aside0.mk (Kd.R_after (v:=(.slice (some ⟨go40,0,none⟩) x5_2.length co50)) (v1:=(.slice (some ⟨go40,0,none⟩) x5_2.length co50)) (ok:=(fun _=>True)) (by(with_reducible repeat(first|apply Kd.R_alloc|apply Kd.R_drewN|apply Kd.R_drew));exact Kd.R_mono HO_4.out (fun _ hk=>⟨trivial,hk⟩)) hg (.inl rfl));replace BK664:=Aside0.mk (blk_grown (g:=gb664) (o:= .cells #[.slice (some ad675) l0_0.length c0_0,.slice A0_1 l0_1.length c0_1,.slice A0_2 l0_2.length c0_2] 33 (0,0)) (zq3 BK664) hg (Kd.R_ne HO_5.out BK664.out (by decide)));replace HO_5:=Aside0.mk (hp_);replace HB:=Aside0.mk ((by rw [hw];exact below_set (HB.out) GB40.out:Below w.heap.size w w52));clear hg hw hp_;have hcz53_0:=zcz BK664 0 (.slice (some ad675) l0_0.length c0_0);have hcz53_1:=zcz BK664 1 (.slice A0_1 l0_1.length c0_1);have hcz53_2:=zcz BK664 2 (.slice A0_2 l0_2.length c0_2);have hfz53_0:=blk_frozen BK664.out 0;have hfz53_1:=blk_frozen BK664.out 1;have hfz53_2:=blk_frozen BK664.out 2)|((with_reducible refine gate_callee (f:=63) rfl ?_);refine goesL_ (some 81) rfl rfl Try.func63 (by kernel_rfl) rfl #[.agg #[.slice (some ad675) l0_0.length c0_0,.slice A0_1 l0_1.length c0_1,.slice A0_2 l0_2.length c0_2],.slice Ao15 x4_2.length co15,.int .i64 (rd (rd_L1 l0_0 x7_21) (rd x5_2 x7_21)),.int .i64 x7_21] rfl zq2 ?_;(with_reducible refine(impl_takes.calls kj21 _ _ l0_0 _ _ l0_1 _ _ l0_2 _ _ x4_2 (rd (rd_L1 l0_0 x7_21) (rd x5_2 x7_21)) x7_21 t680 true _ ?side1 ?side2 ?side3 ?side4 ?side5 ?side6 ?side7 ?side8 A41.out).mono ?_);(case side1=>exact zcc ((Kd.C_below HR0_0.out HB.out)));(case side2=>exact HC0_0.out);(case side3=>exact zcc ((Kd.C_below HR0_1.out HB.out)));(case side4=>exact HC0_1.out);(case side5=>exact zcc ((Kd.C_below HR0_2.out HB.out)));(case side6=>exact HC0_2.out);(case side7=>exact zcc ((Kd.R_reads' HO_4.out).2.2));(case side8=>exact(Kd.R_reads' HO_4.out).2.1);rintro e w54 ⟨rfl,hb⟩;refine⟨_,rfl,?_⟩;replace HO_4:=Aside0.mk (Kd.R_below (zq4 HO_4) hb);replace HO_5:=Aside0.mk (Kd.R_below (zq4 HO_5) hb);replace BK664:=Aside0.mk (blk_below (g:=gb664) (o:= .cells #[.slice (some ad675) l0_0.length c0_0,.slice A0_1 l0_1.length c0_1,.slice A0_2 l0_2.length c0_2] 33 (0,0)) (zq3 BK664) hb);replace HB:=Aside0.mk (below_step (by exact zk2 HB GE664.out) hb);(try clear hb);(try clear hb2);(try clear hk);(try clear hi);have p46: 0≤ (t680:Int):=of_decide_eq_true zq1;have q46:(t680:Int)< ((x4_2.length:Int):Int):=of_decide_eq_true zq1;obtain⟨go46,co46,eo46,gb46,gl46,cl46,HG46⟩:=Kd.R_form HO_4.out (by omega);(first|cases eo46|(injection eo46 with ea_ en_ ec_;(first|subst ea_|(injection ea_ with ea_;subst ea_));subst ec_;clear en_));have GB46:=Aside0.mk gb46;have GG46:=Aside0.mk HG46;clear gb46 gl46 HG46;obtain⟨hx46_0,hf46_0⟩:=Kd.R_celln 0 HO_4.out (t680:Int) p46 q46;replace p46:=eq_true p46;replace q46:=eq_true q46;have n_:=Aside0.mk (Kd.R_mono (ok':=(fun k_=>some k_≠ (.slice (some ⟨go40,0,none⟩) x5_2.length co50:Value).ownBlock)) HO_4.out (fun k_ hk=>hk.2));clear HO_4;have HO_4:=n_;clear n_;obtain⟨hy55_,hz55_⟩:=Kd.R_celln 0 HO_4.out (t680:Int) (of_decide_eq_true zq1) (of_decide_eq_true zq1);have HP55:=Kd.R_putg HO_4.out (t680:Int) (-1))|((with_reducible refine gate_store (t:=3) (p:=90) rfl ?_);refine store_event (t:=3) (p:=90) (v:=?vo_w56) (w1:=(w54.setCell ⟨go46,(t680:Int).toNat,none⟩ (.int .i64 (-1)))) ?hg ?ho ?hn ?hr ?_;(case ho=>rfl);(case hg=>rfl);(case hn=>rfl);(case hr=>first|(go_simp;done)|(go_simp;rfl));intro w56 hw;have hg:w54.grownBy w56 (some go46):=(by rw [hw];exact HP55.2);have hp_:Kd.R (Kd.int .i64) 3 w56 w.heap.size (fun k_=>some k_≠ (.slice (some ⟨go40,0,none⟩) x5_2.length co50:Value).ownBlock) (.slice (some ⟨go46,0,none⟩) x4_2.length co15) y682:=(by rw [hw,Ny682.out];exact HP55.1);clear HP55;replace HO_5:=Aside0.mk (Kd.R_after (v:=(.slice (some ⟨go46,0,none⟩) x4_2.length co15)) (v1:=(.slice (some ⟨go46,0,none⟩) x4_2.length co15)) (ok:=(fun _=>True)) (by(with_reducible repeat(first|apply Kd.R_alloc|apply Kd.R_drewN|apply Kd.R_drew));exact Kd.R_mono HO_5.out (fun _ hk=>⟨trivial,hk⟩)) hg (.inl rfl));replace BK664:=Aside0.mk (blk_grown (g:=gb664) (o:= .cells #[.slice (some ad675) l0_0.length c0_0,.slice A0_1 l0_1.length c0_1,.slice A0_2 l0_2.length c0_2] 33 (0,0)) (zq3 BK664) hg (Kd.R_ne HO_4.out BK664.out (by decide)));replace HO_4:=Aside0.mk (hp_);replace HB:=Aside0.mk ((by rw [hw];exact below_set (HB.out) GB46.out:Below w.heap.size w w56));clear hg hw hp_;have p48: 0≤ (x7_21:Int):=of_decide_eq_true zq1;have q48:(x7_21:Int)< ((x4_2.length:Int):Int):=of_decide_eq_true zq1;obtain⟨hx48_0,hf48_0⟩:=Kd.R_celln 0 HO_4.out (x7_21:Int) p48 q48;replace p48:=eq_true p48;replace q48:=eq_true q48;obtain⟨hy57_,hz57_⟩:=Kd.R_celln 0 HO_4.out (x7_21:Int) (of_decide_eq_true zq1) (of_decide_eq_true zq1);have HP57:=Kd.R_putg HO_4.out (x7_21:Int) (rd (rd_L1 l0_0 x7_21) (rd x5_2 x7_21)))|((with_reducible refine gate_store (t:=3) (p:=94) rfl ?_);refine store_event (t:=3) (p:=94) (v:=?vo_w58) (w1:=(w56.setCell ⟨go46,(x7_21:Int).toNat,none⟩ (.int .i64 (rd (rd_L1 l0_0 x7_21) (rd x5_2 x7_21))))) ?hg ?ho ?hn ?hr ?_;(case ho=>rfl);(case hg=>rfl);(case hn=>rfl);(case hr=>first|(go_simp;done)|(go_simp;rfl));intro w58 hw;have hg:w56.grownBy w58 (some go46):=(by rw [hw];exact HP57.2);have hp_:Kd.R (Kd.int .i64) 3 w58 w.heap.size (fun k_=>some k_≠ (.slice (some ⟨go40,0,none⟩) x5_2.length co50:Value).ownBlock) (.slice (some ⟨go46,0,none⟩) x4_2.length co15) y683:=(by rw [hw,Ny683.out];exact HP57.1);clear HP57;replace HO_5:=Aside0.mk (Kd.R_after (v:=(.slice (some ⟨go46,0,none⟩) x4_2.length co15)) (v1:=(.slice (some ⟨go46,0,none⟩) x4_2.length co15)) (ok:=(fun _=>True)) (zq4 HO_5) hg (.inl rfl));replace BK664:=Aside0.mk (blk_grown (g:=gb664) (o:= .cells #[.slice (some ad675) l0_0.length c0_0,.slice A0_1 l0_1.length c0_1,.slice A0_2 l0_2.length c0_2] 33 (0,0)) (zq3 BK664) hg (Kd.R_ne HO_4.out BK664.out (by decide)));replace HO_4:=Aside0.mk (hp_);replace HB:=Aside0.mk ((by rw [hw];exact below_set (HB.out) GB46.out:Below w.heap.size w w58));clear hg hw hp_))
            (try simp only [← hl4_2])
            go_roundg kj21
            case measure=>have:=HK1.out;have:=HK2.out;have:=HJ21.out;omega
            case rel=>exact⟨(y683),(y679),H',⟨by have:=HK1.out;have:=HK2.out;have:=HJ21.out;omega⟩,⟨by(try simp only [hl4_1]);(try simp only [hl4_2]);(with_reducible repeat(first|apply Kd.R_alloc|apply Kd.R_drewN|apply Kd.R_drew));exact HO_4.out⟩,⟨by(try simp only [hl4_1]);(try simp only [hl4_2]);(with_reducible repeat(first|apply Kd.R_alloc|apply Kd.R_drewN|apply Kd.R_drew));exact Kd.R_mono HO_5.out (fun _ hk=>hk.2)⟩,⟨by(try simp only [hl4_1]);(try simp only [hl4_2]);(with_reducible repeat(first|refine blk_drewN ?_ _|refine blk_drew ?_ |refine blk_alloc ?_ _));exact BK664.out⟩,⟨by exact zk2 HB GE664.out⟩⟩
           ·rw [if_neg c43] at H
            have c43b0:decide (0≤t680)=false:=decide_eq_false c43
            clear c43
            by_cases c59:x7_21< (x4_2.length:Int)
            case neg=>exact znn c59 H
            rw [if_pos c59] at H
            have c59b0:decide (x7_21< (x4_2.length:Int))=true:=decide_eq_true c59
            (try(have c59b0L:=c59b0;simp only [hl4_1] at c59b0L))
            (try(have c59b0L:=c59b0;simp only [hl4_2] at c59b0L))
            clear c59
            obtain⟨y684,hy684⟩ :∃ y_:List Int,y_= (x4_2.set (x7_21:Int).toNat (rd (rd_L1 l0_0 x7_21) (rd x5_2 x7_21))):=⟨_,rfl⟩
            replace H:(impl_MatchAll.l1 kj21 y684 y679 l0_0 l0_1 l0_2)=some (r1,r2):=zfh hy684 H
            have Ny684:=Aside0.mk hy684
            clear hy684
            have H':=Aside0.mk H
            clear H
            try go_wp2
            replace HO_4:=Aside0.mk (Kd.R_drew HO_4.out)
            replace HO_5:=Aside0.mk (Kd.R_drew HO_5.out)
            replace BK664:=Aside0.mk (blk_drew BK664.out)
            replace HB:=Aside0.mk (below_drew1 HB.out)
            have p675: 0≤ (x7_21:Int):=of_decide_eq_true zq1
            have q675:x7_21< (l0_0.length:Int):=of_decide_eq_true zq1
            obtain⟨ad675,A675_0,c675_0,e675,hx675_0,hl675_0,hi675_0⟩:=at_L1 HR0_0.out x7_21 p675 q675
            have hw675_0:=hx675_0
            cases e675
            replace hx675_0:=zhx HB hx675_0
            have HR675_0:=Aside0.mk hi675_0
            have HC675_0:=Aside0.mk hl675_0
            clear hi675_0 hl675_0
            replace p675:=eq_true p675
            replace q675:=eq_true q675
            obtain⟨Ao62,co62,eo62⟩:=Kd.R_slice HO_5.out
            (first|subst eo62|(injection eo62 with f1_ f2_ f3_;have f4_:=f1_.symm;have f5_:=f3_.symm;clear f1_ f2_ f3_;subst f4_;subst f5_))
            have p676: 0≤ (x7_21:Int):=of_decide_eq_true zq1
            have q676:x7_21< (x5_2.length:Int):=of_decide_eq_true zq1
            obtain⟨ad676,e676,hx676_0⟩:=Kd.at_int (Kd.R_reads' HO_5.out).2.2 x7_21 p676 q676
            cases e676
            replace p676:=eq_true p676
            replace q676:=eq_true q676
            have p677: 0≤ ((rd x5_2 x7_21):Int):=of_decide_eq_true zq1
            have q677:(rd x5_2 x7_21)< ((rd_L1 l0_0 x7_21).length:Int):=of_decide_eq_true zq1
            obtain⟨ad677,e677,hx677_0⟩:=Kd.at_int HR675_0.out (rd x5_2 x7_21) p677 q677
            have hw677_0:=hx677_0
            cases e677
            replace hx677_0:=zhx HB hx677_0
            replace p677:=eq_true p677
            replace q677:=eq_true q677
            refine start_ (n:=12) (S:=fun w'=>w'.cell? ⟨gb664,0,none⟩=some (.slice (some ad675) l0_0.length c0_0)∧w'.cell? ⟨gb664,1,none⟩=some (.slice A0_1 l0_1.length c0_1)∧w'.cell? ⟨gb664,2,none⟩=some (.slice A0_2 l0_2.length c0_2)∧w'.cell? (ad675.add (x7_21).toNat)=some (.slice (some ad677) (rd_L1 l0_0 x7_21).length c675_0)∧w'.cell? (ad676.add (x7_21).toNat)=some (.int .i64 (rd x5_2 x7_21))∧w'.cell? (ad677.add ((rd x5_2 x7_21)).toNat)=some (.int .i64 (rd (rd_L1 l0_0 x7_21) (rd x5_2 x7_21)))) (ds:= []) (mb' 12 0) (by kernel_rfl) rfl rfl ⟨(blk_cell BK664.out 0).trans rfl,(blk_cell BK664.out 1).trans rfl,(blk_cell BK664.out 2).trans rfl,((zhx HB hw675_0).trans rfl),hx676_0,((zhx HB hw677_0).trans rfl)⟩ (fun hHeld=>?_);refine with_tabW impl_MatchAll.tab14 impl_MatchAll.bits14 (fun HT_ HW_=>?_)
            generalize wc.drew=w61 at HO_4 HO_5 BK664 HB HR675_0 hx675_0 hx676_0 hx677_0 hHeld ⊢
            refine zp1 HT_ 0 59 (mb' 12 1) rfl ?_
            refine zp1 HT_ 2 61 (mb' 12 5) rfl ?_
            refine zp1 HT_ 5 64 (mb' 12 37) rfl ?_
            refine zp1 HT_ 6 65 (mb' 12 101) rfl ?_
            refine zp1 HT_ 7 66 (mb' 12 229) rfl ?_
            refine zt1 HT_ HW_ (v:=?_) (a':=?_) 1 60 (mb' 12 231) rfl ?_ hHeld ?_ ?_;rotate_left;(rintro w' ⟨s0,s1,s2,s3,s4,s5⟩;go_simp;with_reducible rfl);rotate_left;exact zpa
            refine zp1 HT_ 3 62 (mb' 12 239) rfl ?_
            refine zt1 HT_ HW_ (v:=?_) (a':=?_) 4 63 (mb' 12 255) rfl ?_ hHeld ?_ ?_;rotate_left;(rintro w' ⟨s0,s1,s2,s3,s4,s5⟩;go_simp;with_reducible rfl);rotate_left;exact zpa
            refine zt1 HT_ HW_ (v:=?_) (a':=?_) 8 67 (mb' 12 511) rfl ?_ hHeld ?_ ?_;rotate_left;(rintro w' ⟨s0,s1,s2,s3,s4,s5⟩;go_simp;with_reducible rfl);rotate_left;exact zpa
            refine zp1 HT_ 9 68 (mb' 12 1023) rfl ?_
            refine zt1 HT_ HW_ (v:=?_) (a':=?_) 10 69 (mb' 12 2047) rfl ?_ hHeld ?_ ?_;rotate_left;(rintro w' ⟨s0,s1,s2,s3,s4,s5⟩;go_simp;with_reducible rfl);rotate_left;exact zpa
            refine zp1 HT_ 11 8 (mb' 12 4095) rfl ?_
            refine done_ (done_of HT_.out (by kernel_rfl)) ?_
            have p678: 0≤ (x7_21:Int):=of_decide_eq_true zq1
            have q678:x7_21< (x5_2.length:Int):=of_decide_eq_true zq1
            obtain⟨ad678,e678,hx678_0⟩:=Kd.at_int (Kd.R_reads' HO_5.out).2.2 x7_21 p678 q678
            obtain rfl:ad676=ad678:=(by injection e678)
            replace p678:=eq_true p678
            replace q678:=eq_true q678
            have p40: 0≤ (x7_21:Int):=of_decide_eq_true zq1
            have q40:(x7_21:Int)< ((x5_2.length:Int):Int):=of_decide_eq_true zq1
            obtain⟨go40,co40,eo40,gb40,gl40,cl40,HG40⟩:=Kd.R_form HO_5.out (by omega)
            (first|cases eo40|(injection eo40 with ea_ en_ ec_;(first|subst ea_|(injection ea_ with ea_;subst ea_));subst ec_;clear en_))
            have GB40:=Aside0.mk gb40
            have GG40:=Aside0.mk HG40
            clear gb40 gl40 HG40
            (first|simp only [add_plain] at hx676_0|skip)
            (first|simp only [add_plain] at hx678_0|skip)
            obtain⟨hx40_0,hf40_0⟩:=Kd.R_celln 0 HO_5.out (x7_21:Int) p40 q40
            replace p40:=eq_true p40
            replace q40:=eq_true q40
            obtain⟨hy63_,hz63_⟩:=Kd.R_celln 0 HO_5.out (x7_21:Int) (of_decide_eq_true zq1) (of_decide_eq_true zq1)
            have HP63:=Kd.R_putg HO_5.out (x7_21:Int) (wrap64 ((rd x5_2 x7_21)+1))
            try go_wp2_with (first|((with_reducible refine gate_store (t:=3) (p:=75) rfl ?_);refine store_event (t:=3) (p:=75) (v:=?vo_w64) (w1:=(w61.setCell ⟨go40,(x7_21:Int).toNat,none⟩ (.int .i64 (wrap64 ((rd x5_2 x7_21)+1))))) ?hg ?ho ?hn ?hr ?_;(case ho=>rfl);(case hg=>rfl);(case hn=>rfl);(case hr=>first|(go_simp;done)|(go_simp;rfl));intro w64 hw;have hg:w61.grownBy w64 (some go40):=(by rw [hw];exact HP63.2);have hp_:Kd.R (Kd.int .i64) 3 w64 w.heap.size (fun k_=>some k_≠ (.slice Ao15 x4_2.length co15:Value).ownBlock) (.slice (some ⟨go40,0,none⟩) x5_2.length co62) y679:=(by rw [hw,Ny679.out];exact HP63.1);clear HP63;replace HO_4:=Aside0.mk (Kd.R_after (v:=(.slice (some ⟨go40,0,none⟩) x5_2.length co62)) (v1:=(.slice (some ⟨go40,0,none⟩) x5_2.length co62)) (ok:=(fun _=>True)) (by(with_reducible repeat(first|apply Kd.R_alloc|apply Kd.R_drewN|apply Kd.R_drew));exact Kd.R_mono HO_4.out (fun _ hk=>⟨trivial,hk⟩)) hg (.inl rfl));replace BK664:=Aside0.mk (blk_grown (g:=gb664) (o:= .cells #[.slice (some ad675) l0_0.length c0_0,.slice A0_1 l0_1.length c0_1,.slice A0_2 l0_2.length c0_2] 33 (0,0)) (zq3 BK664) hg (Kd.R_ne HO_5.out BK664.out (by decide)));replace HO_5:=Aside0.mk (hp_);replace HB:=Aside0.mk ((by rw [hw];exact below_set (HB.out) GB40.out:Below w.heap.size w w64));clear hg hw hp_;have hcz65_0:=zcz BK664 0 (.slice (some ad675) l0_0.length c0_0);have hcz65_1:=zcz BK664 1 (.slice A0_1 l0_1.length c0_1);have hcz65_2:=zcz BK664 2 (.slice A0_2 l0_2.length c0_2);have hfz65_0:=blk_frozen BK664.out 0;have hfz65_1:=blk_frozen BK664.out 1;have hfz65_2:=blk_frozen BK664.out 2)|((with_reducible refine gate_callee (f:=63) rfl ?_);refine goesL_ (some 81) rfl rfl Try.func63 (by kernel_rfl) rfl #[.agg #[.slice (some ad675) l0_0.length c0_0,.slice A0_1 l0_1.length c0_1,.slice A0_2 l0_2.length c0_2],.slice Ao15 x4_2.length co15,.int .i64 (rd (rd_L1 l0_0 x7_21) (rd x5_2 x7_21)),.int .i64 x7_21] rfl zq2 ?_;(with_reducible refine(impl_takes.calls kj21 _ _ l0_0 _ _ l0_1 _ _ l0_2 _ _ x4_2 (rd (rd_L1 l0_0 x7_21) (rd x5_2 x7_21)) x7_21 t680 true _ ?side1 ?side2 ?side3 ?side4 ?side5 ?side6 ?side7 ?side8 A41.out).mono ?_);(case side1=>exact zcc ((Kd.C_below HR0_0.out HB.out)));(case side2=>exact HC0_0.out);(case side3=>exact zcc ((Kd.C_below HR0_1.out HB.out)));(case side4=>exact HC0_1.out);(case side5=>exact zcc ((Kd.C_below HR0_2.out HB.out)));(case side6=>exact HC0_2.out);(case side7=>exact zcc ((Kd.R_reads' HO_4.out).2.2));(case side8=>exact(Kd.R_reads' HO_4.out).2.1);rintro e w66 ⟨rfl,hb⟩;refine⟨_,rfl,?_⟩;replace HO_4:=Aside0.mk (Kd.R_below (zq4 HO_4) hb);replace HO_5:=Aside0.mk (Kd.R_below (zq4 HO_5) hb);replace BK664:=Aside0.mk (blk_below (g:=gb664) (o:= .cells #[.slice (some ad675) l0_0.length c0_0,.slice A0_1 l0_1.length c0_1,.slice A0_2 l0_2.length c0_2] 33 (0,0)) (zq3 BK664) hb);replace HB:=Aside0.mk (below_step (by exact zk2 HB GE664.out) hb);(try clear hb);(try clear hb2);(try clear hk);(try clear hi);have p60: 0≤ (x7_21:Int):=of_decide_eq_true zq1;have q60:(x7_21:Int)< ((x4_2.length:Int):Int):=of_decide_eq_true zq1;obtain⟨go60,co60,eo60,gb60,gl60,cl60,HG60⟩:=Kd.R_form HO_4.out (by omega);(first|cases eo60|(injection eo60 with ea_ en_ ec_;(first|subst ea_|(injection ea_ with ea_;subst ea_));subst ec_;clear en_));have GB60:=Aside0.mk gb60;have GG60:=Aside0.mk HG60;clear gb60 gl60 HG60;obtain⟨hx60_0,hf60_0⟩:=Kd.R_celln 0 HO_4.out (x7_21:Int) p60 q60;replace p60:=eq_true p60;replace q60:=eq_true q60;have n_:=Aside0.mk (Kd.R_mono (ok':=(fun k_=>some k_≠ (.slice (some ⟨go40,0,none⟩) x5_2.length co62:Value).ownBlock)) HO_4.out (fun k_ hk=>hk.2));clear HO_4;have HO_4:=n_;clear n_;obtain⟨hy67_,hz67_⟩:=Kd.R_celln 0 HO_4.out (x7_21:Int) (of_decide_eq_true zq1) (of_decide_eq_true zq1);have HP67:=Kd.R_putg HO_4.out (x7_21:Int) (rd (rd_L1 l0_0 x7_21) (rd x5_2 x7_21)))|((with_reducible refine gate_store (t:=3) (p:=94) rfl ?_);refine store_event (t:=3) (p:=94) (v:=?vo_w68) (w1:=(w66.setCell ⟨go60,(x7_21:Int).toNat,none⟩ (.int .i64 (rd (rd_L1 l0_0 x7_21) (rd x5_2 x7_21))))) ?hg ?ho ?hn ?hr ?_;(case ho=>rfl);(case hg=>rfl);(case hn=>rfl);(case hr=>first|(go_simp;done)|(go_simp;rfl));intro w68 hw;have hg:w66.grownBy w68 (some go60):=(by rw [hw];exact HP67.2);have hp_:Kd.R (Kd.int .i64) 3 w68 w.heap.size (fun k_=>some k_≠ (.slice (some ⟨go40,0,none⟩) x5_2.length co62:Value).ownBlock) (.slice (some ⟨go60,0,none⟩) x4_2.length co15) y684:=(by rw [hw,Ny684.out];exact HP67.1);clear HP67;replace HO_5:=Aside0.mk (Kd.R_after (v:=(.slice (some ⟨go60,0,none⟩) x4_2.length co15)) (v1:=(.slice (some ⟨go60,0,none⟩) x4_2.length co15)) (ok:=(fun _=>True)) (by(with_reducible repeat(first|apply Kd.R_alloc|apply Kd.R_drewN|apply Kd.R_drew));exact Kd.R_mono HO_5.out (fun _ hk=>⟨trivial,hk⟩)) hg (.inl rfl));replace BK664:=Aside0.mk (blk_grown (g:=gb664) (o:= .cells #[.slice (some ad675) l0_0.length c0_0,.slice A0_1 l0_1.length c0_1,.slice A0_2 l0_2.length c0_2] 33 (0,0)) (zq3 BK664) hg (Kd.R_ne HO_4.out BK664.out (by decide)));replace HO_4:=Aside0.mk (hp_);replace HB:=Aside0.mk ((by rw [hw];exact below_set (HB.out) GB60.out:Below w.heap.size w w68));clear hg hw hp_))
            (try simp only [← hl4_2])
            go_roundg kj21
            case measure=>have:=HK1.out;have:=HK2.out;have:=HJ21.out;omega
            case rel=>exact⟨(y684),(y679),H',⟨by have:=HK1.out;have:=HK2.out;have:=HJ21.out;omega⟩,⟨by(try simp only [hl4_1]);(try simp only [hl4_2]);(with_reducible repeat(first|apply Kd.R_alloc|apply Kd.R_drewN|apply Kd.R_drew));exact HO_4.out⟩,⟨by(try simp only [hl4_1]);(try simp only [hl4_2]);(with_reducible repeat(first|apply Kd.R_alloc|apply Kd.R_drewN|apply Kd.R_drew));exact Kd.R_mono HO_5.out (fun _ hk=>hk.2)⟩,⟨by(try simp only [hl4_1]);(try simp only [hl4_2]);(with_reducible repeat(first|refine blk_drewN ?_ _|refine blk_drew ?_ |refine blk_alloc ?_ _));exact BK664.out⟩,⟨by exact zk2 HB GE664.out⟩⟩
          ·replace c42:=Bool.eq_false_iff.mpr c42
           subst c42
           have H1:(impl_MatchAll.l1 kj21 x4_2 y679 l0_0 l0_1 l0_2)=some (r1,r2):=by rw [if_neg (show ¬ (false=true) by decide)] at H;exact H
           clear H
           have H:=H1
           clear H1
           have H':=Aside0.mk H
           clear H
           try go_wp2
           replace HO_4:=Aside0.mk (Kd.R_drew HO_4.out)
           replace HO_5:=Aside0.mk (Kd.R_drew HO_5.out)
           replace BK664:=Aside0.mk (blk_drew BK664.out)
           replace HB:=Aside0.mk (below_drew1 HB.out)
           have p675: 0≤ (x7_21:Int):=of_decide_eq_true zq1
           have q675:x7_21< (l0_0.length:Int):=of_decide_eq_true zq1
           obtain⟨ad675,A675_0,c675_0,e675,hx675_0,hl675_0,hi675_0⟩:=at_L1 HR0_0.out x7_21 p675 q675
           have hw675_0:=hx675_0
           cases e675
           replace hx675_0:=zhx HB hx675_0
           have HR675_0:=Aside0.mk hi675_0
           have HC675_0:=Aside0.mk hl675_0
           clear hi675_0 hl675_0
           replace p675:=eq_true p675
           replace q675:=eq_true q675
           obtain⟨Ao70,co70,eo70⟩:=Kd.R_slice HO_5.out
           (first|subst eo70|(injection eo70 with f1_ f2_ f3_;have f4_:=f1_.symm;have f5_:=f3_.symm;clear f1_ f2_ f3_;subst f4_;subst f5_))
           have p676: 0≤ (x7_21:Int):=of_decide_eq_true zq1
           have q676:x7_21< (x5_2.length:Int):=of_decide_eq_true zq1
           obtain⟨ad676,e676,hx676_0⟩:=Kd.at_int (Kd.R_reads' HO_5.out).2.2 x7_21 p676 q676
           cases e676
           replace p676:=eq_true p676
           replace q676:=eq_true q676
           have p677: 0≤ ((rd x5_2 x7_21):Int):=of_decide_eq_true zq1
           have q677:(rd x5_2 x7_21)< ((rd_L1 l0_0 x7_21).length:Int):=of_decide_eq_true zq1
           obtain⟨ad677,e677,hx677_0⟩:=Kd.at_int HR675_0.out (rd x5_2 x7_21) p677 q677
           have hw677_0:=hx677_0
           cases e677
           replace hx677_0:=zhx HB hx677_0
           replace p677:=eq_true p677
           replace q677:=eq_true q677
           refine start_ (n:=12) (S:=fun w'=>w'.cell? ⟨gb664,0,none⟩=some (.slice (some ad675) l0_0.length c0_0)∧w'.cell? ⟨gb664,1,none⟩=some (.slice A0_1 l0_1.length c0_1)∧w'.cell? ⟨gb664,2,none⟩=some (.slice A0_2 l0_2.length c0_2)∧w'.cell? (ad675.add (x7_21).toNat)=some (.slice (some ad677) (rd_L1 l0_0 x7_21).length c675_0)∧w'.cell? (ad676.add (x7_21).toNat)=some (.int .i64 (rd x5_2 x7_21))∧w'.cell? (ad677.add ((rd x5_2 x7_21)).toNat)=some (.int .i64 (rd (rd_L1 l0_0 x7_21) (rd x5_2 x7_21)))) (ds:= []) (mb' 12 0) (by kernel_rfl) rfl rfl ⟨(blk_cell BK664.out 0).trans rfl,(blk_cell BK664.out 1).trans rfl,(blk_cell BK664.out 2).trans rfl,((zhx HB hw675_0).trans rfl),hx676_0,((zhx HB hw677_0).trans rfl)⟩ (fun hHeld=>?_);refine with_tabW impl_MatchAll.tab14 impl_MatchAll.bits14 (fun HT_ HW_=>?_)
           generalize wc.drew=w69 at HO_4 HO_5 BK664 HB HR675_0 hx675_0 hx676_0 hx677_0 hHeld ⊢
           refine zp1 HT_ 0 59 (mb' 12 1) rfl ?_
           refine zp1 HT_ 2 61 (mb' 12 5) rfl ?_
           refine zp1 HT_ 5 64 (mb' 12 37) rfl ?_
           refine zp1 HT_ 6 65 (mb' 12 101) rfl ?_
           refine zp1 HT_ 7 66 (mb' 12 229) rfl ?_
           refine zt1 HT_ HW_ (v:=?_) (a':=?_) 1 60 (mb' 12 231) rfl ?_ hHeld ?_ ?_;rotate_left;(rintro w' ⟨s0,s1,s2,s3,s4,s5⟩;go_simp;with_reducible rfl);rotate_left;exact zpa
           refine zp1 HT_ 3 62 (mb' 12 239) rfl ?_
           refine zt1 HT_ HW_ (v:=?_) (a':=?_) 4 63 (mb' 12 255) rfl ?_ hHeld ?_ ?_;rotate_left;(rintro w' ⟨s0,s1,s2,s3,s4,s5⟩;go_simp;with_reducible rfl);rotate_left;exact zpa
           refine zt1 HT_ HW_ (v:=?_) (a':=?_) 8 67 (mb' 12 511) rfl ?_ hHeld ?_ ?_;rotate_left;(rintro w' ⟨s0,s1,s2,s3,s4,s5⟩;go_simp;with_reducible rfl);rotate_left;exact zpa
           refine zp1 HT_ 9 68 (mb' 12 1023) rfl ?_
           refine zt1 HT_ HW_ (v:=?_) (a':=?_) 10 69 (mb' 12 2047) rfl ?_ hHeld ?_ ?_;rotate_left;(rintro w' ⟨s0,s1,s2,s3,s4,s5⟩;go_simp;with_reducible rfl);rotate_left;exact zpa
           refine zp1 HT_ 11 8 (mb' 12 4095) rfl ?_
           refine done_ (done_of HT_.out (by kernel_rfl)) ?_
           have p678: 0≤ (x7_21:Int):=of_decide_eq_true zq1
           have q678:x7_21< (x5_2.length:Int):=of_decide_eq_true zq1
           obtain⟨ad678,e678,hx678_0⟩:=Kd.at_int (Kd.R_reads' HO_5.out).2.2 x7_21 p678 q678
           obtain rfl:ad676=ad678:=(by injection e678)
           replace p678:=eq_true p678
           replace q678:=eq_true q678
           have p40: 0≤ (x7_21:Int):=of_decide_eq_true zq1
           have q40:(x7_21:Int)< ((x5_2.length:Int):Int):=of_decide_eq_true zq1
           obtain⟨go40,co40,eo40,gb40,gl40,cl40,HG40⟩:=Kd.R_form HO_5.out (by omega)
           (first|cases eo40|(injection eo40 with ea_ en_ ec_;(first|subst ea_|(injection ea_ with ea_;subst ea_));subst ec_;clear en_))
           have GB40:=Aside0.mk gb40
           have GG40:=Aside0.mk HG40
           clear gb40 gl40 HG40
           (first|simp only [add_plain] at hx676_0|skip)
           (first|simp only [add_plain] at hx678_0|skip)
           obtain⟨hx40_0,hf40_0⟩:=Kd.R_celln 0 HO_5.out (x7_21:Int) p40 q40
           replace p40:=eq_true p40
           replace q40:=eq_true q40
           obtain⟨hy71_,hz71_⟩:=Kd.R_celln 0 HO_5.out (x7_21:Int) (of_decide_eq_true zq1) (of_decide_eq_true zq1)
           have HP71:=Kd.R_putg HO_5.out (x7_21:Int) (wrap64 ((rd x5_2 x7_21)+1))
           try go_wp2_with (first|((with_reducible refine gate_store (t:=3) (p:=75) rfl ?_);refine store_event (t:=3) (p:=75) (v:=?vo_w72) (w1:=(w69.setCell ⟨go40,(x7_21:Int).toNat,none⟩ (.int .i64 (wrap64 ((rd x5_2 x7_21)+1))))) ?hg ?ho ?hn ?hr ?_;(case ho=>rfl);(case hg=>rfl);(case hn=>rfl);(case hr=>first|(go_simp;done)|(go_simp;rfl));intro w72 hw;have hg:w69.grownBy w72 (some go40):=(by rw [hw];exact HP71.2);have hp_:Kd.R (Kd.int .i64) 3 w72 w.heap.size (fun k_=>some k_≠ (.slice Ao15 x4_2.length co15:Value).ownBlock) (.slice (some ⟨go40,0,none⟩) x5_2.length co70) y679:=(by rw [hw,Ny679.out];exact HP71.1);clear HP71;replace HO_4:=Aside0.mk (Kd.R_after (v:=(.slice (some ⟨go40,0,none⟩) x5_2.length co70)) (v1:=(.slice (some ⟨go40,0,none⟩) x5_2.length co70)) (ok:=(fun _=>True)) (by(with_reducible repeat(first|apply Kd.R_alloc|apply Kd.R_drewN|apply Kd.R_drew));exact Kd.R_mono HO_4.out (fun _ hk=>⟨trivial,hk⟩)) hg (.inl rfl));replace BK664:=Aside0.mk (blk_grown (g:=gb664) (o:= .cells #[.slice (some ad675) l0_0.length c0_0,.slice A0_1 l0_1.length c0_1,.slice A0_2 l0_2.length c0_2] 33 (0,0)) (zq3 BK664) hg (Kd.R_ne HO_5.out BK664.out (by decide)));replace HO_5:=Aside0.mk (hp_);replace HB:=Aside0.mk ((by rw [hw];exact below_set (HB.out) GB40.out:Below w.heap.size w w72));clear hg hw hp_;have hcz73_0:=zcz BK664 0 (.slice (some ad675) l0_0.length c0_0);have hcz73_1:=zcz BK664 1 (.slice A0_1 l0_1.length c0_1);have hcz73_2:=zcz BK664 2 (.slice A0_2 l0_2.length c0_2);have hfz73_0:=blk_frozen BK664.out 0;have hfz73_1:=blk_frozen BK664.out 1;have hfz73_2:=blk_frozen BK664.out 2)|((with_reducible refine gate_callee (f:=63) rfl ?_);refine goesL_ (some 81) rfl rfl Try.func63 (by kernel_rfl) rfl #[.agg #[.slice (some ad675) l0_0.length c0_0,.slice A0_1 l0_1.length c0_1,.slice A0_2 l0_2.length c0_2],.slice Ao15 x4_2.length co15,.int .i64 (rd (rd_L1 l0_0 x7_21) (rd x5_2 x7_21)),.int .i64 x7_21] rfl zq2 ?_;(with_reducible refine(impl_takes.calls kj21 _ _ l0_0 _ _ l0_1 _ _ l0_2 _ _ x4_2 (rd (rd_L1 l0_0 x7_21) (rd x5_2 x7_21)) x7_21 t680 false _ ?side1 ?side2 ?side3 ?side4 ?side5 ?side6 ?side7 ?side8 A41.out).mono ?_);(case side1=>exact zcc ((Kd.C_below HR0_0.out HB.out)));(case side2=>exact HC0_0.out);(case side3=>exact zcc ((Kd.C_below HR0_1.out HB.out)));(case side4=>exact HC0_1.out);(case side5=>exact zcc ((Kd.C_below HR0_2.out HB.out)));(case side6=>exact HC0_2.out);(case side7=>exact zcc ((Kd.R_reads' HO_4.out).2.2));(case side8=>exact(Kd.R_reads' HO_4.out).2.1);rintro e w74 ⟨rfl,hb⟩;refine⟨_,rfl,?_⟩;replace HO_4:=Aside0.mk (Kd.R_below (zq4 HO_4) hb);replace HO_5:=Aside0.mk (Kd.R_below (zq4 HO_5) hb);replace BK664:=Aside0.mk (blk_below (g:=gb664) (o:= .cells #[.slice (some ad675) l0_0.length c0_0,.slice A0_1 l0_1.length c0_1,.slice A0_2 l0_2.length c0_2] 33 (0,0)) (zq3 BK664) hb);replace HB:=Aside0.mk (below_step (by exact zk2 HB GE664.out) hb);(try clear hb);(try clear hb2);(try clear hk);(try clear hi)))
           (try simp only [← hl4_2])
           go_roundg kj21
           case measure=>have:=HK1.out;have:=HK2.out;have:=HJ21.out;omega
           case rel=>exact⟨(x4_2),(y679),H',⟨by have:=HK1.out;have:=HK2.out;have:=HJ21.out;omega⟩,⟨by(try simp only [hl4_1]);(try simp only [hl4_2]);(with_reducible repeat(first|apply Kd.R_alloc|apply Kd.R_drewN|apply Kd.R_drew));exact Kd.R_mono HO_4.out (fun _ hk=>hk.2)⟩,⟨by(try simp only [hl4_1]);(try simp only [hl4_2]);(with_reducible repeat(first|apply Kd.R_alloc|apply Kd.R_drewN|apply Kd.R_drew));exact HO_5.out⟩,⟨by(try simp only [hl4_1]);(try simp only [hl4_2]);(with_reducible repeat(first|refine blk_drewN ?_ _|refine blk_drew ?_ |refine blk_alloc ?_ _));exact BK664.out⟩,⟨by exact zk2 HB GE664.out⟩⟩
 ·replace c3:=Bool.eq_false_iff.mpr c3
  subst c3
  have H1:(some (([] :List Int),false))=some (r1,r2):=by rw [if_neg (show ¬ (false=true) by decide)] at H;exact H
  clear H
  have H:=H1
  clear H1
  simp only [Option.some.injEq,Prod.mk.injEq] at H
  obtain⟨rfl,rfl⟩:=H
  go_enter Try.func36,Try.ntmps36
  go_wp2_with (first|((with_reducible refine gate_dst (N:=1) rfl ?_);(try(refine gate_guard (by rfl) ?_;dsimp only));refine box_event ?hg (N:=1) ?hd (cs:= #[.slice A0_0 l0_0.length c0_0,.slice A0_1 l0_1.length c0_1,.slice A0_2 l0_2.length c0_2]) (t:=33) ?hr ?_;(case hd=>rfl);(case hg=>rfl);(case hr=>first|(go_simp;done)|(go_simp;rfl));intro gb664 hg w75 hbox hb;have BK664:=Aside0.mk (hbox);have GW664:=Aside0.mk ((by rw [hg];exact(below_size (by exact zk1 HB)):w.heap.size≤gb664));have GE664:=GW664;replace HB:=Aside0.mk (below_step (by exact zk1 HB) hb);clear hb hbox hg;have hcz76_0:=zcz BK664 0 (.slice A0_0 l0_0.length c0_0);have hcz76_1:=zcz BK664 1 (.slice A0_1 l0_1.length c0_1);have hcz76_2:=zcz BK664 2 (.slice A0_2 l0_2.length c0_2);have hfz76_0:=blk_frozen BK664.out 0;have hfz76_1:=blk_frozen BK664.out 1;have hfz76_2:=blk_frozen BK664.out 2)|((with_reducible refine gate_callee (f:=20) rfl ?_);refine goesL_ (some 12) rfl rfl Try.func20 (by kernel_rfl) rfl #[.agg #[.slice A0_0 l0_0.length c0_0,.slice A0_1 l0_1.length c0_1,.slice A0_2 l0_2.length c0_2]] rfl zq2 ?_;(with_reducible refine(impl_GoodWishes.calls k _ _ l0_0 _ _ l0_1 _ _ l0_2 false _ ?side1 ?side2 ?side3 ?side4 ?side5 ?side6 A2.out).mono ?_);(case side1=>exact zcc ((Kd.C_below HR0_0.out HB.out)));(case side2=>exact HC0_0.out);(case side3=>exact zcc ((Kd.C_below HR0_1.out HB.out)));(case side4=>exact HC0_1.out);(case side5=>exact zcc ((Kd.C_below HR0_2.out HB.out)));(case side6=>exact HC0_2.out);rintro e w77 ⟨rfl,hb⟩;refine⟨_,rfl,?_⟩;replace BK664:=Aside0.mk (blk_below (g:=gb664) (o:= .cells #[.slice A0_0 l0_0.length c0_0,.slice A0_1 l0_1.length c0_1,.slice A0_2 l0_2.length c0_2] 33 (0,0)) (zq3 BK664) hb);replace HB:=Aside0.mk (below_step (by exact zk2 HB GE664.out) hb);(try clear hb);(try clear hb2);(try clear hk);(try clear hi)))
  go_ret2
  exact⟨_,zer,by first|exact Kd.R_nil _ _ _ _ _|exact Kd.N_nil _ _ _ _ _|exact Kd.V_nil _ _ _ _ _|exact Kd.Q_nil _ _ _ _ _|exact Kd.S_nil _ _ _ _ _,by exact zk2 HB GE664.out⟩
end Go.Proofs.Ytoipbblhmcpneaa.P
