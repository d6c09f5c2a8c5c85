/- Functions, walks and plain lemmas that the law FnMatches reaches, part 2. -/
import Derived.Test.YtoipbblhmcpneaaCFnMatches1
import Derived.Below
import Derived.Deep.Draws
import Derived.Deep.AppendLies
import Derived.Maps.AppendAt
import Derived.OwnWalk
import Derived.Laws.BytesArg
import Derived.Laws.MakeOwn
import Derived.Laws.OwnMore
import Derived.Deep.OwnRows
import Derived.Tactics
import Derived.Lib.ConvBytes
import Derived.Laws.Slices
import Derived.WalkKit
import Derived.KernelRfl
import Derived.RowKit3
import Derived.Deep.LoopGhost
import Derived.Deep.QuietTactic
import Derived.BigQuiet
import Derived.WideLaws
import Derived.Deep.DeepCutAuto
import Derived.Deep.CutBlock
import Derived.Deep.RegionHeld3
import Derived.Laws.Rows
import Derived.Lib.AppendStr
import Derived.ArgAppend
import Derived.Laws.IdiomCopy
import Derived.OrdersHeld
import Derived.Laws.BitsLemmas
import Derived.RowKit
import Derived.WalkSpells
import Derived.Lib.SliceRun
import Derived.Shelf.Abstract
import Derived.ProofKit
import Derived.OpenShut
import Derived.ShutString
import Derived.ChangeOld
import Derived.SizedLaws
namespace Go.Proofs.Ytoipbblhmcpneaa.P
open Go.RowKit Go.Proofs.YtoipbblhmcpneaaW.PrintWords Go.Proofs.YtoipbblhmcpneaaW.PrintLast Go.Proofs.YtoipbblhmcpneaaW.PrintMore
attribute [local go_sem] max2_int min2_int max_two min_two max_three min_three max_four min_four   -- for this text's walks alone
set_option linter.unusedVariables false
set_option linter.unusedSimpArgs false
def spec_RanksOf.l0:Nat→List Int→List Int→Int→Int→List (List Int)→List (List Int)→List Int→Option (List Int × Bool)
 | 0,_,_,_,_,_,_,_=>none
 |k+1,x6,x13,x14,x15,x383000,x383001,x383002=>if x15<x14 then(if 0≤x15 then(if x15< (x13.length:Int) then(if x15< (x383000.length:Int) then((spec_l12Place.f k (rd_L1 x383000 x15) (rd x13 x15)).bind fun t386=>(if x6.length< 17592186044416 then(spec_RanksOf.l0 k (x6++ [t386]) x13 x14 (wrap64 (x15+1)) x383000 x383001 x383002) else(none))) else(none)) else(none)) else(none)) else(some (x6,true))
def spec_RanksOf.f (k:Nat) (l0_0:List (List Int)) (l0_1:List (List Int)) (l0_2:List Int) (l1:List Int):Option (List Int × Bool):=(spec_GoodMatch.f k l0_0 l0_1 l0_2 l1).bind fun t383=>(if t383=true then(spec_RanksOf.l0 k ([] :List Int) l1 (l1.length:Int) 0 l0_0 l0_1 l0_2) else(some (([] :List Int),false)))
set_option maxHeartbeats 8000000 in
set_option maxRecDepth 100000 in
theorem spec_RanksOf.calls (k:Nat) (A0_0:Option Addr) (c0_0:Nat) (l0_0:List (List Int)) (A0_1:Option Addr) (c0_1:Nat) (l0_1:List (List Int)) (A0_2:Option Addr) (c0_2:Nat) (l0_2:List Int) (A1:Option Addr) (c1:Nat) (l1:List Int) (r1:List Int) (r2:Bool) (w:World) (hr0_0:Kd.C (Kd.slice 3 (Kd.int .i64)) w A0_0 l0_0.length l0_0) (hc0_0:l0_0.length≤c0_0) (hr0_1:Kd.C (Kd.slice 3 (Kd.int .i64)) w A0_1 l0_1.length l0_1) (hc0_1:l0_1.length≤c0_1) (hr0_2:Kd.C (Kd.int .i64) w A0_2 l0_2.length l0_2) (hc0_2:l0_2.length≤c0_2) (hr1:Kd.C (Kd.int .i64) w A1 l1.length l1) (hc1:l1.length≤c1) (h:spec_RanksOf.f k l0_0 l0_1 l0_2 l1=some (r1,r2)):
  Calls Try.prog 29 #[.agg #[.slice A0_0 l0_0.length c0_0,.slice A0_1 l0_1.length c0_1,.slice A0_2 l0_2.length c0_2],.slice A1 l1.length c1] w fun e w'=> ∃ v0_:Value,e= .returned (.tuple #[v0_,.bool r2])∧Kd.R (Kd.int .i64) 3 w' w.heap.size (fun _=>True) v0_ r1∧Below w.heap.size w w':=by
 have hu33:=Try.underlying33
 have HR0_0:=Aside0.mk hr0_0
 have HC0_0:=Aside0.mk hc0_0
 clear hr0_0 hc0_0
 have HR0_1:=Aside0.mk hr0_1
 have HC0_1:=Aside0.mk hc0_1
 clear hr0_1 hc0_1
 have HR0_2:=Aside0.mk hr0_2
 have HC0_2:=Aside0.mk hc0_2
 clear hr0_2 hc0_2
 have HR1:=Aside0.mk hr1
 have HC1:=Aside0.mk hc1
 clear hr1 hc1
 have HB:=Aside0.mk (Below.refl w.heap.size w)
 have H:((spec_GoodMatch.f k l0_0 l0_1 l0_2 l1).bind fun t383=>(if t383=true then(spec_RanksOf.l0 k ([] :List Int) l1 (l1.length:Int) 0 l0_0 l0_1 l0_2) else(some (([] :List Int),false))))=some (r1,r2):=h
 clear h
 replace H:=Option.bind_eq_some_iff.mp H
 obtain⟨t383,A30,H⟩:=H
 replace H:(if t383=true then(spec_RanksOf.l0 k ([] :List Int) l1 (l1.length:Int) 0 l0_0 l0_1 l0_2) else(some (([] :List Int),false)))=some (r1,r2):=H
 have A3:=Aside0.mk A30
 clear A30
 by_cases c4:t383=true
 ·subst c4
  have H1:(spec_RanksOf.l0 k ([] :List Int) l1 (l1.length:Int) 0 l0_0 l0_1 l0_2)=some (r1,r2):=by rw [if_pos rfl] at H;exact H
  clear H
  have H:=H1
  clear H1
  have H':=Aside0.mk H
  clear H
  go_enter Try.func29,Try.ntmps29
  go_wp2_with (first|((with_reducible refine gate_dst (N:=2) rfl ?_);refine box_event ?hg (N:=2) ?hd (cs:= #[.slice A0_0 l0_0.length c0_0,.slice A0_1 l0_1.length c0_1,.slice A0_2 l0_2.length c0_2]) (t:=33) ?hr ?_;(case hd=>rfl);(case hg=>rfl);(case hr=>first|(go_simp;done)|(go_simp;rfl));intro gb382 hg w5 hbox hb;have BK382:=Aside0.mk (hbox);have GW382:=Aside0.mk ((by rw [hg];exact(below_size (by exact zk1 HB)):w.heap.size≤gb382));have GE382:=GW382;replace HB:=Aside0.mk (below_step (by exact zk1 HB) hb);clear hb hbox hg;have hcz6_0:=zcz BK382 0 (.slice A0_0 l0_0.length c0_0);have hcz6_1:=zcz BK382 1 (.slice A0_1 l0_1.length c0_1);have hcz6_2:=zcz BK382 2 (.slice A0_2 l0_2.length c0_2);have hfz6_0:=blk_frozen BK382.out 0;have hfz6_1:=blk_frozen BK382.out 1;have hfz6_2:=blk_frozen BK382.out 2)|((with_reducible refine gate_callee (f:=22) rfl ?_);refine goesL_ (some 11) rfl rfl Try.func22 (by kernel_rfl) rfl #[.agg #[.slice A0_0 l0_0.length c0_0,.slice A0_1 l0_1.length c0_1,.slice A0_2 l0_2.length c0_2],.slice A1 l1.length c1] rfl zq2 ?_;(with_reducible refine(spec_GoodMatch.calls k _ _ l0_0 _ _ l0_1 _ _ l0_2 _ _ l1 true _ ?side1 ?side2 ?side3 ?side4 ?side5 ?side6 ?side7 ?side8 A3.out).mono ?_);(case side1=>exact zcc ((Kd.C_below HR0_0.out HB.out)));(case side2=>exact HC0_0.out);(case side3=>exact zcc ((Kd.C_below HR0_1.out HB.out)));(case side4=>exact HC0_1.out);(case side5=>exact zcc ((Kd.C_below HR0_2.out HB.out)));(case side6=>exact HC0_2.out);(case side7=>exact zcc ((Kd.C_below HR1.out HB.out)));(case side8=>exact HC1.out);rintro e w7 ⟨rfl,hb⟩;refine⟨_,rfl,?_⟩;replace BK382:=Aside0.mk (blk_below (g:=gb382) (o:= .cells #[.slice A0_0 l0_0.length c0_0,.slice A0_1 l0_1.length c0_1,.slice A0_2 l0_2.length c0_2] 33 (0,0)) (zq3 BK382) hb);replace HB:=Aside0.mk (below_step (by exact zk2 HB GE382.out) hb);(try clear hb);(try clear hb2);(try clear hk);(try clear hi)))
  go_loopg [6,15] k (fun kq v6 v15 w'=> ∃ (x6_1:List Int) (x15_1:Int),v15= .int .i64 x15_1∧Aside0 (spec_RanksOf.l0 kq x6_1 l1 (l1.length:Int) x15_1 l0_0 l0_1 l0_2=some (r1,r2))∧Aside0 (kq≤k)∧Aside0 (Kd.R (Kd.int .i64) 3 w' w.heap.size (fun _=>True) v6 x6_1)∧Aside0 (w'.heap[gb382]?=some (.cells #[(.slice A0_0 l0_0.length c0_0),(.slice A0_1 l0_1.length c0_1),(.slice A0_2 l0_2.length c0_2)] 33 (0,0)))∧Aside0 (Below w.heap.size w w'))
  case atStart=>exact⟨(([] :List Int)),(0),zrs,H',⟨Nat.le_refl _⟩,⟨by first|exact Kd.R_nil _ _ _ _ _|exact Kd.N_nil _ _ _ _ _|exact Kd.V_nil _ _ _ _ _|exact Kd.Q_nil _ _ _ _ _|exact Kd.S_nil _ _ _ _ _⟩,⟨by(with_reducible repeat(first|refine blk_drewN ?_ _|refine blk_drew ?_ |refine blk_alloc ?_ _));exact BK382.out⟩,⟨by exact zk2 HB GE382.out⟩⟩
  case round=>
   clear H'
   try clear c1
   try clear c2
   try clear p2
   try clear c4
   try clear hcz6_0
   try clear hcz6_1
   try clear hcz6_2
   try clear hfz6_0
   try clear hfz6_1
   try clear hfz6_2
   obtain⟨x6_1,x15_1,rfl,HA,HK1,HO_6,BK382,HB⟩:=hrel
   cases gk with
   |zero=>exact absurd HA.out (by simp [spec_RanksOf.l0])
   |succ k1=>
    have H:=HA.out
    clear HA
    simp only [spec_RanksOf.l0] at H
    by_cases c8:x15_1< (l1.length:Int)
    ·rw [if_pos c8] at H
     have c8b0:decide (x15_1< (l1.length:Int))=true:=decide_eq_true c8
     clear c8
     by_cases c9: 0≤x15_1
     case neg=>exact znn c9 H
     rw [if_pos c9] at H
     have c9b0:decide (0≤x15_1)=true:=decide_eq_true c9
     clear c9
     by_cases c10:x15_1< (l1.length:Int)
     case neg=>exact znn c10 H
     rw [if_pos c10] at H
     have c10b0:decide (x15_1< (l1.length:Int))=true:=decide_eq_true c10
     clear c10
     by_cases c11:x15_1< (l0_0.length:Int)
     case neg=>exact znn c11 H
     rw [if_pos c11] at H
     have c11b0:decide (x15_1< (l0_0.length:Int))=true:=decide_eq_true c11
     clear c11
     replace H:=Option.bind_eq_some_iff.mp H
     obtain⟨t386,A120,H⟩:=H
     replace H:(if x6_1.length< 17592186044416 then(spec_RanksOf.l0 k1 (x6_1++ [t386]) l1 (l1.length:Int) (wrap64 (x15_1+1)) l0_0 l0_1 l0_2) else(none))=some (r1,r2):=H
     have A12:=Aside0.mk A120
     clear A120
     by_cases c13:x6_1.length< 17592186044416
     case neg=>exact znn c13 H
     rw [if_pos c13] at H
     have LMc13:=Aside0.mk c13
     clear c13
     obtain⟨y387,hy387⟩ :∃ y_:List Int,y_= (x6_1++ [t386]):=⟨_,rfl⟩
     replace H:(spec_RanksOf.l0 k1 y387 l1 (l1.length:Int) (wrap64 (x15_1+1)) l0_0 l0_1 l0_2)=some (r1,r2):=zfh hy387 H
     have Ny387:=Aside0.mk hy387
     clear hy387
     have H':=Aside0.mk H
     clear H
     have p384: 0≤ (x15_1:Int):=of_decide_eq_true zq1
     have q384:x15_1< (l1.length:Int):=of_decide_eq_true zq1
     obtain⟨ad384,e384,hx384_0⟩:=Kd.at_int HR1.out x15_1 p384 q384
     cases e384
     replace hx384_0:=zhx HB hx384_0
     replace p384:=eq_true p384
     replace q384:=eq_true q384
     have hcz14_0:wr.cell? ⟨gb382,0,none⟩=some (.slice A0_0 l0_0.length c0_0):=(blk_cell BK382.out 0).trans rfl
     have hcz14_1:wr.cell? ⟨gb382,1,none⟩=some (.slice A0_1 l0_1.length c0_1):=(blk_cell BK382.out 1).trans rfl
     have hcz14_2:wr.cell? ⟨gb382,2,none⟩=some (.slice A0_2 l0_2.length c0_2):=(blk_cell BK382.out 2).trans rfl
     have hfz14_0:=blk_frozen BK382.out 0
     have hfz14_1:=blk_frozen BK382.out 1
     have hfz14_2:=blk_frozen BK382.out 2
     have p385: 0≤ (x15_1:Int):=of_decide_eq_true zq1
     have q385:x15_1< (l0_0.length:Int):=of_decide_eq_true zq1
     obtain⟨ad385,A385_0,c385_0,e385,hx385_0,hl385_0,hi385_0⟩:=at_L1 HR0_0.out x15_1 p385 q385
     cases e385
     replace hx385_0:=zhx HB hx385_0
     have HR385_0:=Aside0.mk hi385_0
     have HC385_0:=Aside0.mk hl385_0
     clear hi385_0 hl385_0
     replace p385:=eq_true p385
     replace q385:=eq_true q385
     go_wp2_with (first|((with_reducible refine gate_callee (f:=44) rfl ?_);refine goesL_ (some 27) rfl rfl Try.func44 (by kernel_rfl) rfl #[.slice A385_0 (rd_L1 l0_0 x15_1).length c385_0,.int .i64 (rd l1 x15_1)] rfl zq2 ?_;(with_reducible refine(spec_l12Place.calls k1 _ _ (rd_L1 l0_0 x15_1) (rd l1 x15_1) t386 _ ?side1 ?side2 A12.out).mono ?_);(case side1=>exact zcc ((Kd.C_below HR385_0.out HB.out)));(case side2=>exact HC385_0.out);rintro e w' ⟨rfl,⟨nd,rfl⟩⟩;refine⟨_,rfl,?_⟩)|((with_reducible refine gate_builtin (b:= .append) (xs:= #[.tmp 20,.tmp 28]) rfl ?_);at_builtin;refine Kd.R_append (Kd.int .i64) (w0:=w) w.heap.size rfl (.tmp 20) (.tmp 28) 22 3 (.int .i64 0) 8 rfl Try.underlying22 info3 rfl (by decide) (by omega) u6 x6_1 t386 [.int .i64 t386] (fun _=>True) (fun _=>False) rfl rfl ?aP (fun _ hk=>hk.elim) ?aF ?aO ?aB ?aS ?aL ?_;(case aP=>exact rfl);(case aB=>exact(by exact zk2 HB GE382.out));(case aF=>exact(fun _ _=>trivial));(case aO=>exact(zq4 HO_6));(case aS=>exact(below_size (by exact zk2 HB GE382.out)));(case aL=>have:=LMc13.out;omega);intro v388 w15 ho hb hg hat;rw [← Ny387.out] at ho;have HO389:=Aside0.mk (ho);replace BK382:=Aside0.mk (blk_grown (g:=gb382) (o:= .cells #[.slice (some ad385) l0_0.length c0_0,.slice A0_1 l0_1.length c0_1,.slice A0_2 l0_2.length c0_2] 33 (0,0)) (zq3 BK382) hg (Kd.R_ne HO_6.out BK382.out (by decide)));replace HB:=Aside0.mk (hb);clear HO_6;clear ho hb hg hat))
     go_roundg k1
     case measure=>have:=HK1.out;omega
     case rel=>exact⟨(y387),(wrap64 (x15_1+1)),zrs,H',⟨by have:=HK1.out;omega⟩,⟨zdr HO389⟩,⟨by(with_reducible repeat(first|refine blk_drewN ?_ _|refine blk_drew ?_ |refine blk_alloc ?_ _));exact BK382.out⟩,⟨by exact zk2 HB GE382.out⟩⟩
    ·rw [if_neg c8] at H
     have c8b0:decide (x15_1< (l1.length:Int))=false:=decide_eq_false c8
     clear c8
     simp only [Option.some.injEq,Prod.mk.injEq] at H
     obtain⟨rfl,rfl⟩:=H
     go_wp2
     go_ret2
     exact⟨_,zer,zdr HO_6,by exact zk2 HB GE382.out⟩
 ·replace c4:=Bool.eq_false_iff.mpr c4
  subst c4
  have H1:(some (([] :List Int),false))=some (r1,r2):=by rw [if_neg (show ¬ (false=true) by decide)] at H;exact H
  clear H
  have H:=H1
  clear H1
  simp only [Option.some.injEq,Prod.mk.injEq] at H
  obtain⟨rfl,rfl⟩:=H
  go_enter Try.func29,Try.ntmps29
  go_wp2_with (first|((with_reducible refine gate_dst (N:=2) rfl ?_);refine box_event ?hg (N:=2) ?hd (cs:= #[.slice A0_0 l0_0.length c0_0,.slice A0_1 l0_1.length c0_1,.slice A0_2 l0_2.length c0_2]) (t:=33) ?hr ?_;(case hd=>rfl);(case hg=>rfl);(case hr=>first|(go_simp;done)|(go_simp;rfl));intro gb382 hg w16 hbox hb;have BK382:=Aside0.mk (hbox);have GW382:=Aside0.mk ((by rw [hg];exact(below_size (by exact zk1 HB)):w.heap.size≤gb382));have GE382:=GW382;replace HB:=Aside0.mk (below_step (by exact zk1 HB) hb);clear hb hbox hg;have hcz17_0:=zcz BK382 0 (.slice A0_0 l0_0.length c0_0);have hcz17_1:=zcz BK382 1 (.slice A0_1 l0_1.length c0_1);have hcz17_2:=zcz BK382 2 (.slice A0_2 l0_2.length c0_2);have hfz17_0:=blk_frozen BK382.out 0;have hfz17_1:=blk_frozen BK382.out 1;have hfz17_2:=blk_frozen BK382.out 2)|((with_reducible refine gate_callee (f:=22) rfl ?_);refine goesL_ (some 11) rfl rfl Try.func22 (by kernel_rfl) rfl #[.agg #[.slice A0_0 l0_0.length c0_0,.slice A0_1 l0_1.length c0_1,.slice A0_2 l0_2.length c0_2],.slice A1 l1.length c1] rfl zq2 ?_;(with_reducible refine(spec_GoodMatch.calls k _ _ l0_0 _ _ l0_1 _ _ l0_2 _ _ l1 false _ ?side1 ?side2 ?side3 ?side4 ?side5 ?side6 ?side7 ?side8 A3.out).mono ?_);(case side1=>exact zcc ((Kd.C_below HR0_0.out HB.out)));(case side2=>exact HC0_0.out);(case side3=>exact zcc ((Kd.C_below HR0_1.out HB.out)));(case side4=>exact HC0_1.out);(case side5=>exact zcc ((Kd.C_below HR0_2.out HB.out)));(case side6=>exact HC0_2.out);(case side7=>exact zcc ((Kd.C_below HR1.out HB.out)));(case side8=>exact HC1.out);rintro e w18 ⟨rfl,hb⟩;refine⟨_,rfl,?_⟩;replace BK382:=Aside0.mk (blk_below (g:=gb382) (o:= .cells #[.slice A0_0 l0_0.length c0_0,.slice A0_1 l0_1.length c0_1,.slice A0_2 l0_2.length c0_2] 33 (0,0)) (zq3 BK382) hb);replace HB:=Aside0.mk (below_step (by exact zk2 HB GE382.out) hb);(try clear hb);(try clear hb2);(try clear hk);(try clear hi)))
  go_ret2
  exact⟨_,zer,by first|exact Kd.R_nil _ _ _ _ _|exact Kd.N_nil _ _ _ _ _|exact Kd.V_nil _ _ _ _ _|exact Kd.Q_nil _ _ _ _ _|exact Kd.S_nil _ _ _ _ _,by exact zk2 HB GE382.out⟩
def impl_ranks.l0:Nat→List Int→List Int→Int→Int→List (List Int)→List (List Int)→List Int→Option (List Int)
 | 0,_,_,_,_,_,_,_=>none
 |k+1,x5,x9,x10,x11,x391000,x391001,x391002=>if x11<x10 then(if 0≤x11 then(if x11< (x9.length:Int) then(if (rd x9 x11)≥0 then(if x11< (x391000.length:Int) then((slices_Index_int.f k (rd_L1 x391000 x11) (rd x9 x11)).bind fun t393=>(if x5.length< 17592186044416 then(impl_ranks.l0 k (x5++ [t393]) x9 x10 (wrap64 (x11+1)) x391000 x391001 x391002) else(none))) else(none)) else(if x5.length< 17592186044416 then(impl_ranks.l0 k (x5++ [(x391001.length:Int)]) x9 x10 (wrap64 (x11+1)) x391000 x391001 x391002) else(none))) else(none)) else(none)) else(some x5)
def impl_ranks.f (k:Nat) (l0_0:List (List Int)) (l0_1:List (List Int)) (l0_2:List Int) (l1:List Int):Option (List Int):=impl_ranks.l0 k ([] :List Int) l1 (l1.length:Int) 0 l0_0 l0_1 l0_2
set_option maxHeartbeats 8000000 in
set_option maxRecDepth 100000 in
theorem impl_ranks.calls (k:Nat) (A0_0:Option Addr) (c0_0:Nat) (l0_0:List (List Int)) (A0_1:Option Addr) (c0_1:Nat) (l0_1:List (List Int)) (A0_2:Option Addr) (c0_2:Nat) (l0_2:List Int) (A1:Option Addr) (c1:Nat) (l1:List Int) (r:List Int) (w:World) (hr0_0:Kd.C (Kd.slice 3 (Kd.int .i64)) w A0_0 l0_0.length l0_0) (hc0_0:l0_0.length≤c0_0) (hr0_1:Kd.C (Kd.slice 3 (Kd.int .i64)) w A0_1 l0_1.length l0_1) (hc0_1:l0_1.length≤c0_1) (hr0_2:Kd.C (Kd.int .i64) w A0_2 l0_2.length l0_2) (hc0_2:l0_2.length≤c0_2) (hr1:Kd.C (Kd.int .i64) w A1 l1.length l1) (hc1:l1.length≤c1) (h:impl_ranks.f k l0_0 l0_1 l0_2 l1=some r):
  Calls Try.prog 58 #[.agg #[.slice A0_0 l0_0.length c0_0,.slice A0_1 l0_1.length c0_1,.slice A0_2 l0_2.length c0_2],.slice A1 l1.length c1] w fun e w'=> ∃ v0_:Value,e= .returned (v0_)∧Kd.R (Kd.int .i64) 3 w' w.heap.size (fun _=>True) v0_ r∧Below w.heap.size w w':=by
 have hu33:=Try.underlying33
 have HR0_0:=Aside0.mk hr0_0
 have HC0_0:=Aside0.mk hc0_0
 clear hr0_0 hc0_0
 have HR0_1:=Aside0.mk hr0_1
 have HC0_1:=Aside0.mk hc0_1
 clear hr0_1 hc0_1
 have HR0_2:=Aside0.mk hr0_2
 have HC0_2:=Aside0.mk hc0_2
 clear hr0_2 hc0_2
 have HR1:=Aside0.mk hr1
 have HC1:=Aside0.mk hc1
 clear hr1 hc1
 have HB:=Aside0.mk (Below.refl w.heap.size w)
 have H:(impl_ranks.l0 k ([] :List Int) l1 (l1.length:Int) 0 l0_0 l0_1 l0_2)=some r:=h
 clear h
 have H':=Aside0.mk H
 clear H
 go_enter Try.func58,Try.ntmps58
 go_wp2_with (first|((with_reducible refine gate_dst (N:=2) rfl ?_);refine box_event ?hg (N:=2) ?hd (cs:= #[.slice A0_0 l0_0.length c0_0,.slice A0_1 l0_1.length c0_1,.slice A0_2 l0_2.length c0_2]) (t:=33) ?hr ?_;(case hd=>rfl);(case hg=>rfl);(case hr=>first|(go_simp;done)|(go_simp;rfl));intro gb390 hg w3 hbox hb;have BK390:=Aside0.mk (hbox);have GW390:=Aside0.mk ((by rw [hg];exact(below_size (by exact zk1 HB)):w.heap.size≤gb390));have GE390:=GW390;replace HB:=Aside0.mk (below_step (by exact zk1 HB) hb);clear hb hbox hg))
 go_loopg [5,11] k (fun kq v5 v11 w'=> ∃ (x5_1:List Int) (x11_1:Int),v11= .int .i64 x11_1∧Aside0 (impl_ranks.l0 kq x5_1 l1 (l1.length:Int) x11_1 l0_0 l0_1 l0_2=some r)∧Aside0 (kq≤k)∧Aside0 (Kd.R (Kd.int .i64) 3 w' w.heap.size (fun _=>True) v5 x5_1)∧Aside0 (w'.heap[gb390]?=some (.cells #[(.slice A0_0 l0_0.length c0_0),(.slice A0_1 l0_1.length c0_1),(.slice A0_2 l0_2.length c0_2)] 33 (0,0)))∧Aside0 (Below w.heap.size w w'))
 case atStart=>exact⟨(([] :List Int)),(0),zrs,H',⟨Nat.le_refl _⟩,⟨by first|exact Kd.R_nil _ _ _ _ _|exact Kd.N_nil _ _ _ _ _|exact Kd.V_nil _ _ _ _ _|exact Kd.Q_nil _ _ _ _ _|exact Kd.S_nil _ _ _ _ _⟩,⟨by(with_reducible repeat(first|refine blk_drewN ?_ _|refine blk_drew ?_ |refine blk_alloc ?_ _));exact BK390.out⟩,⟨by exact zk2 HB GE390.out⟩⟩
 case round=>
  clear H'
  try clear c1
  try clear p2
  obtain⟨x5_1,x11_1,rfl,HA,HK1,HO_5,BK390,HB⟩:=hrel
  cases gk with
  |zero=>exact absurd HA.out (by simp [impl_ranks.l0])
  |succ k1=>
   have H:=HA.out
   clear HA
   simp only [impl_ranks.l0] at H
   by_cases c4:x11_1< (l1.length:Int)
   ·rw [if_pos c4] at H
    have c4b0:decide (x11_1< (l1.length:Int))=true:=decide_eq_true c4
    clear c4
    by_cases c5: 0≤x11_1
    case neg=>exact znn c5 H
    rw [if_pos c5] at H
    have c5b0:decide (0≤x11_1)=true:=decide_eq_true c5
    clear c5
    by_cases c6:x11_1< (l1.length:Int)
    case neg=>exact znn c6 H
    rw [if_pos c6] at H
    have c6b0:decide (x11_1< (l1.length:Int))=true:=decide_eq_true c6
    clear c6
    by_cases c7:(rd l1 x11_1)≥0
    ·rw [if_pos c7] at H
     have c7b0:decide (0≤ (rd l1 x11_1))=true:=decide_eq_true c7
     clear c7
     by_cases c8:x11_1< (l0_0.length:Int)
     case neg=>exact znn c8 H
     rw [if_pos c8] at H
     have c8b0:decide (x11_1< (l0_0.length:Int))=true:=decide_eq_true c8
     clear c8
     replace H:=Option.bind_eq_some_iff.mp H
     obtain⟨t393,A90,H⟩:=H
     replace H:(if x5_1.length< 17592186044416 then(impl_ranks.l0 k1 (x5_1++ [t393]) l1 (l1.length:Int) (wrap64 (x11_1+1)) l0_0 l0_1 l0_2) else(none))=some r:=H
     have A9:=Aside0.mk A90
     clear A90
     by_cases c10:x5_1.length< 17592186044416
     case neg=>exact znn c10 H
     rw [if_pos c10] at H
     have LMc10:=Aside0.mk c10
     clear c10
     obtain⟨y394,hy394⟩ :∃ y_:List Int,y_= (x5_1++ [t393]):=⟨_,rfl⟩
     replace H:(impl_ranks.l0 k1 y394 l1 (l1.length:Int) (wrap64 (x11_1+1)) l0_0 l0_1 l0_2)=some r:=zfh hy394 H
     have Ny394:=Aside0.mk hy394
     clear hy394
     have H':=Aside0.mk H
     clear H
     have p391: 0≤ (x11_1:Int):=of_decide_eq_true zq1
     have q391:x11_1< (l1.length:Int):=of_decide_eq_true zq1
     obtain⟨ad391,e391,hx391_0⟩:=Kd.at_int HR1.out x11_1 p391 q391
     cases e391
     replace hx391_0:=zhx HB hx391_0
     replace p391:=eq_true p391
     replace q391:=eq_true q391
     have hcz11_0:wr.cell? ⟨gb390,0,none⟩=some (.slice A0_0 l0_0.length c0_0):=(blk_cell BK390.out 0).trans rfl
     have hcz11_1:wr.cell? ⟨gb390,1,none⟩=some (.slice A0_1 l0_1.length c0_1):=(blk_cell BK390.out 1).trans rfl
     have hcz11_2:wr.cell? ⟨gb390,2,none⟩=some (.slice A0_2 l0_2.length c0_2):=(blk_cell BK390.out 2).trans rfl
     have hfz11_0:=blk_frozen BK390.out 0
     have hfz11_1:=blk_frozen BK390.out 1
     have hfz11_2:=blk_frozen BK390.out 2
     have p392: 0≤ (x11_1:Int):=of_decide_eq_true zq1
     have q392:x11_1< (l0_0.length:Int):=of_decide_eq_true zq1
     obtain⟨ad392,A392_0,c392_0,e392,hx392_0,hl392_0,hi392_0⟩:=at_L1 HR0_0.out x11_1 p392 q392
     cases e392
     replace hx392_0:=zhx HB hx392_0
     have HR392_0:=Aside0.mk hi392_0
     have HC392_0:=Aside0.mk hl392_0
     clear hi392_0 hl392_0
     replace p392:=eq_true p392
     replace q392:=eq_true q392
     go_wp2_with (first|((with_reducible refine gate_callee (f:=45) rfl ?_);refine goesL_ (some 27) rfl rfl Try.func45 (by kernel_rfl) rfl #[.slice A392_0 (rd_L1 l0_0 x11_1).length c392_0,.int .i64 (rd l1 x11_1)] rfl zq2 ?_;(with_reducible refine(slices_Index_int.calls k1 _ _ (rd_L1 l0_0 x11_1) (rd l1 x11_1) t393 _ ?side1 ?side2 A9.out).mono ?_);(case side1=>exact zcc ((Kd.C_below HR392_0.out HB.out)));(case side2=>exact HC392_0.out);rintro e w' ⟨rfl,⟨nd,rfl⟩⟩;refine⟨_,rfl,?_⟩)|((with_reducible refine gate_builtin (b:= .append) (xs:= #[.tmp 28,.tmp 30]) rfl ?_);at_builtin;refine Kd.R_append (Kd.int .i64) (w0:=w) w.heap.size rfl (.tmp 28) (.tmp 30) 22 3 (.int .i64 0) 8 rfl Try.underlying22 info3 rfl (by decide) (by omega) u5 x5_1 t393 [.int .i64 t393] (fun _=>True) (fun _=>False) rfl rfl ?aP (fun _ hk=>hk.elim) ?aF ?aO ?aB ?aS ?aL ?_;(case aP=>exact rfl);(case aB=>exact(by exact zk2 HB GE390.out));(case aF=>exact(fun _ _=>trivial));(case aO=>exact(zq4 HO_5));(case aS=>exact(below_size (by exact zk2 HB GE390.out)));(case aL=>have:=LMc10.out;omega);intro v395 w12 ho hb hg hat;rw [← Ny394.out] at ho;have HO396:=Aside0.mk (ho);replace BK390:=Aside0.mk (blk_grown (g:=gb390) (o:= .cells #[.slice (some ad392) l0_0.length c0_0,.slice A0_1 l0_1.length c0_1,.slice A0_2 l0_2.length c0_2] 33 (0,0)) (zq3 BK390) hg (Kd.R_ne HO_5.out BK390.out (by decide)));replace HB:=Aside0.mk (hb);clear HO_5;clear ho hb hg hat))
     go_roundg k1
     case measure=>have:=HK1.out;omega
     case rel=>exact⟨(y394),(wrap64 (x11_1+1)),zrs,H',⟨by have:=HK1.out;omega⟩,⟨zdr HO396⟩,⟨by(with_reducible repeat(first|refine blk_drewN ?_ _|refine blk_drew ?_ |refine blk_alloc ?_ _));exact BK390.out⟩,⟨by exact zk2 HB GE390.out⟩⟩
    ·rw [if_neg c7] at H
     have c7b0:decide (0≤ (rd l1 x11_1))=false:=decide_eq_false c7
     clear c7
     by_cases c13:x5_1.length< 17592186044416
     case neg=>exact znn c13 H
     rw [if_pos c13] at H
     have LMc13:=Aside0.mk c13
     clear c13
     obtain⟨y397,hy397⟩ :∃ y_:List Int,y_= (x5_1++ [(l0_1.length:Int)]):=⟨_,rfl⟩
     replace H:(impl_ranks.l0 k1 y397 l1 (l1.length:Int) (wrap64 (x11_1+1)) l0_0 l0_1 l0_2)=some r:=zfh hy397 H
     have Ny397:=Aside0.mk hy397
     clear hy397
     have H':=Aside0.mk H
     clear H
     have p391: 0≤ (x11_1:Int):=of_decide_eq_true zq1
     have q391:x11_1< (l1.length:Int):=of_decide_eq_true zq1
     obtain⟨ad391,e391,hx391_0⟩:=Kd.at_int HR1.out x11_1 p391 q391
     cases e391
     replace hx391_0:=zhx HB hx391_0
     replace p391:=eq_true p391
     replace q391:=eq_true q391
     have hcz14_0:wr.cell? ⟨gb390,0,none⟩=some (.slice A0_0 l0_0.length c0_0):=(blk_cell BK390.out 0).trans rfl
     have hcz14_1:wr.cell? ⟨gb390,1,none⟩=some (.slice A0_1 l0_1.length c0_1):=(blk_cell BK390.out 1).trans rfl
     have hcz14_2:wr.cell? ⟨gb390,2,none⟩=some (.slice A0_2 l0_2.length c0_2):=(blk_cell BK390.out 2).trans rfl
     have hfz14_0:=blk_frozen BK390.out 0
     have hfz14_1:=blk_frozen BK390.out 1
     have hfz14_2:=blk_frozen BK390.out 2
     go_wp2_with (first|((with_reducible refine gate_builtin (b:= .append) (xs:= #[.tmp 28,.tmp 30]) rfl ?_);at_builtin;refine Kd.R_append (Kd.int .i64) (w0:=w) w.heap.size rfl (.tmp 28) (.tmp 30) 22 3 (.int .i64 0) 8 rfl Try.underlying22 info3 rfl (by decide) (by omega) u5 x5_1 (l0_1.length:Int) [.int .i64 (l0_1.length:Int)] (fun _=>True) (fun _=>False) rfl rfl ?aP (fun _ hk=>hk.elim) ?aF ?aO ?aB ?aS ?aL ?_;(case aP=>exact rfl);(case aB=>exact(by exact zk2 HB GE390.out));(case aF=>exact(fun _ _=>trivial));(case aO=>exact(zq4 HO_5));(case aS=>exact(below_size (by exact zk2 HB GE390.out)));(case aL=>have:=LMc13.out;omega);intro v398 w15 ho hb hg hat;rw [← Ny397.out] at ho;have HO399:=Aside0.mk (ho);replace BK390:=Aside0.mk (blk_grown (g:=gb390) (o:= .cells #[.slice A0_0 l0_0.length c0_0,.slice A0_1 l0_1.length c0_1,.slice A0_2 l0_2.length c0_2] 33 (0,0)) (zq3 BK390) hg (Kd.R_ne HO_5.out BK390.out (by decide)));replace HB:=Aside0.mk (hb);clear HO_5;clear ho hb hg hat))
     go_roundg k1
     case measure=>have:=HK1.out;omega
     case rel=>exact⟨(y397),(wrap64 (x11_1+1)),zrs,H',⟨by have:=HK1.out;omega⟩,⟨zdr HO399⟩,⟨by(with_reducible repeat(first|refine blk_drewN ?_ _|refine blk_drew ?_ |refine blk_alloc ?_ _));exact BK390.out⟩,⟨by exact zk2 HB GE390.out⟩⟩
   ·rw [if_neg c4] at H
    have c4b0:decide (x11_1< (l1.length:Int))=false:=decide_eq_false c4
    clear c4
    obtain rfl:=Option.some.inj H
    go_wp2
    go_ret
    exact⟨_,zer,zdr HO_5,by exact zk2 HB GE390.out⟩
def impl_RanksOf.f (k:Nat) (l0_0:List (List Int)) (l0_1:List (List Int)) (l0_2:List Int) (l1:List Int):Option (List Int × Bool):=(impl_GoodMatch.f k l0_0 l0_1 l0_2 l1).bind fun t401=>(if t401=true then((impl_ranks.f k l0_0 l0_1 l0_2 l1).bind fun t402=>(some (t402,true))) else(some (([] :List Int),false)))
set_option maxHeartbeats 8000000 in
set_option maxRecDepth 100000 in
theorem impl_RanksOf.calls (k:Nat) (A0_0:Option Addr) (c0_0:Nat) (l0_0:List (List Int)) (A0_1:Option Addr) (c0_1:Nat) (l0_1:List (List Int)) (A0_2:Option Addr) (c0_2:Nat) (l0_2:List Int) (A1:Option Addr) (c1:Nat) (l1:List Int) (r1:List Int) (r2:Bool) (w:World) (hr0_0:Kd.C (Kd.slice 3 (Kd.int .i64)) w A0_0 l0_0.length l0_0) (hc0_0:l0_0.length≤c0_0) (hr0_1:Kd.C (Kd.slice 3 (Kd.int .i64)) w A0_1 l0_1.length l0_1) (hc0_1:l0_1.length≤c0_1) (hr0_2:Kd.C (Kd.int .i64) w A0_2 l0_2.length l0_2) (hc0_2:l0_2.length≤c0_2) (hr1:Kd.C (Kd.int .i64) w A1 l1.length l1) (hc1:l1.length≤c1) (h:impl_RanksOf.f k l0_0 l0_1 l0_2 l1=some (r1,r2)):
  Calls Try.prog 30 #[.agg #[.slice A0_0 l0_0.length c0_0,.slice A0_1 l0_1.length c0_1,.slice A0_2 l0_2.length c0_2],.slice A1 l1.length c1] w fun e w'=> ∃ v0_:Value,e= .returned (.tuple #[v0_,.bool r2])∧Kd.R (Kd.int .i64) 3 w' w.heap.size (fun _=>True) v0_ r1∧Below w.heap.size w w':=by
 have hu33:=Try.underlying33
 have HR0_0:=Aside0.mk hr0_0
 have HC0_0:=Aside0.mk hc0_0
 clear hr0_0 hc0_0
 have HR0_1:=Aside0.mk hr0_1
 have HC0_1:=Aside0.mk hc0_1
 clear hr0_1 hc0_1
 have HR0_2:=Aside0.mk hr0_2
 have HC0_2:=Aside0.mk hc0_2
 clear hr0_2 hc0_2
 have HR1:=Aside0.mk hr1
 have HC1:=Aside0.mk hc1
 clear hr1 hc1
 have HB:=Aside0.mk (Below.refl w.heap.size w)
 have H:((impl_GoodMatch.f k l0_0 l0_1 l0_2 l1).bind fun t401=>(if t401=true then((impl_ranks.f k l0_0 l0_1 l0_2 l1).bind fun t402=>(some (t402,true))) else(some (([] :List Int),false))))=some (r1,r2):=h
 clear h
 replace H:=Option.bind_eq_some_iff.mp H
 obtain⟨t401,A30,H⟩:=H
 replace H:(if t401=true then((impl_ranks.f k l0_0 l0_1 l0_2 l1).bind fun t402=>(some (t402,true))) else(some (([] :List Int),false)))=some (r1,r2):=H
 have A3:=Aside0.mk A30
 clear A30
 by_cases c4:t401=true
 ·subst c4
  have H1:((impl_ranks.f k l0_0 l0_1 l0_2 l1).bind fun t402=>(some (t402,true)))=some (r1,r2):=by rw [if_pos rfl] at H;exact H
  clear H
  have H:=H1
  clear H1
  replace H:=Option.bind_eq_some_iff.mp H
  obtain⟨t402,A50,H⟩:=H
  replace H:(some (t402,true))=some (r1,r2):=H
  have A5:=Aside0.mk A50
  clear A50
  simp only [Option.some.injEq,Prod.mk.injEq] at H
  obtain⟨rfl,rfl⟩:=H
  go_enter Try.func30,Try.ntmps30
  go_wp2_with (first|((with_reducible refine gate_dst (N:=2) rfl ?_);refine box_event ?hg (N:=2) ?hd (cs:= #[.slice A0_0 l0_0.length c0_0,.slice A0_1 l0_1.length c0_1,.slice A0_2 l0_2.length c0_2]) (t:=33) ?hr ?_;(case hd=>rfl);(case hg=>rfl);(case hr=>first|(go_simp;done)|(go_simp;rfl));intro gb400 hg w6 hbox hb;have BK400:=Aside0.mk (hbox);have GW400:=Aside0.mk ((by rw [hg];exact(below_size (by exact zk1 HB)):w.heap.size≤gb400));have GE400:=GW400;replace HB:=Aside0.mk (below_step (by exact zk1 HB) hb);clear hb hbox hg;have hcz7_0:=zcz BK400 0 (.slice A0_0 l0_0.length c0_0);have hcz7_1:=zcz BK400 1 (.slice A0_1 l0_1.length c0_1);have hcz7_2:=zcz BK400 2 (.slice A0_2 l0_2.length c0_2);have hfz7_0:=blk_frozen BK400.out 0;have hfz7_1:=blk_frozen BK400.out 1;have hfz7_2:=blk_frozen BK400.out 2)|((with_reducible refine gate_callee (f:=23) rfl ?_);refine goesL_ (some 8) rfl rfl Try.func23 (by kernel_rfl) rfl #[.agg #[.slice A0_0 l0_0.length c0_0,.slice A0_1 l0_1.length c0_1,.slice A0_2 l0_2.length c0_2],.slice A1 l1.length c1] rfl zq2 ?_;(with_reducible refine(impl_GoodMatch.calls k _ _ l0_0 _ _ l0_1 _ _ l0_2 _ _ l1 true _ ?side1 ?side2 ?side3 ?side4 ?side5 ?side6 ?side7 ?side8 A3.out).mono ?_);(case side1=>exact zcc ((Kd.C_below HR0_0.out HB.out)));(case side2=>exact HC0_0.out);(case side3=>exact zcc ((Kd.C_below HR0_1.out HB.out)));(case side4=>exact HC0_1.out);(case side5=>exact zcc ((Kd.C_below HR0_2.out HB.out)));(case side6=>exact HC0_2.out);(case side7=>exact zcc ((Kd.C_below HR1.out HB.out)));(case side8=>exact HC1.out);rintro e w8 ⟨rfl,hb⟩;refine⟨_,rfl,?_⟩;replace BK400:=Aside0.mk (blk_below (g:=gb400) (o:= .cells #[.slice A0_0 l0_0.length c0_0,.slice A0_1 l0_1.length c0_1,.slice A0_2 l0_2.length c0_2] 33 (0,0)) (zq3 BK400) hb);replace HB:=Aside0.mk (below_step (by exact zk2 HB GE400.out) hb);(try clear hb);(try clear hb2);(try clear hk);(try clear hi);have hcz9_0:=zcz BK400 0 (.slice A0_0 l0_0.length c0_0);have hcz9_1:=zcz BK400 1 (.slice A0_1 l0_1.length c0_1);have hcz9_2:=zcz BK400 2 (.slice A0_2 l0_2.length c0_2);have hfz9_0:=blk_frozen BK400.out 0;have hfz9_1:=blk_frozen BK400.out 1;have hfz9_2:=blk_frozen BK400.out 2)|((with_reducible refine gate_callee (f:=58) rfl ?_);refine goesL_ (some 12) rfl rfl Try.func58 (by kernel_rfl) rfl #[.agg #[.slice A0_0 l0_0.length c0_0,.slice A0_1 l0_1.length c0_1,.slice A0_2 l0_2.length c0_2],.slice A1 l1.length c1] rfl zq2 ?_;(with_reducible refine(impl_ranks.calls k _ _ l0_0 _ _ l0_1 _ _ l0_2 _ _ l1 t402 _ ?side1 ?side2 ?side3 ?side4 ?side5 ?side6 ?side7 ?side8 A5.out).mono ?_);(case side1=>exact zcc ((Kd.C_below HR0_0.out HB.out)));(case side2=>exact HC0_0.out);(case side3=>exact zcc ((Kd.C_below HR0_1.out HB.out)));(case side4=>exact HC0_1.out);(case side5=>exact zcc ((Kd.C_below HR0_2.out HB.out)));(case side6=>exact HC0_2.out);(case side7=>exact zcc ((Kd.C_below HR1.out HB.out)));(case side8=>exact HC1.out);rintro e w10 ⟨v403,rfl,ho0,hb⟩;refine⟨_,rfl,?_⟩;have HO404:=Aside0.mk (Kd.R_lower ho0 (below_size (by exact zk2 HB GE400.out)));replace BK400:=Aside0.mk (blk_below (g:=gb400) (o:= .cells #[.slice A0_0 l0_0.length c0_0,.slice A0_1 l0_1.length c0_1,.slice A0_2 l0_2.length c0_2] 33 (0,0)) (zq3 BK400) hb);replace HB:=Aside0.mk (below_step (by exact zk2 HB GE400.out) hb);(try clear hb);(try clear hb2);(try clear hk);(try clear hi);(try clear ho0)))
  go_ret2
  exact⟨_,zer,zdr HO404,by exact zk2 HB GE400.out⟩
 ·replace c4:=Bool.eq_false_iff.mpr c4
  subst c4
  have H1:(some (([] :List Int),false))=some (r1,r2):=by rw [if_neg (show ¬ (false=true) by decide)] at H;exact H
  clear H
  have H:=H1
  clear H1
  simp only [Option.some.injEq,Prod.mk.injEq] at H
  obtain⟨rfl,rfl⟩:=H
  go_enter Try.func30,Try.ntmps30
  go_wp2_with (first|((with_reducible refine gate_dst (N:=2) rfl ?_);refine box_event ?hg (N:=2) ?hd (cs:= #[.slice A0_0 l0_0.length c0_0,.slice A0_1 l0_1.length c0_1,.slice A0_2 l0_2.length c0_2]) (t:=33) ?hr ?_;(case hd=>rfl);(case hg=>rfl);(case hr=>first|(go_simp;done)|(go_simp;rfl));intro gb400 hg w11 hbox hb;have BK400:=Aside0.mk (hbox);have GW400:=Aside0.mk ((by rw [hg];exact(below_size (by exact zk1 HB)):w.heap.size≤gb400));have GE400:=GW400;replace HB:=Aside0.mk (below_step (by exact zk1 HB) hb);clear hb hbox hg;have hcz12_0:=zcz BK400 0 (.slice A0_0 l0_0.length c0_0);have hcz12_1:=zcz BK400 1 (.slice A0_1 l0_1.length c0_1);have hcz12_2:=zcz BK400 2 (.slice A0_2 l0_2.length c0_2);have hfz12_0:=blk_frozen BK400.out 0;have hfz12_1:=blk_frozen BK400.out 1;have hfz12_2:=blk_frozen BK400.out 2)|((with_reducible refine gate_callee (f:=23) rfl ?_);refine goesL_ (some 8) rfl rfl Try.func23 (by kernel_rfl) rfl #[.agg #[.slice A0_0 l0_0.length c0_0,.slice A0_1 l0_1.length c0_1,.slice A0_2 l0_2.length c0_2],.slice A1 l1.length c1] rfl zq2 ?_;(with_reducible refine(impl_GoodMatch.calls k _ _ l0_0 _ _ l0_1 _ _ l0_2 _ _ l1 false _ ?side1 ?side2 ?side3 ?side4 ?side5 ?side6 ?side7 ?side8 A3.out).mono ?_);(case side1=>exact zcc ((Kd.C_below HR0_0.out HB.out)));(case side2=>exact HC0_0.out);(case side3=>exact zcc ((Kd.C_below HR0_1.out HB.out)));(case side4=>exact HC0_1.out);(case side5=>exact zcc ((Kd.C_below HR0_2.out HB.out)));(case side6=>exact HC0_2.out);(case side7=>exact zcc ((Kd.C_below HR1.out HB.out)));(case side8=>exact HC1.out);rintro e w13 ⟨rfl,hb⟩;refine⟨_,rfl,?_⟩;replace BK400:=Aside0.mk (blk_below (g:=gb400) (o:= .cells #[.slice A0_0 l0_0.length c0_0,.slice A0_1 l0_1.length c0_1,.slice A0_2 l0_2.length c0_2] 33 (0,0)) (zq3 BK400) hb);replace HB:=Aside0.mk (below_step (by exact zk2 HB GE400.out) hb);(try clear hb);(try clear hb2);(try clear hk);(try clear hi)))
  go_ret2
  exact⟨_,zer,by first|exact Kd.R_nil _ _ _ _ _|exact Kd.N_nil _ _ _ _ _|exact Kd.V_nil _ _ _ _ _|exact Kd.Q_nil _ _ _ _ _|exact Kd.S_nil _ _ _ _ _,by exact zk2 HB GE400.out⟩
def spec_l12Worst.l0:Nat→Int→Int→List Int→Int→Int→List (List Int)→List (List Int)→List Int→Option (Int)
 | 0,_,_,_,_,_,_,_,_=>none
 |k+1,x2,x7,x12,x13,x14,x481000,x481001,x481002=>if x14<x13 then(if 0≤x14 then(if x14< (x12.length:Int) then(if x7< 0 then(spec_l12Worst.l0 k x2 (rd x12 x14) x12 x13 (wrap64 (x14+1)) x481000 x481001 x481002) else(if 0≤x2 then(if x2< (x481001.length:Int) then((spec_l12Place.f k (rd_L1 x481001 x2) (rd x12 x14)).bind fun t486=>((spec_l12Place.f k (rd_L1 x481001 x2) x7).bind fun t488=>(if t486 > t488 then(spec_l12Worst.l0 k x2 (rd x12 x14) x12 x13 (wrap64 (x14+1)) x481000 x481001 x481002) else(spec_l12Worst.l0 k x2 x7 x12 x13 (wrap64 (x14+1)) x481000 x481001 x481002)))) else(none)) else(none))) else(none)) else(none)) else(some x7)
def spec_l12Worst.f (k:Nat) (l0_0:List (List Int)) (l0_1:List (List Int)) (l0_2:List Int) (l1:List Int) (a2:Int):Option (Int):=(spec_l12Has.f k l1 a2).bind fun t481=>(spec_l12Worst.l0 k a2 (-1) t481 (t481.length:Int) 0 l0_0 l0_1 l0_2)
set_option maxHeartbeats 8000000 in
set_option maxRecDepth 100000 in
theorem spec_l12Worst.calls (k:Nat) (A0_0:Option Addr) (c0_0:Nat) (l0_0:List (List Int)) (A0_1:Option Addr) (c0_1:Nat) (l0_1:List (List Int)) (A0_2:Option Addr) (c0_2:Nat) (l0_2:List Int) (A1:Option Addr) (c1:Nat) (l1:List Int) (a2:Int) (r:Int) (w:World) (hr0_0:Kd.C (Kd.slice 3 (Kd.int .i64)) w A0_0 l0_0.length l0_0) (hc0_0:l0_0.length≤c0_0) (hr0_1:Kd.C (Kd.slice 3 (Kd.int .i64)) w A0_1 l0_1.length l0_1) (hc0_1:l0_1.length≤c0_1) (hr0_2:Kd.C (Kd.int .i64) w A0_2 l0_2.length l0_2) (hc0_2:l0_2.length≤c0_2) (hr1:Kd.C (Kd.int .i64) w A1 l1.length l1) (hc1:l1.length≤c1) (h:spec_l12Worst.f k l0_0 l0_1 l0_2 l1 a2=some r):
  Calls Try.prog 62 #[.agg #[.slice A0_0 l0_0.length c0_0,.slice A0_1 l0_1.length c0_1,.slice A0_2 l0_2.length c0_2],.slice A1 l1.length c1,.int .i64 a2] w fun e w'=>e= .returned (.int .i64 r)∧Below w.heap.size w w':=by
 have hu33:=Try.underlying33
 have HR0_0:=Aside0.mk hr0_0
 have HC0_0:=Aside0.mk hc0_0
 clear hr0_0 hc0_0
 have HR0_1:=Aside0.mk hr0_1
 have HC0_1:=Aside0.mk hc0_1
 clear hr0_1 hc0_1
 have HR0_2:=Aside0.mk hr0_2
 have HC0_2:=Aside0.mk hc0_2
 clear hr0_2 hc0_2
 have HR1:=Aside0.mk hr1
 have HC1:=Aside0.mk hc1
 clear hr1 hc1
 have HB:=Aside0.mk (Below.refl w.heap.size w)
 have H:((spec_l12Has.f k l1 a2).bind fun t481=>(spec_l12Worst.l0 k a2 (-1) t481 (t481.length:Int) 0 l0_0 l0_1 l0_2))=some r:=h
 clear h
 replace H:=Option.bind_eq_some_iff.mp H
 obtain⟨t481,A40,H⟩:=H
 replace H:(spec_l12Worst.l0 k a2 (-1) t481 (t481.length:Int) 0 l0_0 l0_1 l0_2)=some r:=H
 have A4:=Aside0.mk A40
 clear A40
 have H':=Aside0.mk H
 clear H
 go_enter Try.func62,Try.ntmps62
 go_wp2_with (first|((with_reducible refine gate_dst (N:=3) rfl ?_);refine box_event ?hg (N:=3) ?hd (cs:= #[.slice A0_0 l0_0.length c0_0,.slice A0_1 l0_1.length c0_1,.slice A0_2 l0_2.length c0_2]) (t:=33) ?hr ?_;(case hd=>rfl);(case hg=>rfl);(case hr=>first|(go_simp;done)|(go_simp;rfl));intro gb480 hg w5 hbox hb;have BK480:=Aside0.mk (hbox);have GW480:=Aside0.mk ((by rw [hg];exact(below_size (by exact zk1 HB)):w.heap.size≤gb480));have GE480:=GW480;replace HB:=Aside0.mk (below_step (by exact zk1 HB) hb);clear hb hbox hg)|(go_at_call 55;(with_reducible refine(spec_l12Has.calls k _ _ l1 a2 t481 _ ?side1 ?side2 A4.out).mono ?_);(case side1=>exact zcc ((Kd.C_below HR1.out HB.out)));(case side2=>exact HC1.out);rintro e w6 ⟨v482,rfl,ho0,hb⟩;have HO483:=Aside0.mk (Kd.R_lower ho0 (below_size (by exact zk2 HB GE480.out)));replace BK480:=Aside0.mk (blk_below (g:=gb480) (o:= .cells #[.slice A0_0 l0_0.length c0_0,.slice A0_1 l0_1.length c0_1,.slice A0_2 l0_2.length c0_2] 33 (0,0)) (zq3 BK480) hb);replace HB:=Aside0.mk (below_step (by exact zk2 HB GE480.out) hb);(try clear hb);(try clear hb2);(try clear hk);(try clear hi);(try clear ho0);obtain⟨Ao7,co7,eo7⟩:=Kd.R_slice HO483.out;subst eo7))
 repeat(go_quiet (first|((with_reducible refine gate_dst (N:=3) rfl ?_);refine box_event ?hg (N:=3) ?hd (cs:= #[.slice A0_0 l0_0.length c0_0,.slice A0_1 l0_1.length c0_1,.slice A0_2 l0_2.length c0_2]) (t:=33) ?hr ?_;(case hd=>rfl);(case hg=>rfl);(case hr=>first|(go_simp;done)|(go_simp;rfl));intro gb480 hg w5 hbox hb;have BK480:=Aside0.mk (hbox);have GW480:=Aside0.mk ((by rw [hg];exact(below_size (by exact zk1 HB)):w.heap.size≤gb480));have GE480:=GW480;replace HB:=Aside0.mk (below_step (by exact zk1 HB) hb);clear hb hbox hg)|(go_at_call 55;(with_reducible refine(spec_l12Has.calls k _ _ l1 a2 t481 _ ?side1 ?side2 A4.out).mono ?_);(case side1=>exact zcc ((Kd.C_below HR1.out HB.out)));(case side2=>exact HC1.out);rintro e w6 ⟨v482,rfl,ho0,hb⟩;have HO483:=Aside0.mk (Kd.R_lower ho0 (below_size (by exact zk2 HB GE480.out)));replace BK480:=Aside0.mk (blk_below (g:=gb480) (o:= .cells #[.slice A0_0 l0_0.length c0_0,.slice A0_1 l0_1.length c0_1,.slice A0_2 l0_2.length c0_2] 33 (0,0)) (zq3 BK480) hb);replace HB:=Aside0.mk (below_step (by exact zk2 HB GE480.out) hb);(try clear hb);(try clear hb2);(try clear hk);(try clear hi);(try clear ho0);obtain⟨Ao7,co7,eo7⟩:=Kd.R_slice HO483.out;subst eo7));try go_wp2_with (first|((with_reducible refine gate_dst (N:=3) rfl ?_);refine box_event ?hg (N:=3) ?hd (cs:= #[.slice A0_0 l0_0.length c0_0,.slice A0_1 l0_1.length c0_1,.slice A0_2 l0_2.length c0_2]) (t:=33) ?hr ?_;(case hd=>rfl);(case hg=>rfl);(case hr=>first|(go_simp;done)|(go_simp;rfl));intro gb480 hg w5 hbox hb;have BK480:=Aside0.mk (hbox);have GW480:=Aside0.mk ((by rw [hg];exact(below_size (by exact zk1 HB)):w.heap.size≤gb480));have GE480:=GW480;replace HB:=Aside0.mk (below_step (by exact zk1 HB) hb);clear hb hbox hg)|(go_at_call 55;(with_reducible refine(spec_l12Has.calls k _ _ l1 a2 t481 _ ?side1 ?side2 A4.out).mono ?_);(case side1=>exact zcc ((Kd.C_below HR1.out HB.out)));(case side2=>exact HC1.out);rintro e w6 ⟨v482,rfl,ho0,hb⟩;have HO483:=Aside0.mk (Kd.R_lower ho0 (below_size (by exact zk2 HB GE480.out)));replace BK480:=Aside0.mk (blk_below (g:=gb480) (o:= .cells #[.slice A0_0 l0_0.length c0_0,.slice A0_1 l0_1.length c0_1,.slice A0_2 l0_2.length c0_2] 33 (0,0)) (zq3 BK480) hb);replace HB:=Aside0.mk (below_step (by exact zk2 HB GE480.out) hb);(try clear hb);(try clear hb2);(try clear hk);(try clear hi);(try clear ho0);obtain⟨Ao7,co7,eo7⟩:=Kd.R_slice HO483.out;subst eo7)))
 go_loopg [7,14] k (fun kq v7 v14 w'=> ∃ (x7_1:Int) (x14_1:Int),v7= .int .i64 x7_1∧v14= .int .i64 x14_1∧Aside0 (spec_l12Worst.l0 kq a2 x7_1 t481 (t481.length:Int) x14_1 l0_0 l0_1 l0_2=some r)∧Aside0 (kq≤k)∧Aside0 (Kd.R (Kd.int .i64) 3 w' w.heap.size (fun _=>True) (.slice Ao7 t481.length co7) t481)∧Aside0 (w'.heap[gb480]?=some (.cells #[(.slice A0_0 l0_0.length c0_0),(.slice A0_1 l0_1.length c0_1),(.slice A0_2 l0_2.length c0_2)] 33 (0,0)))∧Aside0 (Below w.heap.size w w'))
 case atStart=>exact⟨((-1)),(0),zrs,zrs,H',⟨Nat.le_refl _⟩,⟨zdr HO483⟩,⟨by(with_reducible repeat(first|refine blk_drewN ?_ _|refine blk_drew ?_ |refine blk_alloc ?_ _));exact BK480.out⟩,⟨by exact zk2 HB GE480.out⟩⟩
 case round=>
  clear H'
  try clear c1
  try clear p2
  try clear c6
  obtain⟨x7_1,x14_1,rfl,rfl,HA,HK1,HO_12,BK480,HB⟩:=hrel
  cases gk with
  |zero=>exact absurd HA.out (by simp [spec_l12Worst.l0])
  |succ k1=>
   have H:=HA.out
   clear HA
   simp only [spec_l12Worst.l0] at H
   by_cases c8:x14_1< (t481.length:Int)
   ·rw [if_pos c8] at H
    have c8b0:decide (x14_1< (t481.length:Int))=true:=decide_eq_true c8
    clear c8
    by_cases c9: 0≤x14_1
    case neg=>exact znn c9 H
    rw [if_pos c9] at H
    have c9b0:decide (0≤x14_1)=true:=decide_eq_true c9
    clear c9
    by_cases c10:x14_1< (t481.length:Int)
    case neg=>exact znn c10 H
    rw [if_pos c10] at H
    have c10b0:decide (x14_1< (t481.length:Int))=true:=decide_eq_true c10
    clear c10
    by_cases c11:x7_1< 0
    ·rw [if_pos c11] at H
     have c11b0:decide (x7_1< 0)=true:=decide_eq_true c11
     clear c11
     have H':=Aside0.mk H
     clear H
     have p484: 0≤ (x14_1:Int):=of_decide_eq_true zq1
     have q484:x14_1< (t481.length:Int):=of_decide_eq_true zq1
     obtain⟨ad484,e484,hx484_0⟩:=Kd.at_int (Kd.R_reads' HO_12.out).2.2 x14_1 p484 q484
     cases e484
     replace p484:=eq_true p484
     replace q484:=eq_true q484
     go_wp2
     repeat(go_quiet (fail);try go_wp2)
     go_roundg k1
     case measure=>have:=HK1.out;omega
     case rel=>exact⟨(rd t481 x14_1),(wrap64 (x14_1+1)),zrs,zrs,H',⟨by have:=HK1.out;omega⟩,⟨zdr HO_12⟩,⟨by(with_reducible repeat(first|refine blk_drewN ?_ _|refine blk_drew ?_ |refine blk_alloc ?_ _));exact BK480.out⟩,⟨by exact zk2 HB GE480.out⟩⟩
    ·rw [if_neg c11] at H
     have c11b0:decide (x7_1< 0)=false:=decide_eq_false c11
     clear c11
     by_cases c12: 0≤a2
     case neg=>exact znn c12 H
     rw [if_pos c12] at H
     have c12b0:decide (0≤a2)=true:=decide_eq_true c12
     clear c12
     by_cases c13:a2< (l0_1.length:Int)
     case neg=>exact znn c13 H
     rw [if_pos c13] at H
     have c13b0:decide (a2< (l0_1.length:Int))=true:=decide_eq_true c13
     clear c13
     replace H:=Option.bind_eq_some_iff.mp H
     obtain⟨t486,A140,H⟩:=H
     replace H:((spec_l12Place.f k1 (rd_L1 l0_1 a2) x7_1).bind fun t488=>(if t486 > t488 then(spec_l12Worst.l0 k1 a2 (rd t481 x14_1) t481 (t481.length:Int) (wrap64 (x14_1+1)) l0_0 l0_1 l0_2) else(spec_l12Worst.l0 k1 a2 x7_1 t481 (t481.length:Int) (wrap64 (x14_1+1)) l0_0 l0_1 l0_2)))=some r:=H
     have A14:=Aside0.mk A140
     clear A140
     replace H:=Option.bind_eq_some_iff.mp H
     obtain⟨t488,A150,H⟩:=H
     replace H:(if t486 > t488 then(spec_l12Worst.l0 k1 a2 (rd t481 x14_1) t481 (t481.length:Int) (wrap64 (x14_1+1)) l0_0 l0_1 l0_2) else(spec_l12Worst.l0 k1 a2 x7_1 t481 (t481.length:Int) (wrap64 (x14_1+1)) l0_0 l0_1 l0_2))=some r:=H
     have A15:=Aside0.mk A150
     clear A150
     by_cases c16:t486 > t488
     ·rw [if_pos c16] at H
      have c16b0:decide (t488<t486)=true:=decide_eq_true c16
      clear c16
      have H':=Aside0.mk H
      clear H
      have p484: 0≤ (x14_1:Int):=of_decide_eq_true zq1
      have q484:x14_1< (t481.length:Int):=of_decide_eq_true zq1
      obtain⟨ad484,e484,hx484_0⟩:=Kd.at_int (Kd.R_reads' HO_12.out).2.2 x14_1 p484 q484
      cases e484
      replace p484:=eq_true p484
      replace q484:=eq_true q484
      have hcz17_0:wr.cell? ⟨gb480,0,none⟩=some (.slice A0_0 l0_0.length c0_0):=(blk_cell BK480.out 0).trans rfl
      have hcz17_1:wr.cell? ⟨gb480,1,none⟩=some (.slice A0_1 l0_1.length c0_1):=(blk_cell BK480.out 1).trans rfl
      have hcz17_2:wr.cell? ⟨gb480,2,none⟩=some (.slice A0_2 l0_2.length c0_2):=(blk_cell BK480.out 2).trans rfl
      have hfz17_0:=blk_frozen BK480.out 0
      have hfz17_1:=blk_frozen BK480.out 1
      have hfz17_2:=blk_frozen BK480.out 2
      have p485: 0≤ (a2:Int):=of_decide_eq_true zq1
      have q485:a2< (l0_1.length:Int):=of_decide_eq_true zq1
      obtain⟨ad485,A485_0,c485_0,e485,hx485_0,hl485_0,hi485_0⟩:=at_L1 HR0_1.out a2 p485 q485
      cases e485
      replace hx485_0:=zhx HB hx485_0
      have HR485_0:=Aside0.mk hi485_0
      have HC485_0:=Aside0.mk hl485_0
      clear hi485_0 hl485_0
      replace p485:=eq_true p485
      replace q485:=eq_true q485
      go_wp2_with (first|(go_at_call 44;(with_reducible refine(spec_l12Place.calls k1 _ _ (rd_L1 l0_1 a2) (rd t481 x14_1) t486 _ ?side1 ?side2 A14.out).mono ?_);(case side1=>exact zcc ((Kd.C_below HR485_0.out HB.out)));(case side2=>exact HC485_0.out);rintro e w' ⟨rfl,⟨nd,rfl⟩⟩;(try first|exact⟨rfl,_,World.drewN_drewN _ _ _⟩|exact⟨rfl,_,Eq.trans (World.drewN_drewN _ _ _) (congrArg (World.drewN _) (Nat.add_assoc _ _ _))⟩);have p487: 0≤ (a2:Int):=of_decide_eq_true zq1;have q487:a2< (l0_1.length:Int):=of_decide_eq_true zq1;obtain⟨ad487,A487_0,c487_0,e487,hx487_0,hl487_0,hi487_0⟩:=at_L1 HR0_1.out a2 p487 q487;obtain rfl:ad485=ad487:=(by injection e487);replace hx487_0:=zhx HB hx487_0;have HR487_0:=Aside0.mk hi487_0;have HC487_0:=Aside0.mk hl487_0;clear hi487_0 hl487_0;replace p487:=eq_true p487;replace q487:=eq_true q487;have ea_:=Option.some.inj (hx485_0.symm.trans hx487_0);injection ea_ with ea_ en_ ec_;subst ea_;subst ec_;clear en_)|(go_at_call 44;(with_reducible refine(spec_l12Place.calls k1 _ _ (rd_L1 l0_1 a2) x7_1 t488 _ ?side1 ?side2 A15.out).mono ?_);(case side1=>repeat(first|exact(Kd.C_below HR487_0.out (by exact zk2 HB GE480.out))|(with_reducible refine Kd.C_alloc ?_ _)|(with_reducible refine Kd.C_drewN ?_ _)|(with_reducible refine Kd.C_drew ?_)));(case side2=>exact HC487_0.out);rintro e w' ⟨rfl,⟨nd,rfl⟩⟩;(try first|exact⟨rfl,_,World.drewN_drewN _ _ _⟩|exact⟨rfl,_,Eq.trans (World.drewN_drewN _ _ _) (congrArg (World.drewN _) (Nat.add_assoc _ _ _))⟩)))
      repeat(go_quiet (first|(go_at_call 44;(with_reducible refine(spec_l12Place.calls k1 _ _ (rd_L1 l0_1 a2) (rd t481 x14_1) t486 _ ?side1 ?side2 A14.out).mono ?_);(case side1=>exact zcc ((Kd.C_below HR485_0.out HB.out)));(case side2=>exact HC485_0.out);rintro e w' ⟨rfl,⟨nd,rfl⟩⟩;(try first|exact⟨rfl,_,World.drewN_drewN _ _ _⟩|exact⟨rfl,_,Eq.trans (World.drewN_drewN _ _ _) (congrArg (World.drewN _) (Nat.add_assoc _ _ _))⟩);have p487: 0≤ (a2:Int):=of_decide_eq_true zq1;have q487:a2< (l0_1.length:Int):=of_decide_eq_true zq1;obtain⟨ad487,A487_0,c487_0,e487,hx487_0,hl487_0,hi487_0⟩:=at_L1 HR0_1.out a2 p487 q487;obtain rfl:ad485=ad487:=(by injection e487);replace hx487_0:=zhx HB hx487_0;have HR487_0:=Aside0.mk hi487_0;have HC487_0:=Aside0.mk hl487_0;clear hi487_0 hl487_0;replace p487:=eq_true p487;replace q487:=eq_true q487;have ea_:=Option.some.inj (hx485_0.symm.trans hx487_0);injection ea_ with ea_ en_ ec_;subst ea_;subst ec_;clear en_)|(go_at_call 44;(with_reducible refine(spec_l12Place.calls k1 _ _ (rd_L1 l0_1 a2) x7_1 t488 _ ?side1 ?side2 A15.out).mono ?_);(case side1=>repeat(first|exact(Kd.C_below HR487_0.out (by exact zk2 HB GE480.out))|(with_reducible refine Kd.C_alloc ?_ _)|(with_reducible refine Kd.C_drewN ?_ _)|(with_reducible refine Kd.C_drew ?_)));(case side2=>exact HC487_0.out);rintro e w' ⟨rfl,⟨nd,rfl⟩⟩;(try first|exact⟨rfl,_,World.drewN_drewN _ _ _⟩|exact⟨rfl,_,Eq.trans (World.drewN_drewN _ _ _) (congrArg (World.drewN _) (Nat.add_assoc _ _ _))⟩)));try go_wp2_with (first|(go_at_call 44;(with_reducible refine(spec_l12Place.calls k1 _ _ (rd_L1 l0_1 a2) (rd t481 x14_1) t486 _ ?side1 ?side2 A14.out).mono ?_);(case side1=>exact zcc ((Kd.C_below HR485_0.out HB.out)));(case side2=>exact HC485_0.out);rintro e w' ⟨rfl,⟨nd,rfl⟩⟩;(try first|exact⟨rfl,_,World.drewN_drewN _ _ _⟩|exact⟨rfl,_,Eq.trans (World.drewN_drewN _ _ _) (congrArg (World.drewN _) (Nat.add_assoc _ _ _))⟩);have p487: 0≤ (a2:Int):=of_decide_eq_true zq1;have q487:a2< (l0_1.length:Int):=of_decide_eq_true zq1;obtain⟨ad487,A487_0,c487_0,e487,hx487_0,hl487_0,hi487_0⟩:=at_L1 HR0_1.out a2 p487 q487;obtain rfl:ad485=ad487:=(by injection e487);replace hx487_0:=zhx HB hx487_0;have HR487_0:=Aside0.mk hi487_0;have HC487_0:=Aside0.mk hl487_0;clear hi487_0 hl487_0;replace p487:=eq_true p487;replace q487:=eq_true q487;have ea_:=Option.some.inj (hx485_0.symm.trans hx487_0);injection ea_ with ea_ en_ ec_;subst ea_;subst ec_;clear en_)|(go_at_call 44;(with_reducible refine(spec_l12Place.calls k1 _ _ (rd_L1 l0_1 a2) x7_1 t488 _ ?side1 ?side2 A15.out).mono ?_);(case side1=>repeat(first|exact(Kd.C_below HR487_0.out (by exact zk2 HB GE480.out))|(with_reducible refine Kd.C_alloc ?_ _)|(with_reducible refine Kd.C_drewN ?_ _)|(with_reducible refine Kd.C_drew ?_)));(case side2=>exact HC487_0.out);rintro e w' ⟨rfl,⟨nd,rfl⟩⟩;(try first|exact⟨rfl,_,World.drewN_drewN _ _ _⟩|exact⟨rfl,_,Eq.trans (World.drewN_drewN _ _ _) (congrArg (World.drewN _) (Nat.add_assoc _ _ _))⟩))))
      go_roundg k1
      case measure=>have:=HK1.out;omega
      case rel=>exact⟨(rd t481 x14_1),(wrap64 (x14_1+1)),zrs,zrs,H',⟨by have:=HK1.out;omega⟩,⟨zdr HO_12⟩,⟨by(with_reducible repeat(first|refine blk_drewN ?_ _|refine blk_drew ?_ |refine blk_alloc ?_ _));exact BK480.out⟩,⟨by exact zk2 HB GE480.out⟩⟩
     ·rw [if_neg c16] at H
      have c16b0:decide (t488<t486)=false:=decide_eq_false c16
      clear c16
      have H':=Aside0.mk H
      clear H
      have p484: 0≤ (x14_1:Int):=of_decide_eq_true zq1
      have q484:x14_1< (t481.length:Int):=of_decide_eq_true zq1
      obtain⟨ad484,e484,hx484_0⟩:=Kd.at_int (Kd.R_reads' HO_12.out).2.2 x14_1 p484 q484
      cases e484
      replace p484:=eq_true p484
      replace q484:=eq_true q484
      have hcz18_0:wr.cell? ⟨gb480,0,none⟩=some (.slice A0_0 l0_0.length c0_0):=(blk_cell BK480.out 0).trans rfl
      have hcz18_1:wr.cell? ⟨gb480,1,none⟩=some (.slice A0_1 l0_1.length c0_1):=(blk_cell BK480.out 1).trans rfl
      have hcz18_2:wr.cell? ⟨gb480,2,none⟩=some (.slice A0_2 l0_2.length c0_2):=(blk_cell BK480.out 2).trans rfl
      have hfz18_0:=blk_frozen BK480.out 0
      have hfz18_1:=blk_frozen BK480.out 1
      have hfz18_2:=blk_frozen BK480.out 2
      have p485: 0≤ (a2:Int):=of_decide_eq_true zq1
      have q485:a2< (l0_1.length:Int):=of_decide_eq_true zq1
      obtain⟨ad485,A485_0,c485_0,e485,hx485_0,hl485_0,hi485_0⟩:=at_L1 HR0_1.out a2 p485 q485
      cases e485
      replace hx485_0:=zhx HB hx485_0
      have HR485_0:=Aside0.mk hi485_0
      have HC485_0:=Aside0.mk hl485_0
      clear hi485_0 hl485_0
      replace p485:=eq_true p485
      replace q485:=eq_true q485
      go_wp2_with (first|(go_at_call 44;(with_reducible refine(spec_l12Place.calls k1 _ _ (rd_L1 l0_1 a2) (rd t481 x14_1) t486 _ ?side1 ?side2 A14.out).mono ?_);(case side1=>exact zcc ((Kd.C_below HR485_0.out HB.out)));(case side2=>exact HC485_0.out);rintro e w' ⟨rfl,⟨nd,rfl⟩⟩;(try first|exact⟨rfl,_,World.drewN_drewN _ _ _⟩|exact⟨rfl,_,Eq.trans (World.drewN_drewN _ _ _) (congrArg (World.drewN _) (Nat.add_assoc _ _ _))⟩);have p487: 0≤ (a2:Int):=of_decide_eq_true zq1;have q487:a2< (l0_1.length:Int):=of_decide_eq_true zq1;obtain⟨ad487,A487_0,c487_0,e487,hx487_0,hl487_0,hi487_0⟩:=at_L1 HR0_1.out a2 p487 q487;obtain rfl:ad485=ad487:=(by injection e487);replace hx487_0:=zhx HB hx487_0;have HR487_0:=Aside0.mk hi487_0;have HC487_0:=Aside0.mk hl487_0;clear hi487_0 hl487_0;replace p487:=eq_true p487;replace q487:=eq_true q487;have ea_:=Option.some.inj (hx485_0.symm.trans hx487_0);injection ea_ with ea_ en_ ec_;subst ea_;subst ec_;clear en_)|(go_at_call 44;(with_reducible refine(spec_l12Place.calls k1 _ _ (rd_L1 l0_1 a2) x7_1 t488 _ ?side1 ?side2 A15.out).mono ?_);(case side1=>repeat(first|exact(Kd.C_below HR487_0.out (by exact zk2 HB GE480.out))|(with_reducible refine Kd.C_alloc ?_ _)|(with_reducible refine Kd.C_drewN ?_ _)|(with_reducible refine Kd.C_drew ?_)));(case side2=>exact HC487_0.out);rintro e w' ⟨rfl,⟨nd,rfl⟩⟩;(try first|exact⟨rfl,_,World.drewN_drewN _ _ _⟩|exact⟨rfl,_,Eq.trans (World.drewN_drewN _ _ _) (congrArg (World.drewN _) (Nat.add_assoc _ _ _))⟩)))
      repeat(go_quiet (first|(go_at_call 44;(with_reducible refine(spec_l12Place.calls k1 _ _ (rd_L1 l0_1 a2) (rd t481 x14_1) t486 _ ?side1 ?side2 A14.out).mono ?_);(case side1=>exact zcc ((Kd.C_below HR485_0.out HB.out)));(case side2=>exact HC485_0.out);rintro e w' ⟨rfl,⟨nd,rfl⟩⟩;(try first|exact⟨rfl,_,World.drewN_drewN _ _ _⟩|exact⟨rfl,_,Eq.trans (World.drewN_drewN _ _ _) (congrArg (World.drewN _) (Nat.add_assoc _ _ _))⟩);have p487: 0≤ (a2:Int):=of_decide_eq_true zq1;have q487:a2< (l0_1.length:Int):=of_decide_eq_true zq1;obtain⟨ad487,A487_0,c487_0,e487,hx487_0,hl487_0,hi487_0⟩:=at_L1 HR0_1.out a2 p487 q487;obtain rfl:ad485=ad487:=(by injection e487);replace hx487_0:=zhx HB hx487_0;have HR487_0:=Aside0.mk hi487_0;have HC487_0:=Aside0.mk hl487_0;clear hi487_0 hl487_0;replace p487:=eq_true p487;replace q487:=eq_true q487;have ea_:=Option.some.inj (hx485_0.symm.trans hx487_0);injection ea_ with ea_ en_ ec_;subst ea_;subst ec_;clear en_)|(go_at_call 44;(with_reducible refine(spec_l12Place.calls k1 _ _ (rd_L1 l0_1 a2) x7_1 t488 _ ?side1 ?side2 A15.out).mono ?_);(case side1=>repeat(first|exact(Kd.C_below HR487_0.out (by exact zk2 HB GE480.out))|(with_reducible refine Kd.C_alloc ?_ _)|(with_reducible refine Kd.C_drewN ?_ _)|(with_reducible refine Kd.C_drew ?_)));(case side2=>exact HC487_0.out);rintro e w' ⟨rfl,⟨nd,rfl⟩⟩;(try first|exact⟨rfl,_,World.drewN_drewN _ _ _⟩|exact⟨rfl,_,Eq.trans (World.drewN_drewN _ _ _) (congrArg (World.drewN _) (Nat.add_assoc _ _ _))⟩)));try go_wp2_with (first|(go_at_call 44;(with_reducible refine(spec_l12Place.calls k1 _ _ (rd_L1 l0_1 a2) (rd t481 x14_1) t486 _ ?side1 ?side2 A14.out).mono ?_);(case side1=>exact zcc ((Kd.C_below HR485_0.out HB.out)));(case side2=>exact HC485_0.out);rintro e w' ⟨rfl,⟨nd,rfl⟩⟩;(try first|exact⟨rfl,_,World.drewN_drewN _ _ _⟩|exact⟨rfl,_,Eq.trans (World.drewN_drewN _ _ _) (congrArg (World.drewN _) (Nat.add_assoc _ _ _))⟩);have p487: 0≤ (a2:Int):=of_decide_eq_true zq1;have q487:a2< (l0_1.length:Int):=of_decide_eq_true zq1;obtain⟨ad487,A487_0,c487_0,e487,hx487_0,hl487_0,hi487_0⟩:=at_L1 HR0_1.out a2 p487 q487;obtain rfl:ad485=ad487:=(by injection e487);replace hx487_0:=zhx HB hx487_0;have HR487_0:=Aside0.mk hi487_0;have HC487_0:=Aside0.mk hl487_0;clear hi487_0 hl487_0;replace p487:=eq_true p487;replace q487:=eq_true q487;have ea_:=Option.some.inj (hx485_0.symm.trans hx487_0);injection ea_ with ea_ en_ ec_;subst ea_;subst ec_;clear en_)|(go_at_call 44;(with_reducible refine(spec_l12Place.calls k1 _ _ (rd_L1 l0_1 a2) x7_1 t488 _ ?side1 ?side2 A15.out).mono ?_);(case side1=>repeat(first|exact(Kd.C_below HR487_0.out (by exact zk2 HB GE480.out))|(with_reducible refine Kd.C_alloc ?_ _)|(with_reducible refine Kd.C_drewN ?_ _)|(with_reducible refine Kd.C_drew ?_)));(case side2=>exact HC487_0.out);rintro e w' ⟨rfl,⟨nd,rfl⟩⟩;(try first|exact⟨rfl,_,World.drewN_drewN _ _ _⟩|exact⟨rfl,_,Eq.trans (World.drewN_drewN _ _ _) (congrArg (World.drewN _) (Nat.add_assoc _ _ _))⟩))))
      go_roundg k1
      case measure=>have:=HK1.out;omega
      case rel=>exact⟨(x7_1),(wrap64 (x14_1+1)),zrs,zrs,H',⟨by have:=HK1.out;omega⟩,⟨zdr HO_12⟩,⟨by(with_reducible repeat(first|refine blk_drewN ?_ _|refine blk_drew ?_ |refine blk_alloc ?_ _));exact BK480.out⟩,⟨by exact zk2 HB GE480.out⟩⟩
   ·rw [if_neg c8] at H
    have c8b0:decide (x14_1< (t481.length:Int))=false:=decide_eq_false c8
    clear c8
    obtain rfl:=Option.some.inj H
    go_wp2
    repeat(go_quiet (fail);try go_wp2)
    go_ret
    exact⟨zer,by exact zk2 HB GE480.out⟩
def spec_l12Would.f (k:Nat) (l0_0:List (List Int)) (l0_1:List (List Int)) (l0_2:List Int) (l1:List Int) (a2:Int) (a3:Int):Option (Bool):=(spec_l12Has.f k l1 a2).bind fun t490=>(if 0≤a2 then(if a2< (l0_2.length:Int) then(if (t490.length:Int)< (rd l0_2 a2) then(some true) else((spec_l12Worst.f k l0_0 l0_1 l0_2 l1 a2).bind fun t494=>(if t494≥0 then(if a2< (l0_1.length:Int) then((spec_l12Place.f k (rd_L1 l0_1 a2) a3).bind fun t496=>((spec_l12Place.f k (rd_L1 l0_1 a2) t494).bind fun t498=>(some (decide (t496<t498))))) else(none)) else(some false)))) else(none)) else(none))
def spec_l12Would.T1:Bool × List (List Nat × List Nat):=(true,[([],[]),([],[]),([0,1],[0,1]),([2],[2]),([],[]),([4],[4]),([],[]),([5,6],[5,6]),([7],[7]),([3,8],[3,8])])
def spec_l12Would.B1:List Nat:= [0,0,3,7,0,16,0,112,240,511]
theorem spec_l12Would.tab1:rtab .any (opsOf Try.f61 1)=spec_l12Would.T1:=by kernel_rfl
theorem spec_l12Would.bits1:waitsOk spec_l12Would.T1.2 spec_l12Would.B1=true:=by kernel_rfl
def spec_l12Would.T4:Bool × List (List Nat × List Nat):=(true,[([],[]),([0],[0]),([1],[1]),([2],[2]),([3,2],[2,3]),([2],[2]),([4,5,2],[2,4,5]),([6,2],[2,6]),([2],[2]),([7,8,2,2],[2,7,8]),([2],[2]),([10,2],[2,10]),([2],[2]),([11,12,2],[2,11,12]),([13,2],[2,13]),([2],[2]),([14,15,9,2],[2,14,15]),([9,16,2],[2,9,16]),([2,17],[2,17]),([18,16,0,1,2,3,4,5,6,7,8,9,10,11,12,13,14,15,16,17,18],[18])])
def spec_l12Would.B4:List Nat:= [0,1,3,7,15,7,63,127,7,511,7,1031,7,7175,15367,7,65535,131071,262143,524287]
theorem spec_l12Would.tab4:rtab .any (opsOf Try.f61 4)=spec_l12Would.T4:=by kernel_rfl
theorem spec_l12Would.bits4:waitsOk spec_l12Would.T4.2 spec_l12Would.B4=true:=by kernel_rfl
def mb' (n m:Nat):Array Bool:=((List.range n).map fun i=>m.testBit i).toArray
theorem zp1 {P:Program} {ops:Array Oper} {Q:Exit→Act→World→Prop} {md:Region.Mode} {S:World→Prop} {ds:List Nat} {T:Bool × List (List Nat × List Nat)} {oi:Oper} {v:Value} {fuel:Nat} {l:Array Bool} {a:Act} {w:World} (hT:Aside0 (rtab md ops=T)) (i n:Nat) (l':Array Bool) (hi:ops[i]?=some oi) {a':Act} (h:wpAnyLast P md ops Q S ds fuel l' a' w) (hr:∀ w,(execOp a.eval oi).run P w= .ok (.value v) w:=by intro w';go_simp;with_reducible rfl) (ha:a.put (some n) v=a':=by simp only [Act.put,List.setIfInBounds_toArray,List.set_cons_zero,List.set_cons_succ,i64_w,i32_w];rfl) (hc:anyT T l.toList l'.toList i=true:=by kernel_rfl) (hw:Region.wanted oi (yielded ops a.tmps)=true:=by rfl) (hN:oi.dst=some n:=by rfl) (hQ:∀ c a w,Q (.panic c) (a.put oi.dst v) w→Q (.panic c) a w:=by exact fun _ _ _ h=>h):wpAnyLast P md ops Q S ds (fuel+1) l a w:=pure_ (i:=i) l' hi hN (any_of hT.out hc) hQ (Or.inl ⟨hw,hr⟩) ha h
theorem zp2 {P:Program} {ops:Array Oper} {Q:Exit→Act→World→Prop} {md:Region.Mode} {S:World→Prop} {ds:List Nat} {T:Bool × List (List Nat × List Nat)} {oi:Oper} {fuel:Nat} {l:Array Bool} {a:Act} {w:World} (hT:Aside0 (rtab md ops=T)) (i n:Nat) (l':Array Bool) (hi:ops[i]?=some oi) {a':Act} (h:wpAnyLast P md ops Q S ds fuel l' a' w) (ha:a.put (some n) undef=a':=by simp only [Act.put,List.setIfInBounds_toArray,List.set_cons_zero,List.set_cons_succ,i64_w,i32_w];rfl) (hc:anyT T l.toList l'.toList i=true:=by kernel_rfl) (hw:Region.wanted oi (yielded ops a.tmps)=false:=by rfl) (hN:oi.dst=some n:=by rfl) (hQ:∀ c a w,Q (.panic c) (a.put oi.dst undef) w→Q (.panic c) a w:=by exact fun _ _ _ h=>h):wpAnyLast P md ops Q S ds (fuel+1) l a w:=pure_ (i:=i) l' hi hN (any_of hT.out hc) hQ (Or.inr ⟨hw,rfl⟩) ha h
theorem zpa {a b:Act} (h:a=b:=by simp only [Act.put,List.setIfInBounds_toArray,List.set_cons_zero,List.set_cons_succ,i64_w,i32_w];rfl):a=b:=h
theorem zt1 {P:Program} {ops:Array Oper} {Q:Exit→Act→World→Prop} {md:Region.Mode} {S:World→Prop} {ds:List Nat} {T:Bool × List (List Nat × List Nat)} {B:List Nat} {oi:Oper} {v:Value} {fuel:Nat} {l:Array Bool} {a:Act} {w:World} (hT:Aside0 (rtab md ops=T)) (hB:Aside0 (waitsOk T.2 B=true)) (i n:Nat) (l':Array Bool) (hi:ops[i]?=some oi) (hr:∀ w,S w→ (execOp a.eval oi).run P w= .ok (.value v) w) (hS:S w) {a':Act} (ha:a.put (some n) v=a') (h:wpAnyLast P md ops Q S ds fuel l' a' w) (hc:takeW T B ds l.toList l'.toList i=true:=by kernel_rfl) (hw:Region.wanted oi (yielded ops a.tmps)=true:=by rfl) (hN:oi.dst=some n:=by rfl) (hQ:∀ c a w,Q (.panic c) (a.put oi.dst v) w→Q (.panic c) a w:=by exact fun _ _ _ h=>h):wpAnyLast P md ops Q S ds (fuel+1) l a w:=take_ (i:=i) l' hi hN (take_ofW hT.out hB.out hc) hQ (Or.inl ⟨hw,hr⟩) hS ha h
set_option maxHeartbeats 8000000 in
set_option maxRecDepth 100000 in
theorem spec_l12Would.calls (k:Nat) (A0_0:Option Addr) (c0_0:Nat) (l0_0:List (List Int)) (A0_1:Option Addr) (c0_1:Nat) (l0_1:List (List Int)) (A0_2:Option Addr) (c0_2:Nat) (l0_2:List Int) (A1:Option Addr) (c1:Nat) (l1:List Int) (a2:Int) (a3:Int) (r:Bool) (w:World) (hr0_0:Kd.C (Kd.slice 3 (Kd.int .i64)) w A0_0 l0_0.length l0_0) (hc0_0:l0_0.length≤c0_0) (hr0_1:Kd.C (Kd.slice 3 (Kd.int .i64)) w A0_1 l0_1.length l0_1) (hc0_1:l0_1.length≤c0_1) (hr0_2:Kd.C (Kd.int .i64) w A0_2 l0_2.length l0_2) (hc0_2:l0_2.length≤c0_2) (hr1:Kd.C (Kd.int .i64) w A1 l1.length l1) (hc1:l1.length≤c1) (h:spec_l12Would.f k l0_0 l0_1 l0_2 l1 a2 a3=some r):
  Calls Try.prog 61 #[.agg #[.slice A0_0 l0_0.length c0_0,.slice A0_1 l0_1.length c0_1,.slice A0_2 l0_2.length c0_2],.slice A1 l1.length c1,.int .i64 a2,.int .i64 a3] w fun e w'=>e= .returned (.bool r)∧Below w.heap.size w w':=by
 have hu33:=Try.underlying33
 have HR0_0:=Aside0.mk hr0_0
 have HC0_0:=Aside0.mk hc0_0
 clear hr0_0 hc0_0
 have HR0_1:=Aside0.mk hr0_1
 have HC0_1:=Aside0.mk hc0_1
 clear hr0_1 hc0_1
 have HR0_2:=Aside0.mk hr0_2
 have HC0_2:=Aside0.mk hc0_2
 clear hr0_2 hc0_2
 have HR1:=Aside0.mk hr1
 have HC1:=Aside0.mk hc1
 clear hr1 hc1
 have HB:=Aside0.mk (Below.refl w.heap.size w)
 have H:((spec_l12Has.f k l1 a2).bind fun t490=>(if 0≤a2 then(if a2< (l0_2.length:Int) then(if (t490.length:Int)< (rd l0_2 a2) then(some true) else((spec_l12Worst.f k l0_0 l0_1 l0_2 l1 a2).bind fun t494=>(if t494≥0 then(if a2< (l0_1.length:Int) then((spec_l12Place.f k (rd_L1 l0_1 a2) a3).bind fun t496=>((spec_l12Place.f k (rd_L1 l0_1 a2) t494).bind fun t498=>(some (decide (t496<t498))))) else(none)) else(some false)))) else(none)) else(none)))=some r:=h
 clear h
 replace H:=Option.bind_eq_some_iff.mp H
 obtain⟨t490,A50,H⟩:=H
 replace H:(if 0≤a2 then(if a2< (l0_2.length:Int) then(if (t490.length:Int)< (rd l0_2 a2) then(some true) else((spec_l12Worst.f k l0_0 l0_1 l0_2 l1 a2).bind fun t494=>(if t494≥0 then(if a2< (l0_1.length:Int) then((spec_l12Place.f k (rd_L1 l0_1 a2) a3).bind fun t496=>((spec_l12Place.f k (rd_L1 l0_1 a2) t494).bind fun t498=>(some (decide (t496<t498))))) else(none)) else(some false)))) else(none)) else(none))=some r:=H
 have A5:=Aside0.mk A50
 clear A50
 by_cases c6: 0≤a2
 case neg=>exact znn c6 H
 rw [if_pos c6] at H
 have c6b0:decide (0≤a2)=true:=decide_eq_true c6
 clear c6
 by_cases c7:a2< (l0_2.length:Int)
 case neg=>exact znn c7 H
 rw [if_pos c7] at H
 have c7b0:decide (a2< (l0_2.length:Int))=true:=decide_eq_true c7
 clear c7
 by_cases c8:(t490.length:Int)< (rd l0_2 a2)
 ·rw [if_pos c8] at H
  have c8b0:decide ((t490.length:Int)< (rd l0_2 a2))=true:=decide_eq_true c8
  clear c8
  obtain rfl:=Option.some.inj H
  go_enter Try.func61,Try.ntmps61
  try go_wp2_with (first|((with_reducible refine gate_dst (N:=4) rfl ?_);refine box_event ?hg (N:=4) ?hd (cs:= #[.slice A0_0 l0_0.length c0_0,.slice A0_1 l0_1.length c0_1,.slice A0_2 l0_2.length c0_2]) (t:=33) ?hr ?_;(case hd=>rfl);(case hg=>rfl);(case hr=>first|(go_simp;done)|(go_simp;rfl));intro gb489 hg w9 hbox hb;have BK489:=Aside0.mk (hbox);have GW489:=Aside0.mk ((by rw [hg];exact(below_size (by exact zk1 HB)):w.heap.size≤gb489));have GE489:=GW489;replace HB:=Aside0.mk (below_step (by exact zk1 HB) hb);clear hb hbox hg))
  replace BK489:=Aside0.mk (blk_drew BK489.out)
  replace HB:=Aside0.mk (below_drew1 HB.out)
  have p493: 0≤ (a2:Int):=of_decide_eq_true zq1
  have q493:a2< (l0_2.length:Int):=of_decide_eq_true zq1
  obtain⟨ad493,e493,hx493_0⟩:=Kd.at_int HR0_2.out a2 p493 q493
  have hw493_0:=hx493_0
  cases e493
  replace hx493_0:=zhx HB hx493_0
  replace p493:=eq_true p493
  replace q493:=eq_true q493
  refine start_ (n:=10) (S:=fun w'=>w'.cell? ⟨gb489,0,none⟩=some (.slice A0_0 l0_0.length c0_0)∧w'.cell? ⟨gb489,1,none⟩=some (.slice A0_1 l0_1.length c0_1)∧w'.cell? ⟨gb489,2,none⟩=some (.slice (some ad493) l0_2.length c0_2)∧w'.cell? (ad493.add (a2).toNat)=some (.int .i64 (rd l0_2 a2))) (ds:= []) (mb' 10 0) (by kernel_rfl) rfl rfl ⟨(blk_cell BK489.out 0).trans rfl,(blk_cell BK489.out 1).trans rfl,(blk_cell BK489.out 2).trans rfl,((zhx HB hw493_0).trans rfl)⟩ (fun hHeld=>?_);refine with_tabW spec_l12Would.tab1 spec_l12Would.bits1 (fun HT_ HW_=>?_)
  generalize w9.drew=w10 at BK489 HB hx493_0 hHeld ⊢
  refine zp1 HT_ 0 10 (mb' 10 1) rfl ?_
  refine zp1 HT_ 1 11 (mb' 10 3) rfl ?_
  refine zp1 HT_ 4 14 (mb' 10 19) rfl ?_
  refine zp1 HT_ 6 16 (mb' 10 83) rfl ?_
  refine zt1 HT_ HW_ (v:=?_) (a':=?_) 5 15 (mb' 10 115) rfl ?_ hHeld ?_ ?_;rotate_left;(rintro w' ⟨s0,s1,s2,s3⟩;go_simp;with_reducible rfl);rotate_left;exact zpa
  refine zp1 HT_ 7 17 (mb' 10 243) rfl ?_
  refine zt1 HT_ HW_ (v:=?_) (a':=?_) 8 18 (mb' 10 499) rfl ?_ hHeld ?_ ?_;rotate_left;(rintro w' ⟨s0,s1,s2,s3⟩;go_simp;with_reducible rfl);rotate_left;exact zpa
  refine one_ (i:=2) (N:=some 12) (mb' 10 503) rfl rfl (one_of HT_.out (by kernel_rfl)) (by decide) (fun K hK=>?_)
  refine goes_ Try.func55 (by kernel_rfl) rfl #[.slice A1 l1.length c1,.int .i64 a2] (by rfl) rfl rfl zq2 ?_
  with_reducible refine(spec_l12Has.calls k _ _ l1 a2 t490 _ ?side1 ?side2 A5.out).mono ?_
  (case side1=>exact zcc ((Kd.C_below HR1.out HB.out)))
  (case side2=>exact HC1.out)
  rintro e w11 ⟨v491,rfl,ho0,hb⟩
  refine⟨_,rfl,?_⟩
  have HO492:=Aside0.mk (Kd.R_lower ho0 (below_size (by exact zk2 HB GE489.out)))
  replace BK489:=Aside0.mk (blk_below (g:=gb489) (o:= .cells #[.slice A0_0 l0_0.length c0_0,.slice A0_1 l0_1.length c0_1,.slice (some ad493) l0_2.length c0_2] 33 (0,0)) (zq3 BK489) hb)
  replace HB:=Aside0.mk (below_step (by exact zk2 HB GE489.out) hb)
  (try clear hb)
  (try clear hb2)
  (try clear hk)
  (try clear hi)
  (try clear ho0)
  obtain⟨Ao12,co12,eo12⟩:=Kd.R_slice HO492.out
  (first|subst eo12|(injection eo12 with f1_ f2_ f3_;have f4_:=f1_.symm;have f5_:=f3_.symm;clear f1_ f2_ f3_;subst f4_;subst f5_))
  refine hK.out _ _ ⟨(blk_cell BK489.out 0).trans rfl,(blk_cell BK489.out 1).trans rfl,(blk_cell BK489.out 2).trans rfl,((zhx HB hw493_0).trans rfl)⟩ (fun hHeld=>?_)
  clear hK K
  refine norm_ (a':=?_) ?_ ?_
  rotate_left
  ·show Act.put _ (some 12) _=_
   simp only [Act.put,List.setIfInBounds_toArray,List.set_cons_zero,List.set_cons_succ,i64_w,i32_w]
   rfl
  refine zp1 HT_ 3 13 (mb' 10 511) rfl ?_
  refine zp1 HT_ 9 19 (mb' 10 1023) rfl ?_
  refine done_ (done_of HT_.out (by kernel_rfl)) ?_
  try go_wp2
  go_ret
  exact⟨zer,by exact zk2 HB GE489.out⟩
 ·rw [if_neg c8] at H
  have c8b0:decide ((t490.length:Int)< (rd l0_2 a2))=false:=decide_eq_false c8
  clear c8
  replace H:=Option.bind_eq_some_iff.mp H
  obtain⟨t494,A130,H⟩:=H
  replace H:(if t494≥0 then(if a2< (l0_1.length:Int) then((spec_l12Place.f k (rd_L1 l0_1 a2) a3).bind fun t496=>((spec_l12Place.f k (rd_L1 l0_1 a2) t494).bind fun t498=>(some (decide (t496<t498))))) else(none)) else(some false))=some r:=H
  have A13:=Aside0.mk A130
  clear A130
  by_cases c14:t494≥0
  ·rw [if_pos c14] at H
   have c14b0:decide (0≤t494)=true:=decide_eq_true c14
   clear c14
   by_cases c15:a2< (l0_1.length:Int)
   case neg=>exact znn c15 H
   rw [if_pos c15] at H
   have c15b0:decide (a2< (l0_1.length:Int))=true:=decide_eq_true c15
   clear c15
   replace H:=Option.bind_eq_some_iff.mp H
   obtain⟨t496,A160,H⟩:=H
   replace H:((spec_l12Place.f k (rd_L1 l0_1 a2) t494).bind fun t498=>(some (decide (t496<t498))))=some r:=H
   have A16:=Aside0.mk A160
   clear A160
   replace H:=Option.bind_eq_some_iff.mp H
   obtain⟨t498,A170,H⟩:=H
   replace H:(some (decide (t496<t498)))=some r:=H
   have A17:=Aside0.mk A170
   clear A170
   obtain rfl:=Option.some.inj H
   go_enter Try.func61,Try.ntmps61
   try go_wp2_with (first|((with_reducible refine gate_dst (N:=4) rfl ?_);refine box_event ?hg (N:=4) ?hd (cs:= #[.slice A0_0 l0_0.length c0_0,.slice A0_1 l0_1.length c0_1,.slice A0_2 l0_2.length c0_2]) (t:=33) ?hr ?_;(case hd=>rfl);(case hg=>rfl);(case hr=>first|(go_simp;done)|(go_simp;rfl));intro gb489 hg w18 hbox hb;have BK489:=Aside0.mk (hbox);have GW489:=Aside0.mk ((by rw [hg];exact(below_size (by exact zk1 HB)):w.heap.size≤gb489));have GE489:=GW489;replace HB:=Aside0.mk (below_step (by exact zk1 HB) hb);clear hb hbox hg))
   replace BK489:=Aside0.mk (blk_drew BK489.out)
   replace HB:=Aside0.mk (below_drew1 HB.out)
   have p493: 0≤ (a2:Int):=of_decide_eq_true zq1
   have q493:a2< (l0_2.length:Int):=of_decide_eq_true zq1
   obtain⟨ad493,e493,hx493_0⟩:=Kd.at_int HR0_2.out a2 p493 q493
   have hw493_0:=hx493_0
   cases e493
   replace hx493_0:=zhx HB hx493_0
   replace p493:=eq_true p493
   replace q493:=eq_true q493
   refine start_ (n:=10) (S:=fun w'=>w'.cell? ⟨gb489,0,none⟩=some (.slice A0_0 l0_0.length c0_0)∧w'.cell? ⟨gb489,1,none⟩=some (.slice A0_1 l0_1.length c0_1)∧w'.cell? ⟨gb489,2,none⟩=some (.slice (some ad493) l0_2.length c0_2)∧w'.cell? (ad493.add (a2).toNat)=some (.int .i64 (rd l0_2 a2))) (ds:= []) (mb' 10 0) (by kernel_rfl) rfl rfl ⟨(blk_cell BK489.out 0).trans rfl,(blk_cell BK489.out 1).trans rfl,(blk_cell BK489.out 2).trans rfl,((zhx HB hw493_0).trans rfl)⟩ (fun hHeld=>?_);refine with_tabW spec_l12Would.tab1 spec_l12Would.bits1 (fun HT_ HW_=>?_)
   generalize w18.drew=w19 at BK489 HB hx493_0 hHeld ⊢
   refine zp1 HT_ 0 10 (mb' 10 1) rfl ?_
   refine zp1 HT_ 1 11 (mb' 10 3) rfl ?_
   refine zp1 HT_ 4 14 (mb' 10 19) rfl ?_
   refine zp1 HT_ 6 16 (mb' 10 83) rfl ?_
   refine zt1 HT_ HW_ (v:=?_) (a':=?_) 5 15 (mb' 10 115) rfl ?_ hHeld ?_ ?_;rotate_left;(rintro w' ⟨s0,s1,s2,s3⟩;go_simp;with_reducible rfl);rotate_left;exact zpa
   refine zp1 HT_ 7 17 (mb' 10 243) rfl ?_
   refine zt1 HT_ HW_ (v:=?_) (a':=?_) 8 18 (mb' 10 499) rfl ?_ hHeld ?_ ?_;rotate_left;(rintro w' ⟨s0,s1,s2,s3⟩;go_simp;with_reducible rfl);rotate_left;exact zpa
   refine one_ (i:=2) (N:=some 12) (mb' 10 503) rfl rfl (one_of HT_.out (by kernel_rfl)) (by decide) (fun K hK=>?_)
   refine goes_ Try.func55 (by kernel_rfl) rfl #[.slice A1 l1.length c1,.int .i64 a2] (by rfl) rfl rfl zq2 ?_
   with_reducible refine(spec_l12Has.calls k _ _ l1 a2 t490 _ ?side1 ?side2 A5.out).mono ?_
   (case side1=>exact zcc ((Kd.C_below HR1.out HB.out)))
   (case side2=>exact HC1.out)
   rintro e w20 ⟨v491,rfl,ho0,hb⟩
   refine⟨_,rfl,?_⟩
   have HO492:=Aside0.mk (Kd.R_lower ho0 (below_size (by exact zk2 HB GE489.out)))
   replace BK489:=Aside0.mk (blk_below (g:=gb489) (o:= .cells #[.slice A0_0 l0_0.length c0_0,.slice A0_1 l0_1.length c0_1,.slice (some ad493) l0_2.length c0_2] 33 (0,0)) (zq3 BK489) hb)
   replace HB:=Aside0.mk (below_step (by exact zk2 HB GE489.out) hb)
   (try clear hb)
   (try clear hb2)
   (try clear hk)
   (try clear hi)
   (try clear ho0)
   obtain⟨Ao21,co21,eo21⟩:=Kd.R_slice HO492.out
   (first|subst eo21|(injection eo21 with f1_ f2_ f3_;have f4_:=f1_.symm;have f5_:=f3_.symm;clear f1_ f2_ f3_;subst f4_;subst f5_))
   refine hK.out _ _ ⟨(blk_cell BK489.out 0).trans rfl,(blk_cell BK489.out 1).trans rfl,(blk_cell BK489.out 2).trans rfl,((zhx HB hw493_0).trans rfl)⟩ (fun hHeld=>?_)
   clear hK K
   refine norm_ (a':=?_) ?_ ?_
   rotate_left
   ·show Act.put _ (some 12) _=_
    simp only [Act.put,List.setIfInBounds_toArray,List.set_cons_zero,List.set_cons_succ,i64_w,i32_w]
    rfl
   refine zp1 HT_ 3 13 (mb' 10 511) rfl ?_
   refine zp1 HT_ 9 19 (mb' 10 1023) rfl ?_
   refine done_ (done_of HT_.out (by kernel_rfl)) ?_
   have hcz22_0:=zcz BK489 0 (.slice A0_0 l0_0.length c0_0)
   have hcz22_1:=zcz BK489 1 (.slice A0_1 l0_1.length c0_1)
   have hcz22_2:=zcz BK489 2 (.slice (some ad493) l0_2.length c0_2)
   have hfz22_0:=blk_frozen BK489.out 0
   have hfz22_1:=blk_frozen BK489.out 1
   have hfz22_2:=blk_frozen BK489.out 2
   try go_wp2_with (first|((with_reducible refine gate_callee (f:=62) rfl ?_);refine goesL_ (some 23) rfl rfl Try.func62 (by kernel_rfl) rfl #[.agg #[.slice A0_0 l0_0.length c0_0,.slice A0_1 l0_1.length c0_1,.slice (some ad493) l0_2.length c0_2],.slice A1 l1.length c1,.int .i64 a2] rfl zq2 ?_;(with_reducible refine(spec_l12Worst.calls k _ _ l0_0 _ _ l0_1 _ _ l0_2 _ _ l1 a2 t494 _ ?side1 ?side2 ?side3 ?side4 ?side5 ?side6 ?side7 ?side8 A13.out).mono ?_);(case side1=>exact zcc ((Kd.C_below HR0_0.out HB.out)));(case side2=>exact HC0_0.out);(case side3=>exact zcc ((Kd.C_below HR0_1.out HB.out)));(case side4=>exact HC0_1.out);(case side5=>exact zcc ((Kd.C_below HR0_2.out HB.out)));(case side6=>exact HC0_2.out);(case side7=>exact zcc ((Kd.C_below HR1.out HB.out)));(case side8=>exact HC1.out);rintro e w23 ⟨rfl,hb⟩;refine⟨_,rfl,?_⟩;replace HO492:=Aside0.mk (Kd.R_below (zq4 HO492) hb);replace BK489:=Aside0.mk (blk_below (g:=gb489) (o:= .cells #[.slice A0_0 l0_0.length c0_0,.slice A0_1 l0_1.length c0_1,.slice (some ad493) l0_2.length c0_2] 33 (0,0)) (zq3 BK489) hb);replace HB:=Aside0.mk (below_step (by exact zk2 HB GE489.out) hb);(try clear hb);(try clear hb2);(try clear hk);(try clear hi)))
   replace HO492:=Aside0.mk (Kd.R_drew HO492.out)
   replace BK489:=Aside0.mk (blk_drew BK489.out)
   replace HB:=Aside0.mk (below_drew1 HB.out)
   have p495: 0≤ (a2:Int):=of_decide_eq_true zq1
   have q495:a2< (l0_1.length:Int):=of_decide_eq_true zq1
   obtain⟨ad495,A495_0,c495_0,e495,hx495_0,hl495_0,hi495_0⟩:=at_L1 HR0_1.out a2 p495 q495
   have hw495_0:=hx495_0
   cases e495
   replace hx495_0:=zhx HB hx495_0
   have HR495_0:=Aside0.mk hi495_0
   have HC495_0:=Aside0.mk hl495_0
   clear hi495_0 hl495_0
   replace p495:=eq_true p495
   replace q495:=eq_true q495
   have p497: 0≤ (a2:Int):=of_decide_eq_true zq1
   have q497:a2< (l0_1.length:Int):=of_decide_eq_true zq1
   obtain⟨ad497,A497_0,c497_0,e497,hx497_0,hl497_0,hi497_0⟩:=at_L1 HR0_1.out a2 p497 q497
   have hw497_0:=hx497_0
   obtain rfl:ad495=ad497:=(by injection e497)
   replace hx497_0:=zhx HB hx497_0
   have HR497_0:=Aside0.mk hi497_0
   have HC497_0:=Aside0.mk hl497_0
   clear hi497_0 hl497_0
   replace p497:=eq_true p497
   replace q497:=eq_true q497
   have ea_:=Option.some.inj (hx495_0.symm.trans hx497_0)
   injection ea_ with ea_ en_ ec_
   subst ea_
   subst ec_
   clear en_
   refine start_ (n:=20) (S:=fun w'=>w'.cell? ⟨gb489,0,none⟩=some (.slice A0_0 l0_0.length c0_0)∧w'.cell? ⟨gb489,1,none⟩=some (.slice (some ad495) l0_1.length c0_1)∧w'.cell? ⟨gb489,2,none⟩=some (.slice (some ad493) l0_2.length c0_2)∧w'.cell? (ad495.add (a2).toNat)=some (.slice A495_0 (rd_L1 l0_1 a2).length c495_0)∧w'.cell? (ad495.add (a2).toNat)=some (.slice A495_0 (rd_L1 l0_1 a2).length c495_0)) (ds:= []) (mb' 20 0) (by kernel_rfl) rfl rfl ⟨(blk_cell BK489.out 0).trans rfl,(blk_cell BK489.out 1).trans rfl,(blk_cell BK489.out 2).trans rfl,((zhx HB hw495_0).trans rfl),((zhx HB hw497_0).trans rfl)⟩ (fun hHeld=>?_);refine with_tabW spec_l12Would.tab4 spec_l12Would.bits4 (fun HT_ HW_=>?_)
   generalize w23.drew=w24 at HO492 BK489 HB HR495_0 HR497_0 hx495_0 hx497_0 hHeld ⊢
   refine zp1 HT_ 0 24 (mb' 20 1) rfl ?_
   refine zp1 HT_ 1 25 (mb' 20 3) rfl ?_
   refine zp1 HT_ 2 26 (mb' 20 7) rfl ?_
   refine zp1 HT_ 3 27 (mb' 20 15) rfl ?_
   refine zp1 HT_ 5 29 (mb' 20 47) rfl ?_
   refine zp1 HT_ 8 32 (mb' 20 303) rfl ?_
   refine zp1 HT_ 10 34 (mb' 20 1327) rfl ?_
   refine zp1 HT_ 12 36 (mb' 20 5423) rfl ?_
   refine zp1 HT_ 15 39 (mb' 20 38191) rfl ?_
   refine zt1 HT_ HW_ (v:=?_) (a':=?_) 4 28 (mb' 20 38207) rfl ?_ hHeld ?_ ?_;rotate_left;(rintro w' ⟨s0,s1,s2,s3,s4⟩;go_simp;with_reducible rfl);rotate_left;exact zpa
   refine zp1 HT_ 6 30 (mb' 20 38271) rfl ?_
   refine zt1 HT_ HW_ (v:=?_) (a':=?_) 7 31 (mb' 20 38399) rfl ?_ hHeld ?_ ?_;rotate_left;(rintro w' ⟨s0,s1,s2,s3,s4⟩;go_simp;with_reducible rfl);rotate_left;exact zpa
   refine zt1 HT_ HW_ (v:=?_) (a':=?_) 11 35 (mb' 20 40447) rfl ?_ hHeld ?_ ?_;rotate_left;(rintro w' ⟨s0,s1,s2,s3,s4⟩;go_simp;with_reducible rfl);rotate_left;exact zpa
   refine zp1 HT_ 13 37 (mb' 20 48639) rfl ?_
   refine zt1 HT_ HW_ (v:=?_) (a':=?_) 14 38 (mb' 20 65023) rfl ?_ hHeld ?_ ?_;rotate_left;(rintro w' ⟨s0,s1,s2,s3,s4⟩;go_simp;with_reducible rfl);rotate_left;exact zpa
   refine one_ (i:=9) (N:=some 33) (mb' 20 65535) rfl rfl (one_of HT_.out (by kernel_rfl)) (by decide) (fun K hK=>?_)
   refine goes_ Try.func44 (by kernel_rfl) rfl #[.slice A495_0 (rd_L1 l0_1 a2).length c495_0,.int .i64 a3] (by rfl) rfl rfl zq2 ?_
   with_reducible refine(spec_l12Place.calls k _ _ (rd_L1 l0_1 a2) a3 t496 _ ?side1 ?side2 A16.out).mono ?_
   (case side1=>exact zcc ((Kd.C_below HR495_0.out HB.out)))
   (case side2=>exact HC495_0.out)
   rintro e w' ⟨rfl,⟨nd,rfl⟩⟩
   refine⟨_,rfl,?_⟩
   refine hK.out _ _ ⟨(blk_cell BK489.out 0).trans rfl,(blk_cell BK489.out 1).trans rfl,(blk_cell BK489.out 2).trans rfl,((zhx HB hw495_0).trans rfl),((zhx HB hw497_0).trans rfl)⟩ (fun hHeld=>?_)
   clear hK K
   refine norm_ (a':=?_) ?_ ?_
   rotate_left
   ·show Act.put _ (some 33) _=_
    simp only [Act.put,List.setIfInBounds_toArray,List.set_cons_zero,List.set_cons_succ,i64_w,i32_w]
    rfl
   refine one_ (i:=16) (N:=some 40) (mb' 20 131071) rfl rfl (one_of HT_.out (by kernel_rfl)) (by decide) (fun K hK=>?_)
   refine goes_ Try.func44 (by kernel_rfl) rfl #[.slice A495_0 (rd_L1 l0_1 a2).length c495_0,.int .i64 t494] (by rfl) rfl rfl zq2 ?_
   with_reducible refine(spec_l12Place.calls k _ _ (rd_L1 l0_1 a2) t494 t498 _ ?side1 ?side2 A17.out).mono ?_
   (case side1=>repeat(first|exact(Kd.C_below HR497_0.out (by exact zk2 HB GE489.out))|(with_reducible refine Kd.C_alloc ?_ _)|(with_reducible refine Kd.C_drewN ?_ _)|(with_reducible refine Kd.C_drew ?_)))
   (case side2=>exact HC497_0.out)
   rintro e w' ⟨rfl,⟨nd,rfl⟩⟩
   refine⟨_,rfl,?_⟩
   refine hK.out _ _ ⟨(blk_cell BK489.out 0).trans rfl,(blk_cell BK489.out 1).trans rfl,(blk_cell BK489.out 2).trans rfl,((zhx HB hw495_0).trans rfl),((zhx HB hw497_0).trans rfl)⟩ (fun hHeld=>?_)
   clear hK K
   refine norm_ (a':=?_) ?_ ?_
   rotate_left
   ·show Act.put _ (some 40) _=_
    simp only [Act.put,List.setIfInBounds_toArray,List.set_cons_zero,List.set_cons_succ,i64_w,i32_w]
    rfl
   refine zp1 HT_ 17 41 (mb' 20 262143) rfl ?_
   refine zp1 HT_ 18 42 (mb' 20 524287) rfl ?_
   refine zp1 HT_ 19 8 (mb' 20 1048575) rfl ?_
   refine done_ (done_of HT_.out (by kernel_rfl)) ?_
   try go_wp2
   go_ret
   exact⟨zer,by exact zk2 HB GE489.out⟩
  ·rw [if_neg c14] at H
   have c14b0:decide (0≤t494)=false:=decide_eq_false c14
   clear c14
   obtain rfl:=Option.some.inj H
   go_enter Try.func61,Try.ntmps61
   try go_wp2_with (first|((with_reducible refine gate_dst (N:=4) rfl ?_);refine box_event ?hg (N:=4) ?hd (cs:= #[.slice A0_0 l0_0.length c0_0,.slice A0_1 l0_1.length c0_1,.slice A0_2 l0_2.length c0_2]) (t:=33) ?hr ?_;(case hd=>rfl);(case hg=>rfl);(case hr=>first|(go_simp;done)|(go_simp;rfl));intro gb489 hg w25 hbox hb;have BK489:=Aside0.mk (hbox);have GW489:=Aside0.mk ((by rw [hg];exact(below_size (by exact zk1 HB)):w.heap.size≤gb489));have GE489:=GW489;replace HB:=Aside0.mk (below_step (by exact zk1 HB) hb);clear hb hbox hg))
   replace BK489:=Aside0.mk (blk_drew BK489.out)
   replace HB:=Aside0.mk (below_drew1 HB.out)
   have p493: 0≤ (a2:Int):=of_decide_eq_true zq1
   have q493:a2< (l0_2.length:Int):=of_decide_eq_true zq1
   obtain⟨ad493,e493,hx493_0⟩:=Kd.at_int HR0_2.out a2 p493 q493
   have hw493_0:=hx493_0
   cases e493
   replace hx493_0:=zhx HB hx493_0
   replace p493:=eq_true p493
   replace q493:=eq_true q493
   refine start_ (n:=10) (S:=fun w'=>w'.cell? ⟨gb489,0,none⟩=some (.slice A0_0 l0_0.length c0_0)∧w'.cell? ⟨gb489,1,none⟩=some (.slice A0_1 l0_1.length c0_1)∧w'.cell? ⟨gb489,2,none⟩=some (.slice (some ad493) l0_2.length c0_2)∧w'.cell? (ad493.add (a2).toNat)=some (.int .i64 (rd l0_2 a2))) (ds:= []) (mb' 10 0) (by kernel_rfl) rfl rfl ⟨(blk_cell BK489.out 0).trans rfl,(blk_cell BK489.out 1).trans rfl,(blk_cell BK489.out 2).trans rfl,((zhx HB hw493_0).trans rfl)⟩ (fun hHeld=>?_);refine with_tabW spec_l12Would.tab1 spec_l12Would.bits1 (fun HT_ HW_=>?_)
   generalize w25.drew=w26 at BK489 HB hx493_0 hHeld ⊢
   refine zp1 HT_ 0 10 (mb' 10 1) rfl ?_
   refine zp1 HT_ 1 11 (mb' 10 3) rfl ?_
   refine zp1 HT_ 4 14 (mb' 10 19) rfl ?_
   refine zp1 HT_ 6 16 (mb' 10 83) rfl ?_
   refine zt1 HT_ HW_ (v:=?_) (a':=?_) 5 15 (mb' 10 115) rfl ?_ hHeld ?_ ?_;rotate_left;(rintro w' ⟨s0,s1,s2,s3⟩;go_simp;with_reducible rfl);rotate_left;exact zpa
   refine zp1 HT_ 7 17 (mb' 10 243) rfl ?_
   refine zt1 HT_ HW_ (v:=?_) (a':=?_) 8 18 (mb' 10 499) rfl ?_ hHeld ?_ ?_;rotate_left;(rintro w' ⟨s0,s1,s2,s3⟩;go_simp;with_reducible rfl);rotate_left;exact zpa
   refine one_ (i:=2) (N:=some 12) (mb' 10 503) rfl rfl (one_of HT_.out (by kernel_rfl)) (by decide) (fun K hK=>?_)
   refine goes_ Try.func55 (by kernel_rfl) rfl #[.slice A1 l1.length c1,.int .i64 a2] (by rfl) rfl rfl zq2 ?_
   with_reducible refine(spec_l12Has.calls k _ _ l1 a2 t490 _ ?side1 ?side2 A5.out).mono ?_
   (case side1=>exact zcc ((Kd.C_below HR1.out HB.out)))
   (case side2=>exact HC1.out)
   rintro e w27 ⟨v491,rfl,ho0,hb⟩
   refine⟨_,rfl,?_⟩
   have HO492:=Aside0.mk (Kd.R_lower ho0 (below_size (by exact zk2 HB GE489.out)))
   replace BK489:=Aside0.mk (blk_below (g:=gb489) (o:= .cells #[.slice A0_0 l0_0.length c0_0,.slice A0_1 l0_1.length c0_1,.slice (some ad493) l0_2.length c0_2] 33 (0,0)) (zq3 BK489) hb)
   replace HB:=Aside0.mk (below_step (by exact zk2 HB GE489.out) hb)
   (try clear hb)
   (try clear hb2)
   (try clear hk)
   (try clear hi)
   (try clear ho0)
   obtain⟨Ao28,co28,eo28⟩:=Kd.R_slice HO492.out
   (first|subst eo28|(injection eo28 with f1_ f2_ f3_;have f4_:=f1_.symm;have f5_:=f3_.symm;clear f1_ f2_ f3_;subst f4_;subst f5_))
   refine hK.out _ _ ⟨(blk_cell BK489.out 0).trans rfl,(blk_cell BK489.out 1).trans rfl,(blk_cell BK489.out 2).trans rfl,((zhx HB hw493_0).trans rfl)⟩ (fun hHeld=>?_)
   clear hK K
   refine norm_ (a':=?_) ?_ ?_
   rotate_left
   ·show Act.put _ (some 12) _=_
    simp only [Act.put,List.setIfInBounds_toArray,List.set_cons_zero,List.set_cons_succ,i64_w,i32_w]
    rfl
   refine zp1 HT_ 3 13 (mb' 10 511) rfl ?_
   refine zp1 HT_ 9 19 (mb' 10 1023) rfl ?_
   refine done_ (done_of HT_.out (by kernel_rfl)) ?_
   have hcz29_0:=zcz BK489 0 (.slice A0_0 l0_0.length c0_0)
   have hcz29_1:=zcz BK489 1 (.slice A0_1 l0_1.length c0_1)
   have hcz29_2:=zcz BK489 2 (.slice (some ad493) l0_2.length c0_2)
   have hfz29_0:=blk_frozen BK489.out 0
   have hfz29_1:=blk_frozen BK489.out 1
   have hfz29_2:=blk_frozen BK489.out 2
   try go_wp2_with (first|((with_reducible refine gate_callee (f:=62) rfl ?_);refine goesL_ (some 23) rfl rfl Try.func62 (by kernel_rfl) rfl #[.agg #[.slice A0_0 l0_0.length c0_0,.slice A0_1 l0_1.length c0_1,.slice (some ad493) l0_2.length c0_2],.slice A1 l1.length c1,.int .i64 a2] rfl zq2 ?_;(with_reducible refine(spec_l12Worst.calls k _ _ l0_0 _ _ l0_1 _ _ l0_2 _ _ l1 a2 t494 _ ?side1 ?side2 ?side3 ?side4 ?side5 ?side6 ?side7 ?side8 A13.out).mono ?_);(case side1=>exact zcc ((Kd.C_below HR0_0.out HB.out)));(case side2=>exact HC0_0.out);(case side3=>exact zcc ((Kd.C_below HR0_1.out HB.out)));(case side4=>exact HC0_1.out);(case side5=>exact zcc ((Kd.C_below HR0_2.out HB.out)));(case side6=>exact HC0_2.out);(case side7=>exact zcc ((Kd.C_below HR1.out HB.out)));(case side8=>exact HC1.out);rintro e w30 ⟨rfl,hb⟩;refine⟨_,rfl,?_⟩;replace HO492:=Aside0.mk (Kd.R_below (zq4 HO492) hb);replace BK489:=Aside0.mk (blk_below (g:=gb489) (o:= .cells #[.slice A0_0 l0_0.length c0_0,.slice A0_1 l0_1.length c0_1,.slice (some ad493) l0_2.length c0_2] 33 (0,0)) (zq3 BK489) hb);replace HB:=Aside0.mk (below_step (by exact zk2 HB GE489.out) hb);(try clear hb);(try clear hb2);(try clear hk);(try clear hi)))
   replace HO492:=Aside0.mk (Kd.R_drew HO492.out)
   replace BK489:=Aside0.mk (blk_drew BK489.out)
   replace HB:=Aside0.mk (below_drew1 HB.out)
   refine start_ (n:=20) (S:=fun w'=>True) (ds:= []) (mb' 20 0) (by kernel_rfl) rfl rfl trivial (fun hHeld=>?_);refine with_tabW spec_l12Would.tab4 spec_l12Would.bits4 (fun HT_ HW_=>?_)
   generalize w30.drew=w31 at HO492 BK489 HB hHeld ⊢
   refine zp1 HT_ 0 24 (mb' 20 1) rfl ?_
   refine zp1 HT_ 1 25 (mb' 20 3) rfl ?_
   refine zp1 HT_ 2 26 (mb' 20 7) rfl ?_
   refine zp2 HT_ 3 27 (mb' 20 15) rfl ?_
   refine zp2 HT_ 4 28 (mb' 20 31) rfl ?_
   refine zp2 HT_ 5 29 (mb' 20 63) rfl ?_
   refine zp2 HT_ 6 30 (mb' 20 127) rfl ?_
   refine zp2 HT_ 7 31 (mb' 20 255) rfl ?_
   refine zp2 HT_ 8 32 (mb' 20 511) rfl ?_
   refine zp2 HT_ 9 33 (mb' 20 1023) rfl ?_
   refine zp2 HT_ 10 34 (mb' 20 2047) rfl ?_
   refine zp2 HT_ 11 35 (mb' 20 4095) rfl ?_
   refine zp2 HT_ 12 36 (mb' 20 8191) rfl ?_
   refine zp2 HT_ 13 37 (mb' 20 16383) rfl ?_
   refine zp2 HT_ 14 38 (mb' 20 32767) rfl ?_
   refine zp2 HT_ 15 39 (mb' 20 65535) rfl ?_
   refine zp2 HT_ 16 40 (mb' 20 131071) rfl ?_
   refine zp2 HT_ 17 41 (mb' 20 262143) rfl ?_
   refine zp1 HT_ 18 42 (mb' 20 524287) rfl ?_
   refine zp1 HT_ 19 8 (mb' 20 1048575) rfl ?_
   refine done_ (done_of HT_.out (by kernel_rfl)) ?_
   try go_wp2
   go_ret
   exact⟨zer,by exact zk2 HB GE489.out⟩
mutual
def spec_l12Block.l0:Nat→List Int→Int→Int→List (List Int)→List (List Int)→List Int→Option (Int × Int)
 | 0,_,_,_,_,_,_=>none
 |k+1,x1,x10,x11,x500000,x500001,x500002=>if x11<x10 then(spec_l12Block.l1 k x1 x11 x10 x11 (x500001.length:Int) 0 x500000 x500001 x500002) else(some ((-1),(-1)))
def spec_l12Block.l1:Nat→List Int→Int→Int→Int→Int→Int→List (List Int)→List (List Int)→List Int→Option (Int × Int)
 | 0,_,_,_,_,_,_,_,_,_=>none
 |k+1,x1,x6,x10,x11,x16,x17,x500000,x500001,x500002=>if x17<x16 then(if 0≤x6 then(if x6< (x500000.length:Int) then((spec_l12Place.f k (rd_L1 x500000 x6) x17).bind fun t501=>(if x6< (x1.length:Int) then((spec_l12Place.f k (rd_L1 x500000 x6) (rd x1 x6)).bind fun t504=>(if t501<t504 then((spec_l12Would.f k x500000 x500001 x500002 x1 x17 x6).bind fun t505=>(if t505=true then(some (x6,x17)) else(spec_l12Block.l1 k x1 x6 x10 x11 x16 (wrap64 (x17+1)) x500000 x500001 x500002))) else(spec_l12Block.l1 k x1 x6 x10 x11 x16 (wrap64 (x17+1)) x500000 x500001 x500002))) else(none))) else(none)) else(none)) else(spec_l12Block.l0 k x1 x10 (wrap64 (x11+1)) x500000 x500001 x500002)
end
def spec_l12Block.f (k:Nat) (l0_0:List (List Int)) (l0_1:List (List Int)) (l0_2:List Int) (l1:List Int):Option (Int × Int):=spec_l12Block.l0 k l1 (l0_0.length:Int) 0 l0_0 l0_1 l0_2
def spec_l12Block.T7:Bool × List (List Nat × List Nat):=(true,[([],[]),([0],[0]),([],[]),([1,2],[1,2]),([3],[3]),([],[]),([4,5],[4,5]),([],[]),([7],[7]),([],[]),([8,9],[8,9]),([10],[10]),([],[]),([],[]),([12,13],[12,13]),([14],[14]),([11,15,6],[11,15]),([6,16],[6,16]),([17,16],[17]),([18],[18]),([18],[18]),([18],[18]),([18],[18]),([19,20,21,22,18,18],[18,19,20,21,22]),([18,23],[18,23])])
def spec_l12Block.B7:List Nat:= [0,1,0,7,15,0,63,0,128,0,896,1920,0,0,12288,28672,65535,131071,262143,524287,524287,524287,524287,8388607,16777215]
theorem spec_l12Block.tab7:rtab .any (opsOf Try.f59 7)=spec_l12Block.T7:=by kernel_rfl
theorem spec_l12Block.bits7:waitsOk spec_l12Block.T7.2 spec_l12Block.B7=true:=by kernel_rfl
set_option maxHeartbeats 8000000 in
set_option maxRecDepth 100000 in
theorem spec_l12Block.calls (k:Nat) (A0_0:Option Addr) (c0_0:Nat) (l0_0:List (List Int)) (A0_1:Option Addr) (c0_1:Nat) (l0_1:List (List Int)) (A0_2:Option Addr) (c0_2:Nat) (l0_2:List Int) (A1:Option Addr) (c1:Nat) (l1:List Int) (r1:Int) (r2:Int) (w:World) (hr0_0:Kd.C (Kd.slice 3 (Kd.int .i64)) w A0_0 l0_0.length l0_0) (hc0_0:l0_0.length≤c0_0) (hr0_1:Kd.C (Kd.slice 3 (Kd.int .i64)) w A0_1 l0_1.length l0_1) (hc0_1:l0_1.length≤c0_1) (hr0_2:Kd.C (Kd.int .i64) w A0_2 l0_2.length l0_2) (hc0_2:l0_2.length≤c0_2) (hr1:Kd.C (Kd.int .i64) w A1 l1.length l1) (hc1:l1.length≤c1) (h:spec_l12Block.f k l0_0 l0_1 l0_2 l1=some (r1,r2)):
  Calls Try.prog 59 #[.agg #[.slice A0_0 l0_0.length c0_0,.slice A0_1 l0_1.length c0_1,.slice A0_2 l0_2.length c0_2],.slice A1 l1.length c1] w fun e w'=>e= .returned (.tuple #[.int .i64 r1,.int .i64 r2])∧Below w.heap.size w w':=by
 have hu33:=Try.underlying33
 have HR0_0:=Aside0.mk hr0_0
 have HC0_0:=Aside0.mk hc0_0
 clear hr0_0 hc0_0
 have HR0_1:=Aside0.mk hr0_1
 have HC0_1:=Aside0.mk hc0_1
 clear hr0_1 hc0_1
 have HR0_2:=Aside0.mk hr0_2
 have HC0_2:=Aside0.mk hc0_2
 clear hr0_2 hc0_2
 have HR1:=Aside0.mk hr1
 have HC1:=Aside0.mk hc1
 clear hr1 hc1
 have HB:=Aside0.mk (Below.refl w.heap.size w)
 have H:(spec_l12Block.l0 k l1 (l0_0.length:Int) 0 l0_0 l0_1 l0_2)=some (r1,r2):=h
 clear h
 have H':=Aside0.mk H
 clear H
 go_enter Try.func59,Try.ntmps59
 go_wp2_with (first|((with_reducible refine gate_dst (N:=2) rfl ?_);refine box_event ?hg (N:=2) ?hd (cs:= #[.slice A0_0 l0_0.length c0_0,.slice A0_1 l0_1.length c0_1,.slice A0_2 l0_2.length c0_2]) (t:=33) ?hr ?_;(case hd=>rfl);(case hg=>rfl);(case hr=>first|(go_simp;done)|(go_simp;rfl));intro gb499 hg w3 hbox hb;have BK499:=Aside0.mk (hbox);have GW499:=Aside0.mk ((by rw [hg];exact(below_size (by exact zk1 HB)):w.heap.size≤gb499));have GE499:=GW499;replace HB:=Aside0.mk (below_step (by exact zk1 HB) hb);clear hb hbox hg;have hcz4_0:=zcz BK499 0 (.slice A0_0 l0_0.length c0_0);have hcz4_1:=zcz BK499 1 (.slice A0_1 l0_1.length c0_1);have hcz4_2:=zcz BK499 2 (.slice A0_2 l0_2.length c0_2);have hfz4_0:=blk_frozen BK499.out 0;have hfz4_1:=blk_frozen BK499.out 1;have hfz4_2:=blk_frozen BK499.out 2))
 go_loopg [11] k (fun kq v11 w'=> ∃ (x11_1:Int),v11= .int .i64 x11_1∧Aside0 (spec_l12Block.l0 kq l1 (l0_0.length:Int) x11_1 l0_0 l0_1 l0_2=some (r1,r2))∧Aside0 (kq≤k)∧Aside0 (w'.heap[gb499]?=some (.cells #[(.slice A0_0 l0_0.length c0_0),(.slice A0_1 l0_1.length c0_1),(.slice A0_2 l0_2.length c0_2)] 33 (0,0)))∧Aside0 (Below w.heap.size w w'))
 case atStart=>exact⟨(0),zrs,H',⟨Nat.le_refl _⟩,⟨by(with_reducible repeat(first|refine blk_drewN ?_ _|refine blk_drew ?_ |refine blk_alloc ?_ _));exact BK499.out⟩,⟨by exact zk2 HB GE499.out⟩⟩
 case round=>
  clear H'
  try clear c1
  try clear p2
  try clear hcz4_0
  try clear hcz4_1
  try clear hcz4_2
  try clear hfz4_0
  try clear hfz4_1
  try clear hfz4_2
  obtain⟨x11_1,rfl,HA,HK1,BK499,HB⟩:=hrel
  cases gk with
  |zero=>exact absurd HA.out (by simp [spec_l12Block.l0])
  |succ k1=>
   have H:=HA.out
   clear HA
   simp only [spec_l12Block.l0] at H
   by_cases c5:x11_1< (l0_0.length:Int)
   ·rw [if_pos c5] at H
    have c5b0:decide (x11_1< (l0_0.length:Int))=true:=decide_eq_true c5
    clear c5
    have H':=Aside0.mk H
    clear H
    have hcz6_0:wr.cell? ⟨gb499,0,none⟩=some (.slice A0_0 l0_0.length c0_0):=(blk_cell BK499.out 0).trans rfl
    have hcz6_1:wr.cell? ⟨gb499,1,none⟩=some (.slice A0_1 l0_1.length c0_1):=(blk_cell BK499.out 1).trans rfl
    have hcz6_2:wr.cell? ⟨gb499,2,none⟩=some (.slice A0_2 l0_2.length c0_2):=(blk_cell BK499.out 2).trans rfl
    have hfz6_0:=blk_frozen BK499.out 0
    have hfz6_1:=blk_frozen BK499.out 1
    have hfz6_2:=blk_frozen BK499.out 2
    go_wp2
    go_loopg [17] k1 (fun kq v17 w'=> ∃ (x17_2:Int),v17= .int .i64 x17_2∧Aside0 (spec_l12Block.l1 kq l1 x11_1 (l0_0.length:Int) x11_1 (l0_1.length:Int) x17_2 l0_0 l0_1 l0_2=some (r1,r2))∧Aside0 (kq≤k1)∧Aside0 (w'.heap[gb499]?=some (.cells #[(.slice A0_0 l0_0.length c0_0),(.slice A0_1 l0_1.length c0_1),(.slice A0_2 l0_2.length c0_2)] 33 (0,0)))∧Aside0 (Below w.heap.size w w'))
    case atStart=>exact⟨(0),zrs,H',⟨Nat.le_refl _⟩,⟨by(with_reducible repeat(first|refine blk_drewN ?_ _|refine blk_drew ?_ |refine blk_alloc ?_ _));exact BK499.out⟩,⟨by exact zk2 HB GE499.out⟩⟩
    case round=>
     clear H'
     try clear c1
     try clear p2
     try clear c5
     try clear c5b0
     try clear hcz4_0
     try clear hcz4_1
     try clear hcz4_2
     try clear hcz6_0
     try clear hcz6_1
     try clear hcz6_2
     try clear hfz4_0
     try clear hfz4_1
     try clear hfz4_2
     try clear hfz6_0
     try clear hfz6_1
     try clear hfz6_2
     try clear p2
     obtain⟨x17_2,rfl,HA,HK2,BK499,HB⟩:=hrel
     cases gk with
     |zero=>exact absurd HA.out (by simp [spec_l12Block.l1])
     |succ k2=>
      have H:=HA.out
      clear HA
      simp only [spec_l12Block.l1] at H
      by_cases c7:x17_2< (l0_1.length:Int)
      ·rw [if_pos c7] at H
       have c7b0:decide (x17_2< (l0_1.length:Int))=true:=decide_eq_true c7
       clear c7
       by_cases c8: 0≤x11_1
       case neg=>exact znn c8 H
       rw [if_pos c8] at H
       have c8b0:decide (0≤x11_1)=true:=decide_eq_true c8
       clear c8
       by_cases c9:x11_1< (l0_0.length:Int)
       case neg=>exact znn c9 H
       rw [if_pos c9] at H
       have c9b0:decide (x11_1< (l0_0.length:Int))=true:=decide_eq_true c9
       clear c9
       replace H:=Option.bind_eq_some_iff.mp H
       obtain⟨t501,A100,H⟩:=H
       replace H:(if x11_1< (l1.length:Int) then((spec_l12Place.f k2 (rd_L1 l0_0 x11_1) (rd l1 x11_1)).bind fun t504=>(if t501<t504 then((spec_l12Would.f k2 l0_0 l0_1 l0_2 l1 x17_2 x11_1).bind fun t505=>(if t505=true then(some (x11_1,x17_2)) else(spec_l12Block.l1 k2 l1 x11_1 (l0_0.length:Int) x11_1 (l0_1.length:Int) (wrap64 (x17_2+1)) l0_0 l0_1 l0_2))) else(spec_l12Block.l1 k2 l1 x11_1 (l0_0.length:Int) x11_1 (l0_1.length:Int) (wrap64 (x17_2+1)) l0_0 l0_1 l0_2))) else(none))=some (r1,r2):=H
       have A10:=Aside0.mk A100
       clear A100
       by_cases c11:x11_1< (l1.length:Int)
       case neg=>exact znn c11 H
       rw [if_pos c11] at H
       have c11b0:decide (x11_1< (l1.length:Int))=true:=decide_eq_true c11
       clear c11
       replace H:=Option.bind_eq_some_iff.mp H
       obtain⟨t504,A120,H⟩:=H
       replace H:(if t501<t504 then((spec_l12Would.f k2 l0_0 l0_1 l0_2 l1 x17_2 x11_1).bind fun t505=>(if t505=true then(some (x11_1,x17_2)) else(spec_l12Block.l1 k2 l1 x11_1 (l0_0.length:Int) x11_1 (l0_1.length:Int) (wrap64 (x17_2+1)) l0_0 l0_1 l0_2))) else(spec_l12Block.l1 k2 l1 x11_1 (l0_0.length:Int) x11_1 (l0_1.length:Int) (wrap64 (x17_2+1)) l0_0 l0_1 l0_2))=some (r1,r2):=H
       have A12:=Aside0.mk A120
       clear A120
       by_cases c13:t501<t504
       ·rw [if_pos c13] at H
        have c13b0:decide (t501<t504)=true:=decide_eq_true c13
        clear c13
        replace H:=Option.bind_eq_some_iff.mp H
        obtain⟨t505,A140,H⟩:=H
        replace H:(if t505=true then(some (x11_1,x17_2)) else(spec_l12Block.l1 k2 l1 x11_1 (l0_0.length:Int) x11_1 (l0_1.length:Int) (wrap64 (x17_2+1)) l0_0 l0_1 l0_2))=some (r1,r2):=H
        have A14:=Aside0.mk A140
        clear A140
        by_cases c15:t505=true
        ·subst c15
         have H1:(some (x11_1,x17_2))=some (r1,r2):=by rw [if_pos rfl] at H;exact H
         clear H
         have H:=H1
         clear H1
         simp only [Option.some.injEq,Prod.mk.injEq] at H
         obtain⟨rfl,rfl⟩:=H
         try go_wp2
         replace BK499:=Aside0.mk (blk_drew BK499.out)
         replace HB:=Aside0.mk (below_drew1 HB.out)
         have p500: 0≤ (x11_1:Int):=of_decide_eq_true zq1
         have q500:x11_1< (l0_0.length:Int):=of_decide_eq_true zq1
         obtain⟨ad500,A500_0,c500_0,e500,hx500_0,hl500_0,hi500_0⟩:=at_L1 HR0_0.out x11_1 p500 q500
         have hw500_0:=hx500_0
         cases e500
         replace hx500_0:=zhx HB hx500_0
         have HR500_0:=Aside0.mk hi500_0
         have HC500_0:=Aside0.mk hl500_0
         clear hi500_0 hl500_0
         replace p500:=eq_true p500
         replace q500:=eq_true q500
         have p502: 0≤ (x11_1:Int):=of_decide_eq_true zq1
         have q502:x11_1< (l0_0.length:Int):=of_decide_eq_true zq1
         obtain⟨ad502,A502_0,c502_0,e502,hx502_0,hl502_0,hi502_0⟩:=at_L1 HR0_0.out x11_1 p502 q502
         have hw502_0:=hx502_0
         obtain rfl:ad500=ad502:=(by injection e502)
         replace hx502_0:=zhx HB hx502_0
         have HR502_0:=Aside0.mk hi502_0
         have HC502_0:=Aside0.mk hl502_0
         clear hi502_0 hl502_0
         replace p502:=eq_true p502
         replace q502:=eq_true q502
         have ea_:=Option.some.inj (hx500_0.symm.trans hx502_0)
         injection ea_ with ea_ en_ ec_
         subst ea_
         subst ec_
         clear en_
         have p503: 0≤ (x11_1:Int):=of_decide_eq_true zq1
         have q503:x11_1< (l1.length:Int):=of_decide_eq_true zq1
         obtain⟨ad503,e503,hx503_0⟩:=Kd.at_int HR1.out x11_1 p503 q503
         have hw503_0:=hx503_0
         cases e503
         replace hx503_0:=zhx HB hx503_0
         replace p503:=eq_true p503
         replace q503:=eq_true q503
         refine start_ (n:=25) (S:=fun w'=>w'.cell? ⟨gb499,0,none⟩=some (.slice (some ad500) l0_0.length c0_0)∧w'.cell? ⟨gb499,1,none⟩=some (.slice A0_1 l0_1.length c0_1)∧w'.cell? ⟨gb499,2,none⟩=some (.slice A0_2 l0_2.length c0_2)∧w'.cell? (ad500.add (x11_1).toNat)=some (.slice A500_0 (rd_L1 l0_0 x11_1).length c500_0)∧w'.cell? (ad500.add (x11_1).toNat)=some (.slice A500_0 (rd_L1 l0_0 x11_1).length c500_0)∧w'.cell? (ad503.add (x11_1).toNat)=some (.int .i64 (rd l1 x11_1))) (ds:= []) (mb' 25 0) (by kernel_rfl) rfl rfl ⟨(blk_cell BK499.out 0).trans rfl,(blk_cell BK499.out 1).trans rfl,(blk_cell BK499.out 2).trans rfl,((zhx HB hw500_0).trans rfl),((zhx HB hw502_0).trans rfl),((zhx HB hw503_0).trans rfl)⟩ (fun hHeld=>?_);refine with_tabW spec_l12Block.tab7 spec_l12Block.bits7 (fun HT_ HW_=>?_)
         generalize wr.drew=w16 at BK499 HB HR500_0 HR502_0 hx500_0 hx502_0 hx503_0 hHeld ⊢
         refine zp1 HT_ 0 20 (mb' 25 1) rfl ?_
         refine zp1 HT_ 2 22 (mb' 25 5) rfl ?_
         refine zp1 HT_ 5 25 (mb' 25 37) rfl ?_
         refine zp1 HT_ 7 27 (mb' 25 165) rfl ?_
         refine zp1 HT_ 9 29 (mb' 25 677) rfl ?_
         refine zp1 HT_ 12 32 (mb' 25 4773) rfl ?_
         refine zp1 HT_ 13 33 (mb' 25 12965) rfl ?_
         refine zp1 HT_ 14 34 (mb' 25 29349) rfl ?_
         refine zt1 HT_ HW_ (v:=?_) (a':=?_) 1 21 (mb' 25 29351) rfl ?_ hHeld ?_ ?_;rotate_left;(rintro w' ⟨s0,s1,s2,s3,s4,s5⟩;go_simp;with_reducible rfl);rotate_left;exact zpa
         refine zp1 HT_ 3 23 (mb' 25 29359) rfl ?_
         refine zt1 HT_ HW_ (v:=?_) (a':=?_) 4 24 (mb' 25 29375) rfl ?_ hHeld ?_ ?_;rotate_left;(rintro w' ⟨s0,s1,s2,s3,s4,s5⟩;go_simp;with_reducible rfl);rotate_left;exact zpa
         refine zt1 HT_ HW_ (v:=?_) (a':=?_) 8 28 (mb' 25 29631) rfl ?_ hHeld ?_ ?_;rotate_left;(rintro w' ⟨s0,s1,s2,s3,s4,s5⟩;go_simp;with_reducible rfl);rotate_left;exact zpa
         refine zp1 HT_ 10 30 (mb' 25 30655) rfl ?_
         refine zt1 HT_ HW_ (v:=?_) (a':=?_) 11 31 (mb' 25 32703) rfl ?_ hHeld ?_ ?_;rotate_left;(rintro w' ⟨s0,s1,s2,s3,s4,s5⟩;go_simp;with_reducible rfl);rotate_left;exact zpa
         refine zt1 HT_ HW_ (v:=?_) (a':=?_) 15 35 (mb' 25 65471) rfl ?_ hHeld ?_ ?_;rotate_left;(rintro w' ⟨s0,s1,s2,s3,s4,s5⟩;go_simp;with_reducible rfl);rotate_left;exact zpa
         refine one_ (i:=6) (N:=some 26) (mb' 25 65535) rfl rfl (one_of HT_.out (by kernel_rfl)) (by decide) (fun K hK=>?_)
         refine goes_ Try.func44 (by kernel_rfl) rfl #[.slice A500_0 (rd_L1 l0_0 x11_1).length c500_0,.int .i64 x17_2] (by rfl) rfl rfl zq2 ?_
         with_reducible refine(spec_l12Place.calls k2 _ _ (rd_L1 l0_0 x11_1) x17_2 t501 _ ?side1 ?side2 A10.out).mono ?_
         (case side1=>exact zcc ((Kd.C_below HR500_0.out HB.out)))
         (case side2=>exact HC500_0.out)
         rintro e w' ⟨rfl,⟨nd,rfl⟩⟩
         refine⟨_,rfl,?_⟩
         refine hK.out _ _ ⟨(blk_cell BK499.out 0).trans rfl,(blk_cell BK499.out 1).trans rfl,(blk_cell BK499.out 2).trans rfl,((zhx HB hw500_0).trans rfl),((zhx HB hw502_0).trans rfl),((zhx HB hw503_0).trans rfl)⟩ (fun hHeld=>?_)
         clear hK K
         refine norm_ (a':=?_) ?_ ?_
         rotate_left
         ·show Act.put _ (some 26) _=_
          simp only [Act.put,List.setIfInBounds_toArray,List.set_cons_zero,List.set_cons_succ,i64_w,i32_w]
          rfl
         refine one_ (i:=16) (N:=some 36) (mb' 25 131071) rfl rfl (one_of HT_.out (by kernel_rfl)) (by decide) (fun K hK=>?_)
         refine goes_ Try.func44 (by kernel_rfl) rfl #[.slice A500_0 (rd_L1 l0_0 x11_1).length c500_0,.int .i64 (rd l1 x11_1)] (by rfl) rfl rfl zq2 ?_
         with_reducible refine(spec_l12Place.calls k2 _ _ (rd_L1 l0_0 x11_1) (rd l1 x11_1) t504 _ ?side1 ?side2 A12.out).mono ?_
         (case side1=>repeat(first|exact(Kd.C_below HR502_0.out (by exact zk2 HB GE499.out))|(with_reducible refine Kd.C_alloc ?_ _)|(with_reducible refine Kd.C_drewN ?_ _)|(with_reducible refine Kd.C_drew ?_)))
         (case side2=>exact HC502_0.out)
         rintro e w' ⟨rfl,⟨nd,rfl⟩⟩
         refine⟨_,rfl,?_⟩
         refine hK.out _ _ ⟨(blk_cell BK499.out 0).trans rfl,(blk_cell BK499.out 1).trans rfl,(blk_cell BK499.out 2).trans rfl,((zhx HB hw500_0).trans rfl),((zhx HB hw502_0).trans rfl),((zhx HB hw503_0).trans rfl)⟩ (fun hHeld=>?_)
         clear hK K
         refine norm_ (a':=?_) ?_ ?_
         rotate_left
         ·show Act.put _ (some 36) _=_
          simp only [Act.put,List.setIfInBounds_toArray,List.set_cons_zero,List.set_cons_succ,i64_w,i32_w]
          rfl
         refine zp1 HT_ 17 37 (mb' 25 262143) rfl ?_
         refine zp1 HT_ 18 38 (mb' 25 524287) rfl ?_
         refine zp1 HT_ 20 40 (mb' 25 1572863) rfl ?_
         refine zp1 HT_ 21 41 (mb' 25 3670015) rfl ?_
         refine zp1 HT_ 22 42 (mb' 25 7864319) rfl ?_
         refine zt1 HT_ HW_ (v:=?_) (a':=?_) 19 39 (mb' 25 8388607) rfl ?_ hHeld ?_ ?_;rotate_left;(rintro w' ⟨s0,s1,s2,s3,s4,s5⟩;go_simp;with_reducible rfl);rotate_left;exact zpa
         refine one_ (i:=23) (N:=some 43) (mb' 25 16777215) rfl rfl (one_of HT_.out (by kernel_rfl)) (by decide) (fun K hK=>?_)
         refine goes_ Try.func61 (by kernel_rfl) rfl #[.agg #[.slice (some ad500) l0_0.length c0_0,.slice A0_1 l0_1.length c0_1,.slice A0_2 l0_2.length c0_2],.slice (some ad503) l1.length c1,.int .i64 x17_2,.int .i64 x11_1] (by rfl) rfl rfl zq2 ?_
         with_reducible refine(spec_l12Would.calls k2 _ _ l0_0 _ _ l0_1 _ _ l0_2 _ _ l1 x17_2 x11_1 true _ ?side1 ?side2 ?side3 ?side4 ?side5 ?side6 ?side7 ?side8 A14.out).mono ?_
         (case side1=>repeat(first|exact(Kd.C_below HR0_0.out (by exact zk2 HB GE499.out))|(with_reducible refine Kd.C_alloc ?_ _)|(with_reducible refine Kd.C_drewN ?_ _)|(with_reducible refine Kd.C_drew ?_)))
         (case side2=>exact HC0_0.out)
         (case side3=>repeat(first|exact(Kd.C_below HR0_1.out (by exact zk2 HB GE499.out))|(with_reducible refine Kd.C_alloc ?_ _)|(with_reducible refine Kd.C_drewN ?_ _)|(with_reducible refine Kd.C_drew ?_)))
         (case side4=>exact HC0_1.out)
         (case side5=>repeat(first|exact(Kd.C_below HR0_2.out (by exact zk2 HB GE499.out))|(with_reducible refine Kd.C_alloc ?_ _)|(with_reducible refine Kd.C_drewN ?_ _)|(with_reducible refine Kd.C_drew ?_)))
         (case side6=>exact HC0_2.out)
         (case side7=>repeat(first|exact(Kd.C_below HR1.out (by exact zk2 HB GE499.out))|(with_reducible refine Kd.C_alloc ?_ _)|(with_reducible refine Kd.C_drewN ?_ _)|(with_reducible refine Kd.C_drew ?_)))
         (case side8=>exact HC1.out)
         rintro e w17 ⟨rfl,hb⟩
         refine⟨_,rfl,?_⟩
         replace BK499:=Aside0.mk (blk_below (g:=gb499) (o:= .cells #[.slice (some ad500) l0_0.length c0_0,.slice A0_1 l0_1.length c0_1,.slice A0_2 l0_2.length c0_2] 33 (0,0)) (zq3 BK499) hb)
         replace HB:=Aside0.mk (below_step (by exact zk2 HB GE499.out) hb)
         (try clear hb)
         (try clear hb2)
         (try clear hk)
         (try clear hi)
         refine hK.out _ _ ⟨(blk_cell BK499.out 0).trans rfl,(blk_cell BK499.out 1).trans rfl,(blk_cell BK499.out 2).trans rfl,((zhx HB hw500_0).trans rfl),((zhx HB hw502_0).trans rfl),((zhx HB hw503_0).trans rfl)⟩ (fun hHeld=>?_)
         clear hK K
         refine norm_ (a':=?_) ?_ ?_
         rotate_left
         ·show Act.put _ (some 43) _=_
          simp only [Act.put,List.setIfInBounds_toArray,List.set_cons_zero,List.set_cons_succ,i64_w,i32_w]
          rfl
         refine zp1 HT_ 24 44 (mb' 25 33554431) rfl ?_
         refine done_ (done_of HT_.out (by kernel_rfl)) ?_
         try go_wp2
         go_ret2
         exact⟨zer,by exact zk2 HB GE499.out⟩
        ·replace c15:=Bool.eq_false_iff.mpr c15
         subst c15
         have H1:(spec_l12Block.l1 k2 l1 x11_1 (l0_0.length:Int) x11_1 (l0_1.length:Int) (wrap64 (x17_2+1)) l0_0 l0_1 l0_2)=some (r1,r2):=by rw [if_neg (show ¬ (false=true) by decide)] at H;exact H
         clear H
         have H:=H1
         clear H1
         have H':=Aside0.mk H
         clear H
         try go_wp2
         replace BK499:=Aside0.mk (blk_drew BK499.out)
         replace HB:=Aside0.mk (below_drew1 HB.out)
         have p500: 0≤ (x11_1:Int):=of_decide_eq_true zq1
         have q500:x11_1< (l0_0.length:Int):=of_decide_eq_true zq1
         obtain⟨ad500,A500_0,c500_0,e500,hx500_0,hl500_0,hi500_0⟩:=at_L1 HR0_0.out x11_1 p500 q500
         have hw500_0:=hx500_0
         cases e500
         replace hx500_0:=zhx HB hx500_0
         have HR500_0:=Aside0.mk hi500_0
         have HC500_0:=Aside0.mk hl500_0
         clear hi500_0 hl500_0
         replace p500:=eq_true p500
         replace q500:=eq_true q500
         have p502: 0≤ (x11_1:Int):=of_decide_eq_true zq1
         have q502:x11_1< (l0_0.length:Int):=of_decide_eq_true zq1
         obtain⟨ad502,A502_0,c502_0,e502,hx502_0,hl502_0,hi502_0⟩:=at_L1 HR0_0.out x11_1 p502 q502
         have hw502_0:=hx502_0
         obtain rfl:ad500=ad502:=(by injection e502)
         replace hx502_0:=zhx HB hx502_0
         have HR502_0:=Aside0.mk hi502_0
         have HC502_0:=Aside0.mk hl502_0
         clear hi502_0 hl502_0
         replace p502:=eq_true p502
         replace q502:=eq_true q502
         have ea_:=Option.some.inj (hx500_0.symm.trans hx502_0)
         injection ea_ with ea_ en_ ec_
         subst ea_
         subst ec_
         clear en_
         have p503: 0≤ (x11_1:Int):=of_decide_eq_true zq1
         have q503:x11_1< (l1.length:Int):=of_decide_eq_true zq1
         obtain⟨ad503,e503,hx503_0⟩:=Kd.at_int HR1.out x11_1 p503 q503
         have hw503_0:=hx503_0
         cases e503
         replace hx503_0:=zhx HB hx503_0
         replace p503:=eq_true p503
         replace q503:=eq_true q503
         refine start_ (n:=25) (S:=fun w'=>w'.cell? ⟨gb499,0,none⟩=some (.slice (some ad500) l0_0.length c0_0)∧w'.cell? ⟨gb499,1,none⟩=some (.slice A0_1 l0_1.length c0_1)∧w'.cell? ⟨gb499,2,none⟩=some (.slice A0_2 l0_2.length c0_2)∧w'.cell? (ad500.add (x11_1).toNat)=some (.slice A500_0 (rd_L1 l0_0 x11_1).length c500_0)∧w'.cell? (ad500.add (x11_1).toNat)=some (.slice A500_0 (rd_L1 l0_0 x11_1).length c500_0)∧w'.cell? (ad503.add (x11_1).toNat)=some (.int .i64 (rd l1 x11_1))) (ds:= []) (mb' 25 0) (by kernel_rfl) rfl rfl ⟨(blk_cell BK499.out 0).trans rfl,(blk_cell BK499.out 1).trans rfl,(blk_cell BK499.out 2).trans rfl,((zhx HB hw500_0).trans rfl),((zhx HB hw502_0).trans rfl),((zhx HB hw503_0).trans rfl)⟩ (fun hHeld=>?_);refine with_tabW spec_l12Block.tab7 spec_l12Block.bits7 (fun HT_ HW_=>?_)
         generalize wr.drew=w18 at BK499 HB HR500_0 HR502_0 hx500_0 hx502_0 hx503_0 hHeld ⊢
         refine zp1 HT_ 0 20 (mb' 25 1) rfl ?_
         refine zp1 HT_ 2 22 (mb' 25 5) rfl ?_
         refine zp1 HT_ 5 25 (mb' 25 37) rfl ?_
         refine zp1 HT_ 7 27 (mb' 25 165) rfl ?_
         refine zp1 HT_ 9 29 (mb' 25 677) rfl ?_
         refine zp1 HT_ 12 32 (mb' 25 4773) rfl ?_
         refine zp1 HT_ 13 33 (mb' 25 12965) rfl ?_
         refine zp1 HT_ 14 34 (mb' 25 29349) rfl ?_
         refine zt1 HT_ HW_ (v:=?_) (a':=?_) 1 21 (mb' 25 29351) rfl ?_ hHeld ?_ ?_;rotate_left;(rintro w' ⟨s0,s1,s2,s3,s4,s5⟩;go_simp;with_reducible rfl);rotate_left;exact zpa
         refine zp1 HT_ 3 23 (mb' 25 29359) rfl ?_
         refine zt1 HT_ HW_ (v:=?_) (a':=?_) 4 24 (mb' 25 29375) rfl ?_ hHeld ?_ ?_;rotate_left;(rintro w' ⟨s0,s1,s2,s3,s4,s5⟩;go_simp;with_reducible rfl);rotate_left;exact zpa
         refine zt1 HT_ HW_ (v:=?_) (a':=?_) 8 28 (mb' 25 29631) rfl ?_ hHeld ?_ ?_;rotate_left;(rintro w' ⟨s0,s1,s2,s3,s4,s5⟩;go_simp;with_reducible rfl);rotate_left;exact zpa
         refine zp1 HT_ 10 30 (mb' 25 30655) rfl ?_
         refine zt1 HT_ HW_ (v:=?_) (a':=?_) 11 31 (mb' 25 32703) rfl ?_ hHeld ?_ ?_;rotate_left;(rintro w' ⟨s0,s1,s2,s3,s4,s5⟩;go_simp;with_reducible rfl);rotate_left;exact zpa
         refine zt1 HT_ HW_ (v:=?_) (a':=?_) 15 35 (mb' 25 65471) rfl ?_ hHeld ?_ ?_;rotate_left;(rintro w' ⟨s0,s1,s2,s3,s4,s5⟩;go_simp;with_reducible rfl);rotate_left;exact zpa
         refine one_ (i:=6) (N:=some 26) (mb' 25 65535) rfl rfl (one_of HT_.out (by kernel_rfl)) (by decide) (fun K hK=>?_)
         refine goes_ Try.func44 (by kernel_rfl) rfl #[.slice A500_0 (rd_L1 l0_0 x11_1).length c500_0,.int .i64 x17_2] (by rfl) rfl rfl zq2 ?_
         with_reducible refine(spec_l12Place.calls k2 _ _ (rd_L1 l0_0 x11_1) x17_2 t501 _ ?side1 ?side2 A10.out).mono ?_
         (case side1=>exact zcc ((Kd.C_below HR500_0.out HB.out)))
         (case side2=>exact HC500_0.out)
         rintro e w' ⟨rfl,⟨nd,rfl⟩⟩
         refine⟨_,rfl,?_⟩
         refine hK.out _ _ ⟨(blk_cell BK499.out 0).trans rfl,(blk_cell BK499.out 1).trans rfl,(blk_cell BK499.out 2).trans rfl,((zhx HB hw500_0).trans rfl),((zhx HB hw502_0).trans rfl),((zhx HB hw503_0).trans rfl)⟩ (fun hHeld=>?_)
         clear hK K
         refine norm_ (a':=?_) ?_ ?_
         rotate_left
         ·show Act.put _ (some 26) _=_
          simp only [Act.put,List.setIfInBounds_toArray,List.set_cons_zero,List.set_cons_succ,i64_w,i32_w]
          rfl
         refine one_ (i:=16) (N:=some 36) (mb' 25 131071) rfl rfl (one_of HT_.out (by kernel_rfl)) (by decide) (fun K hK=>?_)
         refine goes_ Try.func44 (by kernel_rfl) rfl #[.slice A500_0 (rd_L1 l0_0 x11_1).length c500_0,.int .i64 (rd l1 x11_1)] (by rfl) rfl rfl zq2 ?_
         with_reducible refine(spec_l12Place.calls k2 _ _ (rd_L1 l0_0 x11_1) (rd l1 x11_1) t504 _ ?side1 ?side2 A12.out).mono ?_
         (case side1=>repeat(first|exact(Kd.C_below HR502_0.out (by exact zk2 HB GE499.out))|(with_reducible refine Kd.C_alloc ?_ _)|(with_reducible refine Kd.C_drewN ?_ _)|(with_reducible refine Kd.C_drew ?_)))
         (case side2=>exact HC502_0.out)
         rintro e w' ⟨rfl,⟨nd,rfl⟩⟩
         refine⟨_,rfl,?_⟩
         refine hK.out _ _ ⟨(blk_cell BK499.out 0).trans rfl,(blk_cell BK499.out 1).trans rfl,(blk_cell BK499.out 2).trans rfl,((zhx HB hw500_0).trans rfl),((zhx HB hw502_0).trans rfl),((zhx HB hw503_0).trans rfl)⟩ (fun hHeld=>?_)
         clear hK K
         refine norm_ (a':=?_) ?_ ?_
         rotate_left
         ·show Act.put _ (some 36) _=_
          simp only [Act.put,List.setIfInBounds_toArray,List.set_cons_zero,List.set_cons_succ,i64_w,i32_w]
          rfl
         refine zp1 HT_ 17 37 (mb' 25 262143) rfl ?_
         refine zp1 HT_ 18 38 (mb' 25 524287) rfl ?_
         refine zp1 HT_ 20 40 (mb' 25 1572863) rfl ?_
         refine zp1 HT_ 21 41 (mb' 25 3670015) rfl ?_
         refine zp1 HT_ 22 42 (mb' 25 7864319) rfl ?_
         refine zt1 HT_ HW_ (v:=?_) (a':=?_) 19 39 (mb' 25 8388607) rfl ?_ hHeld ?_ ?_;rotate_left;(rintro w' ⟨s0,s1,s2,s3,s4,s5⟩;go_simp;with_reducible rfl);rotate_left;exact zpa
         refine one_ (i:=23) (N:=some 43) (mb' 25 16777215) rfl rfl (one_of HT_.out (by kernel_rfl)) (by decide) (fun K hK=>?_)
         refine goes_ Try.func61 (by kernel_rfl) rfl #[.agg #[.slice (some ad500) l0_0.length c0_0,.slice A0_1 l0_1.length c0_1,.slice A0_2 l0_2.length c0_2],.slice (some ad503) l1.length c1,.int .i64 x17_2,.int .i64 x11_1] (by rfl) rfl rfl zq2 ?_
         with_reducible refine(spec_l12Would.calls k2 _ _ l0_0 _ _ l0_1 _ _ l0_2 _ _ l1 x17_2 x11_1 false _ ?side1 ?side2 ?side3 ?side4 ?side5 ?side6 ?side7 ?side8 A14.out).mono ?_
         (case side1=>repeat(first|exact(Kd.C_below HR0_0.out (by exact zk2 HB GE499.out))|(with_reducible refine Kd.C_alloc ?_ _)|(with_reducible refine Kd.C_drewN ?_ _)|(with_reducible refine Kd.C_drew ?_)))
         (case side2=>exact HC0_0.out)
         (case side3=>repeat(first|exact(Kd.C_below HR0_1.out (by exact zk2 HB GE499.out))|(with_reducible refine Kd.C_alloc ?_ _)|(with_reducible refine Kd.C_drewN ?_ _)|(with_reducible refine Kd.C_drew ?_)))
         (case side4=>exact HC0_1.out)
         (case side5=>repeat(first|exact(Kd.C_below HR0_2.out (by exact zk2 HB GE499.out))|(with_reducible refine Kd.C_alloc ?_ _)|(with_reducible refine Kd.C_drewN ?_ _)|(with_reducible refine Kd.C_drew ?_)))
         (case side6=>exact HC0_2.out)
         (case side7=>repeat(first|exact(Kd.C_below HR1.out (by exact zk2 HB GE499.out))|(with_reducible refine Kd.C_alloc ?_ _)|(with_reducible refine Kd.C_drewN ?_ _)|(with_reducible refine Kd.C_drew ?_)))
         (case side8=>exact HC1.out)
         rintro e w19 ⟨rfl,hb⟩
         refine⟨_,rfl,?_⟩
         replace BK499:=Aside0.mk (blk_below (g:=gb499) (o:= .cells #[.slice (some ad500) l0_0.length c0_0,.slice A0_1 l0_1.length c0_1,.slice A0_2 l0_2.length c0_2] 33 (0,0)) (zq3 BK499) hb)
         replace HB:=Aside0.mk (below_step (by exact zk2 HB GE499.out) hb)
         (try clear hb)
         (try clear hb2)
         (try clear hk)
         (try clear hi)
         refine hK.out _ _ ⟨(blk_cell BK499.out 0).trans rfl,(blk_cell BK499.out 1).trans rfl,(blk_cell BK499.out 2).trans rfl,((zhx HB hw500_0).trans rfl),((zhx HB hw502_0).trans rfl),((zhx HB hw503_0).trans rfl)⟩ (fun hHeld=>?_)
         clear hK K
         refine norm_ (a':=?_) ?_ ?_
         rotate_left
         ·show Act.put _ (some 43) _=_
          simp only [Act.put,List.setIfInBounds_toArray,List.set_cons_zero,List.set_cons_succ,i64_w,i32_w]
          rfl
         refine zp1 HT_ 24 44 (mb' 25 33554431) rfl ?_
         refine done_ (done_of HT_.out (by kernel_rfl)) ?_
         try go_wp2
         go_roundg k2
         case measure=>have:=HK1.out;have:=HK2.out;omega
         case rel=>exact⟨(wrap64 (x17_2+1)),zrs,H',⟨by have:=HK1.out;have:=HK2.out;omega⟩,⟨by(with_reducible repeat(first|refine blk_drewN ?_ _|refine blk_drew ?_ |refine blk_alloc ?_ _));exact BK499.out⟩,⟨by exact zk2 HB GE499.out⟩⟩
       ·rw [if_neg c13] at H
        have c13b0:decide (t501<t504)=false:=decide_eq_false c13
        clear c13
        have H':=Aside0.mk H
        clear H
        try go_wp2
        replace BK499:=Aside0.mk (blk_drew BK499.out)
        replace HB:=Aside0.mk (below_drew1 HB.out)
        have p500: 0≤ (x11_1:Int):=of_decide_eq_true zq1
        have q500:x11_1< (l0_0.length:Int):=of_decide_eq_true zq1
        obtain⟨ad500,A500_0,c500_0,e500,hx500_0,hl500_0,hi500_0⟩:=at_L1 HR0_0.out x11_1 p500 q500
        have hw500_0:=hx500_0
        cases e500
        replace hx500_0:=zhx HB hx500_0
        have HR500_0:=Aside0.mk hi500_0
        have HC500_0:=Aside0.mk hl500_0
        clear hi500_0 hl500_0
        replace p500:=eq_true p500
        replace q500:=eq_true q500
        have p502: 0≤ (x11_1:Int):=of_decide_eq_true zq1
        have q502:x11_1< (l0_0.length:Int):=of_decide_eq_true zq1
        obtain⟨ad502,A502_0,c502_0,e502,hx502_0,hl502_0,hi502_0⟩:=at_L1 HR0_0.out x11_1 p502 q502
        have hw502_0:=hx502_0
        obtain rfl:ad500=ad502:=(by injection e502)
        replace hx502_0:=zhx HB hx502_0
        have HR502_0:=Aside0.mk hi502_0
        have HC502_0:=Aside0.mk hl502_0
        clear hi502_0 hl502_0
        replace p502:=eq_true p502
        replace q502:=eq_true q502
        have ea_:=Option.some.inj (hx500_0.symm.trans hx502_0)
        injection ea_ with ea_ en_ ec_
        subst ea_
        subst ec_
        clear en_
        have p503: 0≤ (x11_1:Int):=of_decide_eq_true zq1
        have q503:x11_1< (l1.length:Int):=of_decide_eq_true zq1
        obtain⟨ad503,e503,hx503_0⟩:=Kd.at_int HR1.out x11_1 p503 q503
        have hw503_0:=hx503_0
        cases e503
        replace hx503_0:=zhx HB hx503_0
        replace p503:=eq_true p503
        replace q503:=eq_true q503
        refine start_ (n:=25) (S:=fun w'=>w'.cell? ⟨gb499,0,none⟩=some (.slice (some ad500) l0_0.length c0_0)∧w'.cell? ⟨gb499,1,none⟩=some (.slice A0_1 l0_1.length c0_1)∧w'.cell? ⟨gb499,2,none⟩=some (.slice A0_2 l0_2.length c0_2)∧w'.cell? (ad500.add (x11_1).toNat)=some (.slice A500_0 (rd_L1 l0_0 x11_1).length c500_0)∧w'.cell? (ad500.add (x11_1).toNat)=some (.slice A500_0 (rd_L1 l0_0 x11_1).length c500_0)∧w'.cell? (ad503.add (x11_1).toNat)=some (.int .i64 (rd l1 x11_1))) (ds:= []) (mb' 25 0) (by kernel_rfl) rfl rfl ⟨(blk_cell BK499.out 0).trans rfl,(blk_cell BK499.out 1).trans rfl,(blk_cell BK499.out 2).trans rfl,((zhx HB hw500_0).trans rfl),((zhx HB hw502_0).trans rfl),((zhx HB hw503_0).trans rfl)⟩ (fun hHeld=>?_);refine with_tabW spec_l12Block.tab7 spec_l12Block.bits7 (fun HT_ HW_=>?_)
        generalize wr.drew=w20 at BK499 HB HR500_0 HR502_0 hx500_0 hx502_0 hx503_0 hHeld ⊢
        refine zp1 HT_ 0 20 (mb' 25 1) rfl ?_
        refine zp1 HT_ 2 22 (mb' 25 5) rfl ?_
        refine zp1 HT_ 5 25 (mb' 25 37) rfl ?_
        refine zp1 HT_ 7 27 (mb' 25 165) rfl ?_
        refine zp1 HT_ 9 29 (mb' 25 677) rfl ?_
        refine zp1 HT_ 12 32 (mb' 25 4773) rfl ?_
        refine zp1 HT_ 13 33 (mb' 25 12965) rfl ?_
        refine zp1 HT_ 14 34 (mb' 25 29349) rfl ?_
        refine zt1 HT_ HW_ (v:=?_) (a':=?_) 1 21 (mb' 25 29351) rfl ?_ hHeld ?_ ?_;rotate_left;(rintro w' ⟨s0,s1,s2,s3,s4,s5⟩;go_simp;with_reducible rfl);rotate_left;exact zpa
        refine zp1 HT_ 3 23 (mb' 25 29359) rfl ?_
        refine zt1 HT_ HW_ (v:=?_) (a':=?_) 4 24 (mb' 25 29375) rfl ?_ hHeld ?_ ?_;rotate_left;(rintro w' ⟨s0,s1,s2,s3,s4,s5⟩;go_simp;with_reducible rfl);rotate_left;exact zpa
        refine zt1 HT_ HW_ (v:=?_) (a':=?_) 8 28 (mb' 25 29631) rfl ?_ hHeld ?_ ?_;rotate_left;(rintro w' ⟨s0,s1,s2,s3,s4,s5⟩;go_simp;with_reducible rfl);rotate_left;exact zpa
        refine zp1 HT_ 10 30 (mb' 25 30655) rfl ?_
        refine zt1 HT_ HW_ (v:=?_) (a':=?_) 11 31 (mb' 25 32703) rfl ?_ hHeld ?_ ?_;rotate_left;(rintro w' ⟨s0,s1,s2,s3,s4,s5⟩;go_simp;with_reducible rfl);rotate_left;exact zpa
        refine zt1 HT_ HW_ (v:=?_) (a':=?_) 15 35 (mb' 25 65471) rfl ?_ hHeld ?_ ?_;rotate_left;(rintro w' ⟨s0,s1,s2,s3,s4,s5⟩;go_simp;with_reducible rfl);rotate_left;exact zpa
        refine one_ (i:=6) (N:=some 26) (mb' 25 65535) rfl rfl (one_of HT_.out (by kernel_rfl)) (by decide) (fun K hK=>?_)
        refine goes_ Try.func44 (by kernel_rfl) rfl #[.slice A500_0 (rd_L1 l0_0 x11_1).length c500_0,.int .i64 x17_2] (by rfl) rfl rfl zq2 ?_
        with_reducible refine(spec_l12Place.calls k2 _ _ (rd_L1 l0_0 x11_1) x17_2 t501 _ ?side1 ?side2 A10.out).mono ?_
        (case side1=>exact zcc ((Kd.C_below HR500_0.out HB.out)))
        (case side2=>exact HC500_0.out)
        rintro e w' ⟨rfl,⟨nd,rfl⟩⟩
        refine⟨_,rfl,?_⟩
        refine hK.out _ _ ⟨(blk_cell BK499.out 0).trans rfl,(blk_cell BK499.out 1).trans rfl,(blk_cell BK499.out 2).trans rfl,((zhx HB hw500_0).trans rfl),((zhx HB hw502_0).trans rfl),((zhx HB hw503_0).trans rfl)⟩ (fun hHeld=>?_)
        clear hK K
        refine norm_ (a':=?_) ?_ ?_
        rotate_left
        ·show Act.put _ (some 26) _=_
         simp only [Act.put,List.setIfInBounds_toArray,List.set_cons_zero,List.set_cons_succ,i64_w,i32_w]
         rfl
        refine one_ (i:=16) (N:=some 36) (mb' 25 131071) rfl rfl (one_of HT_.out (by kernel_rfl)) (by decide) (fun K hK=>?_)
        refine goes_ Try.func44 (by kernel_rfl) rfl #[.slice A500_0 (rd_L1 l0_0 x11_1).length c500_0,.int .i64 (rd l1 x11_1)] (by rfl) rfl rfl zq2 ?_
        with_reducible refine(spec_l12Place.calls k2 _ _ (rd_L1 l0_0 x11_1) (rd l1 x11_1) t504 _ ?side1 ?side2 A12.out).mono ?_
        (case side1=>repeat(first|exact(Kd.C_below HR502_0.out (by exact zk2 HB GE499.out))|(with_reducible refine Kd.C_alloc ?_ _)|(with_reducible refine Kd.C_drewN ?_ _)|(with_reducible refine Kd.C_drew ?_)))
        (case side2=>exact HC502_0.out)
        rintro e w' ⟨rfl,⟨nd,rfl⟩⟩
        refine⟨_,rfl,?_⟩
        refine hK.out _ _ ⟨(blk_cell BK499.out 0).trans rfl,(blk_cell BK499.out 1).trans rfl,(blk_cell BK499.out 2).trans rfl,((zhx HB hw500_0).trans rfl),((zhx HB hw502_0).trans rfl),((zhx HB hw503_0).trans rfl)⟩ (fun hHeld=>?_)
        clear hK K
        refine norm_ (a':=?_) ?_ ?_
        rotate_left
        ·show Act.put _ (some 36) _=_
         simp only [Act.put,List.setIfInBounds_toArray,List.set_cons_zero,List.set_cons_succ,i64_w,i32_w]
         rfl
        refine zp1 HT_ 17 37 (mb' 25 262143) rfl ?_
        refine zp1 HT_ 18 38 (mb' 25 524287) rfl ?_
        refine zp2 HT_ 19 39 (mb' 25 1048575) rfl ?_
        refine zp2 HT_ 20 40 (mb' 25 2097151) rfl ?_
        refine zp2 HT_ 21 41 (mb' 25 4194303) rfl ?_
        refine zp2 HT_ 22 42 (mb' 25 8388607) rfl ?_
        refine zp2 HT_ 23 43 (mb' 25 16777215) rfl ?_
        refine zp1 HT_ 24 44 (mb' 25 33554431) rfl ?_
        refine done_ (done_of HT_.out (by kernel_rfl)) ?_
        try go_wp2
        go_roundg k2
        case measure=>have:=HK1.out;have:=HK2.out;omega
        case rel=>exact⟨(wrap64 (x17_2+1)),zrs,H',⟨by have:=HK1.out;have:=HK2.out;omega⟩,⟨by(with_reducible repeat(first|refine blk_drewN ?_ _|refine blk_drew ?_ |refine blk_alloc ?_ _));exact BK499.out⟩,⟨by exact zk2 HB GE499.out⟩⟩
      ·rw [if_neg c7] at H
       have c7b0:decide (x17_2< (l0_1.length:Int))=false:=decide_eq_false c7
       clear c7
       have H':=Aside0.mk H
       clear H
       go_wp2
       go_roundg k2
       case measure=>have:=HK1.out;have:=HK2.out;omega
       case rel=>exact⟨(wrap64 (x11_1+1)),zrs,H',⟨by have:=HK1.out;have:=HK2.out;omega⟩,⟨by(with_reducible repeat(first|refine blk_drewN ?_ _|refine blk_drew ?_ |refine blk_alloc ?_ _));exact BK499.out⟩,⟨by exact zk2 HB GE499.out⟩⟩
   ·rw [if_neg c5] at H
    have c5b0:decide (x11_1< (l0_0.length:Int))=false:=decide_eq_false c5
    clear c5
    simp only [Option.some.injEq,Prod.mk.injEq] at H
    obtain⟨rfl,rfl⟩:=H
    go_wp2
    go_ret2
    exact⟨zer,by exact zk2 HB GE499.out⟩
def spec_IsStable.f (k:Nat) (l0_0:List (List Int)) (l0_1:List (List Int)) (l0_2:List Int) (l1:List Int):Option (Bool × Bool):=(spec_GoodMatch.f k l0_0 l0_1 l0_2 l1).bind fun t507=>(if t507=true then((spec_l12Block.f k l0_0 l0_1 l0_2 l1).bind fun bt508=>(some (decide (bt508.1< 0),true))) else(some (false,false)))
set_option maxHeartbeats 8000000 in
set_option maxRecDepth 100000 in
theorem spec_IsStable.calls (k:Nat) (A0_0:Option Addr) (c0_0:Nat) (l0_0:List (List Int)) (A0_1:Option Addr) (c0_1:Nat) (l0_1:List (List Int)) (A0_2:Option Addr) (c0_2:Nat) (l0_2:List Int) (A1:Option Addr) (c1:Nat) (l1:List Int) (r1:Bool) (r2:Bool) (w:World) (hr0_0:Kd.C (Kd.slice 3 (Kd.int .i64)) w A0_0 l0_0.length l0_0) (hc0_0:l0_0.length≤c0_0) (hr0_1:Kd.C (Kd.slice 3 (Kd.int .i64)) w A0_1 l0_1.length l0_1) (hc0_1:l0_1.length≤c0_1) (hr0_2:Kd.C (Kd.int .i64) w A0_2 l0_2.length l0_2) (hc0_2:l0_2.length≤c0_2) (hr1:Kd.C (Kd.int .i64) w A1 l1.length l1) (hc1:l1.length≤c1) (h:spec_IsStable.f k l0_0 l0_1 l0_2 l1=some (r1,r2)):
  Calls Try.prog 31 #[.agg #[.slice A0_0 l0_0.length c0_0,.slice A0_1 l0_1.length c0_1,.slice A0_2 l0_2.length c0_2],.slice A1 l1.length c1] w fun e w'=>e= .returned (.tuple #[.bool r1,.bool r2])∧Below w.heap.size w w':=by
 have hu33:=Try.underlying33
 have HR0_0:=Aside0.mk hr0_0
 have HC0_0:=Aside0.mk hc0_0
 clear hr0_0 hc0_0
 have HR0_1:=Aside0.mk hr0_1
 have HC0_1:=Aside0.mk hc0_1
 clear hr0_1 hc0_1
 have HR0_2:=Aside0.mk hr0_2
 have HC0_2:=Aside0.mk hc0_2
 clear hr0_2 hc0_2
 have HR1:=Aside0.mk hr1
 have HC1:=Aside0.mk hc1
 clear hr1 hc1
 have HB:=Aside0.mk (Below.refl w.heap.size w)
 have H:((spec_GoodMatch.f k l0_0 l0_1 l0_2 l1).bind fun t507=>(if t507=true then((spec_l12Block.f k l0_0 l0_1 l0_2 l1).bind fun bt508=>(some (decide (bt508.1< 0),true))) else(some (false,false))))=some (r1,r2):=h
 clear h
 replace H:=Option.bind_eq_some_iff.mp H
 obtain⟨t507,A30,H⟩:=H
 replace H:(if t507=true then((spec_l12Block.f k l0_0 l0_1 l0_2 l1).bind fun bt508=>(some (decide (bt508.1< 0),true))) else(some (false,false)))=some (r1,r2):=H
 have A3:=Aside0.mk A30
 clear A30
 by_cases c4:t507=true
 ·subst c4
  have H1:((spec_l12Block.f k l0_0 l0_1 l0_2 l1).bind fun bt508=>(some (decide (bt508.1< 0),true)))=some (r1,r2):=by rw [if_pos rfl] at H;exact H
  clear H
  have H:=H1
  clear H1
  replace H:=Option.bind_eq_some_iff.mp H
  obtain⟨⟨t508,t509⟩,A50,H⟩:=H
  replace H:(some (decide (t508< 0),true))=some (r1,r2):=H
  have A5:=Aside0.mk A50
  clear A50
  simp only [Option.some.injEq,Prod.mk.injEq] at H
  obtain⟨rfl,rfl⟩:=H
  go_enter Try.func31,Try.ntmps31
  go_wp2_with (first|((with_reducible refine gate_dst (N:=2) rfl ?_);refine box_event ?hg (N:=2) ?hd (cs:= #[.slice A0_0 l0_0.length c0_0,.slice A0_1 l0_1.length c0_1,.slice A0_2 l0_2.length c0_2]) (t:=33) ?hr ?_;(case hd=>rfl);(case hg=>rfl);(case hr=>first|(go_simp;done)|(go_simp;rfl));intro gb506 hg w6 hbox hb;have BK506:=Aside0.mk (hbox);have GW506:=Aside0.mk ((by rw [hg];exact(below_size (by exact zk1 HB)):w.heap.size≤gb506));have GE506:=GW506;replace HB:=Aside0.mk (below_step (by exact zk1 HB) hb);clear hb hbox hg;have hcz7_0:=zcz BK506 0 (.slice A0_0 l0_0.length c0_0);have hcz7_1:=zcz BK506 1 (.slice A0_1 l0_1.length c0_1);have hcz7_2:=zcz BK506 2 (.slice A0_2 l0_2.length c0_2);have hfz7_0:=blk_frozen BK506.out 0;have hfz7_1:=blk_frozen BK506.out 1;have hfz7_2:=blk_frozen BK506.out 2)|((with_reducible refine gate_callee (f:=22) rfl ?_);refine goesL_ (some 10) rfl rfl Try.func22 (by kernel_rfl) rfl #[.agg #[.slice A0_0 l0_0.length c0_0,.slice A0_1 l0_1.length c0_1,.slice A0_2 l0_2.length c0_2],.slice A1 l1.length c1] rfl zq2 ?_;(with_reducible refine(spec_GoodMatch.calls k _ _ l0_0 _ _ l0_1 _ _ l0_2 _ _ l1 true _ ?side1 ?side2 ?side3 ?side4 ?side5 ?side6 ?side7 ?side8 A3.out).mono ?_);(case side1=>exact zcc ((Kd.C_below HR0_0.out HB.out)));(case side2=>exact HC0_0.out);(case side3=>exact zcc ((Kd.C_below HR0_1.out HB.out)));(case side4=>exact HC0_1.out);(case side5=>exact zcc ((Kd.C_below HR0_2.out HB.out)));(case side6=>exact HC0_2.out);(case side7=>exact zcc ((Kd.C_below HR1.out HB.out)));(case side8=>exact HC1.out);rintro e w8 ⟨rfl,hb⟩;refine⟨_,rfl,?_⟩;replace BK506:=Aside0.mk (blk_below (g:=gb506) (o:= .cells #[.slice A0_0 l0_0.length c0_0,.slice A0_1 l0_1.length c0_1,.slice A0_2 l0_2.length c0_2] 33 (0,0)) (zq3 BK506) hb);replace HB:=Aside0.mk (below_step (by exact zk2 HB GE506.out) hb);(try clear hb);(try clear hb2);(try clear hk);(try clear hi);have hcz9_0:=zcz BK506 0 (.slice A0_0 l0_0.length c0_0);have hcz9_1:=zcz BK506 1 (.slice A0_1 l0_1.length c0_1);have hcz9_2:=zcz BK506 2 (.slice A0_2 l0_2.length c0_2);have hfz9_0:=blk_frozen BK506.out 0;have hfz9_1:=blk_frozen BK506.out 1;have hfz9_2:=blk_frozen BK506.out 2)|((with_reducible refine gate_callee (f:=59) rfl ?_);refine goesL_ (some 15) rfl rfl Try.func59 (by kernel_rfl) rfl #[.agg #[.slice A0_0 l0_0.length c0_0,.slice A0_1 l0_1.length c0_1,.slice A0_2 l0_2.length c0_2],.slice A1 l1.length c1] rfl zq2 ?_;(with_reducible refine(spec_l12Block.calls k _ _ l0_0 _ _ l0_1 _ _ l0_2 _ _ l1 t508 t509 _ ?side1 ?side2 ?side3 ?side4 ?side5 ?side6 ?side7 ?side8 A5.out).mono ?_);(case side1=>exact zcc ((Kd.C_below HR0_0.out HB.out)));(case side2=>exact HC0_0.out);(case side3=>exact zcc ((Kd.C_below HR0_1.out HB.out)));(case side4=>exact HC0_1.out);(case side5=>exact zcc ((Kd.C_below HR0_2.out HB.out)));(case side6=>exact HC0_2.out);(case side7=>exact zcc ((Kd.C_below HR1.out HB.out)));(case side8=>exact HC1.out);rintro e w10 ⟨rfl,hb⟩;refine⟨_,rfl,?_⟩;replace BK506:=Aside0.mk (blk_below (g:=gb506) (o:= .cells #[.slice A0_0 l0_0.length c0_0,.slice A0_1 l0_1.length c0_1,.slice A0_2 l0_2.length c0_2] 33 (0,0)) (zq3 BK506) hb);replace HB:=Aside0.mk (below_step (by exact zk2 HB GE506.out) hb);(try clear hb);(try clear hb2);(try clear hk);(try clear hi)))
  go_ret2
  exact⟨zer,by exact zk2 HB GE506.out⟩
 ·replace c4:=Bool.eq_false_iff.mpr c4
  subst c4
  have H1:(some (false,false))=some (r1,r2):=by rw [if_neg (show ¬ (false=true) by decide)] at H;exact H
  clear H
  have H:=H1
  clear H1
  simp only [Option.some.injEq,Prod.mk.injEq] at H
  obtain⟨rfl,rfl⟩:=H
  go_enter Try.func31,Try.ntmps31
  go_wp2_with (first|((with_reducible refine gate_dst (N:=2) rfl ?_);refine box_event ?hg (N:=2) ?hd (cs:= #[.slice A0_0 l0_0.length c0_0,.slice A0_1 l0_1.length c0_1,.slice A0_2 l0_2.length c0_2]) (t:=33) ?hr ?_;(case hd=>rfl);(case hg=>rfl);(case hr=>first|(go_simp;done)|(go_simp;rfl));intro gb506 hg w11 hbox hb;have BK506:=Aside0.mk (hbox);have GW506:=Aside0.mk ((by rw [hg];exact(below_size (by exact zk1 HB)):w.heap.size≤gb506));have GE506:=GW506;replace HB:=Aside0.mk (below_step (by exact zk1 HB) hb);clear hb hbox hg;have hcz12_0:=zcz BK506 0 (.slice A0_0 l0_0.length c0_0);have hcz12_1:=zcz BK506 1 (.slice A0_1 l0_1.length c0_1);have hcz12_2:=zcz BK506 2 (.slice A0_2 l0_2.length c0_2);have hfz12_0:=blk_frozen BK506.out 0;have hfz12_1:=blk_frozen BK506.out 1;have hfz12_2:=blk_frozen BK506.out 2)|((with_reducible refine gate_callee (f:=22) rfl ?_);refine goesL_ (some 10) rfl rfl Try.func22 (by kernel_rfl) rfl #[.agg #[.slice A0_0 l0_0.length c0_0,.slice A0_1 l0_1.length c0_1,.slice A0_2 l0_2.length c0_2],.slice A1 l1.length c1] rfl zq2 ?_;(with_reducible refine(spec_GoodMatch.calls k _ _ l0_0 _ _ l0_1 _ _ l0_2 _ _ l1 false _ ?side1 ?side2 ?side3 ?side4 ?side5 ?side6 ?side7 ?side8 A3.out).mono ?_);(case side1=>exact zcc ((Kd.C_below HR0_0.out HB.out)));(case side2=>exact HC0_0.out);(case side3=>exact zcc ((Kd.C_below HR0_1.out HB.out)));(case side4=>exact HC0_1.out);(case side5=>exact zcc ((Kd.C_below HR0_2.out HB.out)));(case side6=>exact HC0_2.out);(case side7=>exact zcc ((Kd.C_below HR1.out HB.out)));(case side8=>exact HC1.out);rintro e w13 ⟨rfl,hb⟩;refine⟨_,rfl,?_⟩;replace BK506:=Aside0.mk (blk_below (g:=gb506) (o:= .cells #[.slice A0_0 l0_0.length c0_0,.slice A0_1 l0_1.length c0_1,.slice A0_2 l0_2.length c0_2] 33 (0,0)) (zq3 BK506) hb);replace HB:=Aside0.mk (below_step (by exact zk2 HB GE506.out) hb);(try clear hb);(try clear hb2);(try clear hk);(try clear hi)))
  go_ret2
  exact⟨zer,by exact zk2 HB GE506.out⟩
def impl_last.l0:Nat→List Int→Int→Int→List Int→Int→Int→Option (Int)
 | 0,_,_,_,_,_,_=>none
 |k+1,x1,x2,x7,x14,x15,x16=>if x16<x15 then(if 0≤x16 then(if x16< (x14.length:Int) then(if 0≤ (rd x14 x16) then(if (rd x14 x16)< (x1.length:Int) then(if (rd x1 (rd x14 x16))=x2 then(impl_last.l0 k x1 x2 (rd x14 x16) x14 x15 (wrap64 (x16+1))) else(impl_last.l0 k x1 x2 x7 x14 x15 (wrap64 (x16+1)))) else(none)) else(none)) else(none)) else(none)) else(some x7)
def impl_last.f (k:Nat) (l0_0:List (List Int)) (l0_1:List (List Int)) (l0_2:List Int) (l1:List Int) (a2:Int):Option (Int):=if 0≤a2 then(if a2< (l0_1.length:Int) then(impl_last.l0 k l1 a2 (-1) (rd_L1 l0_1 a2) ((rd_L1 l0_1 a2).length:Int) 0) else(none)) else(none)
set_option maxHeartbeats 8000000 in
set_option maxRecDepth 100000 in
theorem impl_last.calls (k:Nat) (A0_0:Option Addr) (c0_0:Nat) (l0_0:List (List Int)) (A0_1:Option Addr) (c0_1:Nat) (l0_1:List (List Int)) (A0_2:Option Addr) (c0_2:Nat) (l0_2:List Int) (A1:Option Addr) (c1:Nat) (l1:List Int) (a2:Int) (r:Int) (w:World) (hr0_0:Kd.C (Kd.slice 3 (Kd.int .i64)) w A0_0 l0_0.length l0_0) (hc0_0:l0_0.length≤c0_0) (hr0_1:Kd.C (Kd.slice 3 (Kd.int .i64)) w A0_1 l0_1.length l0_1) (hc0_1:l0_1.length≤c0_1) (hr0_2:Kd.C (Kd.int .i64) w A0_2 l0_2.length l0_2) (hc0_2:l0_2.length≤c0_2) (hr1:Kd.C (Kd.int .i64) w A1 l1.length l1) (hc1:l1.length≤c1) (h:impl_last.f k l0_0 l0_1 l0_2 l1 a2=some r):
  Calls Try.prog 71 #[.agg #[.slice A0_0 l0_0.length c0_0,.slice A0_1 l0_1.length c0_1,.slice A0_2 l0_2.length c0_2],.slice A1 l1.length c1,.int .i64 a2] w fun e w'=>e= .returned (.int .i64 r)∧Below w.heap.size w w':=by
 have hu33:=Try.underlying33
 have HR0_0:=Aside0.mk hr0_0
 have HC0_0:=Aside0.mk hc0_0
 clear hr0_0 hc0_0
 have HR0_1:=Aside0.mk hr0_1
 have HC0_1:=Aside0.mk hc0_1
 clear hr0_1 hc0_1
 have HR0_2:=Aside0.mk hr0_2
 have HC0_2:=Aside0.mk hc0_2
 clear hr0_2 hc0_2
 have HR1:=Aside0.mk hr1
 have HC1:=Aside0.mk hc1
 clear hr1 hc1
 have HB:=Aside0.mk (Below.refl w.heap.size w)
 have H:(if 0≤a2 then(if a2< (l0_1.length:Int) then(impl_last.l0 k l1 a2 (-1) (rd_L1 l0_1 a2) ((rd_L1 l0_1 a2).length:Int) 0) else(none)) else(none))=some r:=h
 clear h
 by_cases c4: 0≤a2
 case neg=>exact znn c4 H
 rw [if_pos c4] at H
 have c4b0:decide (0≤a2)=true:=decide_eq_true c4
 clear c4
 by_cases c5:a2< (l0_1.length:Int)
 case neg=>exact znn c5 H
 rw [if_pos c5] at H
 have c5b0:decide (a2< (l0_1.length:Int))=true:=decide_eq_true c5
 clear c5
 have H':=Aside0.mk H
 clear H
 go_enter Try.func71,Try.ntmps71
 go_wp2_with (first|((with_reducible refine gate_dst (N:=3) rfl ?_);refine box_event ?hg (N:=3) ?hd (cs:= #[.slice A0_0 l0_0.length c0_0,.slice A0_1 l0_1.length c0_1,.slice A0_2 l0_2.length c0_2]) (t:=33) ?hr ?_;(case hd=>rfl);(case hg=>rfl);(case hr=>first|(go_simp;done)|(go_simp;rfl));intro gb510 hg w6 hbox hb;have BK510:=Aside0.mk (hbox);have GW510:=Aside0.mk ((by rw [hg];exact(below_size (by exact zk1 HB)):w.heap.size≤gb510));have GE510:=GW510;replace HB:=Aside0.mk (below_step (by exact zk1 HB) hb);clear hb hbox hg;have hcz7_0:=zcz BK510 0 (.slice A0_0 l0_0.length c0_0);have hcz7_1:=zcz BK510 1 (.slice A0_1 l0_1.length c0_1);have hcz7_2:=zcz BK510 2 (.slice A0_2 l0_2.length c0_2);have hfz7_0:=blk_frozen BK510.out 0;have hfz7_1:=blk_frozen BK510.out 1;have hfz7_2:=blk_frozen BK510.out 2;have p511: 0≤ (a2:Int):=of_decide_eq_true zq1;have q511:a2< (l0_1.length:Int):=of_decide_eq_true zq1;obtain⟨ad511,A511_0,c511_0,e511,hx511_0,hl511_0,hi511_0⟩:=at_L1 HR0_1.out a2 p511 q511;cases e511;replace hx511_0:=zhx HB hx511_0;have HR511_0:=Aside0.mk hi511_0;have HC511_0:=Aside0.mk hl511_0;clear hi511_0 hl511_0;replace p511:=eq_true p511;replace q511:=eq_true q511))
 go_loopg [7,16] k (fun kq v7 v16 w'=> ∃ (x7_1:Int) (x16_1:Int),v7= .int .i64 x7_1∧v16= .int .i64 x16_1∧Aside0 (impl_last.l0 kq l1 a2 x7_1 (rd_L1 l0_1 a2) ((rd_L1 l0_1 a2).length:Int) x16_1=some r)∧Aside0 (kq≤k)∧Aside0 (w'.heap[gb510]?=some (.cells #[(.slice A0_0 l0_0.length c0_0),(.slice (some ad511) l0_1.length c0_1),(.slice A0_2 l0_2.length c0_2)] 33 (0,0)))∧Aside0 (Below w.heap.size w w'))
 case atStart=>exact⟨((-1)),(0),zrs,zrs,H',⟨Nat.le_refl _⟩,⟨by(with_reducible repeat(first|refine blk_drewN ?_ _|refine blk_drew ?_ |refine blk_alloc ?_ _));exact BK510.out⟩,⟨by exact zk2 HB GE510.out⟩⟩
 case round=>
  clear H'
  try clear c1
  try clear p2
  try clear c4
  try clear c4b0
  try clear c5
  try clear c5b0
  try clear p5
  try clear q5
  try clear hx5
  try clear c7
  try clear hcz7_0
  try clear hcz7_1
  try clear hcz7_2
  try clear hfz7_0
  try clear hfz7_1
  try clear hfz7_2
  try clear hx511_0
  try clear p511
  try clear q511
  obtain⟨x7_1,x16_1,rfl,rfl,HA,HK1,BK510,HB⟩:=hrel
  cases gk with
  |zero=>exact absurd HA.out (by simp [impl_last.l0])
  |succ k1=>
   have H:=HA.out
   clear HA
   simp only [impl_last.l0] at H
   by_cases c8:x16_1< ((rd_L1 l0_1 a2).length:Int)
   ·rw [if_pos c8] at H
    have c8b0:decide (x16_1< ((rd_L1 l0_1 a2).length:Int))=true:=decide_eq_true c8
    clear c8
    by_cases c9: 0≤x16_1
    case neg=>exact znn c9 H
    rw [if_pos c9] at H
    have c9b0:decide (0≤x16_1)=true:=decide_eq_true c9
    clear c9
    by_cases c10:x16_1< ((rd_L1 l0_1 a2).length:Int)
    case neg=>exact znn c10 H
    rw [if_pos c10] at H
    have c10b0:decide (x16_1< ((rd_L1 l0_1 a2).length:Int))=true:=decide_eq_true c10
    clear c10
    by_cases c11: 0≤ (rd (rd_L1 l0_1 a2) x16_1)
    case neg=>exact znn c11 H
    rw [if_pos c11] at H
    have c11b0:decide (0≤ (rd (rd_L1 l0_1 a2) x16_1))=true:=decide_eq_true c11
    clear c11
    by_cases c12:(rd (rd_L1 l0_1 a2) x16_1)< (l1.length:Int)
    case neg=>exact znn c12 H
    rw [if_pos c12] at H
    have c12b0:decide ((rd (rd_L1 l0_1 a2) x16_1)< (l1.length:Int))=true:=decide_eq_true c12
    clear c12
    by_cases c13:(rd l1 (rd (rd_L1 l0_1 a2) x16_1))=a2
    ·rw [if_pos c13] at H
     have c13b0:((rd l1 (rd (rd_L1 l0_1 a2) x16_1))==a2)=true:=beq_iff_eq.mpr c13
     have c13b1:((rd l1 (rd (rd_L1 l0_1 a2) x16_1)) !=a2)=false:=bne_eq_false_iff_eq.mpr c13
     clear c13
     have H':=Aside0.mk H
     clear H
     have p512: 0≤ (x16_1:Int):=of_decide_eq_true zq1
     have q512:x16_1< ((rd_L1 l0_1 a2).length:Int):=of_decide_eq_true zq1
     obtain⟨ad512,e512,hx512_0⟩:=Kd.at_int HR511_0.out x16_1 p512 q512
     cases e512
     replace hx512_0:=zhx HB hx512_0
     replace p512:=eq_true p512
     replace q512:=eq_true q512
     have p513: 0≤ ((rd (rd_L1 l0_1 a2) x16_1):Int):=of_decide_eq_true zq1
     have q513:(rd (rd_L1 l0_1 a2) x16_1)< (l1.length:Int):=of_decide_eq_true zq1
     obtain⟨ad513,e513,hx513_0⟩:=Kd.at_int HR1.out (rd (rd_L1 l0_1 a2) x16_1) p513 q513
     cases e513
     replace hx513_0:=zhx HB hx513_0
     replace p513:=eq_true p513
     replace q513:=eq_true q513
     go_wp2
     go_roundg k1
     case measure=>have:=HK1.out;omega
     case rel=>exact⟨(rd (rd_L1 l0_1 a2) x16_1),(wrap64 (x16_1+1)),zrs,zrs,H',⟨by have:=HK1.out;omega⟩,⟨by(with_reducible repeat(first|refine blk_drewN ?_ _|refine blk_drew ?_ |refine blk_alloc ?_ _));exact BK510.out⟩,⟨by exact zk2 HB GE510.out⟩⟩
    ·rw [if_neg c13] at H
     have c13b0:((rd l1 (rd (rd_L1 l0_1 a2) x16_1))==a2)=false:=beq_eq_false_iff_ne.mpr c13
     have c13b1:((rd l1 (rd (rd_L1 l0_1 a2) x16_1)) !=a2)=true:=bne_iff_ne.mpr c13
     have H':=Aside0.mk H
     clear H
     have p512: 0≤ (x16_1:Int):=of_decide_eq_true zq1
     have q512:x16_1< ((rd_L1 l0_1 a2).length:Int):=of_decide_eq_true zq1
     obtain⟨ad512,e512,hx512_0⟩:=Kd.at_int HR511_0.out x16_1 p512 q512
     cases e512
     replace hx512_0:=zhx HB hx512_0
     replace p512:=eq_true p512
     replace q512:=eq_true q512
     have p513: 0≤ ((rd (rd_L1 l0_1 a2) x16_1):Int):=of_decide_eq_true zq1
     have q513:(rd (rd_L1 l0_1 a2) x16_1)< (l1.length:Int):=of_decide_eq_true zq1
     obtain⟨ad513,e513,hx513_0⟩:=Kd.at_int HR1.out (rd (rd_L1 l0_1 a2) x16_1) p513 q513
     cases e513
     replace hx513_0:=zhx HB hx513_0
     replace p513:=eq_true p513
     replace q513:=eq_true q513
     go_wp2
     go_roundg k1
     case measure=>have:=HK1.out;omega
     case rel=>exact⟨(x7_1),(wrap64 (x16_1+1)),zrs,zrs,H',⟨by have:=HK1.out;omega⟩,⟨by(with_reducible repeat(first|refine blk_drewN ?_ _|refine blk_drew ?_ |refine blk_alloc ?_ _));exact BK510.out⟩,⟨by exact zk2 HB GE510.out⟩⟩
   ·rw [if_neg c8] at H
    have c8b0:decide (x16_1< ((rd_L1 l0_1 a2).length:Int))=false:=decide_eq_false c8
    clear c8
    obtain rfl:=Option.some.inj H
    go_wp2
    go_ret
    exact⟨zer,by exact zk2 HB GE510.out⟩
end Go.Proofs.Ytoipbblhmcpneaa.P
