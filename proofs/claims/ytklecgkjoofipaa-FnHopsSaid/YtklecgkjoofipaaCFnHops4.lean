/- Functions, walks and plain lemmas that the law FnHops reaches, part 4. -/
import Derived.Test.YtklecgkjoofipaaCFnHops3
import Derived.Below
import Derived.Deep.Draws
import Derived.Deep.AppendLies
import Derived.Maps.AppendAt
import Derived.OwnWalk
import Derived.Laws.BytesArg
import Derived.Laws.MakeOwn
import Derived.Laws.OwnMore
import Derived.Deep.OwnRows
import Derived.Tactics
import Derived.Lib.ConvBytes
import Derived.Laws.Slices
import Derived.WalkKit
import Derived.KernelRfl
import Derived.RowKit3
import Derived.Deep.LoopGhost
import Derived.Deep.QuietTactic
import Derived.BigQuiet
import Derived.WideLaws
import Derived.Deep.DeepCutAuto
import Derived.Deep.CutBlock
import Derived.Deep.RegionHeld3
import Derived.Laws.Rows
import Derived.Lib.AppendStr
import Derived.ArgAppend
import Derived.Laws.IdiomCopy
import Derived.OrdersHeld
import Derived.Laws.BitsLemmas
import Derived.RowKit
import Derived.WalkSpells
import Derived.Lib.SliceRun
import Derived.Shelf.Abstract
import Derived.ProofKit
import Derived.OpenShut
import Derived.ShutString
import Derived.ChangeOld
import Derived.SizedLaws
namespace Go.Proofs.Ytklecgkjoofipaa.P
open Go.RowKit Go.Proofs.YtklecgkjoofipaaW.PrintWords Go.Proofs.YtklecgkjoofipaaW.PrintLast Go.Proofs.YtklecgkjoofipaaW.PrintMore
attribute [local go_sem] max2_int min2_int max_two min_two max_three min_three max_four min_four   -- for this text's walks alone
set_option linter.unusedVariables false
set_option linter.unusedSimpArgs false
def spec_l8Near.l0:Nat→Int→List Int→List (S67)→Int→Int→Option (List Int)
 | 0,_,_,_,_,_=>none
 |k+1,x1,x5,x8,x9,x10=>if x10<x9 then(if 0≤x10 then(if x10< (x8.length:Int) then(if ((rd_T67 x8 x10).f0)=x1 then((spec_l1Put.f k x5 ((rd_T67 x8 x10).f1)).bind fun t421=>(if ((rd_T67 x8 x10).f1)=x1 then((spec_l1Put.f k t421 ((rd_T67 x8 x10).f0)).bind fun t424=>(spec_l8Near.l0 k x1 t424 x8 x9 (wrap64 (x10+1)))) else(spec_l8Near.l0 k x1 t421 x8 x9 (wrap64 (x10+1))))) else(if ((rd_T67 x8 x10).f1)=x1 then((spec_l1Put.f k x5 ((rd_T67 x8 x10).f0)).bind fun t427=>(spec_l8Near.l0 k x1 t427 x8 x9 (wrap64 (x10+1)))) else(spec_l8Near.l0 k x1 x5 x8 x9 (wrap64 (x10+1))))) else(none)) else(none)) else(some x5)
def spec_l8Near.f (k:Nat) (l0:List (S67)) (a1:Int):Option (List Int):=spec_l8Near.l0 k a1 ([] :List Int) l0 (l0.length:Int) 0
set_option maxHeartbeats 8000000 in
set_option maxRecDepth 100000 in
theorem spec_l8Near.calls (k:Nat) (A0:Option Addr) (c0:Nat) (l0:List (S67)) (a1:Int) (r:List Int) (w:World) (hr0:Kd.C k67 w A0 l0.length l0) (hc0:l0.length≤c0) (h:spec_l8Near.f k l0 a1=some r):
  Calls Try.prog 73 #[.slice A0 l0.length c0,.int .i64 a1] w fun e w'=> ∃ v0_:Value,e= .returned (v0_)∧Kd.R (Kd.int .i64) 3 w' w.heap.size (fun _=>True) v0_ r∧Below w.heap.size w w':=by
 have hu67:=Try.underlying67
 have HR0:=Aside0.mk hr0
 have HC0:=Aside0.mk hc0
 clear hr0 hc0
 have HB:=Aside0.mk (Below.refl w.heap.size w)
 have H:(spec_l8Near.l0 k a1 ([] :List Int) l0 (l0.length:Int) 0)=some r:=h
 clear h
 have H':=Aside0.mk H
 clear H
 go_enter Try.func73,Try.ntmps73
 go_wp2
 go_loopg [5,10] k (fun kq v5 v10 w'=> ∃ (x5_1:List Int) (x10_1:Int),v10= .int .i64 x10_1∧Aside0 (spec_l8Near.l0 kq a1 x5_1 l0 (l0.length:Int) x10_1=some r)∧Aside0 (kq≤k)∧Aside0 (Kd.R (Kd.int .i64) 3 w' w.heap.size (fun _=>True) v5 x5_1)∧Aside0 (Below w.heap.size w w'))
 case atStart=>exact⟨(([] :List Int)),(0),(by first|rfl|(simp;done)|(simp [*];done)),H',⟨Nat.le_refl _⟩,⟨by first|exact Kd.R_nil _ _ _ _ _|exact Kd.N_nil _ _ _ _ _|exact Kd.V_nil _ _ _ _ _|exact Kd.Q_nil _ _ _ _ _|exact Kd.S_nil _ _ _ _ _⟩,⟨by repeat(first|(with_reducible first|exact HB.out|apply below_alloc|apply pw_below_drewN|apply below_drew1)|exact HB.out)⟩⟩
 case round=>
  clear H'
  try clear p2
  obtain⟨x5_1,x10_1,rfl,HA,HK1,HO_5,HB⟩:=hrel
  cases gk with
  |zero=>exact absurd HA.out (by simp [spec_l8Near.l0])
  |succ k1=>
   have H:=HA.out
   clear HA
   simp only [spec_l8Near.l0] at H
   by_cases c3:x10_1< (l0.length:Int)
   ·rw [if_pos c3] at H
    have c3b0:decide (x10_1< (l0.length:Int))=true:=decide_eq_true c3
    clear c3
    by_cases c4: 0≤x10_1
    ·rw [if_pos c4] at H
     have c4b0:decide (0≤x10_1)=true:=decide_eq_true c4
     clear c4
     by_cases c5:x10_1< (l0.length:Int)
     ·rw [if_pos c5] at H
      have c5b0:decide (x10_1< (l0.length:Int))=true:=decide_eq_true c5
      clear c5
      by_cases c6:((rd_T67 l0 x10_1).f0)=a1
      ·rw [if_pos c6] at H
       have c6b0:(((rd_T67 l0 x10_1).f0)==a1)=true:=beq_iff_eq.mpr c6
       have c6b1:(((rd_T67 l0 x10_1).f0) !=a1)=false:=bne_eq_false_iff_eq.mpr c6
       clear c6
       replace H:=Option.bind_eq_some_iff.mp H
       obtain⟨t421,A70,H⟩:=H
       replace H:(if ((rd_T67 l0 x10_1).f1)=a1 then((spec_l1Put.f k1 t421 ((rd_T67 l0 x10_1).f0)).bind fun t424=>(spec_l8Near.l0 k1 a1 t424 l0 (l0.length:Int) (wrap64 (x10_1+1)))) else(spec_l8Near.l0 k1 a1 t421 l0 (l0.length:Int) (wrap64 (x10_1+1))))=some r:=H
       have A7:=Aside0.mk A70
       clear A70
       by_cases c8:((rd_T67 l0 x10_1).f1)=a1
       ·rw [if_pos c8] at H
        have c8b0:(((rd_T67 l0 x10_1).f1)==a1)=true:=beq_iff_eq.mpr c8
        have c8b1:(((rd_T67 l0 x10_1).f1) !=a1)=false:=bne_eq_false_iff_eq.mpr c8
        clear c8
        replace H:=Option.bind_eq_some_iff.mp H
        obtain⟨t424,A90,H⟩:=H
        replace H:(spec_l8Near.l0 k1 a1 t424 l0 (l0.length:Int) (wrap64 (x10_1+1)))=some r:=H
        have A9:=Aside0.mk A90
        clear A90
        have H':=Aside0.mk H
        clear H
        have p419: 0≤ (x10_1:Int):=of_decide_eq_true zq1
        have q419:x10_1< (l0.length:Int):=of_decide_eq_true zq1
        obtain⟨ad419,e419,hx419_0,hx419_1,hx419_2⟩:=at_T67 HR0.out x10_1 p419 q419
        cases e419
        replace hx419_0:=(HB.out.cell (World.block_lt_of_cell? w _ hx419_0)).trans hx419_0
        replace hx419_1:=(HB.out.cell (World.block_lt_of_cell? w _ hx419_1)).trans hx419_1
        replace hx419_2:=(HB.out.cell (World.block_lt_of_cell? w _ hx419_2)).trans hx419_2
        replace p419:=eq_true p419
        replace q419:=eq_true q419
        go_wp2_with (first|((with_reducible refine gate_dst (N:=7) rfl ?_);refine box_event ?hg (N:=7) ?hd (cs:= #[.int .i64 0,.int .i64 0,.int .i64 0]) (t:=67) ?hr ?_;(case hd=>rfl);(case hg=>rfl);(case hr=>first|(go_simp;done)|(go_simp;rfl));intro gb420 hg w10 hbox hb;have n0_:=Aside0.mk (Kd.R_below (zq4 HO_5) hb);have n1_:=Aside0.mk (below_step (zb0 HB) hb);have n2_:=Aside0.mk (hbox);have n3_:=Aside0.mk ((by rw [hg];exact(below_size (zb0 HB)):w.heap.size≤gb420));have n4_:=Aside0.mk ((by rw [hg];exact(below_size (zb0 HB)):w.heap.size≤gb420));clear HO_5;clear HB;have HO_5:=n0_;have HB:=n1_;have BK420:=n2_;have GW420:=n3_;have GE420:=n4_;clear n0_ n1_ n2_ n3_ n4_;clear hb hbox hg;have hcz11_0:w10.cell? ⟨gb420,0,none⟩=some (.int .i64 0):=(blk_cell BK420.out 0).trans rfl;have hcz11_1:w10.cell? ⟨gb420,1,none⟩=some (.int .i64 0):=(blk_cell BK420.out 1).trans rfl;have hcz11_2:w10.cell? ⟨gb420,2,none⟩=some (.int .i64 0):=(blk_cell BK420.out 2).trans rfl;have hfz11_0:=blk_frozen BK420.out 0;have hfz11_1:=blk_frozen BK420.out 1;have hfz11_2:=blk_frozen BK420.out 2)|((with_reducible refine gate_store (t:=67) (p:=7) rfl ?_);refine store_event (t:=67) (p:=7) (v:=?vo_w12) (w1:=(((w10.setCell ⟨gb420,0,none⟩ (.int .i64 ((rd_T67 l0 x10_1).f0))).setCell ⟨gb420,1,none⟩ (.int .i64 ((rd_T67 l0 x10_1).f1))).setCell ⟨gb420,2,none⟩ (.int .i64 ((rd_T67 l0 x10_1).f2)))) ?hg ?ho ?hn ?hr ?_;(case ho=>rfl);(case hg=>rfl);(case hn=>rfl);(case hr=>first|(go_simp;done)|(go_simp;rfl));intro w12 hw;have n0_:Aside0 (Kd.R (Kd.int .i64) 3 w12 w.heap.size (fun _=>True) u5 x5_1):=⟨(by rw [hw];exact(by(with_reducible repeat(first|apply Kd.R_alloc|apply Kd.R_drewN|apply Kd.R_drew));exact Kd.R_mono (Kd.R_far (p:=⟨gb420,2,none⟩) (Kd.R_far (p:=⟨gb420,1,none⟩) (Kd.R_far (p:=⟨gb420,0,none⟩) (Kd.R_types HO_5.out BK420.out (by decide)) (fun _ hk=>hk.2) (.int .i64 ((rd_T67 l0 x10_1).f0))) (fun _ hk=>hk.2) (.int .i64 ((rd_T67 l0 x10_1).f1))) (fun _ hk=>hk.2) (.int .i64 ((rd_T67 l0 x10_1).f2))) (fun _ hk=>trivial)))⟩;have n1_:Aside0 (w12.heap[gb420]?=some (.cells #[.int .i64 ((rd_T67 l0 x10_1).f0),.int .i64 ((rd_T67 l0 x10_1).f1),.int .i64 ((rd_T67 l0 x10_1).f2)] 67 (0,0))):=⟨(by rw [hw];exact(by(with_reducible repeat(first|refine blk_drewN ?_ _|refine blk_drew ?_ |refine blk_alloc ?_ _));refine blk_put (cs:= #[.int .i64 ((rd_T67 l0 x10_1).f0),.int .i64 ((rd_T67 l0 x10_1).f1),.int .i64 0]) ?_ 2 _ rfl;(with_reducible repeat(first|refine blk_drewN ?_ _|refine blk_drew ?_ |refine blk_alloc ?_ _));refine blk_put (cs:= #[.int .i64 ((rd_T67 l0 x10_1).f0),.int .i64 0,.int .i64 0]) ?_ 1 _ rfl;(with_reducible repeat(first|refine blk_drewN ?_ _|refine blk_drew ?_ |refine blk_alloc ?_ _));refine blk_put (cs:= #[.int .i64 0,.int .i64 0,.int .i64 0]) ?_ 0 _ rfl;(with_reducible repeat(first|refine blk_drewN ?_ _|refine blk_drew ?_ |refine blk_alloc ?_ _));exact BK420.out))⟩;have n2_:Aside0 (Below w.heap.size w w12):=⟨(by rw [hw];exact(zb1 HB GE420))⟩;clear hw;clear HO_5;clear BK420;clear HB;have HO_5:=n0_;have BK420:=n1_;have HB:=n2_;clear n0_ n1_ n2_;have hcz13_0:w12.cell? ⟨gb420,0,none⟩=some (.int .i64 ((rd_T67 l0 x10_1).f0)):=(blk_cell BK420.out 0).trans rfl;have hcz13_1:w12.cell? ⟨gb420,1,none⟩=some (.int .i64 ((rd_T67 l0 x10_1).f1)):=(blk_cell BK420.out 1).trans rfl;have hcz13_2:w12.cell? ⟨gb420,2,none⟩=some (.int .i64 ((rd_T67 l0 x10_1).f2)):=(blk_cell BK420.out 2).trans rfl;have hfz13_0:=blk_frozen BK420.out 0;have hfz13_1:=blk_frozen BK420.out 1;have hfz13_2:=blk_frozen BK420.out 2;obtain⟨Ao14,co14,eo14⟩:=Kd.R_slice HO_5.out;subst eo14)|((with_reducible refine gate_callee (f:=77) rfl ?_);refine goesL_ (some 21) rfl rfl Try.func77 (by kernel_rfl) rfl #[.slice Ao14 x5_1.length co14,.int .i64 ((rd_T67 l0 x10_1).f1)] rfl zq2 ?_;(with_reducible refine(spec_l1Put.calls k1 (fun k_=>some k_= (.slice Ao14 x5_1.length co14:Value).ownBlock) (.slice Ao14 x5_1.length co14) x5_1 ((rd_T67 l0 x10_1).f1) t421 w _ ?side1 ?side2 A7.out).mono ?_);(case side1=>repeat(first|(with_reducible first|exact HB.out|apply below_alloc|apply pw_below_drewN|apply below_drew1|refine below_set ?_ GE420.out)|exact HB.out));(case side2=>exact Kd.R_tight rfl HO_5.out);rintro e w15 ⟨v422,rfl,ho0,hb,hkp⟩;refine⟨_,rfl,?_⟩;have n0_:=Aside0.mk (blk_kept (zq3 BK420) hkp (fun hs_=>(fun e_=>(Kd.R_ne HO_5.out BK420.out (by decide)) e_) hs_));have n1_:=Aside0.mk (Kd.R_mono (ok':=fun k_=>True) ho0 (fun k_ hk_=>trivial));have n2_:=Aside0.mk (hb);clear BK420;clear HB;clear HO_5;have BK420:=n0_;have HO423:=n1_;have HB:=n2_;clear n0_ n1_ n2_;(try clear hb);(try clear hkp);(try clear ho0);have hcz16_0:w15.cell? ⟨gb420,0,none⟩=some (.int .i64 ((rd_T67 l0 x10_1).f0)):=(blk_cell BK420.out 0).trans rfl;have hcz16_1:w15.cell? ⟨gb420,1,none⟩=some (.int .i64 ((rd_T67 l0 x10_1).f1)):=(blk_cell BK420.out 1).trans rfl;have hcz16_2:w15.cell? ⟨gb420,2,none⟩=some (.int .i64 ((rd_T67 l0 x10_1).f2)):=(blk_cell BK420.out 2).trans rfl;have hfz16_0:=blk_frozen BK420.out 0;have hfz16_1:=blk_frozen BK420.out 1;have hfz16_2:=blk_frozen BK420.out 2;obtain⟨Ao17,co17,eo17⟩:=Kd.R_slice HO423.out;subst eo17)|((with_reducible refine gate_callee (f:=77) rfl ?_);refine goesL_ (some 29) rfl rfl Try.func77 (by kernel_rfl) rfl #[.slice Ao17 t421.length co17,.int .i64 ((rd_T67 l0 x10_1).f0)] rfl zq2 ?_;(with_reducible refine(spec_l1Put.calls k1 (fun k_=>some k_= (.slice Ao17 t421.length co17:Value).ownBlock) (.slice Ao17 t421.length co17) t421 ((rd_T67 l0 x10_1).f0) t424 w _ ?side1 ?side2 A9.out).mono ?_);(case side1=>repeat(first|(with_reducible first|exact HB.out|apply below_alloc|apply pw_below_drewN|apply below_drew1|refine below_set ?_ GE420.out)|exact HB.out));(case side2=>exact Kd.R_tight rfl HO423.out);rintro e w18 ⟨v425,rfl,ho0,hb,hkp⟩;refine⟨_,rfl,?_⟩;have n0_:=Aside0.mk (blk_kept (zq3 BK420) hkp (fun hs_=>(fun e_=>(Kd.R_ne HO423.out BK420.out (by decide)) e_) hs_));have n1_:=Aside0.mk (Kd.R_mono (ok':=fun k_=>True) ho0 (fun k_ hk_=>trivial));have n2_:=Aside0.mk (hb);clear BK420;clear HB;clear HO423;have BK420:=n0_;have HO426:=n1_;have HB:=n2_;clear n0_ n1_ n2_;(try clear hb);(try clear hkp);(try clear ho0)))
        go_roundg k1
        case measure=>have:=HK1.out;omega
        case rel=>exact⟨(t424),(wrap64 (x10_1+1)),(by first|rfl|(simp;done)|(simp [*];done)),H',⟨by have:=HK1.out;omega⟩,⟨by(with_reducible repeat(first|apply Kd.R_alloc|apply Kd.R_drewN|apply Kd.R_drew));exact HO426.out⟩,⟨by repeat(first|(with_reducible first|exact HB.out|apply below_alloc|apply pw_below_drewN|apply below_drew1|refine below_set ?_ GE420.out)|exact HB.out)⟩⟩
       ·rw [if_neg c8] at H
        have c8b0:(((rd_T67 l0 x10_1).f1)==a1)=false:=beq_eq_false_iff_ne.mpr c8
        have c8b1:(((rd_T67 l0 x10_1).f1) !=a1)=true:=bne_iff_ne.mpr c8
        have H':=Aside0.mk H
        clear H
        have p419: 0≤ (x10_1:Int):=of_decide_eq_true zq1
        have q419:x10_1< (l0.length:Int):=of_decide_eq_true zq1
        obtain⟨ad419,e419,hx419_0,hx419_1,hx419_2⟩:=at_T67 HR0.out x10_1 p419 q419
        cases e419
        replace hx419_0:=(HB.out.cell (World.block_lt_of_cell? w _ hx419_0)).trans hx419_0
        replace hx419_1:=(HB.out.cell (World.block_lt_of_cell? w _ hx419_1)).trans hx419_1
        replace hx419_2:=(HB.out.cell (World.block_lt_of_cell? w _ hx419_2)).trans hx419_2
        replace p419:=eq_true p419
        replace q419:=eq_true q419
        go_wp2_with (first|((with_reducible refine gate_dst (N:=7) rfl ?_);refine box_event ?hg (N:=7) ?hd (cs:= #[.int .i64 0,.int .i64 0,.int .i64 0]) (t:=67) ?hr ?_;(case hd=>rfl);(case hg=>rfl);(case hr=>first|(go_simp;done)|(go_simp;rfl));intro gb420 hg w19 hbox hb;have n0_:=Aside0.mk (Kd.R_below (zq4 HO_5) hb);have n1_:=Aside0.mk (below_step (zb0 HB) hb);have n2_:=Aside0.mk (hbox);have n3_:=Aside0.mk ((by rw [hg];exact(below_size (zb0 HB)):w.heap.size≤gb420));have n4_:=Aside0.mk ((by rw [hg];exact(below_size (zb0 HB)):w.heap.size≤gb420));clear HO_5;clear HB;have HO_5:=n0_;have HB:=n1_;have BK420:=n2_;have GW420:=n3_;have GE420:=n4_;clear n0_ n1_ n2_ n3_ n4_;clear hb hbox hg;have hcz20_0:w19.cell? ⟨gb420,0,none⟩=some (.int .i64 0):=(blk_cell BK420.out 0).trans rfl;have hcz20_1:w19.cell? ⟨gb420,1,none⟩=some (.int .i64 0):=(blk_cell BK420.out 1).trans rfl;have hcz20_2:w19.cell? ⟨gb420,2,none⟩=some (.int .i64 0):=(blk_cell BK420.out 2).trans rfl;have hfz20_0:=blk_frozen BK420.out 0;have hfz20_1:=blk_frozen BK420.out 1;have hfz20_2:=blk_frozen BK420.out 2)|((with_reducible refine gate_store (t:=67) (p:=7) rfl ?_);refine store_event (t:=67) (p:=7) (v:=?vo_w21) (w1:=(((w19.setCell ⟨gb420,0,none⟩ (.int .i64 ((rd_T67 l0 x10_1).f0))).setCell ⟨gb420,1,none⟩ (.int .i64 ((rd_T67 l0 x10_1).f1))).setCell ⟨gb420,2,none⟩ (.int .i64 ((rd_T67 l0 x10_1).f2)))) ?hg ?ho ?hn ?hr ?_;(case ho=>rfl);(case hg=>rfl);(case hn=>rfl);(case hr=>first|(go_simp;done)|(go_simp;rfl));intro w21 hw;have n0_:Aside0 (Kd.R (Kd.int .i64) 3 w21 w.heap.size (fun _=>True) u5 x5_1):=⟨(by rw [hw];exact(by(with_reducible repeat(first|apply Kd.R_alloc|apply Kd.R_drewN|apply Kd.R_drew));exact Kd.R_mono (Kd.R_far (p:=⟨gb420,2,none⟩) (Kd.R_far (p:=⟨gb420,1,none⟩) (Kd.R_far (p:=⟨gb420,0,none⟩) (Kd.R_types HO_5.out BK420.out (by decide)) (fun _ hk=>hk.2) (.int .i64 ((rd_T67 l0 x10_1).f0))) (fun _ hk=>hk.2) (.int .i64 ((rd_T67 l0 x10_1).f1))) (fun _ hk=>hk.2) (.int .i64 ((rd_T67 l0 x10_1).f2))) (fun _ hk=>trivial)))⟩;have n1_:Aside0 (w21.heap[gb420]?=some (.cells #[.int .i64 ((rd_T67 l0 x10_1).f0),.int .i64 ((rd_T67 l0 x10_1).f1),.int .i64 ((rd_T67 l0 x10_1).f2)] 67 (0,0))):=⟨(by rw [hw];exact(by(with_reducible repeat(first|refine blk_drewN ?_ _|refine blk_drew ?_ |refine blk_alloc ?_ _));refine blk_put (cs:= #[.int .i64 ((rd_T67 l0 x10_1).f0),.int .i64 ((rd_T67 l0 x10_1).f1),.int .i64 0]) ?_ 2 _ rfl;(with_reducible repeat(first|refine blk_drewN ?_ _|refine blk_drew ?_ |refine blk_alloc ?_ _));refine blk_put (cs:= #[.int .i64 ((rd_T67 l0 x10_1).f0),.int .i64 0,.int .i64 0]) ?_ 1 _ rfl;(with_reducible repeat(first|refine blk_drewN ?_ _|refine blk_drew ?_ |refine blk_alloc ?_ _));refine blk_put (cs:= #[.int .i64 0,.int .i64 0,.int .i64 0]) ?_ 0 _ rfl;(with_reducible repeat(first|refine blk_drewN ?_ _|refine blk_drew ?_ |refine blk_alloc ?_ _));exact BK420.out))⟩;have n2_:Aside0 (Below w.heap.size w w21):=⟨(by rw [hw];exact(zb1 HB GE420))⟩;clear hw;clear HO_5;clear BK420;clear HB;have HO_5:=n0_;have BK420:=n1_;have HB:=n2_;clear n0_ n1_ n2_;have hcz22_0:w21.cell? ⟨gb420,0,none⟩=some (.int .i64 ((rd_T67 l0 x10_1).f0)):=(blk_cell BK420.out 0).trans rfl;have hcz22_1:w21.cell? ⟨gb420,1,none⟩=some (.int .i64 ((rd_T67 l0 x10_1).f1)):=(blk_cell BK420.out 1).trans rfl;have hcz22_2:w21.cell? ⟨gb420,2,none⟩=some (.int .i64 ((rd_T67 l0 x10_1).f2)):=(blk_cell BK420.out 2).trans rfl;have hfz22_0:=blk_frozen BK420.out 0;have hfz22_1:=blk_frozen BK420.out 1;have hfz22_2:=blk_frozen BK420.out 2;obtain⟨Ao23,co23,eo23⟩:=Kd.R_slice HO_5.out;subst eo23)|((with_reducible refine gate_callee (f:=77) rfl ?_);refine goesL_ (some 21) rfl rfl Try.func77 (by kernel_rfl) rfl #[.slice Ao23 x5_1.length co23,.int .i64 ((rd_T67 l0 x10_1).f1)] rfl zq2 ?_;(with_reducible refine(spec_l1Put.calls k1 (fun k_=>some k_= (.slice Ao23 x5_1.length co23:Value).ownBlock) (.slice Ao23 x5_1.length co23) x5_1 ((rd_T67 l0 x10_1).f1) t421 w _ ?side1 ?side2 A7.out).mono ?_);(case side1=>repeat(first|(with_reducible first|exact HB.out|apply below_alloc|apply pw_below_drewN|apply below_drew1|refine below_set ?_ GE420.out)|exact HB.out));(case side2=>exact Kd.R_tight rfl HO_5.out);rintro e w24 ⟨v422,rfl,ho0,hb,hkp⟩;refine⟨_,rfl,?_⟩;have n0_:=Aside0.mk (blk_kept (zq3 BK420) hkp (fun hs_=>(fun e_=>(Kd.R_ne HO_5.out BK420.out (by decide)) e_) hs_));have n1_:=Aside0.mk (Kd.R_mono (ok':=fun k_=>True) ho0 (fun k_ hk_=>trivial));have n2_:=Aside0.mk (hb);clear BK420;clear HB;clear HO_5;have BK420:=n0_;have HO423:=n1_;have HB:=n2_;clear n0_ n1_ n2_;(try clear hb);(try clear hkp);(try clear ho0);have hcz25_0:w24.cell? ⟨gb420,0,none⟩=some (.int .i64 ((rd_T67 l0 x10_1).f0)):=(blk_cell BK420.out 0).trans rfl;have hcz25_1:w24.cell? ⟨gb420,1,none⟩=some (.int .i64 ((rd_T67 l0 x10_1).f1)):=(blk_cell BK420.out 1).trans rfl;have hcz25_2:w24.cell? ⟨gb420,2,none⟩=some (.int .i64 ((rd_T67 l0 x10_1).f2)):=(blk_cell BK420.out 2).trans rfl;have hfz25_0:=blk_frozen BK420.out 0;have hfz25_1:=blk_frozen BK420.out 1;have hfz25_2:=blk_frozen BK420.out 2))
        go_roundg k1
        case measure=>have:=HK1.out;omega
        case rel=>exact⟨(t421),(wrap64 (x10_1+1)),(by first|rfl|(simp;done)|(simp [*];done)),H',⟨by have:=HK1.out;omega⟩,⟨by(with_reducible repeat(first|apply Kd.R_alloc|apply Kd.R_drewN|apply Kd.R_drew));exact HO423.out⟩,⟨by repeat(first|(with_reducible first|exact HB.out|apply below_alloc|apply pw_below_drewN|apply below_drew1|refine below_set ?_ GE420.out)|exact HB.out)⟩⟩
      ·rw [if_neg c6] at H
       have c6b0:(((rd_T67 l0 x10_1).f0)==a1)=false:=beq_eq_false_iff_ne.mpr c6
       have c6b1:(((rd_T67 l0 x10_1).f0) !=a1)=true:=bne_iff_ne.mpr c6
       by_cases c26:((rd_T67 l0 x10_1).f1)=a1
       ·rw [if_pos c26] at H
        have c26b0:(((rd_T67 l0 x10_1).f1)==a1)=true:=beq_iff_eq.mpr c26
        have c26b1:(((rd_T67 l0 x10_1).f1) !=a1)=false:=bne_eq_false_iff_eq.mpr c26
        clear c26
        replace H:=Option.bind_eq_some_iff.mp H
        obtain⟨t427,A270,H⟩:=H
        replace H:(spec_l8Near.l0 k1 a1 t427 l0 (l0.length:Int) (wrap64 (x10_1+1)))=some r:=H
        have A27:=Aside0.mk A270
        clear A270
        have H':=Aside0.mk H
        clear H
        have p419: 0≤ (x10_1:Int):=of_decide_eq_true zq1
        have q419:x10_1< (l0.length:Int):=of_decide_eq_true zq1
        obtain⟨ad419,e419,hx419_0,hx419_1,hx419_2⟩:=at_T67 HR0.out x10_1 p419 q419
        cases e419
        replace hx419_0:=(HB.out.cell (World.block_lt_of_cell? w _ hx419_0)).trans hx419_0
        replace hx419_1:=(HB.out.cell (World.block_lt_of_cell? w _ hx419_1)).trans hx419_1
        replace hx419_2:=(HB.out.cell (World.block_lt_of_cell? w _ hx419_2)).trans hx419_2
        replace p419:=eq_true p419
        replace q419:=eq_true q419
        go_wp2_with (first|((with_reducible refine gate_dst (N:=7) rfl ?_);refine box_event ?hg (N:=7) ?hd (cs:= #[.int .i64 0,.int .i64 0,.int .i64 0]) (t:=67) ?hr ?_;(case hd=>rfl);(case hg=>rfl);(case hr=>first|(go_simp;done)|(go_simp;rfl));intro gb420 hg w28 hbox hb;have n0_:=Aside0.mk (Kd.R_below (zq4 HO_5) hb);have n1_:=Aside0.mk (below_step (zb0 HB) hb);have n2_:=Aside0.mk (hbox);have n3_:=Aside0.mk ((by rw [hg];exact(below_size (zb0 HB)):w.heap.size≤gb420));have n4_:=Aside0.mk ((by rw [hg];exact(below_size (zb0 HB)):w.heap.size≤gb420));clear HO_5;clear HB;have HO_5:=n0_;have HB:=n1_;have BK420:=n2_;have GW420:=n3_;have GE420:=n4_;clear n0_ n1_ n2_ n3_ n4_;clear hb hbox hg;have hcz29_0:w28.cell? ⟨gb420,0,none⟩=some (.int .i64 0):=(blk_cell BK420.out 0).trans rfl;have hcz29_1:w28.cell? ⟨gb420,1,none⟩=some (.int .i64 0):=(blk_cell BK420.out 1).trans rfl;have hcz29_2:w28.cell? ⟨gb420,2,none⟩=some (.int .i64 0):=(blk_cell BK420.out 2).trans rfl;have hfz29_0:=blk_frozen BK420.out 0;have hfz29_1:=blk_frozen BK420.out 1;have hfz29_2:=blk_frozen BK420.out 2)|((with_reducible refine gate_store (t:=67) (p:=7) rfl ?_);refine store_event (t:=67) (p:=7) (v:=?vo_w30) (w1:=(((w28.setCell ⟨gb420,0,none⟩ (.int .i64 ((rd_T67 l0 x10_1).f0))).setCell ⟨gb420,1,none⟩ (.int .i64 ((rd_T67 l0 x10_1).f1))).setCell ⟨gb420,2,none⟩ (.int .i64 ((rd_T67 l0 x10_1).f2)))) ?hg ?ho ?hn ?hr ?_;(case ho=>rfl);(case hg=>rfl);(case hn=>rfl);(case hr=>first|(go_simp;done)|(go_simp;rfl));intro w30 hw;have n0_:Aside0 (Kd.R (Kd.int .i64) 3 w30 w.heap.size (fun _=>True) u5 x5_1):=⟨(by rw [hw];exact(by(with_reducible repeat(first|apply Kd.R_alloc|apply Kd.R_drewN|apply Kd.R_drew));exact Kd.R_mono (Kd.R_far (p:=⟨gb420,2,none⟩) (Kd.R_far (p:=⟨gb420,1,none⟩) (Kd.R_far (p:=⟨gb420,0,none⟩) (Kd.R_types HO_5.out BK420.out (by decide)) (fun _ hk=>hk.2) (.int .i64 ((rd_T67 l0 x10_1).f0))) (fun _ hk=>hk.2) (.int .i64 ((rd_T67 l0 x10_1).f1))) (fun _ hk=>hk.2) (.int .i64 ((rd_T67 l0 x10_1).f2))) (fun _ hk=>trivial)))⟩;have n1_:Aside0 (w30.heap[gb420]?=some (.cells #[.int .i64 ((rd_T67 l0 x10_1).f0),.int .i64 ((rd_T67 l0 x10_1).f1),.int .i64 ((rd_T67 l0 x10_1).f2)] 67 (0,0))):=⟨(by rw [hw];exact(by(with_reducible repeat(first|refine blk_drewN ?_ _|refine blk_drew ?_ |refine blk_alloc ?_ _));refine blk_put (cs:= #[.int .i64 ((rd_T67 l0 x10_1).f0),.int .i64 ((rd_T67 l0 x10_1).f1),.int .i64 0]) ?_ 2 _ rfl;(with_reducible repeat(first|refine blk_drewN ?_ _|refine blk_drew ?_ |refine blk_alloc ?_ _));refine blk_put (cs:= #[.int .i64 ((rd_T67 l0 x10_1).f0),.int .i64 0,.int .i64 0]) ?_ 1 _ rfl;(with_reducible repeat(first|refine blk_drewN ?_ _|refine blk_drew ?_ |refine blk_alloc ?_ _));refine blk_put (cs:= #[.int .i64 0,.int .i64 0,.int .i64 0]) ?_ 0 _ rfl;(with_reducible repeat(first|refine blk_drewN ?_ _|refine blk_drew ?_ |refine blk_alloc ?_ _));exact BK420.out))⟩;have n2_:Aside0 (Below w.heap.size w w30):=⟨(by rw [hw];exact(zb1 HB GE420))⟩;clear hw;clear HO_5;clear BK420;clear HB;have HO_5:=n0_;have BK420:=n1_;have HB:=n2_;clear n0_ n1_ n2_;have hcz31_0:w30.cell? ⟨gb420,0,none⟩=some (.int .i64 ((rd_T67 l0 x10_1).f0)):=(blk_cell BK420.out 0).trans rfl;have hcz31_1:w30.cell? ⟨gb420,1,none⟩=some (.int .i64 ((rd_T67 l0 x10_1).f1)):=(blk_cell BK420.out 1).trans rfl;have hcz31_2:w30.cell? ⟨gb420,2,none⟩=some (.int .i64 ((rd_T67 l0 x10_1).f2)):=(blk_cell BK420.out 2).trans rfl;have hfz31_0:=blk_frozen BK420.out 0;have hfz31_1:=blk_frozen BK420.out 1;have hfz31_2:=blk_frozen BK420.out 2;obtain⟨Ao32,co32,eo32⟩:=Kd.R_slice HO_5.out;subst eo32)|((with_reducible refine gate_callee (f:=77) rfl ?_);refine goesL_ (some 29) rfl rfl Try.func77 (by kernel_rfl) rfl #[.slice Ao32 x5_1.length co32,.int .i64 ((rd_T67 l0 x10_1).f0)] rfl zq2 ?_;(with_reducible refine(spec_l1Put.calls k1 (fun k_=>some k_= (.slice Ao32 x5_1.length co32:Value).ownBlock) (.slice Ao32 x5_1.length co32) x5_1 ((rd_T67 l0 x10_1).f0) t427 w _ ?side1 ?side2 A27.out).mono ?_);(case side1=>repeat(first|(with_reducible first|exact HB.out|apply below_alloc|apply pw_below_drewN|apply below_drew1|refine below_set ?_ GE420.out)|exact HB.out));(case side2=>exact Kd.R_tight rfl HO_5.out);rintro e w33 ⟨v428,rfl,ho0,hb,hkp⟩;refine⟨_,rfl,?_⟩;have n0_:=Aside0.mk (blk_kept (zq3 BK420) hkp (fun hs_=>(fun e_=>(Kd.R_ne HO_5.out BK420.out (by decide)) e_) hs_));have n1_:=Aside0.mk (Kd.R_mono (ok':=fun k_=>True) ho0 (fun k_ hk_=>trivial));have n2_:=Aside0.mk (hb);clear BK420;clear HB;clear HO_5;have BK420:=n0_;have HO429:=n1_;have HB:=n2_;clear n0_ n1_ n2_;(try clear hb);(try clear hkp);(try clear ho0)))
        go_roundg k1
        case measure=>have:=HK1.out;omega
        case rel=>exact⟨(t427),(wrap64 (x10_1+1)),(by first|rfl|(simp;done)|(simp [*];done)),H',⟨by have:=HK1.out;omega⟩,⟨by(with_reducible repeat(first|apply Kd.R_alloc|apply Kd.R_drewN|apply Kd.R_drew));exact HO429.out⟩,⟨by repeat(first|(with_reducible first|exact HB.out|apply below_alloc|apply pw_below_drewN|apply below_drew1|refine below_set ?_ GE420.out)|exact HB.out)⟩⟩
       ·rw [if_neg c26] at H
        have c26b0:(((rd_T67 l0 x10_1).f1)==a1)=false:=beq_eq_false_iff_ne.mpr c26
        have c26b1:(((rd_T67 l0 x10_1).f1) !=a1)=true:=bne_iff_ne.mpr c26
        have H':=Aside0.mk H
        clear H
        have p419: 0≤ (x10_1:Int):=of_decide_eq_true zq1
        have q419:x10_1< (l0.length:Int):=of_decide_eq_true zq1
        obtain⟨ad419,e419,hx419_0,hx419_1,hx419_2⟩:=at_T67 HR0.out x10_1 p419 q419
        cases e419
        replace hx419_0:=(HB.out.cell (World.block_lt_of_cell? w _ hx419_0)).trans hx419_0
        replace hx419_1:=(HB.out.cell (World.block_lt_of_cell? w _ hx419_1)).trans hx419_1
        replace hx419_2:=(HB.out.cell (World.block_lt_of_cell? w _ hx419_2)).trans hx419_2
        replace p419:=eq_true p419
        replace q419:=eq_true q419
        go_wp2_with (first|((with_reducible refine gate_dst (N:=7) rfl ?_);refine box_event ?hg (N:=7) ?hd (cs:= #[.int .i64 0,.int .i64 0,.int .i64 0]) (t:=67) ?hr ?_;(case hd=>rfl);(case hg=>rfl);(case hr=>first|(go_simp;done)|(go_simp;rfl));intro gb420 hg w34 hbox hb;have n0_:=Aside0.mk (Kd.R_below (zq4 HO_5) hb);have n1_:=Aside0.mk (below_step (zb0 HB) hb);have n2_:=Aside0.mk (hbox);have n3_:=Aside0.mk ((by rw [hg];exact(below_size (zb0 HB)):w.heap.size≤gb420));have n4_:=Aside0.mk ((by rw [hg];exact(below_size (zb0 HB)):w.heap.size≤gb420));clear HO_5;clear HB;have HO_5:=n0_;have HB:=n1_;have BK420:=n2_;have GW420:=n3_;have GE420:=n4_;clear n0_ n1_ n2_ n3_ n4_;clear hb hbox hg;have hcz35_0:w34.cell? ⟨gb420,0,none⟩=some (.int .i64 0):=(blk_cell BK420.out 0).trans rfl;have hcz35_1:w34.cell? ⟨gb420,1,none⟩=some (.int .i64 0):=(blk_cell BK420.out 1).trans rfl;have hcz35_2:w34.cell? ⟨gb420,2,none⟩=some (.int .i64 0):=(blk_cell BK420.out 2).trans rfl;have hfz35_0:=blk_frozen BK420.out 0;have hfz35_1:=blk_frozen BK420.out 1;have hfz35_2:=blk_frozen BK420.out 2))
        go_roundg k1
        case measure=>have:=HK1.out;omega
        case rel=>exact⟨(x5_1),(wrap64 (x10_1+1)),(by first|rfl|(simp;done)|(simp [*];done)),H',⟨by have:=HK1.out;omega⟩,⟨by(with_reducible repeat(first|apply Kd.R_alloc|apply Kd.R_drewN|apply Kd.R_drew));exact Kd.R_mono (Kd.R_far (p:=⟨gb420,2,none⟩) (Kd.R_far (p:=⟨gb420,1,none⟩) (Kd.R_far (p:=⟨gb420,0,none⟩) (Kd.R_types HO_5.out BK420.out (by decide)) (fun _ hk=>hk.2) (.int .i64 ((rd_T67 l0 x10_1).f0))) (fun _ hk=>hk.2) (.int .i64 ((rd_T67 l0 x10_1).f1))) (fun _ hk=>hk.2) (.int .i64 ((rd_T67 l0 x10_1).f2))) (fun _ hk=>trivial)⟩,⟨by repeat(first|(with_reducible first|exact HB.out|apply below_alloc|apply pw_below_drewN|apply below_drew1|refine below_set ?_ GE420.out)|exact HB.out)⟩⟩
     ·rw [if_neg c5] at H
      exact absurd H (by simp)
    ·rw [if_neg c4] at H
     exact absurd H (by simp)
   ·rw [if_neg c3] at H
    have c3b0:decide (x10_1< (l0.length:Int))=false:=decide_eq_false c3
    clear c3
    obtain rfl:=Option.some.inj H
    go_wp2
    go_ret
    exact⟨_,by first|rfl|(simp [errW_none,errW_some]<;>rfl)|(simp [*,errW_none,errW_some]<;>rfl),by(with_reducible repeat(first|apply Kd.R_alloc|apply Kd.R_drewN|apply Kd.R_drew));exact HO_5.out,by repeat(first|(with_reducible first|exact HB.out|apply below_alloc|apply pw_below_drewN|apply below_drew1)|exact HB.out)⟩
end Go.Proofs.Ytklecgkjoofipaa.P

namespace Go.Proofs.Ytklecgkjoofipaa.P
open Go.RowKit Go.Proofs.YtklecgkjoofipaaW.PrintWords Go.Proofs.YtklecgkjoofipaaW.PrintLast Go.Proofs.YtklecgkjoofipaaW.PrintMore
attribute [local go_sem] max2_int min2_int max_two min_two max_three min_three max_four min_four   -- for this text's walks alone
set_option linter.unusedVariables false
set_option linter.unusedSimpArgs false
def spec_l9Hops.l0:Nat→List (S67)→Int→List Int→List Int→List Int→Int→Int→Option (List Int)
 | 0,_,_,_,_,_,_,_=>none
 |k+1,x1,x2,x9,x10,x19,x20,x21=>if x21<x20 then(if 0≤x21 then(if x21< (x19.length:Int) then(if 0≤x2 then(if x2< (x9.length:Int) then(if (rd x9 x2)< 100000 then(if 0≤ (rd x19 x21) then(if (rd x19 x21)< (x9.length:Int) then((spec_l9Edge.f k x1 x2 (rd x19 x21)).bind fun t439=>(if (wrap64 ((rd x9 (rd x19 x21))+t439))= (rd x9 x2) then(if x10.length< 17592186044416 then(spec_l9Hops.l0 k x1 x2 x9 (x10++ [rd x19 x21]) x19 x20 (wrap64 (x21+1))) else(none)) else(spec_l9Hops.l0 k x1 x2 x9 x10 x19 x20 (wrap64 (x21+1))))) else(none)) else(none)) else(spec_l9Hops.l0 k x1 x2 x9 x10 x19 x20 (wrap64 (x21+1)))) else(none)) else(none)) else(none)) else(none)) else(some x10)
def spec_l9Hops.f (k:Nat) (a0:Int) (l1:List (S67)) (a2:Int) (a3:Int):Option (List Int):=(spec_l9Fars.f k a0 l1 a3).bind fun t430=>((spec_l8Near.f k l1 a2).bind fun t433=>(spec_l9Hops.l0 k l1 a2 t430 ([] :List Int) t433 (t433.length:Int) 0))
def spec_l9Hops.T6:Bool × List (List Nat × List Nat):=(true,[([],[]),([],[]),([0,1],[0,1]),([2],[2]),([3],[3]),([4],[4]),([5],[5]),([5],[5]),([6,7,5],[5,6,7]),([8,5],[5,8]),([5],[5]),([5],[5]),([5],[5]),([10,11,12,5,5],[5,10,11,12]),([9,13,5],[5,9,13]),([5],[5]),([5],[5]),([15,16,5],[5,15,16]),([17,5],[5,17]),([14,18,5],[5,14,18]),([5,19],[5,19])])
def spec_l9Hops.B6:List Nat:= [0,0,3,7,15,31,63,63,255,511,63,63,63,7231,16383,63,63,98367,229439,524287,1048575]
theorem spec_l9Hops.tab6:rtab .any (opsOf Try.f60 6)=spec_l9Hops.T6:=by kernel_rfl
theorem spec_l9Hops.bits6:waitsOk spec_l9Hops.T6.2 spec_l9Hops.B6=true:=by kernel_rfl
set_option maxHeartbeats 8000000 in
set_option maxRecDepth 100000 in
theorem spec_l9Hops.calls (k:Nat) (a0:Int) (A1:Option Addr) (c1:Nat) (l1:List (S67)) (a2:Int) (a3:Int) (r:List Int) (w:World) (hr1:Kd.C k67 w A1 l1.length l1) (hc1:l1.length≤c1) (h:spec_l9Hops.f k a0 l1 a2 a3=some r):
  Calls Try.prog 60 #[.int .i64 a0,.slice A1 l1.length c1,.int .i64 a2,.int .i64 a3] w fun e w'=> ∃ v0_:Value,e= .returned (v0_)∧Kd.R (Kd.int .i64) 3 w' w.heap.size (fun _=>True) v0_ r∧Below w.heap.size w w':=by
 have HR1:=Aside0.mk hr1
 have HC1:=Aside0.mk hc1
 clear hr1 hc1
 have HB:=Aside0.mk (Below.refl w.heap.size w)
 have H:((spec_l9Fars.f k a0 l1 a3).bind fun t430=>((spec_l8Near.f k l1 a2).bind fun t433=>(spec_l9Hops.l0 k l1 a2 t430 ([] :List Int) t433 (t433.length:Int) 0)))=some r:=h
 clear h
 replace H:=Option.bind_eq_some_iff.mp H
 obtain⟨t430,A50,H⟩:=H
 replace H:((spec_l8Near.f k l1 a2).bind fun t433=>(spec_l9Hops.l0 k l1 a2 t430 ([] :List Int) t433 (t433.length:Int) 0))=some r:=H
 have A5:=Aside0.mk A50
 clear A50
 replace H:=Option.bind_eq_some_iff.mp H
 obtain⟨t433,A60,H⟩:=H
 replace H:(spec_l9Hops.l0 k l1 a2 t430 ([] :List Int) t433 (t433.length:Int) 0)=some r:=H
 have A6:=Aside0.mk A60
 clear A60
 have H':=Aside0.mk H
 clear H
 go_enter Try.func60,Try.ntmps60
 go_wp2_with (first|((with_reducible refine gate_callee (f:=53) rfl ?_);refine goesL_ (some 16) rfl rfl Try.func53 (by kernel_rfl) rfl #[.int .i64 a0,.slice A1 l1.length c1,.int .i64 a3] rfl zq2 ?_;(with_reducible refine(spec_l9Fars.calls k a0 _ _ l1 a3 t430 _ ?side1 ?side2 A5.out).mono ?_);(case side1=>repeat(first|exact HR1.out|(with_reducible refine Kd.C_alloc ?_ _)|(with_reducible refine Kd.C_drewN ?_ _)|(with_reducible refine Kd.C_drew ?_)));(case side2=>exact HC1.out);rintro e w7 ⟨v431,rfl,ho0,hb⟩;refine⟨_,rfl,?_⟩;have n0_:=Aside0.mk (Kd.R_lower ho0 (below_size (zb0 HB)));have n1_:=Aside0.mk (below_step (zb0 HB) hb);clear HB;have HO432:=n0_;have HB:=n1_;clear n0_ n1_;(try clear hb);(try clear hb2);(try clear hk);(try clear hi);(try clear ho0))|((with_reducible refine gate_callee (f:=73) rfl ?_);refine goesL_ (some 19) rfl rfl Try.func73 (by kernel_rfl) rfl #[.slice A1 l1.length c1,.int .i64 a2] rfl zq2 ?_;(with_reducible refine(spec_l8Near.calls k _ _ l1 a2 t433 _ ?side1 ?side2 A6.out).mono ?_);(case side1=>repeat(first|exact(Kd.C_below HR1.out HB.out)|(with_reducible refine Kd.C_alloc ?_ _)|(with_reducible refine Kd.C_drewN ?_ _)|(with_reducible refine Kd.C_drew ?_)));(case side2=>exact HC1.out);rintro e w8 ⟨v434,rfl,ho0,hb⟩;refine⟨_,rfl,?_⟩;have n0_:=Aside0.mk (Kd.R_elder' (zq4 HO432) (Kd.R_base ho0) hb);have n1_:=Aside0.mk (Kd.R_lower (Kd.R_new' ho0 (Kd.R_lt (zq4 HO432))) (below_size (zb0 HB)));have n2_:=Aside0.mk (below_step (zb0 HB) hb);clear HO432;clear HB;have HO432:=n0_;have HO435:=n1_;have HB:=n2_;clear n0_ n1_ n2_;(try clear hb);(try clear hb2);(try clear hk);(try clear hi);(try clear ho0);obtain⟨Ao9,co9,eo9⟩:=Kd.R_slice HO435.out;subst eo9))
 go_loopg [10,21] k (fun kq v10 v21 w'=> ∃ (x10_1:List Int) (x21_1:Int),v21= .int .i64 x21_1∧Aside0 (spec_l9Hops.l0 kq l1 a2 t430 x10_1 t433 (t433.length:Int) x21_1=some r)∧Aside0 (kq≤k)∧Aside0 (Kd.R (Kd.int .i64) 3 w' w.heap.size (fun k_=>some k_≠ (v10:Value).ownBlock∧some k_≠ ((.slice Ao9 t433.length co9):Value).ownBlock) v431 t430)∧Aside0 (Kd.R (Kd.int .i64) 3 w' w.heap.size (fun k_=>some k_≠ (v431:Value).ownBlock∧some k_≠ ((.slice Ao9 t433.length co9):Value).ownBlock) v10 x10_1)∧Aside0 (Kd.R (Kd.int .i64) 3 w' w.heap.size (fun k_=>some k_≠ (v431:Value).ownBlock∧some k_≠ (v10:Value).ownBlock) (.slice Ao9 t433.length co9) t433)∧Aside0 (Below w.heap.size w w'))
 case atStart=>exact⟨(([] :List Int)),(0),(by first|rfl|(simp;done)|(simp [*];done)),H',⟨Nat.le_refl _⟩,⟨by(with_reducible repeat(first|apply Kd.R_alloc|apply Kd.R_drewN|apply Kd.R_drew));exact Kd.R_mono HO432.out (fun _ hk=>⟨(by simp [Value.ownBlock]),hk.2⟩)⟩,⟨by first|exact Kd.R_nil _ _ _ _ _|exact Kd.N_nil _ _ _ _ _|exact Kd.V_nil _ _ _ _ _|exact Kd.Q_nil _ _ _ _ _|exact Kd.S_nil _ _ _ _ _⟩,⟨by(with_reducible repeat(first|apply Kd.R_alloc|apply Kd.R_drewN|apply Kd.R_drew));exact Kd.R_mono HO435.out (fun _ hk=>⟨hk.2,(by simp [Value.ownBlock])⟩)⟩,⟨by repeat(first|(with_reducible first|exact HB.out|apply below_alloc|apply pw_below_drewN|apply below_drew1)|exact HB.out)⟩⟩
 case round=>
  clear H'
  try clear c1
  try clear p2
  try clear c5
  try clear c6
  try clear c7
  obtain⟨x10_1,x21_1,rfl,HA,HK1,HO_9,HO_10,HO_19,HB⟩:=hrel
  cases gk with
  |zero=>exact absurd HA.out (by simp [spec_l9Hops.l0])
  |succ k1=>
   have H:=HA.out
   clear HA
   simp only [spec_l9Hops.l0] at H
   by_cases c10:x21_1< (t433.length:Int)
   ·rw [if_pos c10] at H
    have c10b0:decide (x21_1< (t433.length:Int))=true:=decide_eq_true c10
    clear c10
    by_cases c11: 0≤x21_1
    ·rw [if_pos c11] at H
     have c11b0:decide (0≤x21_1)=true:=decide_eq_true c11
     clear c11
     by_cases c12:x21_1< (t433.length:Int)
     ·rw [if_pos c12] at H
      have c12b0:decide (x21_1< (t433.length:Int))=true:=decide_eq_true c12
      clear c12
      by_cases c13: 0≤a2
      ·rw [if_pos c13] at H
       have c13b0:decide (0≤a2)=true:=decide_eq_true c13
       clear c13
       by_cases c14:a2< (t430.length:Int)
       ·rw [if_pos c14] at H
        have c14b0:decide (a2< (t430.length:Int))=true:=decide_eq_true c14
        clear c14
        by_cases c15:(rd t430 a2)< 100000
        ·rw [if_pos c15] at H
         have c15b0:decide ((rd t430 a2)< 100000)=true:=decide_eq_true c15
         clear c15
         by_cases c16: 0≤ (rd t433 x21_1)
         ·rw [if_pos c16] at H
          have c16b0:decide (0≤ (rd t433 x21_1))=true:=decide_eq_true c16
          clear c16
          by_cases c17:(rd t433 x21_1)< (t430.length:Int)
          ·rw [if_pos c17] at H
           have c17b0:decide ((rd t433 x21_1)< (t430.length:Int))=true:=decide_eq_true c17
           clear c17
           replace H:=Option.bind_eq_some_iff.mp H
           obtain⟨t439,A180,H⟩:=H
           replace H:(if (wrap64 ((rd t430 (rd t433 x21_1))+t439))= (rd t430 a2) then(if x10_1.length< 17592186044416 then(spec_l9Hops.l0 k1 l1 a2 t430 (x10_1++ [rd t433 x21_1]) t433 (t433.length:Int) (wrap64 (x21_1+1))) else(none)) else(spec_l9Hops.l0 k1 l1 a2 t430 x10_1 t433 (t433.length:Int) (wrap64 (x21_1+1))))=some r:=H
           have A18:=Aside0.mk A180
           clear A180
           by_cases c19:(wrap64 ((rd t430 (rd t433 x21_1))+t439))= (rd t430 a2)
           ·rw [if_pos c19] at H
            have c19b0:((wrap64 ((rd t430 (rd t433 x21_1))+t439))== (rd t430 a2))=true:=beq_iff_eq.mpr c19
            have c19b1:((wrap64 ((rd t430 (rd t433 x21_1))+t439)) != (rd t430 a2))=false:=bne_eq_false_iff_eq.mpr c19
            clear c19
            by_cases c20:x10_1.length< 17592186044416
            ·rw [if_pos c20] at H
             have LMc20:=Aside0.mk c20
             clear c20
             obtain⟨y441,hy441⟩ :∃ y_:List Int,y_= (x10_1++ [rd t433 x21_1]):=⟨_,rfl⟩
             replace H:(spec_l9Hops.l0 k1 l1 a2 t430 y441 t433 (t433.length:Int) (wrap64 (x21_1+1)))=some r:=by first|(rw [hy441];with_reducible exact H)|(have H2_:=(Option.bind_some _ _).symm.trans H;rw [hy441];with_reducible exact H2_)|(have H2_:=(Option.bind_some _ _).symm.trans H;with_reducible exact H2_)|with_reducible exact H|(rw [hy441];exact H)|exact H
             have Ny441:=Aside0.mk hy441
             clear hy441
             have H':=Aside0.mk H
             clear H
             have p436: 0≤ (x21_1:Int):=of_decide_eq_true zq1
             have q436:x21_1< (t433.length:Int):=of_decide_eq_true zq1
             obtain⟨ad436,e436,hx436_0⟩:=Kd.at_int (Kd.R_reads' HO_19.out).2.2 x21_1 p436 q436
             cases e436
             replace p436:=eq_true p436
             replace q436:=eq_true q436
             try go_wp2
             have n0_:=Aside0.mk (Kd.R_drew HO_9.out)
             have n1_:=Aside0.mk (Kd.R_drew HO_10.out)
             have n2_:=Aside0.mk (Kd.R_drew HO_19.out)
             have n3_:=Aside0.mk (below_drew1 HB.out)
             clear HO_9
             clear HO_10
             clear HO_19
             clear HB
             have HO_9:=n0_
             have HO_10:=n1_
             have HO_19:=n2_
             have HB:=n3_
             clear n0_ n1_ n2_ n3_
             obtain⟨Ao22,co22,eo22⟩:=Kd.R_slice HO_9.out
             (first|subst eo22|(injection eo22 with f1_ f2_ f3_;have f4_:=f1_.symm;have f5_:=f3_.symm;clear f1_ f2_ f3_;subst f4_;subst f5_))
             have p437: 0≤ (a2:Int):=of_decide_eq_true zq1
             have q437:a2< (t430.length:Int):=of_decide_eq_true zq1
             obtain⟨ad437,e437,hx437_0⟩:=Kd.at_int (Kd.R_reads' HO_9.out).2.2 a2 p437 q437
             cases e437
             replace p437:=eq_true p437
             replace q437:=eq_true q437
             have p438: 0≤ ((rd t433 x21_1):Int):=of_decide_eq_true zq1
             have q438:(rd t433 x21_1)< (t430.length:Int):=of_decide_eq_true zq1
             obtain⟨ad438,e438,hx438_0⟩:=Kd.at_int (Kd.R_reads' HO_9.out).2.2 (rd t433 x21_1) p438 q438
             obtain rfl:ad437=ad438:=(by injection e438)
             replace p438:=eq_true p438
             replace q438:=eq_true q438
             have p440: 0≤ (a2:Int):=of_decide_eq_true zq1
             have q440:a2< (t430.length:Int):=of_decide_eq_true zq1
             obtain⟨ad440,e440,hx440_0⟩:=Kd.at_int (Kd.R_reads' HO_9.out).2.2 a2 p440 q440
             obtain rfl:ad437=ad440:=(by injection e440)
             replace p440:=eq_true p440
             replace q440:=eq_true q440
             refine start_ (n:=21) (S:=fun w'=>w'.cell? (ad437.add (a2).toNat)=some (.int .i64 (rd t430 a2))∧w'.cell? (ad437.add ((rd t433 x21_1)).toNat)=some (.int .i64 (rd t430 (rd t433 x21_1)))∧w'.cell? (ad437.add (a2).toNat)=some (.int .i64 (rd t430 a2))) (ds:= []) #[f',f',f',f',f',f',f',f',f',f',f',f',f',f',f',f',f',f',f',f',f'] (by kernel_rfl) rfl rfl ⟨hx437_0,hx438_0,hx440_0⟩ (fun hHeld=>?_);refine with_tabW spec_l9Hops.tab6 spec_l9Hops.bits6 (fun HT_ HW_=>?_)
             generalize wr.drew=w21 at HO_9 HO_10 HO_19 HB hx437_0 hx438_0 hx440_0 hHeld ⊢
             refine pure_ (i:=0) (N:=some 25) (v:=?_) (a':=?_) #[t',f',f',f',f',f',f',f',f',f',f',f',f',f',f',f',f',f',f',f',f'] rfl rfl (any_of HT_.out (by kernel_rfl)) (fun _ _ _ h=>h) (Or.inl ⟨by rfl,?_⟩) ?_ ?_
             rotate_left
             ·intro w'
              go_simp
              with_reducible rfl
             rotate_left
             ·simp only [Act.put,zq5,zq6,zq7,i64_w,i32_w]
              rfl
             refine pure_ (i:=1) (N:=some 26) (v:=?_) (a':=?_) #[t',t',f',f',f',f',f',f',f',f',f',f',f',f',f',f',f',f',f',f',f'] rfl rfl (any_of HT_.out (by kernel_rfl)) (fun _ _ _ h=>h) (Or.inl ⟨by rfl,?_⟩) ?_ ?_
             rotate_left
             ·intro w'
              go_simp
              with_reducible rfl
             rotate_left
             ·simp only [Act.put,zq5,zq6,zq7,i64_w,i32_w]
              rfl
             refine pure_ (i:=2) (N:=some 27) (v:=?_) (a':=?_) #[t',t',t',f',f',f',f',f',f',f',f',f',f',f',f',f',f',f',f',f',f'] rfl rfl (any_of HT_.out (by kernel_rfl)) (fun _ _ _ h=>h) (Or.inl ⟨by rfl,?_⟩) ?_ ?_
             rotate_left
             ·intro w'
              go_simp
              with_reducible rfl
             rotate_left
             ·simp only [Act.put,zq5,zq6,zq7,i64_w,i32_w]
              rfl
             refine take_ (i:=3) (N:=some 28) (v:=?_) (a':=?_) #[t',t',t',t',f',f',f',f',f',f',f',f',f',f',f',f',f',f',f',f',f'] rfl rfl (take_ofW HT_.out HW_.out (by kernel_rfl)) (fun _ _ _ h=>h) (Or.inl ⟨by rfl,?_⟩) hHeld ?_ ?_
             rotate_left
             ·rintro w' ⟨s0,s1,s2⟩
              go_simp
              with_reducible rfl
             rotate_left
             ·simp only [Act.put,zq5,zq6,zq7,i64_w,i32_w]
              rfl
             refine pure_ (i:=4) (N:=some 29) (v:=?_) (a':=?_) #[t',t',t',t',t',f',f',f',f',f',f',f',f',f',f',f',f',f',f',f',f'] rfl rfl (any_of HT_.out (by kernel_rfl)) (fun _ _ _ h=>h) (Or.inl ⟨by rfl,?_⟩) ?_ ?_
             rotate_left
             ·intro w'
              go_simp
              with_reducible rfl
             rotate_left
             ·simp only [Act.put,zq5,zq6,zq7,i64_w,i32_w]
              rfl
             refine pure_ (i:=5) (N:=some 30) (v:=?_) (a':=?_) #[t',t',t',t',t',t',f',f',f',f',f',f',f',f',f',f',f',f',f',f',f'] rfl rfl (any_of HT_.out (by kernel_rfl)) (fun _ _ _ h=>h) (Or.inl ⟨by rfl,?_⟩) ?_ ?_
             rotate_left
             ·intro w'
              go_simp
              with_reducible rfl
             rotate_left
             ·simp only [Act.put,zq5,zq6,zq7,i64_w,i32_w]
              rfl
             refine pure_ (i:=6) (N:=some 31) (v:=?_) (a':=?_) #[t',t',t',t',t',t',t',f',f',f',f',f',f',f',f',f',f',f',f',f',f'] rfl rfl (any_of HT_.out (by kernel_rfl)) (fun _ _ _ h=>h) (Or.inl ⟨by rfl,?_⟩) ?_ ?_
             rotate_left
             ·intro w'
              go_simp
              with_reducible rfl
             rotate_left
             ·simp only [Act.put,zq5,zq6,zq7,i64_w,i32_w]
              rfl
             refine pure_ (i:=7) (N:=some 32) (v:=?_) (a':=?_) #[t',t',t',t',t',t',t',t',f',f',f',f',f',f',f',f',f',f',f',f',f'] rfl rfl (any_of HT_.out (by kernel_rfl)) (fun _ _ _ h=>h) (Or.inl ⟨by rfl,?_⟩) ?_ ?_
             rotate_left
             ·intro w'
              go_simp
              with_reducible rfl
             rotate_left
             ·simp only [Act.put,zq5,zq6,zq7,i64_w,i32_w]
              rfl
             refine pure_ (i:=8) (N:=some 33) (v:=?_) (a':=?_) #[t',t',t',t',t',t',t',t',t',f',f',f',f',f',f',f',f',f',f',f',f'] rfl rfl (any_of HT_.out (by kernel_rfl)) (fun _ _ _ h=>h) (Or.inl ⟨by rfl,?_⟩) ?_ ?_
             rotate_left
             ·intro w'
              go_simp
              with_reducible rfl
             rotate_left
             ·simp only [Act.put,zq5,zq6,zq7,i64_w,i32_w]
              rfl
             refine pure_ (i:=10) (N:=some 35) (v:=?_) (a':=?_) #[t',t',t',t',t',t',t',t',t',f',t',f',f',f',f',f',f',f',f',f',f'] rfl rfl (any_of HT_.out (by kernel_rfl)) (fun _ _ _ h=>h) (Or.inl ⟨by rfl,?_⟩) ?_ ?_
             rotate_left
             ·intro w'
              go_simp
              with_reducible rfl
             rotate_left
             ·simp only [Act.put,zq5,zq6,zq7,i64_w,i32_w]
              rfl
             refine pure_ (i:=11) (N:=some 36) (v:=?_) (a':=?_) #[t',t',t',t',t',t',t',t',t',f',t',t',f',f',f',f',f',f',f',f',f'] rfl rfl (any_of HT_.out (by kernel_rfl)) (fun _ _ _ h=>h) (Or.inl ⟨by rfl,?_⟩) ?_ ?_
             rotate_left
             ·intro w'
              go_simp
              with_reducible rfl
             rotate_left
             ·simp only [Act.put,zq5,zq6,zq7,i64_w,i32_w]
              rfl
             refine pure_ (i:=12) (N:=some 37) (v:=?_) (a':=?_) #[t',t',t',t',t',t',t',t',t',f',t',t',t',f',f',f',f',f',f',f',f'] rfl rfl (any_of HT_.out (by kernel_rfl)) (fun _ _ _ h=>h) (Or.inl ⟨by rfl,?_⟩) ?_ ?_
             rotate_left
             ·intro w'
              go_simp
              with_reducible rfl
             rotate_left
             ·simp only [Act.put,zq5,zq6,zq7,i64_w,i32_w]
              rfl
             refine pure_ (i:=15) (N:=some 40) (v:=?_) (a':=?_) #[t',t',t',t',t',t',t',t',t',f',t',t',t',f',f',t',f',f',f',f',f'] rfl rfl (any_of HT_.out (by kernel_rfl)) (fun _ _ _ h=>h) (Or.inl ⟨by rfl,?_⟩) ?_ ?_
             rotate_left
             ·intro w'
              go_simp
              with_reducible rfl
             rotate_left
             ·simp only [Act.put,zq5,zq6,zq7,i64_w,i32_w]
              rfl
             refine pure_ (i:=16) (N:=some 41) (v:=?_) (a':=?_) #[t',t',t',t',t',t',t',t',t',f',t',t',t',f',f',t',t',f',f',f',f'] rfl rfl (any_of HT_.out (by kernel_rfl)) (fun _ _ _ h=>h) (Or.inl ⟨by rfl,?_⟩) ?_ ?_
             rotate_left
             ·intro w'
              go_simp
              with_reducible rfl
             rotate_left
             ·simp only [Act.put,zq5,zq6,zq7,i64_w,i32_w]
              rfl
             refine pure_ (i:=17) (N:=some 42) (v:=?_) (a':=?_) #[t',t',t',t',t',t',t',t',t',f',t',t',t',f',f',t',t',t',f',f',f'] rfl rfl (any_of HT_.out (by kernel_rfl)) (fun _ _ _ h=>h) (Or.inl ⟨by rfl,?_⟩) ?_ ?_
             rotate_left
             ·intro w'
              go_simp
              with_reducible rfl
             rotate_left
             ·simp only [Act.put,zq5,zq6,zq7,i64_w,i32_w]
              rfl
             refine take_ (i:=9) (N:=some 34) (v:=?_) (a':=?_) #[t',t',t',t',t',t',t',t',t',t',t',t',t',f',f',t',t',t',f',f',f'] rfl rfl (take_ofW HT_.out HW_.out (by kernel_rfl)) (fun _ _ _ h=>h) (Or.inl ⟨by rfl,?_⟩) hHeld ?_ ?_
             rotate_left
             ·rintro w' ⟨s0,s1,s2⟩
              go_simp
              with_reducible rfl
             rotate_left
             ·simp only [Act.put,zq5,zq6,zq7,i64_w,i32_w]
              rfl
             refine take_ (i:=18) (N:=some 43) (v:=?_) (a':=?_) #[t',t',t',t',t',t',t',t',t',t',t',t',t',f',f',t',t',t',t',f',f'] rfl rfl (take_ofW HT_.out HW_.out (by kernel_rfl)) (fun _ _ _ h=>h) (Or.inl ⟨by rfl,?_⟩) hHeld ?_ ?_
             rotate_left
             ·rintro w' ⟨s0,s1,s2⟩
              go_simp
              with_reducible rfl
             rotate_left
             ·simp only [Act.put,zq5,zq6,zq7,i64_w,i32_w]
              rfl
             refine one_ (i:=13) (N:=some 38) #[t',t',t',t',t',t',t',t',t',t',t',t',t',t',f',t',t',t',t',f',f'] rfl rfl (one_of HT_.out (by kernel_rfl)) (by decide) (fun K hK=>?_)
             refine goes_ Try.func47 (by kernel_rfl) rfl #[.slice A1 l1.length c1,.int .i64 a2,.int .i64 (rd t433 x21_1)] (by rfl) rfl rfl zq2 ?_
             with_reducible refine(spec_l9Edge.calls k1 _ _ l1 a2 (rd t433 x21_1) t439 _ ?side1 ?side2 A18.out).mono ?_
             (case side1=>repeat(first|exact(Kd.C_below HR1.out HB.out)|(with_reducible refine Kd.C_alloc ?_ _)|(with_reducible refine Kd.C_drewN ?_ _)|(with_reducible refine Kd.C_drew ?_)))
             (case side2=>exact HC1.out)
             rintro e w23 ⟨rfl,hb⟩
             have HS0_:=(hb.cell (World.block_lt_of_cell? _ _ (hHeld.1))).trans (hHeld.1)
             have HS1_:=(hb.cell (World.block_lt_of_cell? _ _ (hHeld.2.1))).trans (hHeld.2.1)
             have HS2_:=(hb.cell (World.block_lt_of_cell? _ _ (hHeld.2.2))).trans (hHeld.2.2)
             refine⟨_,rfl,?_⟩
             have n0_:=Aside0.mk (Kd.R_below (zq4 HO_9) hb)
             have n1_:=Aside0.mk (Kd.R_below (zq4 HO_10) hb)
             have n2_:=Aside0.mk (Kd.R_below (zq4 HO_19) hb)
             have n3_:=Aside0.mk (below_step (zb0 HB) hb)
             clear HO_9
             clear HO_10
             clear HO_19
             clear HB
             have HO_9:=n0_
             have HO_10:=n1_
             have HO_19:=n2_
             have HB:=n3_
             clear n0_ n1_ n2_ n3_
             (try clear hb)
             (try clear hb2)
             (try clear hk)
             (try clear hi)
             refine hK.out _ _ ⟨HS0_,HS1_,HS2_⟩ (fun hHeld=>?_)
             clear hK K
             refine norm_ (a':=?_) ?_ ?_
             rotate_left
             ·show Act.put _ (some 38) _=_
              simp only [Act.put,zq5,zq6,zq7,i64_w,i32_w]
              rfl
             refine pure_ (i:=14) (N:=some 39) (v:=?_) (a':=?_) #[t',t',t',t',t',t',t',t',t',t',t',t',t',t',t',t',t',t',t',f',f'] rfl rfl (any_of HT_.out (by kernel_rfl)) (fun _ _ _ h=>h) (Or.inl ⟨by rfl,?_⟩) ?_ ?_
             rotate_left
             ·intro w'
              go_simp
              with_reducible rfl
             rotate_left
             ·simp only [Act.put,zq5,zq6,zq7,i64_w,i32_w]
              rfl
             refine pure_ (i:=19) (N:=some 44) (v:=?_) (a':=?_) #[t',t',t',t',t',t',t',t',t',t',t',t',t',t',t',t',t',t',t',t',f'] rfl rfl (any_of HT_.out (by kernel_rfl)) (fun _ _ _ h=>h) (Or.inl ⟨by rfl,?_⟩) ?_ ?_
             rotate_left
             ·intro w'
              go_simp
              with_reducible rfl
             rotate_left
             ·simp only [Act.put,zq5,zq6,zq7,i64_w,i32_w]
              rfl
             refine pure_ (i:=20) (N:=some 45) (v:=?_) (a':=?_) #[t',t',t',t',t',t',t',t',t',t',t',t',t',t',t',t',t',t',t',t',t'] rfl rfl (any_of HT_.out (by kernel_rfl)) (fun _ _ _ h=>h) (Or.inl ⟨by rfl,?_⟩) ?_ ?_
             rotate_left
             ·intro w'
              go_simp
              with_reducible rfl
             rotate_left
             ·simp only [Act.put,zq5,zq6,zq7,i64_w,i32_w]
              rfl
             refine done_ (done_of HT_.out (by kernel_rfl)) ?_
             try go_wp2_with (first|((with_reducible refine gate_builtin (b:= .append) (xs:= #[.tmp 46,.tmp 48]) rfl ?_);at_builtin;refine Kd.R_append (Kd.int .i64) (w0:=w) w.heap.size rfl (.tmp 46) (.tmp 48) 23 3 (.int .i64 0) 8 rfl Try.underlying23 info3 rfl (by decide) (by omega) u10 x10_1 (rd t433 x21_1) [.int .i64 (rd t433 x21_1)] (fun k_=>some k_≠ (.slice (some ad437) t430.length co22:Value).ownBlock∧some k_≠ (.slice (some ad436) t433.length co9:Value).ownBlock) (fun _=>False) rfl rfl ?aP (fun _ hk=>hk.elim) ?aF ?aO ?aB ?aS ?aL ?_;(case aP=>exact rfl);(case aB=>exact(zb0 HB));(case aF=>exact(fun k_ hk=>⟨Kd.fresh' (Kd.R_lt (zq4 HO_9)) k_ hk,Kd.fresh' (Kd.R_lt (zq4 HO_19)) k_ hk⟩));(case aO=>exact(zq4 HO_10));(case aS=>exact(below_size (zb0 HB)));(case aL=>have:=LMc20.out;omega);intro v442 w24 ho hb hg hat;rw [← Ny441.out] at ho;have n0_:=Aside0.mk (Kd.R_after (ok:=(fun k_=>some k_≠ (.slice (some ad436) t433.length co9:Value).ownBlock)) (by(with_reducible repeat(first|apply Kd.R_alloc|apply Kd.R_drewN|apply Kd.R_drew));exact Kd.R_mono HO_9.out (fun _ hk=>⟨hk.2,hk.1⟩)) hg hat);have n1_:=Aside0.mk (Kd.R_after (ok:=(fun k_=>some k_≠ (.slice (some ad437) t430.length co22:Value).ownBlock)) (zq4 HO_19) hg hat);have n2_:=Aside0.mk (hb);have n3_:=Aside0.mk (ho);clear HO_9;clear HO_19;clear HB;clear HO_10;have HO_9:=n0_;have HO_19:=n1_;have HB:=n2_;have HO443:=n3_;clear n0_ n1_ n2_ n3_;clear ho hb hg hat))
             go_roundg k1
             case measure=>have:=HK1.out;omega
             case rel=>exact⟨(y441),(wrap64 (x21_1+1)),(by first|rfl|(simp;done)|(simp [*];done)),H',⟨by have:=HK1.out;omega⟩,⟨by(with_reducible repeat(first|apply Kd.R_alloc|apply Kd.R_drewN|apply Kd.R_drew));exact Kd.R_mono HO_9.out (fun _ hk=>⟨hk.2,hk.1⟩)⟩,⟨by(with_reducible repeat(first|apply Kd.R_alloc|apply Kd.R_drewN|apply Kd.R_drew));exact HO443.out⟩,⟨by(with_reducible repeat(first|apply Kd.R_alloc|apply Kd.R_drewN|apply Kd.R_drew));exact HO_19.out⟩,⟨by repeat(first|(with_reducible first|exact HB.out|apply below_alloc|apply pw_below_drewN|apply below_drew1)|exact HB.out)⟩⟩
            ·rw [if_neg c20] at H
             exact absurd H (by simp)
           ·rw [if_neg c19] at H
            have c19b0:((wrap64 ((rd t430 (rd t433 x21_1))+t439))== (rd t430 a2))=false:=beq_eq_false_iff_ne.mpr c19
            have c19b1:((wrap64 ((rd t430 (rd t433 x21_1))+t439)) != (rd t430 a2))=true:=bne_iff_ne.mpr c19
            have H':=Aside0.mk H
            clear H
            have p436: 0≤ (x21_1:Int):=of_decide_eq_true zq1
            have q436:x21_1< (t433.length:Int):=of_decide_eq_true zq1
            obtain⟨ad436,e436,hx436_0⟩:=Kd.at_int (Kd.R_reads' HO_19.out).2.2 x21_1 p436 q436
            cases e436
            replace p436:=eq_true p436
            replace q436:=eq_true q436
            try go_wp2
            have n0_:=Aside0.mk (Kd.R_drew HO_9.out)
            have n1_:=Aside0.mk (Kd.R_drew HO_10.out)
            have n2_:=Aside0.mk (Kd.R_drew HO_19.out)
            have n3_:=Aside0.mk (below_drew1 HB.out)
            clear HO_9
            clear HO_10
            clear HO_19
            clear HB
            have HO_9:=n0_
            have HO_10:=n1_
            have HO_19:=n2_
            have HB:=n3_
            clear n0_ n1_ n2_ n3_
            obtain⟨Ao26,co26,eo26⟩:=Kd.R_slice HO_9.out
            (first|subst eo26|(injection eo26 with f1_ f2_ f3_;have f4_:=f1_.symm;have f5_:=f3_.symm;clear f1_ f2_ f3_;subst f4_;subst f5_))
            have p437: 0≤ (a2:Int):=of_decide_eq_true zq1
            have q437:a2< (t430.length:Int):=of_decide_eq_true zq1
            obtain⟨ad437,e437,hx437_0⟩:=Kd.at_int (Kd.R_reads' HO_9.out).2.2 a2 p437 q437
            cases e437
            replace p437:=eq_true p437
            replace q437:=eq_true q437
            have p438: 0≤ ((rd t433 x21_1):Int):=of_decide_eq_true zq1
            have q438:(rd t433 x21_1)< (t430.length:Int):=of_decide_eq_true zq1
            obtain⟨ad438,e438,hx438_0⟩:=Kd.at_int (Kd.R_reads' HO_9.out).2.2 (rd t433 x21_1) p438 q438
            obtain rfl:ad437=ad438:=(by injection e438)
            replace p438:=eq_true p438
            replace q438:=eq_true q438
            have p440: 0≤ (a2:Int):=of_decide_eq_true zq1
            have q440:a2< (t430.length:Int):=of_decide_eq_true zq1
            obtain⟨ad440,e440,hx440_0⟩:=Kd.at_int (Kd.R_reads' HO_9.out).2.2 a2 p440 q440
            obtain rfl:ad437=ad440:=(by injection e440)
            replace p440:=eq_true p440
            replace q440:=eq_true q440
            refine start_ (n:=21) (S:=fun w'=>w'.cell? (ad437.add (a2).toNat)=some (.int .i64 (rd t430 a2))∧w'.cell? (ad437.add ((rd t433 x21_1)).toNat)=some (.int .i64 (rd t430 (rd t433 x21_1)))∧w'.cell? (ad437.add (a2).toNat)=some (.int .i64 (rd t430 a2))) (ds:= []) #[f',f',f',f',f',f',f',f',f',f',f',f',f',f',f',f',f',f',f',f',f'] (by kernel_rfl) rfl rfl ⟨hx437_0,hx438_0,hx440_0⟩ (fun hHeld=>?_);refine with_tabW spec_l9Hops.tab6 spec_l9Hops.bits6 (fun HT_ HW_=>?_)
            generalize wr.drew=w25 at HO_9 HO_10 HO_19 HB hx437_0 hx438_0 hx440_0 hHeld ⊢
            refine pure_ (i:=0) (N:=some 25) (v:=?_) (a':=?_) #[t',f',f',f',f',f',f',f',f',f',f',f',f',f',f',f',f',f',f',f',f'] rfl rfl (any_of HT_.out (by kernel_rfl)) (fun _ _ _ h=>h) (Or.inl ⟨by rfl,?_⟩) ?_ ?_
            rotate_left
            ·intro w'
             go_simp
             with_reducible rfl
            rotate_left
            ·simp only [Act.put,zq5,zq6,zq7,i64_w,i32_w]
             rfl
            refine pure_ (i:=1) (N:=some 26) (v:=?_) (a':=?_) #[t',t',f',f',f',f',f',f',f',f',f',f',f',f',f',f',f',f',f',f',f'] rfl rfl (any_of HT_.out (by kernel_rfl)) (fun _ _ _ h=>h) (Or.inl ⟨by rfl,?_⟩) ?_ ?_
            rotate_left
            ·intro w'
             go_simp
             with_reducible rfl
            rotate_left
            ·simp only [Act.put,zq5,zq6,zq7,i64_w,i32_w]
             rfl
            refine pure_ (i:=2) (N:=some 27) (v:=?_) (a':=?_) #[t',t',t',f',f',f',f',f',f',f',f',f',f',f',f',f',f',f',f',f',f'] rfl rfl (any_of HT_.out (by kernel_rfl)) (fun _ _ _ h=>h) (Or.inl ⟨by rfl,?_⟩) ?_ ?_
            rotate_left
            ·intro w'
             go_simp
             with_reducible rfl
            rotate_left
            ·simp only [Act.put,zq5,zq6,zq7,i64_w,i32_w]
             rfl
            refine take_ (i:=3) (N:=some 28) (v:=?_) (a':=?_) #[t',t',t',t',f',f',f',f',f',f',f',f',f',f',f',f',f',f',f',f',f'] rfl rfl (take_ofW HT_.out HW_.out (by kernel_rfl)) (fun _ _ _ h=>h) (Or.inl ⟨by rfl,?_⟩) hHeld ?_ ?_
            rotate_left
            ·rintro w' ⟨s0,s1,s2⟩
             go_simp
             with_reducible rfl
            rotate_left
            ·simp only [Act.put,zq5,zq6,zq7,i64_w,i32_w]
             rfl
            refine pure_ (i:=4) (N:=some 29) (v:=?_) (a':=?_) #[t',t',t',t',t',f',f',f',f',f',f',f',f',f',f',f',f',f',f',f',f'] rfl rfl (any_of HT_.out (by kernel_rfl)) (fun _ _ _ h=>h) (Or.inl ⟨by rfl,?_⟩) ?_ ?_
            rotate_left
            ·intro w'
             go_simp
             with_reducible rfl
            rotate_left
            ·simp only [Act.put,zq5,zq6,zq7,i64_w,i32_w]
             rfl
            refine pure_ (i:=5) (N:=some 30) (v:=?_) (a':=?_) #[t',t',t',t',t',t',f',f',f',f',f',f',f',f',f',f',f',f',f',f',f'] rfl rfl (any_of HT_.out (by kernel_rfl)) (fun _ _ _ h=>h) (Or.inl ⟨by rfl,?_⟩) ?_ ?_
            rotate_left
            ·intro w'
             go_simp
             with_reducible rfl
            rotate_left
            ·simp only [Act.put,zq5,zq6,zq7,i64_w,i32_w]
             rfl
            refine pure_ (i:=6) (N:=some 31) (v:=?_) (a':=?_) #[t',t',t',t',t',t',t',f',f',f',f',f',f',f',f',f',f',f',f',f',f'] rfl rfl (any_of HT_.out (by kernel_rfl)) (fun _ _ _ h=>h) (Or.inl ⟨by rfl,?_⟩) ?_ ?_
            rotate_left
            ·intro w'
             go_simp
             with_reducible rfl
            rotate_left
            ·simp only [Act.put,zq5,zq6,zq7,i64_w,i32_w]
             rfl
            refine pure_ (i:=7) (N:=some 32) (v:=?_) (a':=?_) #[t',t',t',t',t',t',t',t',f',f',f',f',f',f',f',f',f',f',f',f',f'] rfl rfl (any_of HT_.out (by kernel_rfl)) (fun _ _ _ h=>h) (Or.inl ⟨by rfl,?_⟩) ?_ ?_
            rotate_left
            ·intro w'
             go_simp
             with_reducible rfl
            rotate_left
            ·simp only [Act.put,zq5,zq6,zq7,i64_w,i32_w]
             rfl
            refine pure_ (i:=8) (N:=some 33) (v:=?_) (a':=?_) #[t',t',t',t',t',t',t',t',t',f',f',f',f',f',f',f',f',f',f',f',f'] rfl rfl (any_of HT_.out (by kernel_rfl)) (fun _ _ _ h=>h) (Or.inl ⟨by rfl,?_⟩) ?_ ?_
            rotate_left
            ·intro w'
             go_simp
             with_reducible rfl
            rotate_left
            ·simp only [Act.put,zq5,zq6,zq7,i64_w,i32_w]
             rfl
            refine pure_ (i:=10) (N:=some 35) (v:=?_) (a':=?_) #[t',t',t',t',t',t',t',t',t',f',t',f',f',f',f',f',f',f',f',f',f'] rfl rfl (any_of HT_.out (by kernel_rfl)) (fun _ _ _ h=>h) (Or.inl ⟨by rfl,?_⟩) ?_ ?_
            rotate_left
            ·intro w'
             go_simp
             with_reducible rfl
            rotate_left
            ·simp only [Act.put,zq5,zq6,zq7,i64_w,i32_w]
             rfl
            refine pure_ (i:=11) (N:=some 36) (v:=?_) (a':=?_) #[t',t',t',t',t',t',t',t',t',f',t',t',f',f',f',f',f',f',f',f',f'] rfl rfl (any_of HT_.out (by kernel_rfl)) (fun _ _ _ h=>h) (Or.inl ⟨by rfl,?_⟩) ?_ ?_
            rotate_left
            ·intro w'
             go_simp
             with_reducible rfl
            rotate_left
            ·simp only [Act.put,zq5,zq6,zq7,i64_w,i32_w]
             rfl
            refine pure_ (i:=12) (N:=some 37) (v:=?_) (a':=?_) #[t',t',t',t',t',t',t',t',t',f',t',t',t',f',f',f',f',f',f',f',f'] rfl rfl (any_of HT_.out (by kernel_rfl)) (fun _ _ _ h=>h) (Or.inl ⟨by rfl,?_⟩) ?_ ?_
            rotate_left
            ·intro w'
             go_simp
             with_reducible rfl
            rotate_left
            ·simp only [Act.put,zq5,zq6,zq7,i64_w,i32_w]
             rfl
            refine pure_ (i:=15) (N:=some 40) (v:=?_) (a':=?_) #[t',t',t',t',t',t',t',t',t',f',t',t',t',f',f',t',f',f',f',f',f'] rfl rfl (any_of HT_.out (by kernel_rfl)) (fun _ _ _ h=>h) (Or.inl ⟨by rfl,?_⟩) ?_ ?_
            rotate_left
            ·intro w'
             go_simp
             with_reducible rfl
            rotate_left
            ·simp only [Act.put,zq5,zq6,zq7,i64_w,i32_w]
             rfl
            refine pure_ (i:=16) (N:=some 41) (v:=?_) (a':=?_) #[t',t',t',t',t',t',t',t',t',f',t',t',t',f',f',t',t',f',f',f',f'] rfl rfl (any_of HT_.out (by kernel_rfl)) (fun _ _ _ h=>h) (Or.inl ⟨by rfl,?_⟩) ?_ ?_
            rotate_left
            ·intro w'
             go_simp
             with_reducible rfl
            rotate_left
            ·simp only [Act.put,zq5,zq6,zq7,i64_w,i32_w]
             rfl
            refine pure_ (i:=17) (N:=some 42) (v:=?_) (a':=?_) #[t',t',t',t',t',t',t',t',t',f',t',t',t',f',f',t',t',t',f',f',f'] rfl rfl (any_of HT_.out (by kernel_rfl)) (fun _ _ _ h=>h) (Or.inl ⟨by rfl,?_⟩) ?_ ?_
            rotate_left
            ·intro w'
             go_simp
             with_reducible rfl
            rotate_left
            ·simp only [Act.put,zq5,zq6,zq7,i64_w,i32_w]
             rfl
            refine take_ (i:=9) (N:=some 34) (v:=?_) (a':=?_) #[t',t',t',t',t',t',t',t',t',t',t',t',t',f',f',t',t',t',f',f',f'] rfl rfl (take_ofW HT_.out HW_.out (by kernel_rfl)) (fun _ _ _ h=>h) (Or.inl ⟨by rfl,?_⟩) hHeld ?_ ?_
            rotate_left
            ·rintro w' ⟨s0,s1,s2⟩
             go_simp
             with_reducible rfl
            rotate_left
            ·simp only [Act.put,zq5,zq6,zq7,i64_w,i32_w]
             rfl
            refine take_ (i:=18) (N:=some 43) (v:=?_) (a':=?_) #[t',t',t',t',t',t',t',t',t',t',t',t',t',f',f',t',t',t',t',f',f'] rfl rfl (take_ofW HT_.out HW_.out (by kernel_rfl)) (fun _ _ _ h=>h) (Or.inl ⟨by rfl,?_⟩) hHeld ?_ ?_
            rotate_left
            ·rintro w' ⟨s0,s1,s2⟩
             go_simp
             with_reducible rfl
            rotate_left
            ·simp only [Act.put,zq5,zq6,zq7,i64_w,i32_w]
             rfl
            refine one_ (i:=13) (N:=some 38) #[t',t',t',t',t',t',t',t',t',t',t',t',t',t',f',t',t',t',t',f',f'] rfl rfl (one_of HT_.out (by kernel_rfl)) (by decide) (fun K hK=>?_)
            refine goes_ Try.func47 (by kernel_rfl) rfl #[.slice A1 l1.length c1,.int .i64 a2,.int .i64 (rd t433 x21_1)] (by rfl) rfl rfl zq2 ?_
            with_reducible refine(spec_l9Edge.calls k1 _ _ l1 a2 (rd t433 x21_1) t439 _ ?side1 ?side2 A18.out).mono ?_
            (case side1=>repeat(first|exact(Kd.C_below HR1.out HB.out)|(with_reducible refine Kd.C_alloc ?_ _)|(with_reducible refine Kd.C_drewN ?_ _)|(with_reducible refine Kd.C_drew ?_)))
            (case side2=>exact HC1.out)
            rintro e w27 ⟨rfl,hb⟩
            have HS0_:=(hb.cell (World.block_lt_of_cell? _ _ (hHeld.1))).trans (hHeld.1)
            have HS1_:=(hb.cell (World.block_lt_of_cell? _ _ (hHeld.2.1))).trans (hHeld.2.1)
            have HS2_:=(hb.cell (World.block_lt_of_cell? _ _ (hHeld.2.2))).trans (hHeld.2.2)
            refine⟨_,rfl,?_⟩
            have n0_:=Aside0.mk (Kd.R_below (zq4 HO_9) hb)
            have n1_:=Aside0.mk (Kd.R_below (zq4 HO_10) hb)
            have n2_:=Aside0.mk (Kd.R_below (zq4 HO_19) hb)
            have n3_:=Aside0.mk (below_step (zb0 HB) hb)
            clear HO_9
            clear HO_10
            clear HO_19
            clear HB
            have HO_9:=n0_
            have HO_10:=n1_
            have HO_19:=n2_
            have HB:=n3_
            clear n0_ n1_ n2_ n3_
            (try clear hb)
            (try clear hb2)
            (try clear hk)
            (try clear hi)
            refine hK.out _ _ ⟨HS0_,HS1_,HS2_⟩ (fun hHeld=>?_)
            clear hK K
            refine norm_ (a':=?_) ?_ ?_
            rotate_left
            ·show Act.put _ (some 38) _=_
             simp only [Act.put,zq5,zq6,zq7,i64_w,i32_w]
             rfl
            refine pure_ (i:=14) (N:=some 39) (v:=?_) (a':=?_) #[t',t',t',t',t',t',t',t',t',t',t',t',t',t',t',t',t',t',t',f',f'] rfl rfl (any_of HT_.out (by kernel_rfl)) (fun _ _ _ h=>h) (Or.inl ⟨by rfl,?_⟩) ?_ ?_
            rotate_left
            ·intro w'
             go_simp
             with_reducible rfl
            rotate_left
            ·simp only [Act.put,zq5,zq6,zq7,i64_w,i32_w]
             rfl
            refine pure_ (i:=19) (N:=some 44) (v:=?_) (a':=?_) #[t',t',t',t',t',t',t',t',t',t',t',t',t',t',t',t',t',t',t',t',f'] rfl rfl (any_of HT_.out (by kernel_rfl)) (fun _ _ _ h=>h) (Or.inl ⟨by rfl,?_⟩) ?_ ?_
            rotate_left
            ·intro w'
             go_simp
             with_reducible rfl
            rotate_left
            ·simp only [Act.put,zq5,zq6,zq7,i64_w,i32_w]
             rfl
            refine pure_ (i:=20) (N:=some 45) (v:=?_) (a':=?_) #[t',t',t',t',t',t',t',t',t',t',t',t',t',t',t',t',t',t',t',t',t'] rfl rfl (any_of HT_.out (by kernel_rfl)) (fun _ _ _ h=>h) (Or.inl ⟨by rfl,?_⟩) ?_ ?_
            rotate_left
            ·intro w'
             go_simp
             with_reducible rfl
            rotate_left
            ·simp only [Act.put,zq5,zq6,zq7,i64_w,i32_w]
             rfl
            refine done_ (done_of HT_.out (by kernel_rfl)) ?_
            try go_wp2
            go_roundg k1
            case measure=>have:=HK1.out;omega
            case rel=>exact⟨(x10_1),(wrap64 (x21_1+1)),(by first|rfl|(simp;done)|(simp [*];done)),H',⟨by have:=HK1.out;omega⟩,⟨by(with_reducible repeat(first|apply Kd.R_alloc|apply Kd.R_drewN|apply Kd.R_drew));exact HO_9.out⟩,⟨by(with_reducible repeat(first|apply Kd.R_alloc|apply Kd.R_drewN|apply Kd.R_drew));exact HO_10.out⟩,⟨by(with_reducible repeat(first|apply Kd.R_alloc|apply Kd.R_drewN|apply Kd.R_drew));exact HO_19.out⟩,⟨by repeat(first|(with_reducible first|exact HB.out|apply below_alloc|apply pw_below_drewN|apply below_drew1)|exact HB.out)⟩⟩
          ·rw [if_neg c17] at H
           exact absurd H (by simp)
         ·rw [if_neg c16] at H
          exact absurd H (by simp)
        ·rw [if_neg c15] at H
         have c15b0:decide ((rd t430 a2)< 100000)=false:=decide_eq_false c15
         clear c15
         have H':=Aside0.mk H
         clear H
         have p436: 0≤ (x21_1:Int):=of_decide_eq_true zq1
         have q436:x21_1< (t433.length:Int):=of_decide_eq_true zq1
         obtain⟨ad436,e436,hx436_0⟩:=Kd.at_int (Kd.R_reads' HO_19.out).2.2 x21_1 p436 q436
         cases e436
         replace p436:=eq_true p436
         replace q436:=eq_true q436
         try go_wp2
         have n0_:=Aside0.mk (Kd.R_drew HO_9.out)
         have n1_:=Aside0.mk (Kd.R_drew HO_10.out)
         have n2_:=Aside0.mk (Kd.R_drew HO_19.out)
         have n3_:=Aside0.mk (below_drew1 HB.out)
         clear HO_9
         clear HO_10
         clear HO_19
         clear HB
         have HO_9:=n0_
         have HO_10:=n1_
         have HO_19:=n2_
         have HB:=n3_
         clear n0_ n1_ n2_ n3_
         obtain⟨Ao29,co29,eo29⟩:=Kd.R_slice HO_9.out
         (first|subst eo29|(injection eo29 with f1_ f2_ f3_;have f4_:=f1_.symm;have f5_:=f3_.symm;clear f1_ f2_ f3_;subst f4_;subst f5_))
         have p437: 0≤ (a2:Int):=of_decide_eq_true zq1
         have q437:a2< (t430.length:Int):=of_decide_eq_true zq1
         obtain⟨ad437,e437,hx437_0⟩:=Kd.at_int (Kd.R_reads' HO_9.out).2.2 a2 p437 q437
         cases e437
         replace p437:=eq_true p437
         replace q437:=eq_true q437
         refine start_ (n:=21) (S:=fun w'=>w'.cell? (ad437.add (a2).toNat)=some (.int .i64 (rd t430 a2))) (ds:= []) #[f',f',f',f',f',f',f',f',f',f',f',f',f',f',f',f',f',f',f',f',f'] (by kernel_rfl) rfl rfl (hx437_0) (fun hHeld=>?_);refine with_tabW spec_l9Hops.tab6 spec_l9Hops.bits6 (fun HT_ HW_=>?_)
         generalize wr.drew=w28 at HO_9 HO_10 HO_19 HB hx437_0 hHeld ⊢
         refine pure_ (i:=0) (N:=some 25) (v:=?_) (a':=?_) #[t',f',f',f',f',f',f',f',f',f',f',f',f',f',f',f',f',f',f',f',f'] rfl rfl (any_of HT_.out (by kernel_rfl)) (fun _ _ _ h=>h) (Or.inl ⟨by rfl,?_⟩) ?_ ?_
         rotate_left
         ·intro w'
          go_simp
          with_reducible rfl
         rotate_left
         ·simp only [Act.put,zq5,zq6,zq7,i64_w,i32_w]
          rfl
         refine pure_ (i:=1) (N:=some 26) (v:=?_) (a':=?_) #[t',t',f',f',f',f',f',f',f',f',f',f',f',f',f',f',f',f',f',f',f'] rfl rfl (any_of HT_.out (by kernel_rfl)) (fun _ _ _ h=>h) (Or.inl ⟨by rfl,?_⟩) ?_ ?_
         rotate_left
         ·intro w'
          go_simp
          with_reducible rfl
         rotate_left
         ·simp only [Act.put,zq5,zq6,zq7,i64_w,i32_w]
          rfl
         refine pure_ (i:=2) (N:=some 27) (v:=?_) (a':=?_) #[t',t',t',f',f',f',f',f',f',f',f',f',f',f',f',f',f',f',f',f',f'] rfl rfl (any_of HT_.out (by kernel_rfl)) (fun _ _ _ h=>h) (Or.inl ⟨by rfl,?_⟩) ?_ ?_
         rotate_left
         ·intro w'
          go_simp
          with_reducible rfl
         rotate_left
         ·simp only [Act.put,zq5,zq6,zq7,i64_w,i32_w]
          rfl
         refine take_ (i:=3) (N:=some 28) (v:=?_) (a':=?_) #[t',t',t',t',f',f',f',f',f',f',f',f',f',f',f',f',f',f',f',f',f'] rfl rfl (take_ofW HT_.out HW_.out (by kernel_rfl)) (fun _ _ _ h=>h) (Or.inl ⟨by rfl,?_⟩) hHeld ?_ ?_
         rotate_left
         ·intro w' s0
          go_simp
          with_reducible rfl
         rotate_left
         ·simp only [Act.put,zq5,zq6,zq7,i64_w,i32_w]
          rfl
         refine pure_ (i:=4) (N:=some 29) (v:=?_) (a':=?_) #[t',t',t',t',t',f',f',f',f',f',f',f',f',f',f',f',f',f',f',f',f'] rfl rfl (any_of HT_.out (by kernel_rfl)) (fun _ _ _ h=>h) (Or.inl ⟨by rfl,?_⟩) ?_ ?_
         rotate_left
         ·intro w'
          go_simp
          with_reducible rfl
         rotate_left
         ·simp only [Act.put,zq5,zq6,zq7,i64_w,i32_w]
          rfl
         refine pure_ (i:=5) (N:=some 30) (v:=?_) (a':=?_) #[t',t',t',t',t',t',f',f',f',f',f',f',f',f',f',f',f',f',f',f',f'] rfl rfl (any_of HT_.out (by kernel_rfl)) (fun _ _ _ h=>h) (Or.inl ⟨by rfl,?_⟩) ?_ ?_
         rotate_left
         ·intro w'
          go_simp
          with_reducible rfl
         rotate_left
         ·simp only [Act.put,zq5,zq6,zq7,i64_w,i32_w]
          rfl
         refine pure_ (i:=6) (N:=some 31) (v:=undef) (a':=?_) #[t',t',t',t',t',t',t',f',f',f',f',f',f',f',f',f',f',f',f',f',f'] rfl rfl (any_of HT_.out (by kernel_rfl)) (fun _ _ _ h=>h) (Or.inr ⟨by rfl,rfl⟩) ?_ ?_
         rotate_left
         ·simp only [Act.put,zq5,zq6,zq7,i64_w,i32_w]
          rfl
         refine pure_ (i:=7) (N:=some 32) (v:=undef) (a':=?_) #[t',t',t',t',t',t',t',t',f',f',f',f',f',f',f',f',f',f',f',f',f'] rfl rfl (any_of HT_.out (by kernel_rfl)) (fun _ _ _ h=>h) (Or.inr ⟨by rfl,rfl⟩) ?_ ?_
         rotate_left
         ·simp only [Act.put,zq5,zq6,zq7,i64_w,i32_w]
          rfl
         refine pure_ (i:=8) (N:=some 33) (v:=undef) (a':=?_) #[t',t',t',t',t',t',t',t',t',f',f',f',f',f',f',f',f',f',f',f',f'] rfl rfl (any_of HT_.out (by kernel_rfl)) (fun _ _ _ h=>h) (Or.inr ⟨by rfl,rfl⟩) ?_ ?_
         rotate_left
         ·simp only [Act.put,zq5,zq6,zq7,i64_w,i32_w]
          rfl
         refine pure_ (i:=9) (N:=some 34) (v:=undef) (a':=?_) #[t',t',t',t',t',t',t',t',t',t',f',f',f',f',f',f',f',f',f',f',f'] rfl rfl (any_of HT_.out (by kernel_rfl)) (fun _ _ _ h=>h) (Or.inr ⟨by rfl,rfl⟩) ?_ ?_
         rotate_left
         ·simp only [Act.put,zq5,zq6,zq7,i64_w,i32_w]
          rfl
         refine pure_ (i:=10) (N:=some 35) (v:=undef) (a':=?_) #[t',t',t',t',t',t',t',t',t',t',t',f',f',f',f',f',f',f',f',f',f'] rfl rfl (any_of HT_.out (by kernel_rfl)) (fun _ _ _ h=>h) (Or.inr ⟨by rfl,rfl⟩) ?_ ?_
         rotate_left
         ·simp only [Act.put,zq5,zq6,zq7,i64_w,i32_w]
          rfl
         refine pure_ (i:=11) (N:=some 36) (v:=undef) (a':=?_) #[t',t',t',t',t',t',t',t',t',t',t',t',f',f',f',f',f',f',f',f',f'] rfl rfl (any_of HT_.out (by kernel_rfl)) (fun _ _ _ h=>h) (Or.inr ⟨by rfl,rfl⟩) ?_ ?_
         rotate_left
         ·simp only [Act.put,zq5,zq6,zq7,i64_w,i32_w]
          rfl
         refine pure_ (i:=12) (N:=some 37) (v:=undef) (a':=?_) #[t',t',t',t',t',t',t',t',t',t',t',t',t',f',f',f',f',f',f',f',f'] rfl rfl (any_of HT_.out (by kernel_rfl)) (fun _ _ _ h=>h) (Or.inr ⟨by rfl,rfl⟩) ?_ ?_
         rotate_left
         ·simp only [Act.put,zq5,zq6,zq7,i64_w,i32_w]
          rfl
         refine pure_ (i:=13) (N:=some 38) (v:=undef) (a':=?_) #[t',t',t',t',t',t',t',t',t',t',t',t',t',t',f',f',f',f',f',f',f'] rfl rfl (any_of HT_.out (by kernel_rfl)) (fun _ _ _ h=>h) (Or.inr ⟨by rfl,rfl⟩) ?_ ?_
         rotate_left
         ·simp only [Act.put,zq5,zq6,zq7,i64_w,i32_w]
          rfl
         refine pure_ (i:=14) (N:=some 39) (v:=undef) (a':=?_) #[t',t',t',t',t',t',t',t',t',t',t',t',t',t',t',f',f',f',f',f',f'] rfl rfl (any_of HT_.out (by kernel_rfl)) (fun _ _ _ h=>h) (Or.inr ⟨by rfl,rfl⟩) ?_ ?_
         rotate_left
         ·simp only [Act.put,zq5,zq6,zq7,i64_w,i32_w]
          rfl
         refine pure_ (i:=15) (N:=some 40) (v:=undef) (a':=?_) #[t',t',t',t',t',t',t',t',t',t',t',t',t',t',t',t',f',f',f',f',f'] rfl rfl (any_of HT_.out (by kernel_rfl)) (fun _ _ _ h=>h) (Or.inr ⟨by rfl,rfl⟩) ?_ ?_
         rotate_left
         ·simp only [Act.put,zq5,zq6,zq7,i64_w,i32_w]
          rfl
         refine pure_ (i:=16) (N:=some 41) (v:=undef) (a':=?_) #[t',t',t',t',t',t',t',t',t',t',t',t',t',t',t',t',t',f',f',f',f'] rfl rfl (any_of HT_.out (by kernel_rfl)) (fun _ _ _ h=>h) (Or.inr ⟨by rfl,rfl⟩) ?_ ?_
         rotate_left
         ·simp only [Act.put,zq5,zq6,zq7,i64_w,i32_w]
          rfl
         refine pure_ (i:=17) (N:=some 42) (v:=undef) (a':=?_) #[t',t',t',t',t',t',t',t',t',t',t',t',t',t',t',t',t',t',f',f',f'] rfl rfl (any_of HT_.out (by kernel_rfl)) (fun _ _ _ h=>h) (Or.inr ⟨by rfl,rfl⟩) ?_ ?_
         rotate_left
         ·simp only [Act.put,zq5,zq6,zq7,i64_w,i32_w]
          rfl
         refine pure_ (i:=18) (N:=some 43) (v:=undef) (a':=?_) #[t',t',t',t',t',t',t',t',t',t',t',t',t',t',t',t',t',t',t',f',f'] rfl rfl (any_of HT_.out (by kernel_rfl)) (fun _ _ _ h=>h) (Or.inr ⟨by rfl,rfl⟩) ?_ ?_
         rotate_left
         ·simp only [Act.put,zq5,zq6,zq7,i64_w,i32_w]
          rfl
         refine pure_ (i:=19) (N:=some 44) (v:=undef) (a':=?_) #[t',t',t',t',t',t',t',t',t',t',t',t',t',t',t',t',t',t',t',t',f'] rfl rfl (any_of HT_.out (by kernel_rfl)) (fun _ _ _ h=>h) (Or.inr ⟨by rfl,rfl⟩) ?_ ?_
         rotate_left
         ·simp only [Act.put,zq5,zq6,zq7,i64_w,i32_w]
          rfl
         refine pure_ (i:=20) (N:=some 45) (v:=?_) (a':=?_) #[t',t',t',t',t',t',t',t',t',t',t',t',t',t',t',t',t',t',t',t',t'] rfl rfl (any_of HT_.out (by kernel_rfl)) (fun _ _ _ h=>h) (Or.inl ⟨by rfl,?_⟩) ?_ ?_
         rotate_left
         ·intro w'
          go_simp
          with_reducible rfl
         rotate_left
         ·simp only [Act.put,zq5,zq6,zq7,i64_w,i32_w]
          rfl
         refine done_ (done_of HT_.out (by kernel_rfl)) ?_
         try go_wp2
         go_roundg k1
         case measure=>have:=HK1.out;omega
         case rel=>exact⟨(x10_1),(wrap64 (x21_1+1)),(by first|rfl|(simp;done)|(simp [*];done)),H',⟨by have:=HK1.out;omega⟩,⟨by(with_reducible repeat(first|apply Kd.R_alloc|apply Kd.R_drewN|apply Kd.R_drew));exact HO_9.out⟩,⟨by(with_reducible repeat(first|apply Kd.R_alloc|apply Kd.R_drewN|apply Kd.R_drew));exact HO_10.out⟩,⟨by(with_reducible repeat(first|apply Kd.R_alloc|apply Kd.R_drewN|apply Kd.R_drew));exact HO_19.out⟩,⟨by repeat(first|(with_reducible first|exact HB.out|apply below_alloc|apply pw_below_drewN|apply below_drew1)|exact HB.out)⟩⟩
       ·rw [if_neg c14] at H
        exact absurd H (by simp)
      ·rw [if_neg c13] at H
       exact absurd H (by simp)
     ·rw [if_neg c12] at H
      exact absurd H (by simp)
    ·rw [if_neg c11] at H
     exact absurd H (by simp)
   ·rw [if_neg c10] at H
    have c10b0:decide (x21_1< (t433.length:Int))=false:=decide_eq_false c10
    clear c10
    obtain rfl:=Option.some.inj H
    go_wp2
    go_ret
    exact⟨_,by first|rfl|(simp [errW_none,errW_some]<;>rfl)|(simp [*,errW_none,errW_some]<;>rfl),by(with_reducible repeat(first|apply Kd.R_alloc|apply Kd.R_drewN|apply Kd.R_drew));exact Kd.R_mono HO_10.out (fun _ hk=>trivial),by repeat(first|(with_reducible first|exact HB.out|apply below_alloc|apply pw_below_drewN|apply below_drew1)|exact HB.out)⟩
end Go.Proofs.Ytklecgkjoofipaa.P

namespace Go.Proofs.Ytklecgkjoofipaa.P
open Go.RowKit Go.Proofs.YtklecgkjoofipaaW.PrintWords Go.Proofs.YtklecgkjoofipaaW.PrintLast Go.Proofs.YtklecgkjoofipaaW.PrintMore
attribute [local go_sem] max2_int min2_int max_two min_two max_three min_three max_four min_four   -- for this text's walks alone
set_option linter.unusedVariables false
set_option linter.unusedSimpArgs false
def spec_FirstHops.f (k:Nat) (a0:Int) (l1:List (S67)) (a2:Int) (a3:Int):Option (List Int × Bool):=(spec_l9Two.f k a0 l1 a2 a3).bind fun t444=>(if t444=true then(if a2=a3 then(some (([] :List Int),false)) else((spec_l9Hops.f k a0 l1 a2 a3).bind fun t445=>(some (t445,true)))) else(some (([] :List Int),false)))
set_option maxHeartbeats 8000000 in
set_option maxRecDepth 100000 in
theorem spec_FirstHops.calls (k:Nat) (a0:Int) (A1:Option Addr) (c1:Nat) (l1:List (S67)) (a2:Int) (a3:Int) (r1:List Int) (r2:Bool) (w:World) (hr1:Kd.C k67 w A1 l1.length l1) (hc1:l1.length≤c1) (h:spec_FirstHops.f k a0 l1 a2 a3=some (r1,r2)):
  Calls Try.prog 30 #[.int .i64 a0,.slice A1 l1.length c1,.int .i64 a2,.int .i64 a3] w fun e w'=> ∃ v0_:Value,e= .returned (.tuple #[v0_,.bool r2])∧Kd.R (Kd.int .i64) 3 w' w.heap.size (fun _=>True) v0_ r1∧Below w.heap.size w w':=by
 have HR1:=Aside0.mk hr1
 have HC1:=Aside0.mk hc1
 clear hr1 hc1
 have HB:=Aside0.mk (Below.refl w.heap.size w)
 have H:((spec_l9Two.f k a0 l1 a2 a3).bind fun t444=>(if t444=true then(if a2=a3 then(some (([] :List Int),false)) else((spec_l9Hops.f k a0 l1 a2 a3).bind fun t445=>(some (t445,true)))) else(some (([] :List Int),false))))=some (r1,r2):=h
 clear h
 replace H:=Option.bind_eq_some_iff.mp H
 obtain⟨t444,A50,H⟩:=H
 replace H:(if t444=true then(if a2=a3 then(some (([] :List Int),false)) else((spec_l9Hops.f k a0 l1 a2 a3).bind fun t445=>(some (t445,true)))) else(some (([] :List Int),false)))=some (r1,r2):=H
 have A5:=Aside0.mk A50
 clear A50
 by_cases c6:t444=true
 ·subst c6
  have H1:(if a2=a3 then(some (([] :List Int),false)) else((spec_l9Hops.f k a0 l1 a2 a3).bind fun t445=>(some (t445,true))))=some (r1,r2):=by rw [if_pos rfl] at H;exact H
  clear H
  have H:=H1
  clear H1
  by_cases c7:a2=a3
  ·rw [if_pos c7] at H
   have c7b0:(a2==a3)=true:=beq_iff_eq.mpr c7
   have c7b1:(a2 !=a3)=false:=bne_eq_false_iff_eq.mpr c7
   clear c7
   simp only [Option.some.injEq,Prod.mk.injEq] at H
   obtain⟨rfl,rfl⟩:=H
   go_enter Try.func30,Try.ntmps30
   go_wp2_with (first|((with_reducible refine gate_callee (f:=59) rfl ?_);refine goesL_ (some 14) rfl rfl Try.func59 (by kernel_rfl) rfl #[.int .i64 a0,.slice A1 l1.length c1,.int .i64 a2,.int .i64 a3] rfl zq2 ?_;(with_reducible refine(spec_l9Two.calls k a0 _ _ l1 a2 a3 true _ ?side1 ?side2 A5.out).mono ?_);(case side1=>repeat(first|exact HR1.out|(with_reducible refine Kd.C_alloc ?_ _)|(with_reducible refine Kd.C_drewN ?_ _)|(with_reducible refine Kd.C_drew ?_)));(case side2=>exact HC1.out);rintro e w8 ⟨rfl,hb⟩;refine⟨_,rfl,?_⟩;have n0_:=Aside0.mk (below_step (zb0 HB) hb);clear HB;have HB:=n0_;clear n0_;(try clear hb);(try clear hb2);(try clear hk);(try clear hi)))
   go_ret2
   exact⟨_,by first|rfl|(simp [errW_none,errW_some]<;>rfl)|(simp [*,errW_none,errW_some]<;>rfl),by first|exact Kd.R_nil _ _ _ _ _|exact Kd.N_nil _ _ _ _ _|exact Kd.V_nil _ _ _ _ _|exact Kd.Q_nil _ _ _ _ _|exact Kd.S_nil _ _ _ _ _,by repeat(first|(with_reducible first|exact HB.out|apply below_alloc|apply pw_below_drewN|apply below_drew1)|exact HB.out)⟩
  ·rw [if_neg c7] at H
   have c7b0:(a2==a3)=false:=beq_eq_false_iff_ne.mpr c7
   have c7b1:(a2 !=a3)=true:=bne_iff_ne.mpr c7
   replace H:=Option.bind_eq_some_iff.mp H
   obtain⟨t445,A90,H⟩:=H
   replace H:(some (t445,true))=some (r1,r2):=H
   have A9:=Aside0.mk A90
   clear A90
   simp only [Option.some.injEq,Prod.mk.injEq] at H
   obtain⟨rfl,rfl⟩:=H
   go_enter Try.func30,Try.ntmps30
   go_wp2_with (first|((with_reducible refine gate_callee (f:=59) rfl ?_);refine goesL_ (some 14) rfl rfl Try.func59 (by kernel_rfl) rfl #[.int .i64 a0,.slice A1 l1.length c1,.int .i64 a2,.int .i64 a3] rfl zq2 ?_;(with_reducible refine(spec_l9Two.calls k a0 _ _ l1 a2 a3 true _ ?side1 ?side2 A5.out).mono ?_);(case side1=>repeat(first|exact HR1.out|(with_reducible refine Kd.C_alloc ?_ _)|(with_reducible refine Kd.C_drewN ?_ _)|(with_reducible refine Kd.C_drew ?_)));(case side2=>exact HC1.out);rintro e w10 ⟨rfl,hb⟩;refine⟨_,rfl,?_⟩;have n0_:=Aside0.mk (below_step (zb0 HB) hb);clear HB;have HB:=n0_;clear n0_;(try clear hb);(try clear hb2);(try clear hk);(try clear hi))|((with_reducible refine gate_callee (f:=60) rfl ?_);refine goesL_ (some 25) rfl rfl Try.func60 (by kernel_rfl) rfl #[.int .i64 a0,.slice A1 l1.length c1,.int .i64 a2,.int .i64 a3] rfl zq2 ?_;(with_reducible refine(spec_l9Hops.calls k a0 _ _ l1 a2 a3 t445 _ ?side1 ?side2 A9.out).mono ?_);(case side1=>repeat(first|exact(Kd.C_below HR1.out HB.out)|(with_reducible refine Kd.C_alloc ?_ _)|(with_reducible refine Kd.C_drewN ?_ _)|(with_reducible refine Kd.C_drew ?_)));(case side2=>exact HC1.out);rintro e w11 ⟨v446,rfl,ho0,hb⟩;refine⟨_,rfl,?_⟩;have n0_:=Aside0.mk (Kd.R_lower ho0 (below_size (zb0 HB)));have n1_:=Aside0.mk (below_step (zb0 HB) hb);clear HB;have HO447:=n0_;have HB:=n1_;clear n0_ n1_;(try clear hb);(try clear hb2);(try clear hk);(try clear hi);(try clear ho0)))
   go_ret2
   exact⟨_,by first|rfl|(simp [errW_none,errW_some]<;>rfl)|(simp [*,errW_none,errW_some]<;>rfl),by(with_reducible repeat(first|apply Kd.R_alloc|apply Kd.R_drewN|apply Kd.R_drew));exact HO447.out,by repeat(first|(with_reducible first|exact HB.out|apply below_alloc|apply pw_below_drewN|apply below_drew1)|exact HB.out)⟩
 ·replace c6:=Bool.eq_false_iff.mpr c6
  subst c6
  have H1:(some (([] :List Int),false))=some (r1,r2):=by rw [if_neg (show ¬ (false=true) by decide)] at H;exact H
  clear H
  have H:=H1
  clear H1
  simp only [Option.some.injEq,Prod.mk.injEq] at H
  obtain⟨rfl,rfl⟩:=H
  go_enter Try.func30,Try.ntmps30
  go_wp2_with (first|((with_reducible refine gate_callee (f:=59) rfl ?_);refine goesL_ (some 14) rfl rfl Try.func59 (by kernel_rfl) rfl #[.int .i64 a0,.slice A1 l1.length c1,.int .i64 a2,.int .i64 a3] rfl zq2 ?_;(with_reducible refine(spec_l9Two.calls k a0 _ _ l1 a2 a3 false _ ?side1 ?side2 A5.out).mono ?_);(case side1=>repeat(first|exact HR1.out|(with_reducible refine Kd.C_alloc ?_ _)|(with_reducible refine Kd.C_drewN ?_ _)|(with_reducible refine Kd.C_drew ?_)));(case side2=>exact HC1.out);rintro e w12 ⟨rfl,hb⟩;refine⟨_,rfl,?_⟩;have n0_:=Aside0.mk (below_step (zb0 HB) hb);clear HB;have HB:=n0_;clear n0_;(try clear hb);(try clear hb2);(try clear hk);(try clear hi)))
  go_ret2
  exact⟨_,by first|rfl|(simp [errW_none,errW_some]<;>rfl)|(simp [*,errW_none,errW_some]<;>rfl),by first|exact Kd.R_nil _ _ _ _ _|exact Kd.N_nil _ _ _ _ _|exact Kd.V_nil _ _ _ _ _|exact Kd.Q_nil _ _ _ _ _|exact Kd.S_nil _ _ _ _ _,by repeat(first|(with_reducible first|exact HB.out|apply below_alloc|apply pw_below_drewN|apply below_drew1)|exact HB.out)⟩
def spec_HopFor.f (k:Nat) (a0:Int) (l1:List (S67)) (a2:Int) (a3:Int) (a4:Int):Option (Int × Bool):=(spec_FirstHops.f k a0 l1 a2 a3).bind fun bt448=>(if bt448.2=true then((spec_l1In.f a4 0 1000).bind fun t452=>(if t452=true then(if (bt448.1.length:Int)=0 then(some (0,false)) else(if 0≤ (Int.tmod a4 (bt448.1.length:Int)) then(if (Int.tmod a4 (bt448.1.length:Int))< (bt448.1.length:Int) then(some (rd bt448.1 (Int.tmod a4 (bt448.1.length:Int)),true)) else(none)) else(none))) else(some (0,false)))) else(some (0,false)))
set_option maxHeartbeats 8000000 in
set_option maxRecDepth 100000 in
theorem spec_HopFor.calls (k:Nat) (a0:Int) (A1:Option Addr) (c1:Nat) (l1:List (S67)) (a2:Int) (a3:Int) (a4:Int) (r1:Int) (r2:Bool) (w:World) (hr1:Kd.C k67 w A1 l1.length l1) (hc1:l1.length≤c1) (h:spec_HopFor.f k a0 l1 a2 a3 a4=some (r1,r2)):
  Calls Try.prog 28 #[.int .i64 a0,.slice A1 l1.length c1,.int .i64 a2,.int .i64 a3,.int .i64 a4] w fun e w'=>e= .returned (.tuple #[.int .i64 r1,.bool r2])∧Below w.heap.size w w':=by
 have HR1:=Aside0.mk hr1
 have HC1:=Aside0.mk hc1
 clear hr1 hc1
 have HB:=Aside0.mk (Below.refl w.heap.size w)
 have H:((spec_FirstHops.f k a0 l1 a2 a3).bind fun bt448=>(if bt448.2=true then((spec_l1In.f a4 0 1000).bind fun t452=>(if t452=true then(if (bt448.1.length:Int)=0 then(some (0,false)) else(if 0≤ (Int.tmod a4 (bt448.1.length:Int)) then(if (Int.tmod a4 (bt448.1.length:Int))< (bt448.1.length:Int) then(some (rd bt448.1 (Int.tmod a4 (bt448.1.length:Int)),true)) else(none)) else(none))) else(some (0,false)))) else(some (0,false))))=some (r1,r2):=h
 clear h
 replace H:=Option.bind_eq_some_iff.mp H
 obtain⟨⟨t448,t449⟩,A60,H⟩:=H
 replace H:(if t449=true then((spec_l1In.f a4 0 1000).bind fun t452=>(if t452=true then(if (t448.length:Int)=0 then(some (0,false)) else(if 0≤ (Int.tmod a4 (t448.length:Int)) then(if (Int.tmod a4 (t448.length:Int))< (t448.length:Int) then(some (rd t448 (Int.tmod a4 (t448.length:Int)),true)) else(none)) else(none))) else(some (0,false)))) else(some (0,false)))=some (r1,r2):=H
 have A6:=Aside0.mk A60
 clear A60
 by_cases c7:t449=true
 ·subst c7
  have H1:((spec_l1In.f a4 0 1000).bind fun t452=>(if t452=true then(if (t448.length:Int)=0 then(some (0,false)) else(if 0≤ (Int.tmod a4 (t448.length:Int)) then(if (Int.tmod a4 (t448.length:Int))< (t448.length:Int) then(some (rd t448 (Int.tmod a4 (t448.length:Int)),true)) else(none)) else(none))) else(some (0,false))))=some (r1,r2):=by rw [if_pos rfl] at H;exact H
  clear H
  have H:=H1
  clear H1
  replace H:=Option.bind_eq_some_iff.mp H
  obtain⟨t452,A80,H⟩:=H
  replace H:(if t452=true then(if (t448.length:Int)=0 then(some (0,false)) else(if 0≤ (Int.tmod a4 (t448.length:Int)) then(if (Int.tmod a4 (t448.length:Int))< (t448.length:Int) then(some (rd t448 (Int.tmod a4 (t448.length:Int)),true)) else(none)) else(none))) else(some (0,false)))=some (r1,r2):=H
  have A8:=Aside0.mk A80
  clear A80
  by_cases c9:t452=true
  ·subst c9
   have H1:(if (t448.length:Int)=0 then(some (0,false)) else(if 0≤ (Int.tmod a4 (t448.length:Int)) then(if (Int.tmod a4 (t448.length:Int))< (t448.length:Int) then(some (rd t448 (Int.tmod a4 (t448.length:Int)),true)) else(none)) else(none)))=some (r1,r2):=by rw [if_pos rfl] at H;exact H
   clear H
   have H:=H1
   clear H1
   by_cases c10:(t448.length:Int)=0
   ·rw [if_pos c10] at H
    have c10b0:((t448.length:Int)==0)=true:=beq_iff_eq.mpr c10
    have c10b1:((t448.length:Int) !=0)=false:=bne_eq_false_iff_eq.mpr c10
    clear c10
    simp only [Option.some.injEq,Prod.mk.injEq] at H
    obtain⟨rfl,rfl⟩:=H
    go_enter Try.func28,Try.ntmps28
    go_wp2_with (first|((with_reducible refine gate_callee (f:=30) rfl ?_);refine goesL_ (some 19) rfl rfl Try.func30 (by kernel_rfl) rfl #[.int .i64 a0,.slice A1 l1.length c1,.int .i64 a2,.int .i64 a3] rfl zq2 ?_;(with_reducible refine(spec_FirstHops.calls k a0 _ _ l1 a2 a3 t448 true _ ?side1 ?side2 A6.out).mono ?_);(case side1=>repeat(first|exact HR1.out|(with_reducible refine Kd.C_alloc ?_ _)|(with_reducible refine Kd.C_drewN ?_ _)|(with_reducible refine Kd.C_drew ?_)));(case side2=>exact HC1.out);rintro e w11 ⟨v450,rfl,ho0,hb⟩;refine⟨_,rfl,?_⟩;have n0_:=Aside0.mk (Kd.R_lower ho0 (below_size (zb0 HB)));have n1_:=Aside0.mk (below_step (zb0 HB) hb);clear HB;have HO451:=n0_;have HB:=n1_;clear n0_ n1_;(try clear hb);(try clear hb2);(try clear hk);(try clear hi);(try clear ho0))|(go_at_call 45;(with_reducible refine(spec_l1In.calls a4 0 1000 true _ A8.out).mono ?_);rintro e w' ⟨rfl,⟨nd,rfl⟩⟩;obtain⟨Ao12,co12,eo12⟩:=Kd.R_slice HO451.out;subst eo12))
    go_ret2
    exact⟨by first|rfl|(simp [errW_none,errW_some]<;>rfl)|(simp [*,errW_none,errW_some]<;>rfl),by repeat(first|(with_reducible first|exact HB.out|apply below_alloc|apply pw_below_drewN|apply below_drew1)|exact HB.out)⟩
   ·rw [if_neg c10] at H
    have c10b0:((t448.length:Int)==0)=false:=beq_eq_false_iff_ne.mpr c10
    have c10b1:((t448.length:Int) !=0)=true:=bne_iff_ne.mpr c10
    have c10b2:¬ (t448= []):=fun h_=>c10 (by rw [h_];rfl)
    obtain⟨ji13,hji13⟩ :∃ j_:Int,(Int.tmod a4 (t448.length:Int))=j_:=⟨_,rfl⟩
    replace H:(if 0≤ (ji13) then(if (ji13)< (t448.length:Int) then(some (rd t448 (ji13),true)) else(none)) else(none))=some (r1,r2):=by first|(rw [hji13] at H;exact H)|(simp only [hji13] at H ⊢;exact H)
    (try rw [hji13] at A6)
    (try rw [hji13] at A8)
    by_cases c14: 0≤ (ji13)
    ·rw [if_pos c14] at H
     have c14b0:decide (0≤ (ji13))=true:=decide_eq_true c14
     clear c14
     by_cases c15:(ji13)< (t448.length:Int)
     ·rw [if_pos c15] at H
      have c15b0:decide ((ji13)< (t448.length:Int))=true:=decide_eq_true c15
      clear c15
      simp only [Option.some.injEq,Prod.mk.injEq] at H
      obtain⟨rfl,rfl⟩:=H
      go_enter Try.func28,Try.ntmps28
      go_wp2_with (first|((with_reducible refine gate_callee (f:=30) rfl ?_);refine goesL_ (some 19) rfl rfl Try.func30 (by kernel_rfl) rfl #[.int .i64 a0,.slice A1 l1.length c1,.int .i64 a2,.int .i64 a3] rfl zq2 ?_;(with_reducible refine(spec_FirstHops.calls k a0 _ _ l1 a2 a3 t448 true _ ?side1 ?side2 A6.out).mono ?_);(case side1=>repeat(first|exact HR1.out|(with_reducible refine Kd.C_alloc ?_ _)|(with_reducible refine Kd.C_drewN ?_ _)|(with_reducible refine Kd.C_drew ?_)));(case side2=>exact HC1.out);rintro e w16 ⟨v450,rfl,ho0,hb⟩;refine⟨_,rfl,?_⟩;have n0_:=Aside0.mk (Kd.R_lower ho0 (below_size (zb0 HB)));have n1_:=Aside0.mk (below_step (zb0 HB) hb);clear HB;have HO451:=n0_;have HB:=n1_;clear n0_ n1_;(try clear hb);(try clear hb2);(try clear hk);(try clear hi);(try clear ho0))|(go_at_call 45;(with_reducible refine(spec_l1In.calls a4 0 1000 true _ A8.out).mono ?_);rintro e w' ⟨rfl,⟨nd,rfl⟩⟩;obtain⟨Ao17,co17,eo17⟩:=Kd.R_slice HO451.out;subst eo17;have p453: 0≤ ((ji13):Int):=of_decide_eq_true zq1;have q453:(ji13)< (t448.length:Int):=of_decide_eq_true zq1;obtain⟨ad453,e453,hx453_0⟩:=Kd.at_int (Kd.R_reads' HO451.out).2.2 (ji13) p453 q453;cases e453;replace p453:=eq_true p453;replace q453:=eq_true q453))
      go_ret2
      exact⟨by first|rfl|(simp [errW_none,errW_some]<;>rfl)|(simp only [← hji13];first|rfl|(simp [errW_none,errW_some]<;>rfl))|(simp [*,errW_none,errW_some]<;>rfl),by repeat(first|(with_reducible first|exact HB.out|apply below_alloc|apply pw_below_drewN|apply below_drew1)|exact HB.out)⟩
     ·rw [if_neg c15] at H
      exact absurd H (by simp)
    ·rw [if_neg c14] at H
     exact absurd H (by simp)
  ·replace c9:=Bool.eq_false_iff.mpr c9
   subst c9
   have H1:(some (0,false))=some (r1,r2):=by rw [if_neg (show ¬ (false=true) by decide)] at H;exact H
   clear H
   have H:=H1
   clear H1
   simp only [Option.some.injEq,Prod.mk.injEq] at H
   obtain⟨rfl,rfl⟩:=H
   go_enter Try.func28,Try.ntmps28
   go_wp2_with (first|((with_reducible refine gate_callee (f:=30) rfl ?_);refine goesL_ (some 19) rfl rfl Try.func30 (by kernel_rfl) rfl #[.int .i64 a0,.slice A1 l1.length c1,.int .i64 a2,.int .i64 a3] rfl zq2 ?_;(with_reducible refine(spec_FirstHops.calls k a0 _ _ l1 a2 a3 t448 true _ ?side1 ?side2 A6.out).mono ?_);(case side1=>repeat(first|exact HR1.out|(with_reducible refine Kd.C_alloc ?_ _)|(with_reducible refine Kd.C_drewN ?_ _)|(with_reducible refine Kd.C_drew ?_)));(case side2=>exact HC1.out);rintro e w18 ⟨v450,rfl,ho0,hb⟩;refine⟨_,rfl,?_⟩;have n0_:=Aside0.mk (Kd.R_lower ho0 (below_size (zb0 HB)));have n1_:=Aside0.mk (below_step (zb0 HB) hb);clear HB;have HO451:=n0_;have HB:=n1_;clear n0_ n1_;(try clear hb);(try clear hb2);(try clear hk);(try clear hi);(try clear ho0))|(go_at_call 45;(with_reducible refine(spec_l1In.calls a4 0 1000 false _ A8.out).mono ?_);rintro e w' ⟨rfl,⟨nd,rfl⟩⟩))
   go_ret2
   exact⟨by first|rfl|(simp [errW_none,errW_some]<;>rfl)|(simp [*,errW_none,errW_some]<;>rfl),by repeat(first|(with_reducible first|exact HB.out|apply below_alloc|apply pw_below_drewN|apply below_drew1)|exact HB.out)⟩
 ·replace c7:=Bool.eq_false_iff.mpr c7
  subst c7
  have H1:(some (0,false))=some (r1,r2):=by rw [if_neg (show ¬ (false=true) by decide)] at H;exact H
  clear H
  have H:=H1
  clear H1
  simp only [Option.some.injEq,Prod.mk.injEq] at H
  obtain⟨rfl,rfl⟩:=H
  go_enter Try.func28,Try.ntmps28
  go_wp2_with (first|((with_reducible refine gate_callee (f:=30) rfl ?_);refine goesL_ (some 19) rfl rfl Try.func30 (by kernel_rfl) rfl #[.int .i64 a0,.slice A1 l1.length c1,.int .i64 a2,.int .i64 a3] rfl zq2 ?_;(with_reducible refine(spec_FirstHops.calls k a0 _ _ l1 a2 a3 t448 false _ ?side1 ?side2 A6.out).mono ?_);(case side1=>repeat(first|exact HR1.out|(with_reducible refine Kd.C_alloc ?_ _)|(with_reducible refine Kd.C_drewN ?_ _)|(with_reducible refine Kd.C_drew ?_)));(case side2=>exact HC1.out);rintro e w19 ⟨v450,rfl,ho0,hb⟩;refine⟨_,rfl,?_⟩;have n0_:=Aside0.mk (Kd.R_lower ho0 (below_size (zb0 HB)));have n1_:=Aside0.mk (below_step (zb0 HB) hb);clear HB;have HO451:=n0_;have HB:=n1_;clear n0_ n1_;(try clear hb);(try clear hb2);(try clear hk);(try clear hi);(try clear ho0)))
  go_ret2
  exact⟨by first|rfl|(simp [errW_none,errW_some]<;>rfl)|(simp [*,errW_none,errW_some]<;>rfl),by repeat(first|(with_reducible first|exact HB.out|apply below_alloc|apply pw_below_drewN|apply below_drew1)|exact HB.out)⟩
def impl_near.l0:Nat→List (S67)→Int→List Int→Int→Int→Option (List Int)
 | 0,_,_,_,_,_=>none
 |k+1,x1,x2,x7,x9,x10=>if x10<x9 then((impl_cost.f k x1 x2 x10).bind fun t454=>(if t454 > 0 then(if x7.length< 17592186044416 then(impl_near.l0 k x1 x2 (x7++ [x10]) x9 (wrap64 (x10+1))) else(none)) else(impl_near.l0 k x1 x2 x7 x9 (wrap64 (x10+1))))) else(some x7)
def impl_near.f (k:Nat) (a0:Int) (l1:List (S67)) (a2:Int):Option (List Int):=impl_near.l0 k l1 a2 ([] :List Int) a0 0
set_option maxHeartbeats 8000000 in
set_option maxRecDepth 100000 in
theorem impl_near.calls (k:Nat) (a0:Int) (A1:Option Addr) (c1:Nat) (l1:List (S67)) (a2:Int) (r:List Int) (w:World) (hr1:Kd.C k67 w A1 l1.length l1) (hc1:l1.length≤c1) (h:impl_near.f k a0 l1 a2=some r):
  Calls Try.prog 74 #[.int .i64 a0,.slice A1 l1.length c1,.int .i64 a2] w fun e w'=> ∃ v0_:Value,e= .returned (v0_)∧Kd.R (Kd.int .i64) 3 w' w.heap.size (fun _=>True) v0_ r∧Below w.heap.size w w':=by
 have HR1:=Aside0.mk hr1
 have HC1:=Aside0.mk hc1
 clear hr1 hc1
 have HB:=Aside0.mk (Below.refl w.heap.size w)
 have H:(impl_near.l0 k l1 a2 ([] :List Int) a0 0)=some r:=h
 clear h
 have H':=Aside0.mk H
 clear H
 go_enter Try.func74,Try.ntmps74
 go_wp2
 go_loopg [7,10] k (fun kq v7 v10 w'=> ∃ (x7_1:List Int) (x10_1:Int),v10= .int .i64 x10_1∧Aside0 (impl_near.l0 kq l1 a2 x7_1 a0 x10_1=some r)∧Aside0 (kq≤k)∧Aside0 (Kd.R (Kd.int .i64) 3 w' w.heap.size (fun _=>True) v7 x7_1)∧Aside0 (Below w.heap.size w w'))
 case atStart=>exact⟨(([] :List Int)),(0),(by first|rfl|(simp;done)|(simp [*];done)),H',⟨Nat.le_refl _⟩,⟨by first|exact Kd.R_nil _ _ _ _ _|exact Kd.N_nil _ _ _ _ _|exact Kd.V_nil _ _ _ _ _|exact Kd.Q_nil _ _ _ _ _|exact Kd.S_nil _ _ _ _ _⟩,⟨by repeat(first|(with_reducible first|exact HB.out|apply below_alloc|apply pw_below_drewN|apply below_drew1)|exact HB.out)⟩⟩
 case round=>
  clear H'
  try clear c1
  try clear p2
  obtain⟨x7_1,x10_1,rfl,HA,HK1,HO_7,HB⟩:=hrel
  cases gk with
  |zero=>exact absurd HA.out (by simp [impl_near.l0])
  |succ k1=>
   have H:=HA.out
   clear HA
   simp only [impl_near.l0] at H
   by_cases c4:x10_1<a0
   ·rw [if_pos c4] at H
    have c4b0:decide (x10_1<a0)=true:=decide_eq_true c4
    clear c4
    replace H:=Option.bind_eq_some_iff.mp H
    obtain⟨t454,A50,H⟩:=H
    replace H:(if t454 > 0 then(if x7_1.length< 17592186044416 then(impl_near.l0 k1 l1 a2 (x7_1++ [x10_1]) a0 (wrap64 (x10_1+1))) else(none)) else(impl_near.l0 k1 l1 a2 x7_1 a0 (wrap64 (x10_1+1))))=some r:=H
    have A5:=Aside0.mk A50
    clear A50
    by_cases c6:t454 > 0
    ·rw [if_pos c6] at H
     have c6b0:decide (0<t454)=true:=decide_eq_true c6
     clear c6
     by_cases c7:x7_1.length< 17592186044416
     ·rw [if_pos c7] at H
      have LMc7:=Aside0.mk c7
      clear c7
      obtain⟨y455,hy455⟩ :∃ y_:List Int,y_= (x7_1++ [x10_1]):=⟨_,rfl⟩
      replace H:(impl_near.l0 k1 l1 a2 y455 a0 (wrap64 (x10_1+1)))=some r:=by first|(rw [hy455];with_reducible exact H)|(have H2_:=(Option.bind_some _ _).symm.trans H;rw [hy455];with_reducible exact H2_)|(have H2_:=(Option.bind_some _ _).symm.trans H;with_reducible exact H2_)|with_reducible exact H|(rw [hy455];exact H)|exact H
      have Ny455:=Aside0.mk hy455
      clear hy455
      have H':=Aside0.mk H
      clear H
      go_wp2_with (first|((with_reducible refine gate_callee (f:=51) rfl ?_);refine goesL_ (some 16) rfl rfl Try.func51 (by kernel_rfl) rfl #[.slice A1 l1.length c1,.int .i64 a2,.int .i64 x10_1] rfl zq2 ?_;(with_reducible refine(impl_cost.calls k1 _ _ l1 a2 x10_1 t454 _ ?side1 ?side2 A5.out).mono ?_);(case side1=>repeat(first|exact(Kd.C_below HR1.out HB.out)|(with_reducible refine Kd.C_alloc ?_ _)|(with_reducible refine Kd.C_drewN ?_ _)|(with_reducible refine Kd.C_drew ?_)));(case side2=>exact HC1.out);rintro e w8 ⟨rfl,hb⟩;refine⟨_,rfl,?_⟩;have n0_:=Aside0.mk (Kd.R_below (zq4 HO_7) hb);have n1_:=Aside0.mk (below_step (zb0 HB) hb);clear HO_7;clear HB;have HO_7:=n0_;have HB:=n1_;clear n0_ n1_;(try clear hb);(try clear hb2);(try clear hk);(try clear hi))|((with_reducible refine gate_builtin (b:= .append) (xs:= #[.tmp 18,.tmp 20]) rfl ?_);at_builtin;refine Kd.R_append (Kd.int .i64) (w0:=w) w.heap.size rfl (.tmp 18) (.tmp 20) 23 3 (.int .i64 0) 8 rfl Try.underlying23 info3 rfl (by decide) (by omega) u7 x7_1 x10_1 [.int .i64 x10_1] (fun _=>True) (fun _=>False) rfl rfl ?aP (fun _ hk=>hk.elim) ?aF ?aO ?aB ?aS ?aL ?_;(case aP=>exact rfl);(case aB=>exact(zb0 HB));(case aF=>exact(fun _ _=>trivial));(case aO=>exact(zq4 HO_7));(case aS=>exact(below_size (zb0 HB)));(case aL=>have:=LMc7.out;omega);intro v456 w9 ho hb hg hat;rw [← Ny455.out] at ho;have n0_:=Aside0.mk (hb);have n1_:=Aside0.mk (ho);clear HB;clear HO_7;have HB:=n0_;have HO457:=n1_;clear n0_ n1_;clear ho hb hg hat))
      go_roundg k1
      case measure=>have:=HK1.out;omega
      case rel=>exact⟨(y455),(wrap64 (x10_1+1)),(by first|rfl|(simp;done)|(simp [*];done)),H',⟨by have:=HK1.out;omega⟩,⟨by(with_reducible repeat(first|apply Kd.R_alloc|apply Kd.R_drewN|apply Kd.R_drew));exact HO457.out⟩,⟨by repeat(first|(with_reducible first|exact HB.out|apply below_alloc|apply pw_below_drewN|apply below_drew1)|exact HB.out)⟩⟩
     ·rw [if_neg c7] at H
      exact absurd H (by simp)
    ·rw [if_neg c6] at H
     have c6b0:decide (0<t454)=false:=decide_eq_false c6
     clear c6
     have H':=Aside0.mk H
     clear H
     go_wp2_with (first|((with_reducible refine gate_callee (f:=51) rfl ?_);refine goesL_ (some 16) rfl rfl Try.func51 (by kernel_rfl) rfl #[.slice A1 l1.length c1,.int .i64 a2,.int .i64 x10_1] rfl zq2 ?_;(with_reducible refine(impl_cost.calls k1 _ _ l1 a2 x10_1 t454 _ ?side1 ?side2 A5.out).mono ?_);(case side1=>repeat(first|exact(Kd.C_below HR1.out HB.out)|(with_reducible refine Kd.C_alloc ?_ _)|(with_reducible refine Kd.C_drewN ?_ _)|(with_reducible refine Kd.C_drew ?_)));(case side2=>exact HC1.out);rintro e w10 ⟨rfl,hb⟩;refine⟨_,rfl,?_⟩;have n0_:=Aside0.mk (Kd.R_below (zq4 HO_7) hb);have n1_:=Aside0.mk (below_step (zb0 HB) hb);clear HO_7;clear HB;have HO_7:=n0_;have HB:=n1_;clear n0_ n1_;(try clear hb);(try clear hb2);(try clear hk);(try clear hi)))
     go_roundg k1
     case measure=>have:=HK1.out;omega
     case rel=>exact⟨(x7_1),(wrap64 (x10_1+1)),(by first|rfl|(simp;done)|(simp [*];done)),H',⟨by have:=HK1.out;omega⟩,⟨by(with_reducible repeat(first|apply Kd.R_alloc|apply Kd.R_drewN|apply Kd.R_drew));exact HO_7.out⟩,⟨by repeat(first|(with_reducible first|exact HB.out|apply below_alloc|apply pw_below_drewN|apply below_drew1)|exact HB.out)⟩⟩
   ·rw [if_neg c4] at H
    have c4b0:decide (x10_1<a0)=false:=decide_eq_false c4
    clear c4
    obtain rfl:=Option.some.inj H
    go_wp2
    go_ret
    exact⟨_,by first|rfl|(simp [errW_none,errW_some]<;>rfl)|(simp [*,errW_none,errW_some]<;>rfl),by(with_reducible repeat(first|apply Kd.R_alloc|apply Kd.R_drewN|apply Kd.R_drew));exact HO_7.out,by repeat(first|(with_reducible first|exact HB.out|apply below_alloc|apply pw_below_drewN|apply below_drew1)|exact HB.out)⟩
end Go.Proofs.Ytklecgkjoofipaa.P

namespace Go.Proofs.Ytklecgkjoofipaa.P
open Go.RowKit Go.Proofs.YtklecgkjoofipaaW.PrintWords Go.Proofs.YtklecgkjoofipaaW.PrintLast Go.Proofs.YtklecgkjoofipaaW.PrintMore
attribute [local go_sem] max2_int min2_int max_two min_two max_three min_three max_four min_four   -- for this text's walks alone
set_option linter.unusedVariables false
set_option linter.unusedSimpArgs false
def impl_hops.l0:Nat→List (S67)→Int→List Int→List Int→List Int→Int→Int→Option (List Int)
 | 0,_,_,_,_,_,_,_=>none
 |k+1,x1,x2,x3,x9,x15,x16,x17=>if x17<x16 then(if 0≤x17 then(if x17< (x15.length:Int) then(if 0≤x2 then(if x2< (x3.length:Int) then(if (rd x3 x2)< 100000 then(if 0≤ (rd x15 x17) then(if (rd x15 x17)< (x3.length:Int) then((impl_cost.f k x1 x2 (rd x15 x17)).bind fun t464=>(if (wrap64 ((rd x3 (rd x15 x17))+t464))= (rd x3 x2) then(if x9.length< 17592186044416 then(impl_hops.l0 k x1 x2 x3 (x9++ [rd x15 x17]) x15 x16 (wrap64 (x17+1))) else(none)) else(impl_hops.l0 k x1 x2 x3 x9 x15 x16 (wrap64 (x17+1))))) else(none)) else(none)) else(impl_hops.l0 k x1 x2 x3 x9 x15 x16 (wrap64 (x17+1)))) else(none)) else(none)) else(none)) else(none)) else(some x9)
def impl_hops.f (k:Nat) (a0:Int) (l1:List (S67)) (a2:Int) (l3:List Int):Option (List Int):=(impl_near.f k a0 l1 a2).bind fun t458=>(impl_hops.l0 k l1 a2 l3 ([] :List Int) t458 (t458.length:Int) 0)
def impl_hops.T5:Bool × List (List Nat × List Nat):=(true,[([],[]),([],[]),([0,1],[0,1]),([2],[2]),([3],[3]),([4],[4]),([5],[5]),([5],[5]),([6,7,5],[5,6,7]),([8,5],[5,8]),([5],[5]),([5],[5]),([5],[5]),([10,11,12,5,5],[5,10,11,12]),([9,13,5],[5,9,13]),([5],[5]),([5],[5]),([15,16,5],[5,15,16]),([17,5],[5,17]),([14,18,5],[5,14,18]),([5,19],[5,19])])
def impl_hops.B5:List Nat:= [0,0,3,7,15,31,63,63,255,511,63,63,63,7231,16383,63,63,98367,229439,524287,1048575]
theorem impl_hops.tab5:rtab .any (opsOf Try.f61 5)=impl_hops.T5:=by kernel_rfl
theorem impl_hops.bits5:waitsOk impl_hops.T5.2 impl_hops.B5=true:=by kernel_rfl
set_option maxHeartbeats 8000000 in
set_option maxRecDepth 100000 in
theorem impl_hops.calls (k:Nat) (a0:Int) (A1:Option Addr) (c1:Nat) (l1:List (S67)) (a2:Int) (A3:Option Addr) (c3:Nat) (l3:List Int) (r:List Int) (w:World) (hr1:Kd.C k67 w A1 l1.length l1) (hc1:l1.length≤c1) (hr3:Kd.C (Kd.int .i64) w A3 l3.length l3) (hc3:l3.length≤c3) (h:impl_hops.f k a0 l1 a2 l3=some r):
  Calls Try.prog 61 #[.int .i64 a0,.slice A1 l1.length c1,.int .i64 a2,.slice A3 l3.length c3] w fun e w'=> ∃ v0_:Value,e= .returned (v0_)∧Kd.R (Kd.int .i64) 3 w' w.heap.size (fun _=>True) v0_ r∧Below w.heap.size w w':=by
 have HR1:=Aside0.mk hr1
 have HC1:=Aside0.mk hc1
 clear hr1 hc1
 have HR3:=Aside0.mk hr3
 have HC3:=Aside0.mk hc3
 clear hr3 hc3
 have HB:=Aside0.mk (Below.refl w.heap.size w)
 have H:((impl_near.f k a0 l1 a2).bind fun t458=>(impl_hops.l0 k l1 a2 l3 ([] :List Int) t458 (t458.length:Int) 0))=some r:=h
 clear h
 replace H:=Option.bind_eq_some_iff.mp H
 obtain⟨t458,A50,H⟩:=H
 replace H:(impl_hops.l0 k l1 a2 l3 ([] :List Int) t458 (t458.length:Int) 0)=some r:=H
 have A5:=Aside0.mk A50
 clear A50
 have H':=Aside0.mk H
 clear H
 go_enter Try.func61,Try.ntmps61
 go_wp2_with (first|((with_reducible refine gate_callee (f:=74) rfl ?_);refine goesL_ (some 15) rfl rfl Try.func74 (by kernel_rfl) rfl #[.int .i64 a0,.slice A1 l1.length c1,.int .i64 a2] rfl zq2 ?_;(with_reducible refine(impl_near.calls k a0 _ _ l1 a2 t458 _ ?side1 ?side2 A5.out).mono ?_);(case side1=>repeat(first|exact HR1.out|(with_reducible refine Kd.C_alloc ?_ _)|(with_reducible refine Kd.C_drewN ?_ _)|(with_reducible refine Kd.C_drew ?_)));(case side2=>exact HC1.out);rintro e w6 ⟨v459,rfl,ho0,hb⟩;refine⟨_,rfl,?_⟩;have n0_:=Aside0.mk (Kd.R_lower ho0 (below_size (zb0 HB)));have n1_:=Aside0.mk (below_step (zb0 HB) hb);clear HB;have HO460:=n0_;have HB:=n1_;clear n0_ n1_;(try clear hb);(try clear hb2);(try clear hk);(try clear hi);(try clear ho0);obtain⟨Ao7,co7,eo7⟩:=Kd.R_slice HO460.out;subst eo7))
 go_loopg [9,17] k (fun kq v9 v17 w'=> ∃ (x9_1:List Int) (x17_1:Int),v17= .int .i64 x17_1∧Aside0 (impl_hops.l0 kq l1 a2 l3 x9_1 t458 (t458.length:Int) x17_1=some r)∧Aside0 (kq≤k)∧Aside0 (Kd.R (Kd.int .i64) 3 w' w.heap.size (fun k_=>some k_≠ ((.slice Ao7 t458.length co7):Value).ownBlock) v9 x9_1)∧Aside0 (Kd.R (Kd.int .i64) 3 w' w.heap.size (fun k_=>some k_≠ (v9:Value).ownBlock) (.slice Ao7 t458.length co7) t458)∧Aside0 (Below w.heap.size w w'))
 case atStart=>exact⟨(([] :List Int)),(0),(by first|rfl|(simp;done)|(simp [*];done)),H',⟨Nat.le_refl _⟩,⟨by first|exact Kd.R_nil _ _ _ _ _|exact Kd.N_nil _ _ _ _ _|exact Kd.V_nil _ _ _ _ _|exact Kd.Q_nil _ _ _ _ _|exact Kd.S_nil _ _ _ _ _⟩,⟨by(with_reducible repeat(first|apply Kd.R_alloc|apply Kd.R_drewN|apply Kd.R_drew));exact Kd.R_mono HO460.out (fun _ hk=>(by simp [Value.ownBlock]))⟩,⟨by repeat(first|(with_reducible first|exact HB.out|apply below_alloc|apply pw_below_drewN|apply below_drew1)|exact HB.out)⟩⟩
 case round=>
  clear H'
  try clear c1
  try clear p2
  try clear c3
  try clear c6
  try clear c7
  obtain⟨x9_1,x17_1,rfl,HA,HK1,HO_9,HO_15,HB⟩:=hrel
  cases gk with
  |zero=>exact absurd HA.out (by simp [impl_hops.l0])
  |succ k1=>
   have H:=HA.out
   clear HA
   simp only [impl_hops.l0] at H
   by_cases c8:x17_1< (t458.length:Int)
   ·rw [if_pos c8] at H
    have c8b0:decide (x17_1< (t458.length:Int))=true:=decide_eq_true c8
    clear c8
    by_cases c9: 0≤x17_1
    ·rw [if_pos c9] at H
     have c9b0:decide (0≤x17_1)=true:=decide_eq_true c9
     clear c9
     by_cases c10:x17_1< (t458.length:Int)
     ·rw [if_pos c10] at H
      have c10b0:decide (x17_1< (t458.length:Int))=true:=decide_eq_true c10
      clear c10
      by_cases c11: 0≤a2
      ·rw [if_pos c11] at H
       have c11b0:decide (0≤a2)=true:=decide_eq_true c11
       clear c11
       by_cases c12:a2< (l3.length:Int)
       ·rw [if_pos c12] at H
        have c12b0:decide (a2< (l3.length:Int))=true:=decide_eq_true c12
        clear c12
        by_cases c13:(rd l3 a2)< 100000
        ·rw [if_pos c13] at H
         have c13b0:decide ((rd l3 a2)< 100000)=true:=decide_eq_true c13
         clear c13
         by_cases c14: 0≤ (rd t458 x17_1)
         ·rw [if_pos c14] at H
          have c14b0:decide (0≤ (rd t458 x17_1))=true:=decide_eq_true c14
          clear c14
          by_cases c15:(rd t458 x17_1)< (l3.length:Int)
          ·rw [if_pos c15] at H
           have c15b0:decide ((rd t458 x17_1)< (l3.length:Int))=true:=decide_eq_true c15
           clear c15
           replace H:=Option.bind_eq_some_iff.mp H
           obtain⟨t464,A160,H⟩:=H
           replace H:(if (wrap64 ((rd l3 (rd t458 x17_1))+t464))= (rd l3 a2) then(if x9_1.length< 17592186044416 then(impl_hops.l0 k1 l1 a2 l3 (x9_1++ [rd t458 x17_1]) t458 (t458.length:Int) (wrap64 (x17_1+1))) else(none)) else(impl_hops.l0 k1 l1 a2 l3 x9_1 t458 (t458.length:Int) (wrap64 (x17_1+1))))=some r:=H
           have A16:=Aside0.mk A160
           clear A160
           by_cases c17:(wrap64 ((rd l3 (rd t458 x17_1))+t464))= (rd l3 a2)
           ·rw [if_pos c17] at H
            have c17b0:((wrap64 ((rd l3 (rd t458 x17_1))+t464))== (rd l3 a2))=true:=beq_iff_eq.mpr c17
            have c17b1:((wrap64 ((rd l3 (rd t458 x17_1))+t464)) != (rd l3 a2))=false:=bne_eq_false_iff_eq.mpr c17
            clear c17
            by_cases c18:x9_1.length< 17592186044416
            ·rw [if_pos c18] at H
             have LMc18:=Aside0.mk c18
             clear c18
             obtain⟨y466,hy466⟩ :∃ y_:List Int,y_= (x9_1++ [rd t458 x17_1]):=⟨_,rfl⟩
             replace H:(impl_hops.l0 k1 l1 a2 l3 y466 t458 (t458.length:Int) (wrap64 (x17_1+1)))=some r:=by first|(rw [hy466];with_reducible exact H)|(have H2_:=(Option.bind_some _ _).symm.trans H;rw [hy466];with_reducible exact H2_)|(have H2_:=(Option.bind_some _ _).symm.trans H;with_reducible exact H2_)|with_reducible exact H|(rw [hy466];exact H)|exact H
             have Ny466:=Aside0.mk hy466
             clear hy466
             have H':=Aside0.mk H
             clear H
             have p461: 0≤ (x17_1:Int):=of_decide_eq_true zq1
             have q461:x17_1< (t458.length:Int):=of_decide_eq_true zq1
             obtain⟨ad461,e461,hx461_0⟩:=Kd.at_int (Kd.R_reads' HO_15.out).2.2 x17_1 p461 q461
             cases e461
             replace p461:=eq_true p461
             replace q461:=eq_true q461
             try go_wp2
             have n0_:=Aside0.mk (Kd.R_drew HO_9.out)
             have n1_:=Aside0.mk (Kd.R_drew HO_15.out)
             have n2_:=Aside0.mk (below_drew1 HB.out)
             clear HO_9
             clear HO_15
             clear HB
             have HO_9:=n0_
             have HO_15:=n1_
             have HB:=n2_
             clear n0_ n1_ n2_
             have p462: 0≤ (a2:Int):=of_decide_eq_true zq1
             have q462:a2< (l3.length:Int):=of_decide_eq_true zq1
             obtain⟨ad462,e462,hx462_0⟩:=Kd.at_int HR3.out a2 p462 q462
             have hw462_0:=hx462_0
             cases e462
             replace hx462_0:=(HB.out.cell (World.block_lt_of_cell? w _ hx462_0)).trans hx462_0
             replace p462:=eq_true p462
             replace q462:=eq_true q462
             have p463: 0≤ ((rd t458 x17_1):Int):=of_decide_eq_true zq1
             have q463:(rd t458 x17_1)< (l3.length:Int):=of_decide_eq_true zq1
             obtain⟨ad463,e463,hx463_0⟩:=Kd.at_int HR3.out (rd t458 x17_1) p463 q463
             have hw463_0:=hx463_0
             obtain rfl:ad462=ad463:=(by injection e463)
             replace hx463_0:=(HB.out.cell (World.block_lt_of_cell? w _ hx463_0)).trans hx463_0
             replace p463:=eq_true p463
             replace q463:=eq_true q463
             have p465: 0≤ (a2:Int):=of_decide_eq_true zq1
             have q465:a2< (l3.length:Int):=of_decide_eq_true zq1
             obtain⟨ad465,e465,hx465_0⟩:=Kd.at_int HR3.out a2 p465 q465
             have hw465_0:=hx465_0
             obtain rfl:ad462=ad465:=(by injection e465)
             replace hx465_0:=(HB.out.cell (World.block_lt_of_cell? w _ hx465_0)).trans hx465_0
             replace p465:=eq_true p465
             replace q465:=eq_true q465
             refine start_ (n:=21) (S:=fun w'=>w'.cell? (ad462.add (a2).toNat)=some (.int .i64 (rd l3 a2))∧w'.cell? (ad462.add ((rd t458 x17_1)).toNat)=some (.int .i64 (rd l3 (rd t458 x17_1)))∧w'.cell? (ad462.add (a2).toNat)=some (.int .i64 (rd l3 a2))) (ds:= []) #[f',f',f',f',f',f',f',f',f',f',f',f',f',f',f',f',f',f',f',f',f'] (by kernel_rfl) rfl rfl ⟨((HB.out.cell (World.block_lt_of_cell? w _ hw462_0)).trans hw462_0),((HB.out.cell (World.block_lt_of_cell? w _ hw463_0)).trans hw463_0),((HB.out.cell (World.block_lt_of_cell? w _ hw465_0)).trans hw465_0)⟩ (fun hHeld=>?_);refine with_tabW impl_hops.tab5 impl_hops.bits5 (fun HT_ HW_=>?_)
             generalize wr.drew=w19 at HO_9 HO_15 HB hx462_0 hx463_0 hx465_0 hHeld ⊢
             refine pure_ (i:=0) (N:=some 21) (v:=?_) (a':=?_) #[t',f',f',f',f',f',f',f',f',f',f',f',f',f',f',f',f',f',f',f',f'] rfl rfl (any_of HT_.out (by kernel_rfl)) (fun _ _ _ h=>h) (Or.inl ⟨by rfl,?_⟩) ?_ ?_
             rotate_left
             ·intro w'
              go_simp
              with_reducible rfl
             rotate_left
             ·simp only [Act.put,zq5,zq6,zq7,i64_w,i32_w]
              rfl
             refine pure_ (i:=1) (N:=some 22) (v:=?_) (a':=?_) #[t',t',f',f',f',f',f',f',f',f',f',f',f',f',f',f',f',f',f',f',f'] rfl rfl (any_of HT_.out (by kernel_rfl)) (fun _ _ _ h=>h) (Or.inl ⟨by rfl,?_⟩) ?_ ?_
             rotate_left
             ·intro w'
              go_simp
              with_reducible rfl
             rotate_left
             ·simp only [Act.put,zq5,zq6,zq7,i64_w,i32_w]
              rfl
             refine pure_ (i:=2) (N:=some 23) (v:=?_) (a':=?_) #[t',t',t',f',f',f',f',f',f',f',f',f',f',f',f',f',f',f',f',f',f'] rfl rfl (any_of HT_.out (by kernel_rfl)) (fun _ _ _ h=>h) (Or.inl ⟨by rfl,?_⟩) ?_ ?_
             rotate_left
             ·intro w'
              go_simp
              with_reducible rfl
             rotate_left
             ·simp only [Act.put,zq5,zq6,zq7,i64_w,i32_w]
              rfl
             refine take_ (i:=3) (N:=some 24) (v:=?_) (a':=?_) #[t',t',t',t',f',f',f',f',f',f',f',f',f',f',f',f',f',f',f',f',f'] rfl rfl (take_ofW HT_.out HW_.out (by kernel_rfl)) (fun _ _ _ h=>h) (Or.inl ⟨by rfl,?_⟩) hHeld ?_ ?_
             rotate_left
             ·rintro w' ⟨s0,s1,s2⟩
              go_simp
              with_reducible rfl
             rotate_left
             ·simp only [Act.put,zq5,zq6,zq7,i64_w,i32_w]
              rfl
             refine pure_ (i:=4) (N:=some 25) (v:=?_) (a':=?_) #[t',t',t',t',t',f',f',f',f',f',f',f',f',f',f',f',f',f',f',f',f'] rfl rfl (any_of HT_.out (by kernel_rfl)) (fun _ _ _ h=>h) (Or.inl ⟨by rfl,?_⟩) ?_ ?_
             rotate_left
             ·intro w'
              go_simp
              with_reducible rfl
             rotate_left
             ·simp only [Act.put,zq5,zq6,zq7,i64_w,i32_w]
              rfl
             refine pure_ (i:=5) (N:=some 26) (v:=?_) (a':=?_) #[t',t',t',t',t',t',f',f',f',f',f',f',f',f',f',f',f',f',f',f',f'] rfl rfl (any_of HT_.out (by kernel_rfl)) (fun _ _ _ h=>h) (Or.inl ⟨by rfl,?_⟩) ?_ ?_
             rotate_left
             ·intro w'
              go_simp
              with_reducible rfl
             rotate_left
             ·simp only [Act.put,zq5,zq6,zq7,i64_w,i32_w]
              rfl
             refine pure_ (i:=6) (N:=some 27) (v:=?_) (a':=?_) #[t',t',t',t',t',t',t',f',f',f',f',f',f',f',f',f',f',f',f',f',f'] rfl rfl (any_of HT_.out (by kernel_rfl)) (fun _ _ _ h=>h) (Or.inl ⟨by rfl,?_⟩) ?_ ?_
             rotate_left
             ·intro w'
              go_simp
              with_reducible rfl
             rotate_left
             ·simp only [Act.put,zq5,zq6,zq7,i64_w,i32_w]
              rfl
             refine pure_ (i:=7) (N:=some 28) (v:=?_) (a':=?_) #[t',t',t',t',t',t',t',t',f',f',f',f',f',f',f',f',f',f',f',f',f'] rfl rfl (any_of HT_.out (by kernel_rfl)) (fun _ _ _ h=>h) (Or.inl ⟨by rfl,?_⟩) ?_ ?_
             rotate_left
             ·intro w'
              go_simp
              with_reducible rfl
             rotate_left
             ·simp only [Act.put,zq5,zq6,zq7,i64_w,i32_w]
              rfl
             refine pure_ (i:=8) (N:=some 29) (v:=?_) (a':=?_) #[t',t',t',t',t',t',t',t',t',f',f',f',f',f',f',f',f',f',f',f',f'] rfl rfl (any_of HT_.out (by kernel_rfl)) (fun _ _ _ h=>h) (Or.inl ⟨by rfl,?_⟩) ?_ ?_
             rotate_left
             ·intro w'
              go_simp
              with_reducible rfl
             rotate_left
             ·simp only [Act.put,zq5,zq6,zq7,i64_w,i32_w]
              rfl
             refine pure_ (i:=10) (N:=some 31) (v:=?_) (a':=?_) #[t',t',t',t',t',t',t',t',t',f',t',f',f',f',f',f',f',f',f',f',f'] rfl rfl (any_of HT_.out (by kernel_rfl)) (fun _ _ _ h=>h) (Or.inl ⟨by rfl,?_⟩) ?_ ?_
             rotate_left
             ·intro w'
              go_simp
              with_reducible rfl
             rotate_left
             ·simp only [Act.put,zq5,zq6,zq7,i64_w,i32_w]
              rfl
             refine pure_ (i:=11) (N:=some 32) (v:=?_) (a':=?_) #[t',t',t',t',t',t',t',t',t',f',t',t',f',f',f',f',f',f',f',f',f'] rfl rfl (any_of HT_.out (by kernel_rfl)) (fun _ _ _ h=>h) (Or.inl ⟨by rfl,?_⟩) ?_ ?_
             rotate_left
             ·intro w'
              go_simp
              with_reducible rfl
             rotate_left
             ·simp only [Act.put,zq5,zq6,zq7,i64_w,i32_w]
              rfl
             refine pure_ (i:=12) (N:=some 33) (v:=?_) (a':=?_) #[t',t',t',t',t',t',t',t',t',f',t',t',t',f',f',f',f',f',f',f',f'] rfl rfl (any_of HT_.out (by kernel_rfl)) (fun _ _ _ h=>h) (Or.inl ⟨by rfl,?_⟩) ?_ ?_
             rotate_left
             ·intro w'
              go_simp
              with_reducible rfl
             rotate_left
             ·simp only [Act.put,zq5,zq6,zq7,i64_w,i32_w]
              rfl
             refine pure_ (i:=15) (N:=some 36) (v:=?_) (a':=?_) #[t',t',t',t',t',t',t',t',t',f',t',t',t',f',f',t',f',f',f',f',f'] rfl rfl (any_of HT_.out (by kernel_rfl)) (fun _ _ _ h=>h) (Or.inl ⟨by rfl,?_⟩) ?_ ?_
             rotate_left
             ·intro w'
              go_simp
              with_reducible rfl
             rotate_left
             ·simp only [Act.put,zq5,zq6,zq7,i64_w,i32_w]
              rfl
             refine pure_ (i:=16) (N:=some 37) (v:=?_) (a':=?_) #[t',t',t',t',t',t',t',t',t',f',t',t',t',f',f',t',t',f',f',f',f'] rfl rfl (any_of HT_.out (by kernel_rfl)) (fun _ _ _ h=>h) (Or.inl ⟨by rfl,?_⟩) ?_ ?_
             rotate_left
             ·intro w'
              go_simp
              with_reducible rfl
             rotate_left
             ·simp only [Act.put,zq5,zq6,zq7,i64_w,i32_w]
              rfl
             refine pure_ (i:=17) (N:=some 38) (v:=?_) (a':=?_) #[t',t',t',t',t',t',t',t',t',f',t',t',t',f',f',t',t',t',f',f',f'] rfl rfl (any_of HT_.out (by kernel_rfl)) (fun _ _ _ h=>h) (Or.inl ⟨by rfl,?_⟩) ?_ ?_
             rotate_left
             ·intro w'
              go_simp
              with_reducible rfl
             rotate_left
             ·simp only [Act.put,zq5,zq6,zq7,i64_w,i32_w]
              rfl
             refine take_ (i:=9) (N:=some 30) (v:=?_) (a':=?_) #[t',t',t',t',t',t',t',t',t',t',t',t',t',f',f',t',t',t',f',f',f'] rfl rfl (take_ofW HT_.out HW_.out (by kernel_rfl)) (fun _ _ _ h=>h) (Or.inl ⟨by rfl,?_⟩) hHeld ?_ ?_
             rotate_left
             ·rintro w' ⟨s0,s1,s2⟩
              go_simp
              with_reducible rfl
             rotate_left
             ·simp only [Act.put,zq5,zq6,zq7,i64_w,i32_w]
              rfl
             refine take_ (i:=18) (N:=some 39) (v:=?_) (a':=?_) #[t',t',t',t',t',t',t',t',t',t',t',t',t',f',f',t',t',t',t',f',f'] rfl rfl (take_ofW HT_.out HW_.out (by kernel_rfl)) (fun _ _ _ h=>h) (Or.inl ⟨by rfl,?_⟩) hHeld ?_ ?_
             rotate_left
             ·rintro w' ⟨s0,s1,s2⟩
              go_simp
              with_reducible rfl
             rotate_left
             ·simp only [Act.put,zq5,zq6,zq7,i64_w,i32_w]
              rfl
             refine one_ (i:=13) (N:=some 34) #[t',t',t',t',t',t',t',t',t',t',t',t',t',t',f',t',t',t',t',f',f'] rfl rfl (one_of HT_.out (by kernel_rfl)) (by decide) (fun K hK=>?_)
             refine goes_ Try.func51 (by kernel_rfl) rfl #[.slice A1 l1.length c1,.int .i64 a2,.int .i64 (rd t458 x17_1)] (by rfl) rfl rfl zq2 ?_
             with_reducible refine(impl_cost.calls k1 _ _ l1 a2 (rd t458 x17_1) t464 _ ?side1 ?side2 A16.out).mono ?_
             (case side1=>repeat(first|exact(Kd.C_below HR1.out HB.out)|(with_reducible refine Kd.C_alloc ?_ _)|(with_reducible refine Kd.C_drewN ?_ _)|(with_reducible refine Kd.C_drew ?_)))
             (case side2=>exact HC1.out)
             rintro e w20 ⟨rfl,hb⟩
             refine⟨_,rfl,?_⟩
             have n0_:=Aside0.mk (Kd.R_below (zq4 HO_9) hb)
             have n1_:=Aside0.mk (Kd.R_below (zq4 HO_15) hb)
             have n2_:=Aside0.mk (below_step (zb0 HB) hb)
             clear HO_9
             clear HO_15
             clear HB
             have HO_9:=n0_
             have HO_15:=n1_
             have HB:=n2_
             clear n0_ n1_ n2_
             (try clear hb)
             (try clear hb2)
             (try clear hk)
             (try clear hi)
             refine hK.out _ _ ⟨((HB.out.cell (World.block_lt_of_cell? w _ hw462_0)).trans hw462_0),((HB.out.cell (World.block_lt_of_cell? w _ hw463_0)).trans hw463_0),((HB.out.cell (World.block_lt_of_cell? w _ hw465_0)).trans hw465_0)⟩ (fun hHeld=>?_)
             clear hK K
             refine norm_ (a':=?_) ?_ ?_
             rotate_left
             ·show Act.put _ (some 34) _=_
              simp only [Act.put,zq5,zq6,zq7,i64_w,i32_w]
              rfl
             refine pure_ (i:=14) (N:=some 35) (v:=?_) (a':=?_) #[t',t',t',t',t',t',t',t',t',t',t',t',t',t',t',t',t',t',t',f',f'] rfl rfl (any_of HT_.out (by kernel_rfl)) (fun _ _ _ h=>h) (Or.inl ⟨by rfl,?_⟩) ?_ ?_
             rotate_left
             ·intro w'
              go_simp
              with_reducible rfl
             rotate_left
             ·simp only [Act.put,zq5,zq6,zq7,i64_w,i32_w]
              rfl
             refine pure_ (i:=19) (N:=some 40) (v:=?_) (a':=?_) #[t',t',t',t',t',t',t',t',t',t',t',t',t',t',t',t',t',t',t',t',f'] rfl rfl (any_of HT_.out (by kernel_rfl)) (fun _ _ _ h=>h) (Or.inl ⟨by rfl,?_⟩) ?_ ?_
             rotate_left
             ·intro w'
              go_simp
              with_reducible rfl
             rotate_left
             ·simp only [Act.put,zq5,zq6,zq7,i64_w,i32_w]
              rfl
             refine pure_ (i:=20) (N:=some 41) (v:=?_) (a':=?_) #[t',t',t',t',t',t',t',t',t',t',t',t',t',t',t',t',t',t',t',t',t'] rfl rfl (any_of HT_.out (by kernel_rfl)) (fun _ _ _ h=>h) (Or.inl ⟨by rfl,?_⟩) ?_ ?_
             rotate_left
             ·intro w'
              go_simp
              with_reducible rfl
             rotate_left
             ·simp only [Act.put,zq5,zq6,zq7,i64_w,i32_w]
              rfl
             refine done_ (done_of HT_.out (by kernel_rfl)) ?_
             try go_wp2_with (first|((with_reducible refine gate_builtin (b:= .append) (xs:= #[.tmp 42,.tmp 44]) rfl ?_);at_builtin;refine Kd.R_append (Kd.int .i64) (w0:=w) w.heap.size rfl (.tmp 42) (.tmp 44) 23 3 (.int .i64 0) 8 rfl Try.underlying23 info3 rfl (by decide) (by omega) u9 x9_1 (rd t458 x17_1) [.int .i64 (rd t458 x17_1)] (fun k_=>some k_≠ (.slice (some ad461) t458.length co7:Value).ownBlock) (fun _=>False) rfl rfl ?aP (fun _ hk=>hk.elim) ?aF ?aO ?aB ?aS ?aL ?_;(case aP=>exact rfl);(case aB=>exact(zb0 HB));(case aF=>exact(fun k_ hk=>Kd.fresh' (Kd.R_lt (zq4 HO_15)) k_ hk));(case aO=>exact(zq4 HO_9));(case aS=>exact(below_size (zb0 HB)));(case aL=>have:=LMc18.out;omega);intro v467 w21 ho hb hg hat;rw [← Ny466.out] at ho;have n0_:=Aside0.mk (Kd.R_after (ok:=(fun _=>True)) (by(with_reducible repeat(first|apply Kd.R_alloc|apply Kd.R_drewN|apply Kd.R_drew));exact Kd.R_mono HO_15.out (fun _ hk=>⟨trivial,hk⟩)) hg hat);have n1_:=Aside0.mk (hb);have n2_:=Aside0.mk (ho);clear HO_15;clear HB;clear HO_9;have HO_15:=n0_;have HB:=n1_;have HO468:=n2_;clear n0_ n1_ n2_;clear ho hb hg hat))
             go_roundg k1
             case measure=>have:=HK1.out;omega
             case rel=>exact⟨(y466),(wrap64 (x17_1+1)),(by first|rfl|(simp;done)|(simp [*];done)),H',⟨by have:=HK1.out;omega⟩,⟨by(with_reducible repeat(first|apply Kd.R_alloc|apply Kd.R_drewN|apply Kd.R_drew));exact HO468.out⟩,⟨by(with_reducible repeat(first|apply Kd.R_alloc|apply Kd.R_drewN|apply Kd.R_drew));exact Kd.R_mono HO_15.out (fun _ hk=>hk.2)⟩,⟨by repeat(first|(with_reducible first|exact HB.out|apply below_alloc|apply pw_below_drewN|apply below_drew1)|exact HB.out)⟩⟩
            ·rw [if_neg c18] at H
             exact absurd H (by simp)
           ·rw [if_neg c17] at H
            have c17b0:((wrap64 ((rd l3 (rd t458 x17_1))+t464))== (rd l3 a2))=false:=beq_eq_false_iff_ne.mpr c17
            have c17b1:((wrap64 ((rd l3 (rd t458 x17_1))+t464)) != (rd l3 a2))=true:=bne_iff_ne.mpr c17
            have H':=Aside0.mk H
            clear H
            have p461: 0≤ (x17_1:Int):=of_decide_eq_true zq1
            have q461:x17_1< (t458.length:Int):=of_decide_eq_true zq1
            obtain⟨ad461,e461,hx461_0⟩:=Kd.at_int (Kd.R_reads' HO_15.out).2.2 x17_1 p461 q461
            cases e461
            replace p461:=eq_true p461
            replace q461:=eq_true q461
            try go_wp2
            have n0_:=Aside0.mk (Kd.R_drew HO_9.out)
            have n1_:=Aside0.mk (Kd.R_drew HO_15.out)
            have n2_:=Aside0.mk (below_drew1 HB.out)
            clear HO_9
            clear HO_15
            clear HB
            have HO_9:=n0_
            have HO_15:=n1_
            have HB:=n2_
            clear n0_ n1_ n2_
            have p462: 0≤ (a2:Int):=of_decide_eq_true zq1
            have q462:a2< (l3.length:Int):=of_decide_eq_true zq1
            obtain⟨ad462,e462,hx462_0⟩:=Kd.at_int HR3.out a2 p462 q462
            have hw462_0:=hx462_0
            cases e462
            replace hx462_0:=(HB.out.cell (World.block_lt_of_cell? w _ hx462_0)).trans hx462_0
            replace p462:=eq_true p462
            replace q462:=eq_true q462
            have p463: 0≤ ((rd t458 x17_1):Int):=of_decide_eq_true zq1
            have q463:(rd t458 x17_1)< (l3.length:Int):=of_decide_eq_true zq1
            obtain⟨ad463,e463,hx463_0⟩:=Kd.at_int HR3.out (rd t458 x17_1) p463 q463
            have hw463_0:=hx463_0
            obtain rfl:ad462=ad463:=(by injection e463)
            replace hx463_0:=(HB.out.cell (World.block_lt_of_cell? w _ hx463_0)).trans hx463_0
            replace p463:=eq_true p463
            replace q463:=eq_true q463
            have p465: 0≤ (a2:Int):=of_decide_eq_true zq1
            have q465:a2< (l3.length:Int):=of_decide_eq_true zq1
            obtain⟨ad465,e465,hx465_0⟩:=Kd.at_int HR3.out a2 p465 q465
            have hw465_0:=hx465_0
            obtain rfl:ad462=ad465:=(by injection e465)
            replace hx465_0:=(HB.out.cell (World.block_lt_of_cell? w _ hx465_0)).trans hx465_0
            replace p465:=eq_true p465
            replace q465:=eq_true q465
            refine start_ (n:=21) (S:=fun w'=>w'.cell? (ad462.add (a2).toNat)=some (.int .i64 (rd l3 a2))∧w'.cell? (ad462.add ((rd t458 x17_1)).toNat)=some (.int .i64 (rd l3 (rd t458 x17_1)))∧w'.cell? (ad462.add (a2).toNat)=some (.int .i64 (rd l3 a2))) (ds:= []) #[f',f',f',f',f',f',f',f',f',f',f',f',f',f',f',f',f',f',f',f',f'] (by kernel_rfl) rfl rfl ⟨((HB.out.cell (World.block_lt_of_cell? w _ hw462_0)).trans hw462_0),((HB.out.cell (World.block_lt_of_cell? w _ hw463_0)).trans hw463_0),((HB.out.cell (World.block_lt_of_cell? w _ hw465_0)).trans hw465_0)⟩ (fun hHeld=>?_);refine with_tabW impl_hops.tab5 impl_hops.bits5 (fun HT_ HW_=>?_)
            generalize wr.drew=w22 at HO_9 HO_15 HB hx462_0 hx463_0 hx465_0 hHeld ⊢
            refine pure_ (i:=0) (N:=some 21) (v:=?_) (a':=?_) #[t',f',f',f',f',f',f',f',f',f',f',f',f',f',f',f',f',f',f',f',f'] rfl rfl (any_of HT_.out (by kernel_rfl)) (fun _ _ _ h=>h) (Or.inl ⟨by rfl,?_⟩) ?_ ?_
            rotate_left
            ·intro w'
             go_simp
             with_reducible rfl
            rotate_left
            ·simp only [Act.put,zq5,zq6,zq7,i64_w,i32_w]
             rfl
            refine pure_ (i:=1) (N:=some 22) (v:=?_) (a':=?_) #[t',t',f',f',f',f',f',f',f',f',f',f',f',f',f',f',f',f',f',f',f'] rfl rfl (any_of HT_.out (by kernel_rfl)) (fun _ _ _ h=>h) (Or.inl ⟨by rfl,?_⟩) ?_ ?_
            rotate_left
            ·intro w'
             go_simp
             with_reducible rfl
            rotate_left
            ·simp only [Act.put,zq5,zq6,zq7,i64_w,i32_w]
             rfl
            refine pure_ (i:=2) (N:=some 23) (v:=?_) (a':=?_) #[t',t',t',f',f',f',f',f',f',f',f',f',f',f',f',f',f',f',f',f',f'] rfl rfl (any_of HT_.out (by kernel_rfl)) (fun _ _ _ h=>h) (Or.inl ⟨by rfl,?_⟩) ?_ ?_
            rotate_left
            ·intro w'
             go_simp
             with_reducible rfl
            rotate_left
            ·simp only [Act.put,zq5,zq6,zq7,i64_w,i32_w]
             rfl
            refine take_ (i:=3) (N:=some 24) (v:=?_) (a':=?_) #[t',t',t',t',f',f',f',f',f',f',f',f',f',f',f',f',f',f',f',f',f'] rfl rfl (take_ofW HT_.out HW_.out (by kernel_rfl)) (fun _ _ _ h=>h) (Or.inl ⟨by rfl,?_⟩) hHeld ?_ ?_
            rotate_left
            ·rintro w' ⟨s0,s1,s2⟩
             go_simp
             with_reducible rfl
            rotate_left
            ·simp only [Act.put,zq5,zq6,zq7,i64_w,i32_w]
             rfl
            refine pure_ (i:=4) (N:=some 25) (v:=?_) (a':=?_) #[t',t',t',t',t',f',f',f',f',f',f',f',f',f',f',f',f',f',f',f',f'] rfl rfl (any_of HT_.out (by kernel_rfl)) (fun _ _ _ h=>h) (Or.inl ⟨by rfl,?_⟩) ?_ ?_
            rotate_left
            ·intro w'
             go_simp
             with_reducible rfl
            rotate_left
            ·simp only [Act.put,zq5,zq6,zq7,i64_w,i32_w]
             rfl
            refine pure_ (i:=5) (N:=some 26) (v:=?_) (a':=?_) #[t',t',t',t',t',t',f',f',f',f',f',f',f',f',f',f',f',f',f',f',f'] rfl rfl (any_of HT_.out (by kernel_rfl)) (fun _ _ _ h=>h) (Or.inl ⟨by rfl,?_⟩) ?_ ?_
            rotate_left
            ·intro w'
             go_simp
             with_reducible rfl
            rotate_left
            ·simp only [Act.put,zq5,zq6,zq7,i64_w,i32_w]
             rfl
            refine pure_ (i:=6) (N:=some 27) (v:=?_) (a':=?_) #[t',t',t',t',t',t',t',f',f',f',f',f',f',f',f',f',f',f',f',f',f'] rfl rfl (any_of HT_.out (by kernel_rfl)) (fun _ _ _ h=>h) (Or.inl ⟨by rfl,?_⟩) ?_ ?_
            rotate_left
            ·intro w'
             go_simp
             with_reducible rfl
            rotate_left
            ·simp only [Act.put,zq5,zq6,zq7,i64_w,i32_w]
             rfl
            refine pure_ (i:=7) (N:=some 28) (v:=?_) (a':=?_) #[t',t',t',t',t',t',t',t',f',f',f',f',f',f',f',f',f',f',f',f',f'] rfl rfl (any_of HT_.out (by kernel_rfl)) (fun _ _ _ h=>h) (Or.inl ⟨by rfl,?_⟩) ?_ ?_
            rotate_left
            ·intro w'
             go_simp
             with_reducible rfl
            rotate_left
            ·simp only [Act.put,zq5,zq6,zq7,i64_w,i32_w]
             rfl
            refine pure_ (i:=8) (N:=some 29) (v:=?_) (a':=?_) #[t',t',t',t',t',t',t',t',t',f',f',f',f',f',f',f',f',f',f',f',f'] rfl rfl (any_of HT_.out (by kernel_rfl)) (fun _ _ _ h=>h) (Or.inl ⟨by rfl,?_⟩) ?_ ?_
            rotate_left
            ·intro w'
             go_simp
             with_reducible rfl
            rotate_left
            ·simp only [Act.put,zq5,zq6,zq7,i64_w,i32_w]
             rfl
            refine pure_ (i:=10) (N:=some 31) (v:=?_) (a':=?_) #[t',t',t',t',t',t',t',t',t',f',t',f',f',f',f',f',f',f',f',f',f'] rfl rfl (any_of HT_.out (by kernel_rfl)) (fun _ _ _ h=>h) (Or.inl ⟨by rfl,?_⟩) ?_ ?_
            rotate_left
            ·intro w'
             go_simp
             with_reducible rfl
            rotate_left
            ·simp only [Act.put,zq5,zq6,zq7,i64_w,i32_w]
             rfl
            refine pure_ (i:=11) (N:=some 32) (v:=?_) (a':=?_) #[t',t',t',t',t',t',t',t',t',f',t',t',f',f',f',f',f',f',f',f',f'] rfl rfl (any_of HT_.out (by kernel_rfl)) (fun _ _ _ h=>h) (Or.inl ⟨by rfl,?_⟩) ?_ ?_
            rotate_left
            ·intro w'
             go_simp
             with_reducible rfl
            rotate_left
            ·simp only [Act.put,zq5,zq6,zq7,i64_w,i32_w]
             rfl
            refine pure_ (i:=12) (N:=some 33) (v:=?_) (a':=?_) #[t',t',t',t',t',t',t',t',t',f',t',t',t',f',f',f',f',f',f',f',f'] rfl rfl (any_of HT_.out (by kernel_rfl)) (fun _ _ _ h=>h) (Or.inl ⟨by rfl,?_⟩) ?_ ?_
            rotate_left
            ·intro w'
             go_simp
             with_reducible rfl
            rotate_left
            ·simp only [Act.put,zq5,zq6,zq7,i64_w,i32_w]
             rfl
            refine pure_ (i:=15) (N:=some 36) (v:=?_) (a':=?_) #[t',t',t',t',t',t',t',t',t',f',t',t',t',f',f',t',f',f',f',f',f'] rfl rfl (any_of HT_.out (by kernel_rfl)) (fun _ _ _ h=>h) (Or.inl ⟨by rfl,?_⟩) ?_ ?_
            rotate_left
            ·intro w'
             go_simp
             with_reducible rfl
            rotate_left
            ·simp only [Act.put,zq5,zq6,zq7,i64_w,i32_w]
             rfl
            refine pure_ (i:=16) (N:=some 37) (v:=?_) (a':=?_) #[t',t',t',t',t',t',t',t',t',f',t',t',t',f',f',t',t',f',f',f',f'] rfl rfl (any_of HT_.out (by kernel_rfl)) (fun _ _ _ h=>h) (Or.inl ⟨by rfl,?_⟩) ?_ ?_
            rotate_left
            ·intro w'
             go_simp
             with_reducible rfl
            rotate_left
            ·simp only [Act.put,zq5,zq6,zq7,i64_w,i32_w]
             rfl
            refine pure_ (i:=17) (N:=some 38) (v:=?_) (a':=?_) #[t',t',t',t',t',t',t',t',t',f',t',t',t',f',f',t',t',t',f',f',f'] rfl rfl (any_of HT_.out (by kernel_rfl)) (fun _ _ _ h=>h) (Or.inl ⟨by rfl,?_⟩) ?_ ?_
            rotate_left
            ·intro w'
             go_simp
             with_reducible rfl
            rotate_left
            ·simp only [Act.put,zq5,zq6,zq7,i64_w,i32_w]
             rfl
            refine take_ (i:=9) (N:=some 30) (v:=?_) (a':=?_) #[t',t',t',t',t',t',t',t',t',t',t',t',t',f',f',t',t',t',f',f',f'] rfl rfl (take_ofW HT_.out HW_.out (by kernel_rfl)) (fun _ _ _ h=>h) (Or.inl ⟨by rfl,?_⟩) hHeld ?_ ?_
            rotate_left
            ·rintro w' ⟨s0,s1,s2⟩
             go_simp
             with_reducible rfl
            rotate_left
            ·simp only [Act.put,zq5,zq6,zq7,i64_w,i32_w]
             rfl
            refine take_ (i:=18) (N:=some 39) (v:=?_) (a':=?_) #[t',t',t',t',t',t',t',t',t',t',t',t',t',f',f',t',t',t',t',f',f'] rfl rfl (take_ofW HT_.out HW_.out (by kernel_rfl)) (fun _ _ _ h=>h) (Or.inl ⟨by rfl,?_⟩) hHeld ?_ ?_
            rotate_left
            ·rintro w' ⟨s0,s1,s2⟩
             go_simp
             with_reducible rfl
            rotate_left
            ·simp only [Act.put,zq5,zq6,zq7,i64_w,i32_w]
             rfl
            refine one_ (i:=13) (N:=some 34) #[t',t',t',t',t',t',t',t',t',t',t',t',t',t',f',t',t',t',t',f',f'] rfl rfl (one_of HT_.out (by kernel_rfl)) (by decide) (fun K hK=>?_)
            refine goes_ Try.func51 (by kernel_rfl) rfl #[.slice A1 l1.length c1,.int .i64 a2,.int .i64 (rd t458 x17_1)] (by rfl) rfl rfl zq2 ?_
            with_reducible refine(impl_cost.calls k1 _ _ l1 a2 (rd t458 x17_1) t464 _ ?side1 ?side2 A16.out).mono ?_
            (case side1=>repeat(first|exact(Kd.C_below HR1.out HB.out)|(with_reducible refine Kd.C_alloc ?_ _)|(with_reducible refine Kd.C_drewN ?_ _)|(with_reducible refine Kd.C_drew ?_)))
            (case side2=>exact HC1.out)
            rintro e w23 ⟨rfl,hb⟩
            refine⟨_,rfl,?_⟩
            have n0_:=Aside0.mk (Kd.R_below (zq4 HO_9) hb)
            have n1_:=Aside0.mk (Kd.R_below (zq4 HO_15) hb)
            have n2_:=Aside0.mk (below_step (zb0 HB) hb)
            clear HO_9
            clear HO_15
            clear HB
            have HO_9:=n0_
            have HO_15:=n1_
            have HB:=n2_
            clear n0_ n1_ n2_
            (try clear hb)
            (try clear hb2)
            (try clear hk)
            (try clear hi)
            refine hK.out _ _ ⟨((HB.out.cell (World.block_lt_of_cell? w _ hw462_0)).trans hw462_0),((HB.out.cell (World.block_lt_of_cell? w _ hw463_0)).trans hw463_0),((HB.out.cell (World.block_lt_of_cell? w _ hw465_0)).trans hw465_0)⟩ (fun hHeld=>?_)
            clear hK K
            refine norm_ (a':=?_) ?_ ?_
            rotate_left
            ·show Act.put _ (some 34) _=_
             simp only [Act.put,zq5,zq6,zq7,i64_w,i32_w]
             rfl
            refine pure_ (i:=14) (N:=some 35) (v:=?_) (a':=?_) #[t',t',t',t',t',t',t',t',t',t',t',t',t',t',t',t',t',t',t',f',f'] rfl rfl (any_of HT_.out (by kernel_rfl)) (fun _ _ _ h=>h) (Or.inl ⟨by rfl,?_⟩) ?_ ?_
            rotate_left
            ·intro w'
             go_simp
             with_reducible rfl
            rotate_left
            ·simp only [Act.put,zq5,zq6,zq7,i64_w,i32_w]
             rfl
            refine pure_ (i:=19) (N:=some 40) (v:=?_) (a':=?_) #[t',t',t',t',t',t',t',t',t',t',t',t',t',t',t',t',t',t',t',t',f'] rfl rfl (any_of HT_.out (by kernel_rfl)) (fun _ _ _ h=>h) (Or.inl ⟨by rfl,?_⟩) ?_ ?_
            rotate_left
            ·intro w'
             go_simp
             with_reducible rfl
            rotate_left
            ·simp only [Act.put,zq5,zq6,zq7,i64_w,i32_w]
             rfl
            refine pure_ (i:=20) (N:=some 41) (v:=?_) (a':=?_) #[t',t',t',t',t',t',t',t',t',t',t',t',t',t',t',t',t',t',t',t',t'] rfl rfl (any_of HT_.out (by kernel_rfl)) (fun _ _ _ h=>h) (Or.inl ⟨by rfl,?_⟩) ?_ ?_
            rotate_left
            ·intro w'
             go_simp
             with_reducible rfl
            rotate_left
            ·simp only [Act.put,zq5,zq6,zq7,i64_w,i32_w]
             rfl
            refine done_ (done_of HT_.out (by kernel_rfl)) ?_
            try go_wp2
            go_roundg k1
            case measure=>have:=HK1.out;omega
            case rel=>exact⟨(x9_1),(wrap64 (x17_1+1)),(by first|rfl|(simp;done)|(simp [*];done)),H',⟨by have:=HK1.out;omega⟩,⟨by(with_reducible repeat(first|apply Kd.R_alloc|apply Kd.R_drewN|apply Kd.R_drew));exact HO_9.out⟩,⟨by(with_reducible repeat(first|apply Kd.R_alloc|apply Kd.R_drewN|apply Kd.R_drew));exact HO_15.out⟩,⟨by repeat(first|(with_reducible first|exact HB.out|apply below_alloc|apply pw_below_drewN|apply below_drew1)|exact HB.out)⟩⟩
          ·rw [if_neg c15] at H
           exact absurd H (by simp)
         ·rw [if_neg c14] at H
          exact absurd H (by simp)
        ·rw [if_neg c13] at H
         have c13b0:decide ((rd l3 a2)< 100000)=false:=decide_eq_false c13
         clear c13
         have H':=Aside0.mk H
         clear H
         have p461: 0≤ (x17_1:Int):=of_decide_eq_true zq1
         have q461:x17_1< (t458.length:Int):=of_decide_eq_true zq1
         obtain⟨ad461,e461,hx461_0⟩:=Kd.at_int (Kd.R_reads' HO_15.out).2.2 x17_1 p461 q461
         cases e461
         replace p461:=eq_true p461
         replace q461:=eq_true q461
         try go_wp2
         have n0_:=Aside0.mk (Kd.R_drew HO_9.out)
         have n1_:=Aside0.mk (Kd.R_drew HO_15.out)
         have n2_:=Aside0.mk (below_drew1 HB.out)
         clear HO_9
         clear HO_15
         clear HB
         have HO_9:=n0_
         have HO_15:=n1_
         have HB:=n2_
         clear n0_ n1_ n2_
         have p462: 0≤ (a2:Int):=of_decide_eq_true zq1
         have q462:a2< (l3.length:Int):=of_decide_eq_true zq1
         obtain⟨ad462,e462,hx462_0⟩:=Kd.at_int HR3.out a2 p462 q462
         have hw462_0:=hx462_0
         cases e462
         replace hx462_0:=(HB.out.cell (World.block_lt_of_cell? w _ hx462_0)).trans hx462_0
         replace p462:=eq_true p462
         replace q462:=eq_true q462
         refine start_ (n:=21) (S:=fun w'=>w'.cell? (ad462.add (a2).toNat)=some (.int .i64 (rd l3 a2))) (ds:= []) #[f',f',f',f',f',f',f',f',f',f',f',f',f',f',f',f',f',f',f',f',f'] (by kernel_rfl) rfl rfl (((HB.out.cell (World.block_lt_of_cell? w _ hw462_0)).trans hw462_0)) (fun hHeld=>?_);refine with_tabW impl_hops.tab5 impl_hops.bits5 (fun HT_ HW_=>?_)
         generalize wr.drew=w24 at HO_9 HO_15 HB hx462_0 hHeld ⊢
         refine pure_ (i:=0) (N:=some 21) (v:=?_) (a':=?_) #[t',f',f',f',f',f',f',f',f',f',f',f',f',f',f',f',f',f',f',f',f'] rfl rfl (any_of HT_.out (by kernel_rfl)) (fun _ _ _ h=>h) (Or.inl ⟨by rfl,?_⟩) ?_ ?_
         rotate_left
         ·intro w'
          go_simp
          with_reducible rfl
         rotate_left
         ·simp only [Act.put,zq5,zq6,zq7,i64_w,i32_w]
          rfl
         refine pure_ (i:=1) (N:=some 22) (v:=?_) (a':=?_) #[t',t',f',f',f',f',f',f',f',f',f',f',f',f',f',f',f',f',f',f',f'] rfl rfl (any_of HT_.out (by kernel_rfl)) (fun _ _ _ h=>h) (Or.inl ⟨by rfl,?_⟩) ?_ ?_
         rotate_left
         ·intro w'
          go_simp
          with_reducible rfl
         rotate_left
         ·simp only [Act.put,zq5,zq6,zq7,i64_w,i32_w]
          rfl
         refine pure_ (i:=2) (N:=some 23) (v:=?_) (a':=?_) #[t',t',t',f',f',f',f',f',f',f',f',f',f',f',f',f',f',f',f',f',f'] rfl rfl (any_of HT_.out (by kernel_rfl)) (fun _ _ _ h=>h) (Or.inl ⟨by rfl,?_⟩) ?_ ?_
         rotate_left
         ·intro w'
          go_simp
          with_reducible rfl
         rotate_left
         ·simp only [Act.put,zq5,zq6,zq7,i64_w,i32_w]
          rfl
         refine take_ (i:=3) (N:=some 24) (v:=?_) (a':=?_) #[t',t',t',t',f',f',f',f',f',f',f',f',f',f',f',f',f',f',f',f',f'] rfl rfl (take_ofW HT_.out HW_.out (by kernel_rfl)) (fun _ _ _ h=>h) (Or.inl ⟨by rfl,?_⟩) hHeld ?_ ?_
         rotate_left
         ·intro w' s0
          go_simp
          with_reducible rfl
         rotate_left
         ·simp only [Act.put,zq5,zq6,zq7,i64_w,i32_w]
          rfl
         refine pure_ (i:=4) (N:=some 25) (v:=?_) (a':=?_) #[t',t',t',t',t',f',f',f',f',f',f',f',f',f',f',f',f',f',f',f',f'] rfl rfl (any_of HT_.out (by kernel_rfl)) (fun _ _ _ h=>h) (Or.inl ⟨by rfl,?_⟩) ?_ ?_
         rotate_left
         ·intro w'
          go_simp
          with_reducible rfl
         rotate_left
         ·simp only [Act.put,zq5,zq6,zq7,i64_w,i32_w]
          rfl
         refine pure_ (i:=5) (N:=some 26) (v:=?_) (a':=?_) #[t',t',t',t',t',t',f',f',f',f',f',f',f',f',f',f',f',f',f',f',f'] rfl rfl (any_of HT_.out (by kernel_rfl)) (fun _ _ _ h=>h) (Or.inl ⟨by rfl,?_⟩) ?_ ?_
         rotate_left
         ·intro w'
          go_simp
          with_reducible rfl
         rotate_left
         ·simp only [Act.put,zq5,zq6,zq7,i64_w,i32_w]
          rfl
         refine pure_ (i:=6) (N:=some 27) (v:=undef) (a':=?_) #[t',t',t',t',t',t',t',f',f',f',f',f',f',f',f',f',f',f',f',f',f'] rfl rfl (any_of HT_.out (by kernel_rfl)) (fun _ _ _ h=>h) (Or.inr ⟨by rfl,rfl⟩) ?_ ?_
         rotate_left
         ·simp only [Act.put,zq5,zq6,zq7,i64_w,i32_w]
          rfl
         refine pure_ (i:=7) (N:=some 28) (v:=undef) (a':=?_) #[t',t',t',t',t',t',t',t',f',f',f',f',f',f',f',f',f',f',f',f',f'] rfl rfl (any_of HT_.out (by kernel_rfl)) (fun _ _ _ h=>h) (Or.inr ⟨by rfl,rfl⟩) ?_ ?_
         rotate_left
         ·simp only [Act.put,zq5,zq6,zq7,i64_w,i32_w]
          rfl
         refine pure_ (i:=8) (N:=some 29) (v:=undef) (a':=?_) #[t',t',t',t',t',t',t',t',t',f',f',f',f',f',f',f',f',f',f',f',f'] rfl rfl (any_of HT_.out (by kernel_rfl)) (fun _ _ _ h=>h) (Or.inr ⟨by rfl,rfl⟩) ?_ ?_
         rotate_left
         ·simp only [Act.put,zq5,zq6,zq7,i64_w,i32_w]
          rfl
         refine pure_ (i:=9) (N:=some 30) (v:=undef) (a':=?_) #[t',t',t',t',t',t',t',t',t',t',f',f',f',f',f',f',f',f',f',f',f'] rfl rfl (any_of HT_.out (by kernel_rfl)) (fun _ _ _ h=>h) (Or.inr ⟨by rfl,rfl⟩) ?_ ?_
         rotate_left
         ·simp only [Act.put,zq5,zq6,zq7,i64_w,i32_w]
          rfl
         refine pure_ (i:=10) (N:=some 31) (v:=undef) (a':=?_) #[t',t',t',t',t',t',t',t',t',t',t',f',f',f',f',f',f',f',f',f',f'] rfl rfl (any_of HT_.out (by kernel_rfl)) (fun _ _ _ h=>h) (Or.inr ⟨by rfl,rfl⟩) ?_ ?_
         rotate_left
         ·simp only [Act.put,zq5,zq6,zq7,i64_w,i32_w]
          rfl
         refine pure_ (i:=11) (N:=some 32) (v:=undef) (a':=?_) #[t',t',t',t',t',t',t',t',t',t',t',t',f',f',f',f',f',f',f',f',f'] rfl rfl (any_of HT_.out (by kernel_rfl)) (fun _ _ _ h=>h) (Or.inr ⟨by rfl,rfl⟩) ?_ ?_
         rotate_left
         ·simp only [Act.put,zq5,zq6,zq7,i64_w,i32_w]
          rfl
         refine pure_ (i:=12) (N:=some 33) (v:=undef) (a':=?_) #[t',t',t',t',t',t',t',t',t',t',t',t',t',f',f',f',f',f',f',f',f'] rfl rfl (any_of HT_.out (by kernel_rfl)) (fun _ _ _ h=>h) (Or.inr ⟨by rfl,rfl⟩) ?_ ?_
         rotate_left
         ·simp only [Act.put,zq5,zq6,zq7,i64_w,i32_w]
          rfl
         refine pure_ (i:=13) (N:=some 34) (v:=undef) (a':=?_) #[t',t',t',t',t',t',t',t',t',t',t',t',t',t',f',f',f',f',f',f',f'] rfl rfl (any_of HT_.out (by kernel_rfl)) (fun _ _ _ h=>h) (Or.inr ⟨by rfl,rfl⟩) ?_ ?_
         rotate_left
         ·simp only [Act.put,zq5,zq6,zq7,i64_w,i32_w]
          rfl
         refine pure_ (i:=14) (N:=some 35) (v:=undef) (a':=?_) #[t',t',t',t',t',t',t',t',t',t',t',t',t',t',t',f',f',f',f',f',f'] rfl rfl (any_of HT_.out (by kernel_rfl)) (fun _ _ _ h=>h) (Or.inr ⟨by rfl,rfl⟩) ?_ ?_
         rotate_left
         ·simp only [Act.put,zq5,zq6,zq7,i64_w,i32_w]
          rfl
         refine pure_ (i:=15) (N:=some 36) (v:=undef) (a':=?_) #[t',t',t',t',t',t',t',t',t',t',t',t',t',t',t',t',f',f',f',f',f'] rfl rfl (any_of HT_.out (by kernel_rfl)) (fun _ _ _ h=>h) (Or.inr ⟨by rfl,rfl⟩) ?_ ?_
         rotate_left
         ·simp only [Act.put,zq5,zq6,zq7,i64_w,i32_w]
          rfl
         refine pure_ (i:=16) (N:=some 37) (v:=undef) (a':=?_) #[t',t',t',t',t',t',t',t',t',t',t',t',t',t',t',t',t',f',f',f',f'] rfl rfl (any_of HT_.out (by kernel_rfl)) (fun _ _ _ h=>h) (Or.inr ⟨by rfl,rfl⟩) ?_ ?_
         rotate_left
         ·simp only [Act.put,zq5,zq6,zq7,i64_w,i32_w]
          rfl
         refine pure_ (i:=17) (N:=some 38) (v:=undef) (a':=?_) #[t',t',t',t',t',t',t',t',t',t',t',t',t',t',t',t',t',t',f',f',f'] rfl rfl (any_of HT_.out (by kernel_rfl)) (fun _ _ _ h=>h) (Or.inr ⟨by rfl,rfl⟩) ?_ ?_
         rotate_left
         ·simp only [Act.put,zq5,zq6,zq7,i64_w,i32_w]
          rfl
         refine pure_ (i:=18) (N:=some 39) (v:=undef) (a':=?_) #[t',t',t',t',t',t',t',t',t',t',t',t',t',t',t',t',t',t',t',f',f'] rfl rfl (any_of HT_.out (by kernel_rfl)) (fun _ _ _ h=>h) (Or.inr ⟨by rfl,rfl⟩) ?_ ?_
         rotate_left
         ·simp only [Act.put,zq5,zq6,zq7,i64_w,i32_w]
          rfl
         refine pure_ (i:=19) (N:=some 40) (v:=undef) (a':=?_) #[t',t',t',t',t',t',t',t',t',t',t',t',t',t',t',t',t',t',t',t',f'] rfl rfl (any_of HT_.out (by kernel_rfl)) (fun _ _ _ h=>h) (Or.inr ⟨by rfl,rfl⟩) ?_ ?_
         rotate_left
         ·simp only [Act.put,zq5,zq6,zq7,i64_w,i32_w]
          rfl
         refine pure_ (i:=20) (N:=some 41) (v:=?_) (a':=?_) #[t',t',t',t',t',t',t',t',t',t',t',t',t',t',t',t',t',t',t',t',t'] rfl rfl (any_of HT_.out (by kernel_rfl)) (fun _ _ _ h=>h) (Or.inl ⟨by rfl,?_⟩) ?_ ?_
         rotate_left
         ·intro w'
          go_simp
          with_reducible rfl
         rotate_left
         ·simp only [Act.put,zq5,zq6,zq7,i64_w,i32_w]
          rfl
         refine done_ (done_of HT_.out (by kernel_rfl)) ?_
         try go_wp2
         go_roundg k1
         case measure=>have:=HK1.out;omega
         case rel=>exact⟨(x9_1),(wrap64 (x17_1+1)),(by first|rfl|(simp;done)|(simp [*];done)),H',⟨by have:=HK1.out;omega⟩,⟨by(with_reducible repeat(first|apply Kd.R_alloc|apply Kd.R_drewN|apply Kd.R_drew));exact HO_9.out⟩,⟨by(with_reducible repeat(first|apply Kd.R_alloc|apply Kd.R_drewN|apply Kd.R_drew));exact HO_15.out⟩,⟨by repeat(first|(with_reducible first|exact HB.out|apply below_alloc|apply pw_below_drewN|apply below_drew1)|exact HB.out)⟩⟩
       ·rw [if_neg c12] at H
        exact absurd H (by simp)
      ·rw [if_neg c11] at H
       exact absurd H (by simp)
     ·rw [if_neg c10] at H
      exact absurd H (by simp)
    ·rw [if_neg c9] at H
     exact absurd H (by simp)
   ·rw [if_neg c8] at H
    have c8b0:decide (x17_1< (t458.length:Int))=false:=decide_eq_false c8
    clear c8
    obtain rfl:=Option.some.inj H
    go_wp2
    go_ret
    exact⟨_,by first|rfl|(simp [errW_none,errW_some]<;>rfl)|(simp [*,errW_none,errW_some]<;>rfl),by(with_reducible repeat(first|apply Kd.R_alloc|apply Kd.R_drewN|apply Kd.R_drew));exact Kd.R_mono HO_9.out (fun _ hk=>trivial),by repeat(first|(with_reducible first|exact HB.out|apply below_alloc|apply pw_below_drewN|apply below_drew1)|exact HB.out)⟩
end Go.Proofs.Ytklecgkjoofipaa.P

namespace Go.Proofs.Ytklecgkjoofipaa.P
open Go.RowKit Go.Proofs.YtklecgkjoofipaaW.PrintWords Go.Proofs.YtklecgkjoofipaaW.PrintLast Go.Proofs.YtklecgkjoofipaaW.PrintMore
attribute [local go_sem] max2_int min2_int max_two min_two max_three min_three max_four min_four   -- for this text's walks alone
set_option linter.unusedVariables false
set_option linter.unusedSimpArgs false
def impl_FirstHops.j0:Nat→Int→List (S67)→Int→Int→Bool→Option (List Int × Bool)
 | 0,_,_,_,_,_=>none
 |k+1,x0,x1,x2,x3,x21=>if x21=true then(some (([] :List Int),false)) else((impl_fars.f k x0 x1 x3).bind fun t473=>((impl_hops.f k x0 x1 x2 t473).bind fun t476=>(some (t476,true))))
def impl_FirstHops.f (k:Nat) (a0:Int) (l1:List (S67)) (a2:Int) (a3:Int):Option (List Int × Bool):=(impl_goodAt.f k a0 l1 (([a2,a3] :List Int))).bind fun t472=>(if t472=true then(impl_FirstHops.j0 k a0 l1 a2 a3 (a2==a3)) else(impl_FirstHops.j0 k a0 l1 a2 a3 true))
set_option maxHeartbeats 8000000 in
set_option maxRecDepth 100000 in
theorem impl_FirstHops.calls (k:Nat) (a0:Int) (A1:Option Addr) (c1:Nat) (l1:List (S67)) (a2:Int) (a3:Int) (r1:List Int) (r2:Bool) (w:World) (hr1:Kd.C k67 w A1 l1.length l1) (hc1:l1.length≤c1) (h:impl_FirstHops.f k a0 l1 a2 a3=some (r1,r2)):
  Calls Try.prog 31 #[.int .i64 a0,.slice A1 l1.length c1,.int .i64 a2,.int .i64 a3] w fun e w'=> ∃ v0_:Value,e= .returned (.tuple #[v0_,.bool r2])∧Kd.R (Kd.int .i64) 3 w' w.heap.size (fun _=>True) v0_ r1∧Below w.heap.size w w':=by
 have HR1:=Aside0.mk hr1
 have HC1:=Aside0.mk hc1
 clear hr1 hc1
 have HB:=Aside0.mk (Below.refl w.heap.size w)
 have H:((impl_goodAt.f k a0 l1 (([a2,a3] :List Int))).bind fun t472=>(if t472=true then(impl_FirstHops.j0 k a0 l1 a2 a3 (a2==a3)) else(impl_FirstHops.j0 k a0 l1 a2 a3 true)))=some (r1,r2):=h
 clear h
 have HC5:=Aside0.mk H
 clear H
 go_enter Try.func31,Try.ntmps31
 go_upto_region 1 with (fail)
 go_cut [21] (fun v21 wc=> ∃ (kq:Nat) (x21_4:Bool),v21= .bool x21_4∧Aside0 (impl_FirstHops.j0 kq a0 l1 a2 a3 x21_4=some (r1,r2))∧Aside0 (kq≤k)∧Aside0 (Below w.heap.size w wc))
 case first=>
  have H:=HC5.out
  clear HC5
  obtain⟨y469,hy469⟩ :∃ y_:List Int,y_= (([a2,a3] :List Int)):=⟨_,rfl⟩
  replace H:((impl_goodAt.f k a0 l1 y469).bind fun t472=>(if t472=true then(impl_FirstHops.j0 k a0 l1 a2 a3 (a2==a3)) else(impl_FirstHops.j0 k a0 l1 a2 a3 true)))=some (r1,r2):=by first|(rw [hy469];with_reducible exact H)|(have H2_:=(Option.bind_some _ _).symm.trans H;rw [hy469];with_reducible exact H2_)|(have H2_:=(Option.bind_some _ _).symm.trans H;with_reducible exact H2_)|with_reducible exact H|(rw [hy469];exact H)|exact H
  have Ny469:=Aside0.mk hy469
  clear hy469
  replace H:=Option.bind_eq_some_iff.mp H
  obtain⟨t472,A60,H⟩:=H
  replace H:(if t472=true then(impl_FirstHops.j0 k a0 l1 a2 a3 (a2==a3)) else(impl_FirstHops.j0 k a0 l1 a2 a3 true))=some (r1,r2):=H
  have A6:=Aside0.mk A60
  clear A60
  by_cases c7:t472=true
  ·subst c7
   have H1:(impl_FirstHops.j0 k a0 l1 a2 a3 (a2==a3))=some (r1,r2):=by rw [if_pos rfl] at H;exact H
   clear H
   have H:=H1
   clear H1
   have H':=Aside0.mk H
   clear H
   go_wp2_with (first|((with_reducible refine gate_dst (N:=14) rfl ?_);refine Kd.R_lit (Kd.int .i64) _ 3 ?hg (N:=14) ?hd (xs:=([a2,a3] :List Int)) (inner:= [.int .i64 a2,.int .i64 a3]) (ok:=fun _=>True) (okp:=fun _=>True) ?hr ?hp (fun _ hk=>hk) trivial (Below.refl _ _) (Nat.le_refl _) (by simp) ?_;(case hd=>rfl);(case hg=>rfl);(case hr=>first|(go_simp;done)|(go_simp;rfl));(case hp=>exact(Reps.one (show Kd.M (Kd.int .i64) _ _ _ a2 [.int .i64 a2] from rfl) (Reps.one (show Kd.M (Kd.int .i64) _ _ _ a3 [.int .i64 a3] from rfl) (Reps.none _ _))));intro v470 w8 ho9 hb hg_ hnew_;clear hg_ hnew_;(first|rw [← Ny469.out] at ho9|(simp only [Int.reduceToNat] at ho9;rw [← Ny469.out] at ho9));have n0_:=Aside0.mk (Kd.R_lower ho9 (below_size (zb0 HB)));have n1_:=Aside0.mk (below_step (zb0 HB) hb);clear HB;have HO471:=n0_;have HB:=n1_;clear n0_ n1_;clear hb ho9;obtain⟨Ao10,co10,eo10⟩:=Kd.R_slice HO471.out;subst eo10)|((with_reducible refine gate_callee (f:=50) rfl ?_);refine goesL_ (some 15) rfl rfl Try.func50 (by kernel_rfl) rfl #[.int .i64 a0,.slice A1 l1.length c1,.slice Ao10 y469.length co10] rfl zq2 ?_;(with_reducible refine(impl_goodAt.calls k a0 _ _ l1 _ _ y469 true _ ?side1 ?side2 ?side3 ?side4 A6.out).mono ?_);(case side1=>repeat(first|exact(Kd.C_below HR1.out HB.out)|(with_reducible refine Kd.C_alloc ?_ _)|(with_reducible refine Kd.C_drewN ?_ _)|(with_reducible refine Kd.C_drew ?_)));(case side2=>exact HC1.out);(case side3=>repeat(first|exact(Kd.R_reads' HO471.out).2.2|(with_reducible refine Kd.C_alloc ?_ _)|(with_reducible refine Kd.C_drewN ?_ _)|(with_reducible refine Kd.C_drew ?_)));(case side4=>exact(Kd.R_reads' HO471.out).2.1);rintro e w11 ⟨rfl,hb⟩;refine⟨_,rfl,?_⟩;have n0_:=Aside0.mk (Kd.R_below (zq4 HO471) hb);have n1_:=Aside0.mk (below_step (zb0 HB) hb);clear HO471;clear HB;have HO471:=n0_;have HB:=n1_;clear n0_ n1_;(try clear hb);(try clear hb2);(try clear hk);(try clear hi)))
   go_meet
   case rel=>exact⟨_,((a2==a3)),(by first|rfl|(simp;done)|(simp [*];done)),H',⟨by first|omega|exact Nat.le_refl _⟩,⟨by repeat(first|(with_reducible first|exact HB.out|apply below_alloc|apply pw_below_drewN|apply below_drew1)|exact HB.out)⟩⟩
  ·replace c7:=Bool.eq_false_iff.mpr c7
   subst c7
   have H1:(impl_FirstHops.j0 k a0 l1 a2 a3 true)=some (r1,r2):=by rw [if_neg (show ¬ (false=true) by decide)] at H;exact H
   clear H
   have H:=H1
   clear H1
   have H':=Aside0.mk H
   clear H
   go_wp2_with (first|((with_reducible refine gate_dst (N:=14) rfl ?_);refine Kd.R_lit (Kd.int .i64) _ 3 ?hg (N:=14) ?hd (xs:=([a2,a3] :List Int)) (inner:= [.int .i64 a2,.int .i64 a3]) (ok:=fun _=>True) (okp:=fun _=>True) ?hr ?hp (fun _ hk=>hk) trivial (Below.refl _ _) (Nat.le_refl _) (by simp) ?_;(case hd=>rfl);(case hg=>rfl);(case hr=>first|(go_simp;done)|(go_simp;rfl));(case hp=>exact(Reps.one (show Kd.M (Kd.int .i64) _ _ _ a2 [.int .i64 a2] from rfl) (Reps.one (show Kd.M (Kd.int .i64) _ _ _ a3 [.int .i64 a3] from rfl) (Reps.none _ _))));intro v470 w12 ho13 hb hg_ hnew_;clear hg_ hnew_;(first|rw [← Ny469.out] at ho13|(simp only [Int.reduceToNat] at ho13;rw [← Ny469.out] at ho13));have n0_:=Aside0.mk (Kd.R_lower ho13 (below_size (zb0 HB)));have n1_:=Aside0.mk (below_step (zb0 HB) hb);clear HB;have HO471:=n0_;have HB:=n1_;clear n0_ n1_;clear hb ho13;obtain⟨Ao14,co14,eo14⟩:=Kd.R_slice HO471.out;subst eo14)|((with_reducible refine gate_callee (f:=50) rfl ?_);refine goesL_ (some 15) rfl rfl Try.func50 (by kernel_rfl) rfl #[.int .i64 a0,.slice A1 l1.length c1,.slice Ao14 y469.length co14] rfl zq2 ?_;(with_reducible refine(impl_goodAt.calls k a0 _ _ l1 _ _ y469 false _ ?side1 ?side2 ?side3 ?side4 A6.out).mono ?_);(case side1=>repeat(first|exact(Kd.C_below HR1.out HB.out)|(with_reducible refine Kd.C_alloc ?_ _)|(with_reducible refine Kd.C_drewN ?_ _)|(with_reducible refine Kd.C_drew ?_)));(case side2=>exact HC1.out);(case side3=>repeat(first|exact(Kd.R_reads' HO471.out).2.2|(with_reducible refine Kd.C_alloc ?_ _)|(with_reducible refine Kd.C_drewN ?_ _)|(with_reducible refine Kd.C_drew ?_)));(case side4=>exact(Kd.R_reads' HO471.out).2.1);rintro e w15 ⟨rfl,hb⟩;refine⟨_,rfl,?_⟩;have n0_:=Aside0.mk (Kd.R_below (zq4 HO471) hb);have n1_:=Aside0.mk (below_step (zb0 HB) hb);clear HO471;clear HB;have HO471:=n0_;have HB:=n1_;clear n0_ n1_;(try clear hb);(try clear hb2);(try clear hk);(try clear hi)))
   go_meet
   case rel=>exact⟨_,(true),(by first|rfl|(simp;done)|(simp [*];done)),H',⟨by first|omega|exact Nat.le_refl _⟩,⟨by repeat(first|(with_reducible first|exact HB.out|apply below_alloc|apply pw_below_drewN|apply below_drew1)|exact HB.out)⟩⟩
 case rest=>
  clear HC5
  try clear c1
  try clear p2
  try clear c3
  try clear c5
  try clear c7
  obtain⟨kq,x21_4,rfl,HA,HJ4,HB⟩:=hcut
  cases kq with
  |zero=>exact absurd HA.out (by simp [impl_FirstHops.j0])
  |succ kj4=>
   have H:=HA.out
   clear HA
   simp only [impl_FirstHops.j0] at H
   by_cases c16:x21_4=true
   ·subst c16
    have H1:(some (([] :List Int),false))=some (r1,r2):=by rw [if_pos rfl] at H;exact H
    clear H
    have H:=H1
    clear H1
    simp only [Option.some.injEq,Prod.mk.injEq] at H
    obtain⟨rfl,rfl⟩:=H
    go_wp2
    go_ret2
    exact⟨_,by first|rfl|(simp [errW_none,errW_some]<;>rfl)|(simp [*,errW_none,errW_some]<;>rfl),by first|exact Kd.R_nil _ _ _ _ _|exact Kd.N_nil _ _ _ _ _|exact Kd.V_nil _ _ _ _ _|exact Kd.Q_nil _ _ _ _ _|exact Kd.S_nil _ _ _ _ _,by repeat(first|(with_reducible first|exact HB.out|apply below_alloc|apply pw_below_drewN|apply below_drew1)|exact HB.out)⟩
   ·replace c16:=Bool.eq_false_iff.mpr c16
    subst c16
    have H1:((impl_fars.f kj4 a0 l1 a3).bind fun t473=>((impl_hops.f kj4 a0 l1 a2 t473).bind fun t476=>(some (t476,true))))=some (r1,r2):=by rw [if_neg (show ¬ (false=true) by decide)] at H;exact H
    clear H
    have H:=H1
    clear H1
    replace H:=Option.bind_eq_some_iff.mp H
    obtain⟨t473,A170,H⟩:=H
    replace H:((impl_hops.f kj4 a0 l1 a2 t473).bind fun t476=>(some (t476,true)))=some (r1,r2):=H
    have A17:=Aside0.mk A170
    clear A170
    replace H:=Option.bind_eq_some_iff.mp H
    obtain⟨t476,A180,H⟩:=H
    replace H:(some (t476,true))=some (r1,r2):=H
    have A18:=Aside0.mk A180
    clear A180
    simp only [Option.some.injEq,Prod.mk.injEq] at H
    obtain⟨rfl,rfl⟩:=H
    go_wp2_with (first|((with_reducible refine gate_callee (f:=55) rfl ?_);refine goesL_ (some 28) rfl rfl Try.func55 (by kernel_rfl) rfl #[.int .i64 a0,.slice A1 l1.length c1,.int .i64 a3] rfl zq2 ?_;(with_reducible refine(impl_fars.calls kj4 a0 _ _ l1 a3 t473 _ ?side1 ?side2 A17.out).mono ?_);(case side1=>repeat(first|exact(Kd.C_below HR1.out HB.out)|(with_reducible refine Kd.C_alloc ?_ _)|(with_reducible refine Kd.C_drewN ?_ _)|(with_reducible refine Kd.C_drew ?_)));(case side2=>exact HC1.out);rintro e w19 ⟨v474,rfl,ho0,hb⟩;refine⟨_,rfl,?_⟩;have n0_:=Aside0.mk (Kd.R_lower ho0 (below_size (zb0 HB)));have n1_:=Aside0.mk (below_step (zb0 HB) hb);clear HB;have HO475:=n0_;have HB:=n1_;clear n0_ n1_;(try clear hb);(try clear hb2);(try clear hk);(try clear hi);(try clear ho0);obtain⟨Ao20,co20,eo20⟩:=Kd.R_slice HO475.out;subst eo20)|((with_reducible refine gate_callee (f:=61) rfl ?_);refine goesL_ (some 29) rfl rfl Try.func61 (by kernel_rfl) rfl #[.int .i64 a0,.slice A1 l1.length c1,.int .i64 a2,.slice Ao20 t473.length co20] rfl zq2 ?_;(with_reducible refine(impl_hops.calls kj4 a0 _ _ l1 a2 _ _ t473 t476 _ ?side1 ?side2 ?side3 ?side4 A18.out).mono ?_);(case side1=>repeat(first|exact(Kd.C_below HR1.out HB.out)|(with_reducible refine Kd.C_alloc ?_ _)|(with_reducible refine Kd.C_drewN ?_ _)|(with_reducible refine Kd.C_drew ?_)));(case side2=>exact HC1.out);(case side3=>repeat(first|exact(Kd.R_reads' HO475.out).2.2|(with_reducible refine Kd.C_alloc ?_ _)|(with_reducible refine Kd.C_drewN ?_ _)|(with_reducible refine Kd.C_drew ?_)));(case side4=>exact(Kd.R_reads' HO475.out).2.1);rintro e w21 ⟨v477,rfl,ho0,hb⟩;refine⟨_,rfl,?_⟩;have n0_:=Aside0.mk (Kd.R_elder' (zq4 HO475) (Kd.R_base ho0) hb);have n1_:=Aside0.mk (Kd.R_lower (Kd.R_new' ho0 (Kd.R_lt (zq4 HO475))) (below_size (zb0 HB)));have n2_:=Aside0.mk (below_step (zb0 HB) hb);clear HO475;clear HB;have HO475:=n0_;have HO478:=n1_;have HB:=n2_;clear n0_ n1_ n2_;(try clear hb);(try clear hb2);(try clear hk);(try clear hi);(try clear ho0)))
    go_ret2
    exact⟨_,by first|rfl|(simp [errW_none,errW_some]<;>rfl)|(simp [*,errW_none,errW_some]<;>rfl),by(with_reducible repeat(first|apply Kd.R_alloc|apply Kd.R_drewN|apply Kd.R_drew));exact Kd.R_mono HO478.out (fun _ hk=>trivial),by repeat(first|(with_reducible first|exact HB.out|apply below_alloc|apply pw_below_drewN|apply below_drew1)|exact HB.out)⟩
def impl_HopFor.f (k:Nat) (a0:Int) (l1:List (S67)) (a2:Int) (a3:Int) (a4:Int):Option (Int × Bool):=(impl_FirstHops.f k a0 l1 a2 a3).bind fun bt479=>(if bt479.2=true then((impl_in.f a4 0 1000).bind fun t483=>(if t483=true then(if (bt479.1.length:Int)=0 then(some (0,false)) else(if 0≤ (Int.tmod a4 (bt479.1.length:Int)) then(if (Int.tmod a4 (bt479.1.length:Int))< (bt479.1.length:Int) then(some (rd bt479.1 (Int.tmod a4 (bt479.1.length:Int)),true)) else(none)) else(none))) else(some (0,false)))) else(some (0,false)))
set_option maxHeartbeats 8000000 in
set_option maxRecDepth 100000 in
theorem impl_HopFor.calls (k:Nat) (a0:Int) (A1:Option Addr) (c1:Nat) (l1:List (S67)) (a2:Int) (a3:Int) (a4:Int) (r1:Int) (r2:Bool) (w:World) (hr1:Kd.C k67 w A1 l1.length l1) (hc1:l1.length≤c1) (h:impl_HopFor.f k a0 l1 a2 a3 a4=some (r1,r2)):
  Calls Try.prog 29 #[.int .i64 a0,.slice A1 l1.length c1,.int .i64 a2,.int .i64 a3,.int .i64 a4] w fun e w'=>e= .returned (.tuple #[.int .i64 r1,.bool r2])∧Below w.heap.size w w':=by
 have HR1:=Aside0.mk hr1
 have HC1:=Aside0.mk hc1
 clear hr1 hc1
 have HB:=Aside0.mk (Below.refl w.heap.size w)
 have H:((impl_FirstHops.f k a0 l1 a2 a3).bind fun bt479=>(if bt479.2=true then((impl_in.f a4 0 1000).bind fun t483=>(if t483=true then(if (bt479.1.length:Int)=0 then(some (0,false)) else(if 0≤ (Int.tmod a4 (bt479.1.length:Int)) then(if (Int.tmod a4 (bt479.1.length:Int))< (bt479.1.length:Int) then(some (rd bt479.1 (Int.tmod a4 (bt479.1.length:Int)),true)) else(none)) else(none))) else(some (0,false)))) else(some (0,false))))=some (r1,r2):=h
 clear h
 replace H:=Option.bind_eq_some_iff.mp H
 obtain⟨⟨t479,t480⟩,A60,H⟩:=H
 replace H:(if t480=true then((impl_in.f a4 0 1000).bind fun t483=>(if t483=true then(if (t479.length:Int)=0 then(some (0,false)) else(if 0≤ (Int.tmod a4 (t479.length:Int)) then(if (Int.tmod a4 (t479.length:Int))< (t479.length:Int) then(some (rd t479 (Int.tmod a4 (t479.length:Int)),true)) else(none)) else(none))) else(some (0,false)))) else(some (0,false)))=some (r1,r2):=H
 have A6:=Aside0.mk A60
 clear A60
 by_cases c7:t480=true
 ·subst c7
  have H1:((impl_in.f a4 0 1000).bind fun t483=>(if t483=true then(if (t479.length:Int)=0 then(some (0,false)) else(if 0≤ (Int.tmod a4 (t479.length:Int)) then(if (Int.tmod a4 (t479.length:Int))< (t479.length:Int) then(some (rd t479 (Int.tmod a4 (t479.length:Int)),true)) else(none)) else(none))) else(some (0,false))))=some (r1,r2):=by rw [if_pos rfl] at H;exact H
  clear H
  have H:=H1
  clear H1
  replace H:=Option.bind_eq_some_iff.mp H
  obtain⟨t483,A80,H⟩:=H
  replace H:(if t483=true then(if (t479.length:Int)=0 then(some (0,false)) else(if 0≤ (Int.tmod a4 (t479.length:Int)) then(if (Int.tmod a4 (t479.length:Int))< (t479.length:Int) then(some (rd t479 (Int.tmod a4 (t479.length:Int)),true)) else(none)) else(none))) else(some (0,false)))=some (r1,r2):=H
  have A8:=Aside0.mk A80
  clear A80
  by_cases c9:t483=true
  ·subst c9
   have H1:(if (t479.length:Int)=0 then(some (0,false)) else(if 0≤ (Int.tmod a4 (t479.length:Int)) then(if (Int.tmod a4 (t479.length:Int))< (t479.length:Int) then(some (rd t479 (Int.tmod a4 (t479.length:Int)),true)) else(none)) else(none)))=some (r1,r2):=by rw [if_pos rfl] at H;exact H
   clear H
   have H:=H1
   clear H1
   by_cases c10:(t479.length:Int)=0
   ·rw [if_pos c10] at H
    have c10b0:((t479.length:Int)==0)=true:=beq_iff_eq.mpr c10
    have c10b1:((t479.length:Int) !=0)=false:=bne_eq_false_iff_eq.mpr c10
    clear c10
    simp only [Option.some.injEq,Prod.mk.injEq] at H
    obtain⟨rfl,rfl⟩:=H
    go_enter Try.func29,Try.ntmps29
    go_wp2_with (first|((with_reducible refine gate_callee (f:=31) rfl ?_);refine goesL_ (some 19) rfl rfl Try.func31 (by kernel_rfl) rfl #[.int .i64 a0,.slice A1 l1.length c1,.int .i64 a2,.int .i64 a3] rfl zq2 ?_;(with_reducible refine(impl_FirstHops.calls k a0 _ _ l1 a2 a3 t479 true _ ?side1 ?side2 A6.out).mono ?_);(case side1=>repeat(first|exact HR1.out|(with_reducible refine Kd.C_alloc ?_ _)|(with_reducible refine Kd.C_drewN ?_ _)|(with_reducible refine Kd.C_drew ?_)));(case side2=>exact HC1.out);rintro e w11 ⟨v481,rfl,ho0,hb⟩;refine⟨_,rfl,?_⟩;have n0_:=Aside0.mk (Kd.R_lower ho0 (below_size (zb0 HB)));have n1_:=Aside0.mk (below_step (zb0 HB) hb);clear HB;have HO482:=n0_;have HB:=n1_;clear n0_ n1_;(try clear hb);(try clear hb2);(try clear hk);(try clear hi);(try clear ho0))|(go_at_call 49;(with_reducible refine(impl_in.calls a4 0 1000 true _ A8.out).mono ?_);rintro e w' ⟨rfl,⟨nd,rfl⟩⟩;obtain⟨Ao12,co12,eo12⟩:=Kd.R_slice HO482.out;subst eo12))
    go_ret2
    exact⟨by first|rfl|(simp [errW_none,errW_some]<;>rfl)|(simp [*,errW_none,errW_some]<;>rfl),by repeat(first|(with_reducible first|exact HB.out|apply below_alloc|apply pw_below_drewN|apply below_drew1)|exact HB.out)⟩
   ·rw [if_neg c10] at H
    have c10b0:((t479.length:Int)==0)=false:=beq_eq_false_iff_ne.mpr c10
    have c10b1:((t479.length:Int) !=0)=true:=bne_iff_ne.mpr c10
    have c10b2:¬ (t479= []):=fun h_=>c10 (by rw [h_];rfl)
    obtain⟨ji13,hji13⟩ :∃ j_:Int,(Int.tmod a4 (t479.length:Int))=j_:=⟨_,rfl⟩
    replace H:(if 0≤ (ji13) then(if (ji13)< (t479.length:Int) then(some (rd t479 (ji13),true)) else(none)) else(none))=some (r1,r2):=by first|(rw [hji13] at H;exact H)|(simp only [hji13] at H ⊢;exact H)
    (try rw [hji13] at A6)
    (try rw [hji13] at A8)
    by_cases c14: 0≤ (ji13)
    ·rw [if_pos c14] at H
     have c14b0:decide (0≤ (ji13))=true:=decide_eq_true c14
     clear c14
     by_cases c15:(ji13)< (t479.length:Int)
     ·rw [if_pos c15] at H
      have c15b0:decide ((ji13)< (t479.length:Int))=true:=decide_eq_true c15
      clear c15
      simp only [Option.some.injEq,Prod.mk.injEq] at H
      obtain⟨rfl,rfl⟩:=H
      go_enter Try.func29,Try.ntmps29
      go_wp2_with (first|((with_reducible refine gate_callee (f:=31) rfl ?_);refine goesL_ (some 19) rfl rfl Try.func31 (by kernel_rfl) rfl #[.int .i64 a0,.slice A1 l1.length c1,.int .i64 a2,.int .i64 a3] rfl zq2 ?_;(with_reducible refine(impl_FirstHops.calls k a0 _ _ l1 a2 a3 t479 true _ ?side1 ?side2 A6.out).mono ?_);(case side1=>repeat(first|exact HR1.out|(with_reducible refine Kd.C_alloc ?_ _)|(with_reducible refine Kd.C_drewN ?_ _)|(with_reducible refine Kd.C_drew ?_)));(case side2=>exact HC1.out);rintro e w16 ⟨v481,rfl,ho0,hb⟩;refine⟨_,rfl,?_⟩;have n0_:=Aside0.mk (Kd.R_lower ho0 (below_size (zb0 HB)));have n1_:=Aside0.mk (below_step (zb0 HB) hb);clear HB;have HO482:=n0_;have HB:=n1_;clear n0_ n1_;(try clear hb);(try clear hb2);(try clear hk);(try clear hi);(try clear ho0))|(go_at_call 49;(with_reducible refine(impl_in.calls a4 0 1000 true _ A8.out).mono ?_);rintro e w' ⟨rfl,⟨nd,rfl⟩⟩;obtain⟨Ao17,co17,eo17⟩:=Kd.R_slice HO482.out;subst eo17;have p484: 0≤ ((ji13):Int):=of_decide_eq_true zq1;have q484:(ji13)< (t479.length:Int):=of_decide_eq_true zq1;obtain⟨ad484,e484,hx484_0⟩:=Kd.at_int (Kd.R_reads' HO482.out).2.2 (ji13) p484 q484;cases e484;replace p484:=eq_true p484;replace q484:=eq_true q484))
      go_ret2
      exact⟨by first|rfl|(simp [errW_none,errW_some]<;>rfl)|(simp only [← hji13];first|rfl|(simp [errW_none,errW_some]<;>rfl))|(simp [*,errW_none,errW_some]<;>rfl),by repeat(first|(with_reducible first|exact HB.out|apply below_alloc|apply pw_below_drewN|apply below_drew1)|exact HB.out)⟩
     ·rw [if_neg c15] at H
      exact absurd H (by simp)
    ·rw [if_neg c14] at H
     exact absurd H (by simp)
  ·replace c9:=Bool.eq_false_iff.mpr c9
   subst c9
   have H1:(some (0,false))=some (r1,r2):=by rw [if_neg (show ¬ (false=true) by decide)] at H;exact H
   clear H
   have H:=H1
   clear H1
   simp only [Option.some.injEq,Prod.mk.injEq] at H
   obtain⟨rfl,rfl⟩:=H
   go_enter Try.func29,Try.ntmps29
   go_wp2_with (first|((with_reducible refine gate_callee (f:=31) rfl ?_);refine goesL_ (some 19) rfl rfl Try.func31 (by kernel_rfl) rfl #[.int .i64 a0,.slice A1 l1.length c1,.int .i64 a2,.int .i64 a3] rfl zq2 ?_;(with_reducible refine(impl_FirstHops.calls k a0 _ _ l1 a2 a3 t479 true _ ?side1 ?side2 A6.out).mono ?_);(case side1=>repeat(first|exact HR1.out|(with_reducible refine Kd.C_alloc ?_ _)|(with_reducible refine Kd.C_drewN ?_ _)|(with_reducible refine Kd.C_drew ?_)));(case side2=>exact HC1.out);rintro e w18 ⟨v481,rfl,ho0,hb⟩;refine⟨_,rfl,?_⟩;have n0_:=Aside0.mk (Kd.R_lower ho0 (below_size (zb0 HB)));have n1_:=Aside0.mk (below_step (zb0 HB) hb);clear HB;have HO482:=n0_;have HB:=n1_;clear n0_ n1_;(try clear hb);(try clear hb2);(try clear hk);(try clear hi);(try clear ho0))|(go_at_call 49;(with_reducible refine(impl_in.calls a4 0 1000 false _ A8.out).mono ?_);rintro e w' ⟨rfl,⟨nd,rfl⟩⟩))
   go_ret2
   exact⟨by first|rfl|(simp [errW_none,errW_some]<;>rfl)|(simp [*,errW_none,errW_some]<;>rfl),by repeat(first|(with_reducible first|exact HB.out|apply below_alloc|apply pw_below_drewN|apply below_drew1)|exact HB.out)⟩
 ·replace c7:=Bool.eq_false_iff.mpr c7
  subst c7
  have H1:(some (0,false))=some (r1,r2):=by rw [if_neg (show ¬ (false=true) by decide)] at H;exact H
  clear H
  have H:=H1
  clear H1
  simp only [Option.some.injEq,Prod.mk.injEq] at H
  obtain⟨rfl,rfl⟩:=H
  go_enter Try.func29,Try.ntmps29
  go_wp2_with (first|((with_reducible refine gate_callee (f:=31) rfl ?_);refine goesL_ (some 19) rfl rfl Try.func31 (by kernel_rfl) rfl #[.int .i64 a0,.slice A1 l1.length c1,.int .i64 a2,.int .i64 a3] rfl zq2 ?_;(with_reducible refine(impl_FirstHops.calls k a0 _ _ l1 a2 a3 t479 false _ ?side1 ?side2 A6.out).mono ?_);(case side1=>repeat(first|exact HR1.out|(with_reducible refine Kd.C_alloc ?_ _)|(with_reducible refine Kd.C_drewN ?_ _)|(with_reducible refine Kd.C_drew ?_)));(case side2=>exact HC1.out);rintro e w19 ⟨v481,rfl,ho0,hb⟩;refine⟨_,rfl,?_⟩;have n0_:=Aside0.mk (Kd.R_lower ho0 (below_size (zb0 HB)));have n1_:=Aside0.mk (below_step (zb0 HB) hb);clear HB;have HO482:=n0_;have HB:=n1_;clear n0_ n1_;(try clear hb);(try clear hb2);(try clear hk);(try clear hi);(try clear ho0)))
  go_ret2
  exact⟨by first|rfl|(simp [errW_none,errW_some]<;>rfl)|(simp [*,errW_none,errW_some]<;>rfl),by repeat(first|(with_reducible first|exact HB.out|apply below_alloc|apply pw_below_drewN|apply below_drew1)|exact HB.out)⟩
end Go.Proofs.Ytklecgkjoofipaa.P
