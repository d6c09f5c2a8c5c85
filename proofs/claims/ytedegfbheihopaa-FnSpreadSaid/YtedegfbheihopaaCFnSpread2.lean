/- Functions, walks and plain lemmas that the law FnSpread reaches, part 2. -/
import Derived.Test.YtedegfbheihopaaCFnSpread1
import Derived.Below
import Derived.Deep.Draws
import Derived.Deep.AppendLies
import Derived.Maps.AppendAt
import Derived.OwnWalk
import Derived.Laws.BytesArg
import Derived.Laws.MakeOwn
import Derived.Laws.OwnMore
import Derived.Deep.OwnRows
import Derived.Tactics
import Derived.Lib.ConvBytes
import Derived.Laws.Slices
import Derived.WalkKit
import Derived.KernelRfl
import Derived.RowKit3
import Derived.Deep.LoopGhost
import Derived.Deep.QuietTactic
import Derived.BigQuiet
import Derived.WideLaws
import Derived.Deep.DeepCutAuto
import Derived.Deep.CutBlock
import Derived.Deep.RegionHeld3
import Derived.Laws.Rows
import Derived.Lib.AppendStr
import Derived.ArgAppend
import Derived.Laws.IdiomCopy
import Derived.OrdersHeld
import Derived.Laws.BitsLemmas
import Derived.RowKit
import Derived.WalkSpells
import Derived.Lib.SliceRun
import Derived.Shelf.Abstract
import Derived.Maps.OwnSet
import Derived.Maps.OwnOps
import Derived.ProofKit
import Derived.OpenShut
import Derived.ShutString
import Derived.ChangeOld
import Derived.SizedLaws
namespace Go.Proofs.Ytedegfbheihopaa.P
open Go.RowKit Go.Proofs.YtedegfbheihopaaW.PrintWords Go.Proofs.YtedegfbheihopaaW.PrintLast Go.Proofs.YtedegfbheihopaaW.PrintMore
attribute [local go_sem] max2_int min2_int max_two min_two max_three min_three max_four min_four   -- for this text's walks alone
set_option linter.unusedVariables false
set_option linter.unusedSimpArgs false
mutual
def spec_l10Spread.l0:Nat→List Int→List (S61)→List (S61)→Option ((List (S61)))
 | 0,_,_,_=>none
 |k+1,x0,x5,x6=>if (x6.length:Int) > 0 then(if 0< (x6.length:Int) then(if 1≤ (x6.length:Int) then((spec_l10Joined.f k x0 ((rd_T61 x6 0).f1)).bind fun t410=>(spec_l10Spread.l1 k x0 x5 (x6.drop (1:Int).toNat) t410 (t410.length:Int) 0 ((rd_T61 x6 0).f0) ((rd_T61 x6 0).f1))) else(none)) else(none)) else(some x5)
def spec_l10Spread.l1:Nat→List Int→List (S61)→List (S61)→List Int→Int→Int→Int→Int→Option ((List (S61)))
 | 0,_,_,_,_,_,_,_,_=>none
 |k+1,x0,x5,x6,x25,x26,x27,x407000,x407001=>if x27<x26 then(if 0≤x27 then(if x27< (x25.length:Int) then(if (rd x25 x27)=x407000 then(spec_l10Spread.l1 k x0 x5 x6 x25 x26 (wrap64 (x27+1)) x407000 x407001) else(if x5.length< 8796093022208 then(if x6.length< 8796093022208 then(spec_l10Spread.l1 k x0 (x5++ [(⟨x407001,rd x25 x27⟩ :S61)]) (x6++ [(⟨x407001,rd x25 x27⟩ :S61)]) x25 x26 (wrap64 (x27+1)) x407000 x407001) else(none)) else(none))) else(none)) else(none)) else(spec_l10Spread.l0 k x0 x5 x6)
end
def spec_l10Spread.f (k:Nat) (l0:List Int) (a1:Int):Option ((List (S61))):=spec_l10Spread.l0 k l0 ([] :List (S61)) (([(⟨(-1),a1⟩ :S61)] :List (S61)))
theorem zk4 {q r1 r2 p:Prop} (b:Aside0 q) (b1:r1) (b2:r2) (h:q→r1→r2→p:=by intro z g1 g2;repeat(first|(with_reducible first|exact z|apply below_alloc|apply pw_below_drewN|apply below_drew1|refine below_set ?_ g1|refine below_set ?_ g2)|exact z)):p:=h b.out b1 b2
set_option maxHeartbeats 8000000 in
set_option maxRecDepth 100000 in
theorem spec_l10Spread.calls (k:Nat) (A0:Option Addr) (c0:Nat) (l0:List Int) (a1:Int) (r:List (S61)) (w:World) (hr0:Kd.C (Kd.int .i64) w A0 l0.length l0) (hc0:l0.length≤c0) (h:spec_l10Spread.f k l0 a1=some r):
  Calls Try.prog 72 #[.slice A0 l0.length c0,.int .i64 a1] w fun e w'=> ∃ v0_:Value,e= .returned (v0_)∧Kd.R k61 61 w' w.heap.size (fun _=>True) v0_ r∧Below w.heap.size w w':=by
 have hu61:=Try.underlying61
 have HR0:=Aside0.mk hr0
 have HC0:=Aside0.mk hc0
 clear hr0 hc0
 have HB:=Aside0.mk (Below.refl w.heap.size w)
 have H:(spec_l10Spread.l0 k l0 ([] :List (S61)) (([(⟨(-1),a1⟩ :S61)] :List (S61))))=some r:=h
 clear h
 obtain⟨y402,hy402⟩ :∃ y_:List (S61),y_= (([(⟨(-1),a1⟩ :S61)] :List (S61))):=⟨_,rfl⟩
 replace H:(spec_l10Spread.l0 k l0 ([] :List (S61)) y402)=some r:=zfh hy402 H
 have Ny402:=Aside0.mk hy402
 clear hy402
 have H':=Aside0.mk H
 clear H
 go_enter Try.func72,Try.ntmps72
 go_wp2_with (first|((with_reducible refine gate_dst (N:=13) rfl ?_);refine Kd.R_lit k61 _ 61 ?hg (N:=13) ?hd (xs:=([(⟨(-1),a1⟩ :S61)] :List (S61))) (inner:= [.int .i64 (-1),.int .i64 a1]) (ok:=fun _=>True) (okp:=fun _=>True) ?hr ?hp (fun _ hk=>hk) trivial (Below.refl _ _) (Nat.le_refl _) (by simp) ?_;(case hd=>rfl);(case hg=>rfl);(case hr=>first|(go_simp;done)|(go_simp;rfl));(case hp=>exact(Reps.c2 (show Kd.M k61 _ _ _ (⟨(-1),a1⟩ :S61) [.int .i64 (-1),.int .i64 a1] from (k61_mkM _ _ _ (⟨(-1),a1⟩ :S61) )) (Reps.none _ _)));intro v403 w3 ho4 hb hg_ hnew_;clear hg_ hnew_;(first|rw [← Ny402.out] at ho4|(simp only [Int.reduceToNat] at ho4;rw [← Ny402.out] at ho4));have HO404:=Aside0.mk (Kd.R_lower ho4 (below_size (by exact zk1 HB)));replace HB:=Aside0.mk (below_step (by exact zk1 HB) hb);clear hb ho4))
 go_loopg [5,6] k (fun kq v5 v6 w'=> ∃ (x5_1:List (S61)) (x6_1:List (S61)),Aside0 (spec_l10Spread.l0 kq l0 x5_1 x6_1=some r)∧Aside0 (kq≤k)∧Aside0 (Kd.R k61 61 w' w.heap.size (fun k_=>some k_≠ (v6:Value).ownBlock) v5 x5_1)∧Aside0 (Kd.Q k61 61 w' w.heap.size (fun k_=>some k_≠ (v5:Value).ownBlock) v6 x6_1)∧Aside0 (Below w.heap.size w w'))
 case atStart=>exact⟨(([] :List (S61))),(y402),H',⟨Nat.le_refl _⟩,⟨by first|exact Kd.R_nil _ _ _ _ _|exact Kd.N_nil _ _ _ _ _|exact Kd.V_nil _ _ _ _ _|exact Kd.Q_nil _ _ _ _ _|exact Kd.S_nil _ _ _ _ _⟩,⟨Kd.Q_of_R (by(with_reducible repeat(first|apply Kd.R_alloc|apply Kd.R_drewN|apply Kd.R_drew));exact Kd.R_mono HO404.out (fun _ hk=>(by simp [Value.ownBlock])))⟩,⟨by exact zk1 HB⟩⟩
 case round=>
  clear H'
  try clear c2
  try clear p2
  obtain⟨x5_1,x6_1,HA,HK1,HO_5,HO_6,HB⟩:=hrel
  cases gk with
  |zero=>exact absurd HA.out (by simp [spec_l10Spread.l0])
  |succ k1=>
   have H:=HA.out
   clear HA
   simp only [spec_l10Spread.l0] at H
   by_cases c5:(x6_1.length:Int) > 0
   ·rw [if_pos c5] at H
    have c5b0:decide (0< (x6_1.length:Int))=true:=decide_eq_true c5
    have c5b1:decide (0<x6_1.length)=true:=decide_eq_true (by omega)
    clear c5
    by_cases c6: 0< (x6_1.length:Int)
    case neg=>rw [if_neg c6] at H;exact absurd H (by simp)
    rw [if_pos c6] at H
    have c6b0:decide (0< (x6_1.length:Int))=true:=decide_eq_true c6
    have c6b1:decide (0<x6_1.length)=true:=decide_eq_true (by omega)
    clear c6
    by_cases c7: 1≤ (x6_1.length:Int)
    case neg=>rw [if_neg c7] at H;exact absurd H (by simp)
    rw [if_pos c7] at H
    have c7b0:=eq_true c7
    have c7b1:decide (1≤ (x6_1.length:Int))=true:=decide_eq_true c7
    clear c7
    obtain⟨y407,hy407⟩ :∃ y_:List (S61),y_= (x6_1.drop (1:Int).toNat):=⟨_,rfl⟩
    replace H:((spec_l10Joined.f k1 l0 ((rd_T61 x6_1 0).f1)).bind fun t410=>(spec_l10Spread.l1 k1 l0 x5_1 y407 t410 (t410.length:Int) 0 ((rd_T61 x6_1 0).f0) ((rd_T61 x6_1 0).f1)))=some r:=zfh hy407 H
    have Ny407:=Aside0.mk hy407
    clear hy407
    replace H:=Option.bind_eq_some_iff.mp H
    obtain⟨t410,A80,H⟩:=H
    replace H:(spec_l10Spread.l1 k1 l0 x5_1 y407 t410 (t410.length:Int) 0 ((rd_T61 x6_1 0).f0) ((rd_T61 x6_1 0).f1))=some r:=H
    have A8:=Aside0.mk A80
    clear A80
    have H':=Aside0.mk H
    clear H
    obtain⟨Ao9,co9,eo9,_⟩:=Kd.Q_slice HO_6.out
    subst eo9
    have p405: 0≤ (0:Int):=(by omega)
    have q405: 0< (x6_1.length:Int):=of_decide_eq_true zq1
    obtain⟨ad405,e405,hx405_0,hx405_1⟩:=at_T61 (Kd.Q_reads' HO_6.out).2.2 0 p405 q405
    cases e405
    have qi405:(0<x6_1.length)=True:=eq_true (by omega)
    (try rw [show ((0:Int)).toNat=0 from rfl] at hx405_0)
    (try rw [show 0 * 2=0 from rfl] at hx405_0)
    (try rw [Addr.add_zero'] at hx405_0)
    (try rw [show ((0:Int)).toNat=0 from rfl] at hx405_1)
    (try rw [show 0 * 2=0 from rfl] at hx405_1)
    (try rw [Addr.add_zero'] at hx405_1)
    replace p405:=eq_true p405
    replace q405:=eq_true q405
    go_wp2_with (first|((with_reducible refine gate_dst (N:=7) rfl ?_);refine box_event ?hg (N:=7) ?hd (cs:= #[.int .i64 0,.int .i64 0]) (t:=61) ?hr ?_;(case hd=>rfl);(case hg=>rfl);(case hr=>first|(go_simp;done)|(go_simp;rfl));intro gb406 hg w10 hbox hb;have BK406:=Aside0.mk (hbox);have GW406:=Aside0.mk ((by rw [hg];exact(below_size (by exact zk1 HB)):w.heap.size≤gb406));have GE406:=Aside0.mk ((by rw [hg];exact(below_size (by exact zk1 HB)):w.heap.size≤gb406));replace HO_5:=Aside0.mk (Kd.R_below (Kd.R_elderB (zq4 HO_5) gb406 (Nat.le_of_eq hg.symm)) hb);replace HO_6:=Aside0.mk (Kd.Q_below (Kd.Q_elderB (by(with_reducible repeat(first|apply Kd.Q_alloc|apply Kd.Q_drewN|apply Kd.Q_drew));exact HO_6.out) gb406 (Nat.le_of_eq hg.symm)) hb);replace HB:=Aside0.mk (below_step (by exact zk1 HB) hb);clear hb hbox hg;have hcz11_0:w10.cell? ⟨gb406,0,none⟩=some (.int .i64 0):=(blk_cell BK406.out 0).trans rfl;have hcz11_1:w10.cell? ⟨gb406,1,none⟩=some (.int .i64 0):=(blk_cell BK406.out 1).trans rfl;have hfz11_0:=blk_frozen BK406.out 0;have hfz11_1:=blk_frozen BK406.out 1)|((with_reducible refine gate_store (t:=61) (p:=7) rfl ?_);refine store_event (t:=61) (p:=7) (v:=?vo_w12) (w1:=((w10.setCell ⟨gb406,0,none⟩ (.int .i64 ((rd_T61 x6_1 0).f0))).setCell ⟨gb406,1,none⟩ (.int .i64 ((rd_T61 x6_1 0).f1)))) ?hg ?ho ?hn ?hr ?_;(case ho=>rfl);(case hg=>rfl);(case hn=>rfl);(case hr=>first|(go_simp;done)|(go_simp;rfl));intro w12 hw;have n0_:Aside0 (Kd.R k61 61 w12 w.heap.size (fun k_=>some k_≠ (.slice (some ad405) x6_1.length co9:Value).ownBlock∧k_≠gb406) u5 x5_1):=⟨(by rw [hw];exact(by(with_reducible repeat(first|apply Kd.R_alloc|apply Kd.R_drewN|apply Kd.R_drew));exact Kd.R_mono (Kd.R_far (p:=⟨gb406,1,none⟩) (Kd.R_far (p:=⟨gb406,0,none⟩) (Kd.R_mono HO_5.out (fun k_ hk=>(⟨hk,hk.2⟩ :_∧k_≠gb406))) (fun _ hk=>hk.2) (.int .i64 ((rd_T61 x6_1 0).f0))) (fun _ hk=>hk.2) (.int .i64 ((rd_T61 x6_1 0).f1))) (fun _ hk=>⟨hk.1.1,hk.1.2⟩)))⟩;have n1_:Aside0 (Kd.Q k61 61 w12 w.heap.size (fun k_=>some k_≠ (u5:Value).ownBlock∧k_≠gb406) (.slice (some ad405) x6_1.length co9) x6_1):=⟨(by rw [hw];exact(by(with_reducible repeat(first|apply Kd.Q_alloc|apply Kd.Q_drewN|apply Kd.Q_drew));exact Kd.Q_mono (Kd.Q_far (p:=⟨gb406,1,none⟩) (Kd.Q_far (p:=⟨gb406,0,none⟩) (Kd.Q_mono HO_6.out (fun k_ hk=>(⟨hk,hk.2⟩ :_∧k_≠gb406))) (fun _ hk=>hk.2) (.int .i64 ((rd_T61 x6_1 0).f0))) (fun _ hk=>hk.2) (.int .i64 ((rd_T61 x6_1 0).f1))) (fun _ hk=>⟨hk.1.1,hk.1.2⟩)))⟩;have n2_:Aside0 (w12.heap[gb406]?=some (.cells #[.int .i64 ((rd_T61 x6_1 0).f0),.int .i64 ((rd_T61 x6_1 0).f1)] 61 (0,0))):=⟨(by rw [hw];exact(by(with_reducible repeat(first|refine blk_drewN ?_ _|refine blk_drew ?_ |refine blk_alloc ?_ _));refine blk_put (cs:= #[.int .i64 ((rd_T61 x6_1 0).f0),.int .i64 0]) ?_ 1 _ rfl;(with_reducible repeat(first|refine blk_drewN ?_ _|refine blk_drew ?_ |refine blk_alloc ?_ _));refine blk_put (cs:= #[.int .i64 0,.int .i64 0]) ?_ 0 _ rfl;(with_reducible repeat(first|refine blk_drewN ?_ _|refine blk_drew ?_ |refine blk_alloc ?_ _));exact BK406.out))⟩;have n3_:Aside0 (Below w.heap.size w w12):=⟨(by rw [hw];exact(by exact zk2 HB GE406.out))⟩;clear hw;clear HO_5;clear HO_6;clear BK406;clear HB;have HO_5:=n0_;have HO_6:=n1_;have BK406:=n2_;have HB:=n3_;clear n0_ n1_ n2_ n3_;have q13:(1:Int)≤ ((x6_1.length:Int):Int):=of_decide_eq_true zq1;obtain⟨i013,hi013,_,hsz13,_⟩:=info_parts info61;have hcut13:=cut_from (P:=Try.prog) 39 61 .i64 Try.underlying39 hi013 2 hsz13 (some ad405) x6_1.length co9 1 (by omega) q13;have hr13:=Kd.Q_drop (k:=(1:Int).toNat) HO_6.out (by omega);obtain⟨A13,hA13⟩ :∃ A1,A1= (if co9= (1:Int).toNat then(some ad405) else((some ad405):Option Addr).map (·.add ((1:Int).toNat * 2))):=⟨_,rfl⟩;obtain⟨c13,hc13⟩ :∃ c1,c1=co9 - (1:Int).toNat:=⟨_,rfl⟩;have hy13:y407.length=x6_1.length - (1:Int).toNat:=(by rw [Ny407.out,List.length_drop]);rw [← Ny407.out] at hr13;rw [← hy13,← hA13,← hc13] at hcut13;replace hr13:Kd.Q k61 61 w12 w.heap.size (fun k_=>some k_≠ (u5:Value).ownBlock∧k_≠gb406) (.slice A13 y407.length c13) y407:=(by rw [hA13,hc13,hy13];exact hr13);have HE13:Aside0 ((Value.slice A13 y407.length c13).ownBlock= (.slice (some ad405) x6_1.length co9:Value).ownBlock):=⟨by rw [hA13];split<;>(cases ((some ad405):Option Addr)<;>rfl)⟩;clear hy13 hi013 hsz13 HO_6 hA13 hc13;have HO409:=Aside0.mk hr13;clear hr13;replace q13:=eq_true q13;have n_:=Aside0.mk (Kd.R_mono (ok':=fun k_=>(some k_≠ (.slice A13 y407.length c13:Value).ownBlock∧k_≠gb406)) HO_5.out (fun k_ hk=>⟨(by rw [HE13.out];exact hk.1),hk.2⟩));clear HO_5;have HO_5:=n_;clear n_;have hcz14_0:w12.cell? ⟨gb406,0,none⟩=some (.int .i64 ((rd_T61 x6_1 0).f0)):=(blk_cell BK406.out 0).trans rfl;have hcz14_1:w12.cell? ⟨gb406,1,none⟩=some (.int .i64 ((rd_T61 x6_1 0).f1)):=(blk_cell BK406.out 1).trans rfl;have hfz14_0:=blk_frozen BK406.out 0;have hfz14_1:=blk_frozen BK406.out 1)|((with_reducible refine gate_callee (f:=94) rfl ?_);refine goesL_ (some 25) rfl rfl Try.func94 (by kernel_rfl) rfl #[.slice A0 l0.length c0,.int .i64 ((rd_T61 x6_1 0).f1)] rfl zq2 ?_;(with_reducible refine(spec_l10Joined.calls k1 _ _ l0 ((rd_T61 x6_1 0).f1) t410 _ ?side1 ?side2 A8.out).mono ?_);(case side1=>exact zcc ((Kd.C_below HR0.out HB.out)));(case side2=>exact HC0.out);rintro e w15 ⟨v411,rfl,ho0,hb⟩;refine⟨_,rfl,?_⟩;have HO412:=Aside0.mk (Kd.R_lower ho0 (below_size (by exact zk2 HB GE406.out)));replace HO_5:=Aside0.mk (Kd.R_below (zq4 HO_5) hb);replace HO409:=Aside0.mk (Kd.Q_below (by(with_reducible repeat(first|apply Kd.Q_alloc|apply Kd.Q_drewN|apply Kd.Q_drew));exact HO409.out) hb);replace BK406:=Aside0.mk (blk_below (g:=gb406) (o:= .cells #[.int .i64 ((rd_T61 x6_1 0).f0),.int .i64 ((rd_T61 x6_1 0).f1)] 61 (0,0)) (zq3 BK406) hb);replace HB:=Aside0.mk (below_step (by exact zk2 HB GE406.out) hb);(try clear hb);(try clear hb2);(try clear hk);(try clear hi);(try clear ho0);obtain⟨Ao16,co16,eo16⟩:=Kd.R_slice HO412.out;subst eo16))
    go_loopg [5,6,27] k1 (fun kq v5 v6 v27 w'=> ∃ (x5_2:List (S61)) (x6_2:List (S61)) (x27_2:Int),v27= .int .i64 x27_2∧Aside0 (spec_l10Spread.l1 kq l0 x5_2 x6_2 t410 (t410.length:Int) x27_2 ((rd_T61 x6_1 0).f0) ((rd_T61 x6_1 0).f1)=some r)∧Aside0 (kq≤k1)∧Aside0 (Kd.R k61 61 w' w.heap.size (fun k_=>some k_≠ (v6:Value).ownBlock∧k_≠gb406) v5 x5_2)∧Aside0 (Kd.Q k61 61 w' w.heap.size (fun k_=>some k_≠ (v5:Value).ownBlock∧k_≠gb406) v6 x6_2)∧Aside0 (Kd.R (Kd.int .i64) 3 w' w.heap.size (fun _=>True) (.slice Ao16 t410.length co16) t410)∧Aside0 (w'.heap[gb406]?=some (.cells #[.int .i64 ((rd_T61 x6_1 0).f0),.int .i64 ((rd_T61 x6_1 0).f1)] 61 (0,0)))∧Aside0 (Below w.heap.size w w'))
    case atStart=>exact⟨(x5_1),(y407),(0),(by first|rfl|(simp;done)|(simp [*];done)),H',⟨Nat.le_refl _⟩,⟨by(with_reducible repeat(first|apply Kd.R_alloc|apply Kd.R_drewN|apply Kd.R_drew));exact HO_5.out⟩,⟨by(with_reducible repeat(first|apply Kd.Q_alloc|apply Kd.Q_drewN|apply Kd.Q_drew));exact HO409.out⟩,⟨by(with_reducible repeat(first|apply Kd.R_alloc|apply Kd.R_drewN|apply Kd.R_drew));exact HO412.out⟩,⟨by(with_reducible repeat(first|refine blk_drewN ?_ _|refine blk_drew ?_ |refine blk_alloc ?_ _));exact BK406.out⟩,⟨by exact zk2 HB GE406.out⟩⟩
    case round=>
     clear H'
     try clear c1
     try clear q1
     try clear c2
     try clear p2
     try clear p4
     try clear q4
     try clear hx4
     try clear qi4
     try clear c5
     try clear c5b0
     try clear c5b1
     try clear c6
     try clear c6b0
     try clear c6b1
     try clear c7
     try clear c7b0
     try clear c7b1
     try clear c9
     try clear c13
     try clear q13
     try clear hcz11_0
     try clear hcz11_1
     try clear hcz14_0
     try clear hcz14_1
     try clear hfz11_0
     try clear hfz11_1
     try clear hfz14_0
     try clear hfz14_1
     try clear hx405_0
     try clear hx405_1
     try clear p2
     try clear p405
     try clear q13
     try clear q405
     obtain⟨x5_2,x6_2,x27_2,rfl,HA,HK2,HO_5,HO_6,HO_25,BK406,HB⟩:=hrel
     cases gk with
     |zero=>exact absurd HA.out (by simp [spec_l10Spread.l1])
     |succ k2=>
      have H:=HA.out
      clear HA
      simp only [spec_l10Spread.l1] at H
      by_cases c17:x27_2< (t410.length:Int)
      ·rw [if_pos c17] at H
       have c17b0:decide (x27_2< (t410.length:Int))=true:=decide_eq_true c17
       clear c17
       by_cases c18: 0≤x27_2
       case neg=>rw [if_neg c18] at H;exact absurd H (by simp)
       rw [if_pos c18] at H
       have c18b0:decide (0≤x27_2)=true:=decide_eq_true c18
       clear c18
       by_cases c19:x27_2< (t410.length:Int)
       case neg=>rw [if_neg c19] at H;exact absurd H (by simp)
       rw [if_pos c19] at H
       have c19b0:decide (x27_2< (t410.length:Int))=true:=decide_eq_true c19
       clear c19
       by_cases c20:(rd t410 x27_2)= ((rd_T61 x6_1 0).f0)
       ·rw [if_pos c20] at H
        have c20b0:((rd t410 x27_2)== ((rd_T61 x6_1 0).f0))=true:=beq_iff_eq.mpr c20
        have c20b1:((rd t410 x27_2) != ((rd_T61 x6_1 0).f0))=false:=bne_eq_false_iff_eq.mpr c20
        clear c20
        have H':=Aside0.mk H
        clear H
        have p413: 0≤ (x27_2:Int):=of_decide_eq_true zq1
        have q413:x27_2< (t410.length:Int):=of_decide_eq_true zq1
        obtain⟨ad413,e413,hx413_0⟩:=Kd.at_int (Kd.R_reads' HO_25.out).2.2 x27_2 p413 q413
        cases e413
        replace p413:=eq_true p413
        replace q413:=eq_true q413
        have hcz21_0:wr.cell? ⟨gb406,0,none⟩=some (.int .i64 ((rd_T61 x6_1 0).f0)):=(blk_cell BK406.out 0).trans rfl
        have hcz21_1:wr.cell? ⟨gb406,1,none⟩=some (.int .i64 ((rd_T61 x6_1 0).f1)):=(blk_cell BK406.out 1).trans rfl
        have hfz21_0:=blk_frozen BK406.out 0
        have hfz21_1:=blk_frozen BK406.out 1
        go_wp2
        go_roundg k2
        case measure=>have:=HK1.out;have:=HK2.out;omega
        case rel=>exact⟨(x5_2),(x6_2),(wrap64 (x27_2+1)),(by first|rfl|(simp;done)|(simp [*];done)),H',⟨by have:=HK1.out;have:=HK2.out;omega⟩,⟨by(with_reducible repeat(first|apply Kd.R_alloc|apply Kd.R_drewN|apply Kd.R_drew));exact HO_5.out⟩,⟨by(with_reducible repeat(first|apply Kd.Q_alloc|apply Kd.Q_drewN|apply Kd.Q_drew));exact HO_6.out⟩,⟨by(with_reducible repeat(first|apply Kd.R_alloc|apply Kd.R_drewN|apply Kd.R_drew));exact HO_25.out⟩,⟨by(with_reducible repeat(first|refine blk_drewN ?_ _|refine blk_drew ?_ |refine blk_alloc ?_ _));exact BK406.out⟩,⟨by exact zk2 HB GE406.out⟩⟩
       ·rw [if_neg c20] at H
        have c20b0:((rd t410 x27_2)== ((rd_T61 x6_1 0).f0))=false:=beq_eq_false_iff_ne.mpr c20
        have c20b1:((rd t410 x27_2) != ((rd_T61 x6_1 0).f0))=true:=bne_iff_ne.mpr c20
        by_cases c22:x5_2.length< 8796093022208
        case neg=>rw [if_neg c22] at H;exact absurd H (by simp)
        rw [if_pos c22] at H
        have LMc22:=Aside0.mk c22
        clear c22
        obtain⟨y415,hy415⟩ :∃ y_:List (S61),y_= (x5_2++ [(⟨((rd_T61 x6_1 0).f1),rd t410 x27_2⟩ :S61)]):=⟨_,rfl⟩
        replace H:(if x6_2.length< 8796093022208 then(spec_l10Spread.l1 k2 l0 y415 (x6_2++ [(⟨((rd_T61 x6_1 0).f1),rd t410 x27_2⟩ :S61)]) t410 (t410.length:Int) (wrap64 (x27_2+1)) ((rd_T61 x6_1 0).f0) ((rd_T61 x6_1 0).f1)) else(none))=some r:=zfh hy415 H
        have Ny415:=Aside0.mk hy415
        clear hy415
        by_cases c23:x6_2.length< 8796093022208
        case neg=>rw [if_neg c23] at H;exact absurd H (by simp)
        rw [if_pos c23] at H
        have LMc23:=Aside0.mk c23
        clear c23
        obtain⟨y418,hy418⟩ :∃ y_:List (S61),y_= (x6_2++ [(⟨((rd_T61 x6_1 0).f1),rd t410 x27_2⟩ :S61)]):=⟨_,rfl⟩
        replace H:(spec_l10Spread.l1 k2 l0 y415 y418 t410 (t410.length:Int) (wrap64 (x27_2+1)) ((rd_T61 x6_1 0).f0) ((rd_T61 x6_1 0).f1))=some r:=zfh hy418 H
        have Ny418:=Aside0.mk hy418
        clear hy418
        have H':=Aside0.mk H
        clear H
        have p413: 0≤ (x27_2:Int):=of_decide_eq_true zq1
        have q413:x27_2< (t410.length:Int):=of_decide_eq_true zq1
        obtain⟨ad413,e413,hx413_0⟩:=Kd.at_int (Kd.R_reads' HO_25.out).2.2 x27_2 p413 q413
        cases e413
        replace p413:=eq_true p413
        replace q413:=eq_true q413
        have hcz24_0:wr.cell? ⟨gb406,0,none⟩=some (.int .i64 ((rd_T61 x6_1 0).f0)):=(blk_cell BK406.out 0).trans rfl
        have hcz24_1:wr.cell? ⟨gb406,1,none⟩=some (.int .i64 ((rd_T61 x6_1 0).f1)):=(blk_cell BK406.out 1).trans rfl
        have hfz24_0:=blk_frozen BK406.out 0
        have hfz24_1:=blk_frozen BK406.out 1
        go_wp2_with (first|((with_reducible refine gate_dst (N:=10) rfl ?_);refine box_event ?hg (N:=10) ?hd (cs:= #[.int .i64 0,.int .i64 0]) (t:=61) ?hr ?_;(case hd=>rfl);(case hg=>rfl);(case hr=>first|(go_simp;done)|(go_simp;rfl));intro gb414 hg w25 hbox hb;have BK414:=Aside0.mk (hbox);have GW414:=Aside0.mk ((by rw [hg];exact(below_size (by exact zk2 HB GE406.out)):w.heap.size≤gb414));have GE414:=Aside0.mk ((by rw [hg];exact(below_size (by exact zk2 HB GE406.out)):w.heap.size≤gb414));have NB406_414:=Aside0.mk ((by rw [hg];exact Nat.ne_of_lt (blk_lt (g:=gb406) (o:= .cells #[.int .i64 ((rd_T61 x6_1 0).f0),.int .i64 ((rd_T61 x6_1 0).f1)] 61 (0,0)) (zq3 BK406)):gb406≠gb414));have NB414_406:=Aside0.mk ((by rw [hg];exact Nat.ne_of_gt (blk_lt (g:=gb406) (o:= .cells #[.int .i64 ((rd_T61 x6_1 0).f0),.int .i64 ((rd_T61 x6_1 0).f1)] 61 (0,0)) (zq3 BK406)):gb414≠gb406));replace HO_5:=Aside0.mk (Kd.R_below (Kd.R_elderB (zq4 HO_5) gb414 (Nat.le_of_eq hg.symm)) hb);replace HO_6:=Aside0.mk (Kd.Q_below (Kd.Q_elderB (by(with_reducible repeat(first|apply Kd.Q_alloc|apply Kd.Q_drewN|apply Kd.Q_drew));exact HO_6.out) gb414 (Nat.le_of_eq hg.symm)) hb);replace HO_25:=Aside0.mk (Kd.R_below (zq4 HO_25) hb);replace BK406:=Aside0.mk (blk_below (g:=gb406) (o:= .cells #[.int .i64 ((rd_T61 x6_1 0).f0),.int .i64 ((rd_T61 x6_1 0).f1)] 61 (0,0)) (zq3 BK406) hb);replace HB:=Aside0.mk (below_step (by exact zk2 HB GE406.out) hb);clear hb hbox hg;have hnb26:=NB414_406.out;have hnc26:=NB406_414.out;have hcz27_0:w25.cell? ⟨gb414,0,none⟩=some (.int .i64 0):=(blk_cell BK414.out 0).trans rfl;have hcz27_1:w25.cell? ⟨gb414,1,none⟩=some (.int .i64 0):=(blk_cell BK414.out 1).trans rfl;have hfz27_0:=blk_frozen BK414.out 0;have hfz27_1:=blk_frozen BK414.out 1)|((with_reducible refine gate_builtin (b:= .append) (xs:= #[.tmp 39,.tmp 41]) rfl ?_);at_builtin;refine Kd.R_append k61 (w0:=w) w.heap.size rfl (.tmp 39) (.tmp 41) 39 61 (.agg #[(.int .i64 0),(.int .i64 0)]) 16 rfl Try.underlying39 info61 rfl (by decide) (by omega) u5 x5_2 (⟨((rd_T61 x6_1 0).f1),rd t410 x27_2⟩ :S61) [.int .i64 ((rd_T61 x6_1 0).f1),.int .i64 (rd t410 x27_2)] (fun k_=>some k_≠ (u6:Value).ownBlock∧k_≠gb406∧k_≠gb414) (fun _=>False) rfl (by first|(go_simp;done)|(go_simp;rfl)) ?aP (fun _ hk=>hk.elim) ?aF ?aO ?aB ?aS ?aL ?_;(case aP=>exact k61_mkM _ _ _ (⟨((rd_T61 x6_1 0).f1),rd t410 x27_2⟩ :S61));(case aB=>exact(by exact zk4 HB GE406.out GE414.out));(case aF=>exact(fun k_ hk=>⟨Kd.fresh' (Kd.Q_lt (by(with_reducible repeat(first|apply Kd.Q_alloc|apply Kd.Q_drewN|apply Kd.Q_drew));exact(Kd.Q_mono (Kd.Q_far (p:=⟨gb414,1,none⟩) (Kd.Q_far (p:=⟨gb414,0,none⟩) (Kd.Q_mono HO_6.out (fun k_ hk=>(⟨hk,hk.2⟩ :_∧k_≠gb414))) (fun _ hk=>hk.2) (.int .i64 ((rd_T61 x6_1 0).f1))) (fun _ hk=>hk.2) (.int .i64 (rd t410 x27_2))) (fun _ h_=>h_.1)))) k_ hk,Kd.freshB (g:=gb406) (o:= .cells #[.int .i64 ((rd_T61 x6_1 0).f0),.int .i64 ((rd_T61 x6_1 0).f1)] 61 (0,0)) (by(with_reducible repeat(first|refine blk_drewN ?_ _|refine blk_drew ?_ |refine blk_alloc ?_ _));refine blk_far ?_ NB406_414.out _;(with_reducible repeat(first|refine blk_drewN ?_ _|refine blk_drew ?_ |refine blk_alloc ?_ _));refine blk_far ?_ NB406_414.out _;(with_reducible repeat(first|refine blk_drewN ?_ _|refine blk_drew ?_ |refine blk_alloc ?_ _));exact BK406.out) k_ hk,Kd.freshB (g:=gb414) (o:= .cells #[.int .i64 ((rd_T61 x6_1 0).f1),.int .i64 (rd t410 x27_2)] 61 (0,0)) (by(with_reducible repeat(first|refine blk_drewN ?_ _|refine blk_drew ?_ |refine blk_alloc ?_ _));refine blk_put (cs:= #[.int .i64 ((rd_T61 x6_1 0).f1),.int .i64 0]) ?_ 1 _ rfl;(with_reducible repeat(first|refine blk_drewN ?_ _|refine blk_drew ?_ |refine blk_alloc ?_ _));refine blk_put (cs:= #[.int .i64 0,.int .i64 0]) ?_ 0 _ rfl;(with_reducible repeat(first|refine blk_drewN ?_ _|refine blk_drew ?_ |refine blk_alloc ?_ _));exact BK414.out) k_ hk⟩));(case aO=>exact(by(with_reducible repeat(first|apply Kd.R_alloc|apply Kd.R_drewN|apply Kd.R_drew));exact Kd.R_mono (Kd.R_far (p:=⟨gb414,1,none⟩) (Kd.R_far (p:=⟨gb414,0,none⟩) (Kd.R_mono HO_5.out (fun k_ hk=>(⟨hk,hk.2⟩ :_∧k_≠gb414))) (fun _ hk=>hk.2) (.int .i64 ((rd_T61 x6_1 0).f1))) (fun _ hk=>hk.2) (.int .i64 (rd t410 x27_2))) (fun _ hk=>⟨hk.1.1.1,⟨hk.1.1.2,hk.1.2⟩⟩)));(case aS=>exact(below_size (by exact zk4 HB GE406.out GE414.out)));(case aL=>have:=LMc22.out;omega);intro v416 w28 ho hb hg hat;rw [← Ny415.out] at ho;have HO417:=Aside0.mk (ho);replace HO_6:=Aside0.mk (Kd.Q_after (ok:=(fun k_=>k_≠gb406∧k_≠gb414)) (by(with_reducible repeat(first|apply Kd.Q_alloc|apply Kd.Q_drewN|apply Kd.Q_drew));exact Kd.Q_mono (Kd.Q_far (p:=⟨gb414,1,none⟩) (Kd.Q_far (p:=⟨gb414,0,none⟩) (Kd.Q_mono HO_6.out (fun k_ hk=>(⟨hk,hk.2⟩ :_∧k_≠gb414))) (fun _ hk=>hk.2) (.int .i64 ((rd_T61 x6_1 0).f1))) (fun _ hk=>hk.2) (.int .i64 (rd t410 x27_2))) (fun _ hk=>⟨⟨hk.1.1.2,hk.1.2⟩,hk.1.1.1⟩)) hg hat);replace HO_25:=Aside0.mk (Kd.R_over' (by(with_reducible repeat(first|apply Kd.R_alloc|apply Kd.R_drewN|apply Kd.R_drew));exact(Kd.R_mono (Kd.R_far (p:=⟨gb414,1,none⟩) (Kd.R_far (p:=⟨gb414,0,none⟩) (Kd.R_types HO_25.out BK414.out (by decide)) (fun _ hk=>hk.2) (.int .i64 ((rd_T61 x6_1 0).f1))) (fun _ hk=>hk.2) (.int .i64 (rd t410 x27_2))) (fun _ h_=>h_.1))) (Kd.R_typed (by(with_reducible repeat(first|apply Kd.R_alloc|apply Kd.R_drewN|apply Kd.R_drew));exact(Kd.R_mono (Kd.R_far (p:=⟨gb414,1,none⟩) (Kd.R_far (p:=⟨gb414,0,none⟩) (Kd.R_mono HO_5.out (fun k_ hk=>(⟨hk,hk.2⟩ :_∧k_≠gb414))) (fun _ hk=>hk.2) (.int .i64 ((rd_T61 x6_1 0).f1))) (fun _ hk=>hk.2) (.int .i64 (rd t410 x27_2))) (fun _ h_=>h_.1)))) (by decide) hg);replace BK406:=Aside0.mk (blk_grown (g:=gb406) (o:= .cells #[.int .i64 ((rd_T61 x6_1 0).f0),.int .i64 ((rd_T61 x6_1 0).f1)] 61 (0,0)) (by(with_reducible repeat(first|refine blk_drewN ?_ _|refine blk_drew ?_ |refine blk_alloc ?_ _));refine blk_far ?_ NB406_414.out _;(with_reducible repeat(first|refine blk_drewN ?_ _|refine blk_drew ?_ |refine blk_alloc ?_ _));refine blk_far ?_ NB406_414.out _;(with_reducible repeat(first|refine blk_drewN ?_ _|refine blk_drew ?_ |refine blk_alloc ?_ _));exact BK406.out) hg (Kd.R_away HO_5.out (fun _ hk=>hk.1.2)));replace BK414:=Aside0.mk (blk_grown (g:=gb414) (o:= .cells #[.int .i64 ((rd_T61 x6_1 0).f1),.int .i64 (rd t410 x27_2)] 61 (0,0)) (by(with_reducible repeat(first|refine blk_drewN ?_ _|refine blk_drew ?_ |refine blk_alloc ?_ _));refine blk_put (cs:= #[.int .i64 ((rd_T61 x6_1 0).f1),.int .i64 0]) ?_ 1 _ rfl;(with_reducible repeat(first|refine blk_drewN ?_ _|refine blk_drew ?_ |refine blk_alloc ?_ _));refine blk_put (cs:= #[.int .i64 0,.int .i64 0]) ?_ 0 _ rfl;(with_reducible repeat(first|refine blk_drewN ?_ _|refine blk_drew ?_ |refine blk_alloc ?_ _));exact BK414.out) hg (Kd.R_away HO_5.out (fun _ hk=>hk.2)));replace HB:=Aside0.mk (hb);clear HO_5;clear ho hb hg hat;have hcz29_0:w28.cell? ⟨gb414,0,none⟩=some (.int .i64 ((rd_T61 x6_1 0).f1)):=(blk_cell BK414.out 0).trans rfl;have hcz29_1:w28.cell? ⟨gb414,1,none⟩=some (.int .i64 (rd t410 x27_2)):=(blk_cell BK414.out 1).trans rfl;have hfz29_0:=blk_frozen BK414.out 0;have hfz29_1:=blk_frozen BK414.out 1)|((with_reducible refine gate_builtin (b:= .append) (xs:= #[.tmp 43,.tmp 45]) rfl ?_);at_builtin;refine Kd.Q_append k61 (w0:=w) w.heap.size rfl (.tmp 43) (.tmp 45) 39 61 (.agg #[(.int .i64 0),(.int .i64 0)]) 16 rfl Try.underlying39 info61 rfl (by decide) (by omega) u6 x6_2 (⟨((rd_T61 x6_1 0).f1),rd t410 x27_2⟩ :S61) [.int .i64 ((rd_T61 x6_1 0).f1),.int .i64 (rd t410 x27_2)] (fun k_=>some k_≠ (v416:Value).ownBlock∧k_≠gb406∧k_≠gb414) (fun _=>False) rfl rfl ?aP (fun _ hk=>hk.elim) ?aF ?aO ?aB ?aS ?aL ?_;(case aP=>exact k61_mkM _ _ _ (⟨((rd_T61 x6_1 0).f1),rd t410 x27_2⟩ :S61));(case aB=>exact(by exact zk4 HB GE406.out GE414.out));(case aF=>exact(fun k_ hk=>⟨Kd.fresh' (Kd.R_lt (zq4 HO417)) k_ hk,Kd.freshB (g:=gb406) (o:= .cells #[.int .i64 ((rd_T61 x6_1 0).f0),.int .i64 ((rd_T61 x6_1 0).f1)] 61 (0,0)) (zq3 BK406) k_ hk,Kd.freshB (g:=gb414) (o:= .cells #[.int .i64 ((rd_T61 x6_1 0).f1),.int .i64 (rd t410 x27_2)] 61 (0,0)) (zq3 BK414) k_ hk⟩));(case aO=>exact(by(with_reducible repeat(first|apply Kd.Q_alloc|apply Kd.Q_drewN|apply Kd.Q_drew));exact Kd.Q_mono HO_6.out (fun _ hk=>⟨hk.2,⟨hk.1.1,hk.1.2⟩⟩)));(case aS=>exact(below_size (by exact zk4 HB GE406.out GE414.out)));(case aL=>have:=LMc23.out;omega);intro v419 w30 ho hb hg hat;rw [← Ny418.out] at ho;have HO420:=Aside0.mk (ho);replace HO_25:=Aside0.mk (Kd.R_over' (zq4 HO_25) (Kd.Q_typed (by(with_reducible repeat(first|apply Kd.Q_alloc|apply Kd.Q_drewN|apply Kd.Q_drew));exact HO_6.out)) (by decide) hg);replace BK406:=Aside0.mk (blk_grown (g:=gb406) (o:= .cells #[.int .i64 ((rd_T61 x6_1 0).f0),.int .i64 ((rd_T61 x6_1 0).f1)] 61 (0,0)) (zq3 BK406) hg (Kd.Q_away HO_6.out (fun _ hk=>hk.1.1)));replace BK414:=Aside0.mk (blk_grown (g:=gb414) (o:= .cells #[.int .i64 ((rd_T61 x6_1 0).f1),.int .i64 (rd t410 x27_2)] 61 (0,0)) (zq3 BK414) hg (Kd.Q_away HO_6.out (fun _ hk=>hk.1.2)));replace HO417:=Aside0.mk (Kd.R_after (ok:=(fun k_=>k_≠gb406∧k_≠gb414)) (by(with_reducible repeat(first|apply Kd.R_alloc|apply Kd.R_drewN|apply Kd.R_drew));exact Kd.R_mono HO417.out (fun _ hk=>⟨⟨hk.2.1,hk.2.2⟩,hk.1⟩)) hg hat);replace HB:=Aside0.mk (hb);clear HO_6;clear ho hb hg hat))
        go_roundg k2
        case measure=>have:=HK1.out;have:=HK2.out;omega
        case rel=>exact⟨(y415),(y418),(wrap64 (x27_2+1)),(by first|rfl|(simp;done)|(simp [*];done)),H',⟨by have:=HK1.out;have:=HK2.out;omega⟩,⟨by(with_reducible repeat(first|apply Kd.R_alloc|apply Kd.R_drewN|apply Kd.R_drew));exact Kd.R_mono HO417.out (fun _ hk=>⟨hk.2,hk.1.1⟩)⟩,⟨by(with_reducible repeat(first|apply Kd.Q_alloc|apply Kd.Q_drewN|apply Kd.Q_drew));exact Kd.Q_mono HO420.out (fun _ hk=>⟨hk.1,hk.2.1⟩)⟩,⟨by(with_reducible repeat(first|apply Kd.R_alloc|apply Kd.R_drewN|apply Kd.R_drew));exact HO_25.out⟩,⟨by(with_reducible repeat(first|refine blk_drewN ?_ _|refine blk_drew ?_ |refine blk_alloc ?_ _));exact BK406.out⟩,⟨by exact zk4 HB GE406.out GE414.out⟩⟩
      ·rw [if_neg c17] at H
       have c17b0:decide (x27_2< (t410.length:Int))=false:=decide_eq_false c17
       clear c17
       have H':=Aside0.mk H
       clear H
       go_wp2
       go_roundg k2
       case measure=>have:=HK1.out;have:=HK2.out;omega
       case rel=>exact⟨(x5_2),(x6_2),H',⟨by have:=HK1.out;have:=HK2.out;omega⟩,⟨by(with_reducible repeat(first|apply Kd.R_alloc|apply Kd.R_drewN|apply Kd.R_drew));exact Kd.R_mono HO_5.out (fun _ hk=>hk.1)⟩,⟨by(with_reducible repeat(first|apply Kd.Q_alloc|apply Kd.Q_drewN|apply Kd.Q_drew));exact Kd.Q_mono HO_6.out (fun _ hk=>hk.1)⟩,⟨by exact zk2 HB GE406.out⟩⟩
   ·rw [if_neg c5] at H
    have c5b0:decide (0< (x6_1.length:Int))=false:=decide_eq_false c5
    have c5b1:decide (0<x6_1.length)=false:=decide_eq_false (by omega)
    clear c5
    obtain rfl:=Option.some.inj H
    obtain⟨Ao31,co31,eo31,_⟩:=Kd.Q_slice HO_6.out
    subst eo31
    go_wp2
    go_ret
    exact⟨_,by first|rfl|(simp [errW_none,errW_some]<;>rfl)|(simp [*,errW_none,errW_some]<;>rfl),by(with_reducible repeat(first|apply Kd.R_alloc|apply Kd.R_drewN|apply Kd.R_drew));exact Kd.R_mono HO_5.out (fun _ hk=>trivial),by exact zk1 HB⟩
def spec_SpreadOn.f (k:Nat) (l0:List Int) (a1:Int):Option ((List (S61)) × Bool):=(spec_l10Two.f k l0 a1 a1).bind fun t421=>(if t421=true then((spec_l10Spread.f k l0 a1).bind fun t422=>(some (t422,true))) else(some (([] :List (S61)),false)))
set_option maxHeartbeats 8000000 in
set_option maxRecDepth 100000 in
theorem spec_SpreadOn.calls (k:Nat) (A0:Option Addr) (c0:Nat) (l0:List Int) (a1:Int) (r1:List (S61)) (r2:Bool) (w:World) (hr0:Kd.C (Kd.int .i64) w A0 l0.length l0) (hc0:l0.length≤c0) (h:spec_SpreadOn.f k l0 a1=some (r1,r2)):
  Calls Try.prog 28 #[.slice A0 l0.length c0,.int .i64 a1] w fun e w'=> ∃ v0_:Value,e= .returned (.tuple #[v0_,.bool r2])∧Kd.R k61 61 w' w.heap.size (fun _=>True) v0_ r1∧Below w.heap.size w w':=by
 have HR0:=Aside0.mk hr0
 have HC0:=Aside0.mk hc0
 clear hr0 hc0
 have HB:=Aside0.mk (Below.refl w.heap.size w)
 have H:((spec_l10Two.f k l0 a1 a1).bind fun t421=>(if t421=true then((spec_l10Spread.f k l0 a1).bind fun t422=>(some (t422,true))) else(some (([] :List (S61)),false))))=some (r1,r2):=h
 clear h
 replace H:=Option.bind_eq_some_iff.mp H
 obtain⟨t421,A30,H⟩:=H
 replace H:(if t421=true then((spec_l10Spread.f k l0 a1).bind fun t422=>(some (t422,true))) else(some (([] :List (S61)),false)))=some (r1,r2):=H
 have A3:=Aside0.mk A30
 clear A30
 by_cases c4:t421=true
 ·subst c4
  have H1:((spec_l10Spread.f k l0 a1).bind fun t422=>(some (t422,true)))=some (r1,r2):=by rw [if_pos rfl] at H;exact H
  clear H
  have H:=H1
  clear H1
  replace H:=Option.bind_eq_some_iff.mp H
  obtain⟨t422,A50,H⟩:=H
  replace H:(some (t422,true))=some (r1,r2):=H
  have A5:=Aside0.mk A50
  clear A50
  simp only [Option.some.injEq,Prod.mk.injEq] at H
  obtain⟨rfl,rfl⟩:=H
  go_enter Try.func28,Try.ntmps28
  go_wp2_with (first|((with_reducible refine gate_callee (f:=62) rfl ?_);refine goesL_ (some 9) rfl rfl Try.func62 (by kernel_rfl) rfl #[.slice A0 l0.length c0,.int .i64 a1,.int .i64 a1] rfl zq2 ?_;(with_reducible refine(spec_l10Two.calls k _ _ l0 a1 a1 true _ ?side1 ?side2 A3.out).mono ?_);(case side1=>exact zcc (HR0.out));(case side2=>exact HC0.out);rintro e w' ⟨rfl,⟨nd,rfl⟩⟩;refine⟨_,rfl,?_⟩)|((with_reducible refine gate_callee (f:=72) rfl ?_);refine goesL_ (some 13) rfl rfl Try.func72 (by kernel_rfl) rfl #[.slice A0 l0.length c0,.int .i64 a1] rfl zq2 ?_;(with_reducible refine(spec_l10Spread.calls k _ _ l0 a1 t422 _ ?side1 ?side2 A5.out).mono ?_);(case side1=>exact zcc (HR0.out));(case side2=>exact HC0.out);rintro e w6 ⟨v423,rfl,ho0,hb⟩;refine⟨_,rfl,?_⟩;have HO424:=Aside0.mk (Kd.R_lower ho0 (below_size (by exact zk1 HB)));replace HB:=Aside0.mk (below_step (by exact zk1 HB) hb);(try clear hb);(try clear hb2);(try clear hk);(try clear hi);(try clear ho0)))
  go_ret2
  exact⟨_,by first|rfl|(simp [errW_none,errW_some]<;>rfl)|(simp [*,errW_none,errW_some]<;>rfl),by(with_reducible repeat(first|apply Kd.R_alloc|apply Kd.R_drewN|apply Kd.R_drew));exact HO424.out,by exact zk1 HB⟩
 ·replace c4:=Bool.eq_false_iff.mpr c4
  subst c4
  have H1:(some (([] :List (S61)),false))=some (r1,r2):=by rw [if_neg (show ¬ (false=true) by decide)] at H;exact H
  clear H
  have H:=H1
  clear H1
  simp only [Option.some.injEq,Prod.mk.injEq] at H
  obtain⟨rfl,rfl⟩:=H
  go_enter Try.func28,Try.ntmps28
  go_wp2_with (first|((with_reducible refine gate_callee (f:=62) rfl ?_);refine goesL_ (some 9) rfl rfl Try.func62 (by kernel_rfl) rfl #[.slice A0 l0.length c0,.int .i64 a1,.int .i64 a1] rfl zq2 ?_;(with_reducible refine(spec_l10Two.calls k _ _ l0 a1 a1 false _ ?side1 ?side2 A3.out).mono ?_);(case side1=>exact zcc (HR0.out));(case side2=>exact HC0.out);rintro e w' ⟨rfl,⟨nd,rfl⟩⟩;refine⟨_,rfl,?_⟩))
  go_ret2
  exact⟨_,by first|rfl|(simp [errW_none,errW_some]<;>rfl)|(simp [*,errW_none,errW_some]<;>rfl),by first|exact Kd.R_nil _ _ _ _ _|exact Kd.N_nil _ _ _ _ _|exact Kd.V_nil _ _ _ _ _|exact Kd.Q_nil _ _ _ _ _|exact Kd.S_nil _ _ _ _ _,by exact zk1 HB⟩
def impl_SpreadOn.f (k:Nat) (l0:List Int) (a1:Int):Option ((List (S61)) × Bool):=(impl_goodTree.f k l0 (([a1] :List Int))).bind fun t428=>(if t428=true then((impl_spread.f k l0 a1).bind fun t429=>(some (t429,true))) else(some (([] :List (S61)),false)))
set_option maxHeartbeats 8000000 in
set_option maxRecDepth 100000 in
theorem impl_SpreadOn.calls (k:Nat) (A0:Option Addr) (c0:Nat) (l0:List Int) (a1:Int) (r1:List (S61)) (r2:Bool) (w:World) (hr0:Kd.C (Kd.int .i64) w A0 l0.length l0) (hc0:l0.length≤c0) (h:impl_SpreadOn.f k l0 a1=some (r1,r2)):
  Calls Try.prog 29 #[.slice A0 l0.length c0,.int .i64 a1] w fun e w'=> ∃ v0_:Value,e= .returned (.tuple #[v0_,.bool r2])∧Kd.R k61 61 w' w.heap.size (fun _=>True) v0_ r1∧Below w.heap.size w w':=by
 have HR0:=Aside0.mk hr0
 have HC0:=Aside0.mk hc0
 clear hr0 hc0
 have HB:=Aside0.mk (Below.refl w.heap.size w)
 have H:((impl_goodTree.f k l0 (([a1] :List Int))).bind fun t428=>(if t428=true then((impl_spread.f k l0 a1).bind fun t429=>(some (t429,true))) else(some (([] :List (S61)),false))))=some (r1,r2):=h
 clear h
 obtain⟨y425,hy425⟩ :∃ y_:List Int,y_= (([a1] :List Int)):=⟨_,rfl⟩
 replace H:((impl_goodTree.f k l0 y425).bind fun t428=>(if t428=true then((impl_spread.f k l0 a1).bind fun t429=>(some (t429,true))) else(some (([] :List (S61)),false))))=some (r1,r2):=zfh hy425 H
 have Ny425:=Aside0.mk hy425
 clear hy425
 replace H:=Option.bind_eq_some_iff.mp H
 obtain⟨t428,A30,H⟩:=H
 replace H:(if t428=true then((impl_spread.f k l0 a1).bind fun t429=>(some (t429,true))) else(some (([] :List (S61)),false)))=some (r1,r2):=H
 have A3:=Aside0.mk A30
 clear A30
 by_cases c4:t428=true
 ·subst c4
  have H1:((impl_spread.f k l0 a1).bind fun t429=>(some (t429,true)))=some (r1,r2):=by rw [if_pos rfl] at H;exact H
  clear H
  have H:=H1
  clear H1
  replace H:=Option.bind_eq_some_iff.mp H
  obtain⟨t429,A50,H⟩:=H
  replace H:(some (t429,true))=some (r1,r2):=H
  have A5:=Aside0.mk A50
  clear A50
  simp only [Option.some.injEq,Prod.mk.injEq] at H
  obtain⟨rfl,rfl⟩:=H
  go_enter Try.func29,Try.ntmps29
  go_wp2_with (first|((with_reducible refine gate_dst (N:=8) rfl ?_);refine Kd.R_lit (Kd.int .i64) _ 3 ?hg (N:=8) ?hd (xs:=([a1] :List Int)) (inner:= [.int .i64 a1]) (ok:=fun _=>True) (okp:=fun _=>True) ?hr ?hp (fun _ hk=>hk) trivial (Below.refl _ _) (Nat.le_refl _) (by simp) ?_;(case hd=>rfl);(case hg=>rfl);(case hr=>first|(go_simp;done)|(go_simp;rfl));(case hp=>exact(Reps.one (show Kd.M (Kd.int .i64) _ _ _ a1 [.int .i64 a1] from rfl) (Reps.none _ _)));intro v426 w6 ho7 hb hg_ hnew_;clear hg_ hnew_;(first|rw [← Ny425.out] at ho7|(simp only [Int.reduceToNat] at ho7;rw [← Ny425.out] at ho7));have HO427:=Aside0.mk (Kd.R_lower ho7 (below_size (by exact zk1 HB)));replace HB:=Aside0.mk (below_step (by exact zk1 HB) hb);clear hb ho7;obtain⟨Ao8,co8,eo8⟩:=Kd.R_slice HO427.out;subst eo8)|((with_reducible refine gate_callee (f:=64) rfl ?_);refine goesL_ (some 9) rfl rfl Try.func64 (by kernel_rfl) rfl #[.slice A0 l0.length c0,.slice Ao8 y425.length co8] rfl zq2 ?_;(with_reducible refine(impl_goodTree.calls k _ _ l0 _ _ y425 true _ ?side1 ?side2 ?side3 ?side4 A3.out).mono ?_);(case side1=>exact zcc ((Kd.C_below HR0.out HB.out)));(case side2=>exact HC0.out);(case side3=>exact zcc ((Kd.R_reads' HO427.out).2.2));(case side4=>exact(Kd.R_reads' HO427.out).2.1);rintro e w' ⟨rfl,⟨nd,rfl⟩⟩;refine⟨_,rfl,?_⟩)|((with_reducible refine gate_callee (f:=73) rfl ?_);refine goesL_ (some 13) rfl rfl Try.func73 (by kernel_rfl) rfl #[.slice A0 l0.length c0,.int .i64 a1] rfl zq2 ?_;(with_reducible refine(impl_spread.calls k _ _ l0 a1 t429 _ ?side1 ?side2 A5.out).mono ?_);(case side1=>repeat(first|exact(Kd.C_below HR0.out (by exact zk1 HB))|(with_reducible refine Kd.C_alloc ?_ _)|(with_reducible refine Kd.C_drewN ?_ _)|(with_reducible refine Kd.C_drew ?_)));(case side2=>exact HC0.out);rintro e w9 ⟨v430,rfl,ho0,hb⟩;refine⟨_,rfl,?_⟩;have HO431:=Aside0.mk (Kd.R_lower ho0 (below_size (by exact zk1 HB)));replace HO427:=Aside0.mk (Kd.R_below (zq4 HO427) hb);replace HB:=Aside0.mk (below_step (by exact zk1 HB) hb);(try clear hb);(try clear hb2);(try clear hk);(try clear hi);(try clear ho0)))
  go_ret2
  exact⟨_,by first|rfl|(simp [errW_none,errW_some]<;>rfl)|(simp [*,errW_none,errW_some]<;>rfl),by(with_reducible repeat(first|apply Kd.R_alloc|apply Kd.R_drewN|apply Kd.R_drew));exact HO431.out,by exact zk1 HB⟩
 ·replace c4:=Bool.eq_false_iff.mpr c4
  subst c4
  have H1:(some (([] :List (S61)),false))=some (r1,r2):=by rw [if_neg (show ¬ (false=true) by decide)] at H;exact H
  clear H
  have H:=H1
  clear H1
  simp only [Option.some.injEq,Prod.mk.injEq] at H
  obtain⟨rfl,rfl⟩:=H
  go_enter Try.func29,Try.ntmps29
  go_wp2_with (first|((with_reducible refine gate_dst (N:=8) rfl ?_);refine Kd.R_lit (Kd.int .i64) _ 3 ?hg (N:=8) ?hd (xs:=([a1] :List Int)) (inner:= [.int .i64 a1]) (ok:=fun _=>True) (okp:=fun _=>True) ?hr ?hp (fun _ hk=>hk) trivial (Below.refl _ _) (Nat.le_refl _) (by simp) ?_;(case hd=>rfl);(case hg=>rfl);(case hr=>first|(go_simp;done)|(go_simp;rfl));(case hp=>exact(Reps.one (show Kd.M (Kd.int .i64) _ _ _ a1 [.int .i64 a1] from rfl) (Reps.none _ _)));intro v426 w10 ho11 hb hg_ hnew_;clear hg_ hnew_;(first|rw [← Ny425.out] at ho11|(simp only [Int.reduceToNat] at ho11;rw [← Ny425.out] at ho11));have HO427:=Aside0.mk (Kd.R_lower ho11 (below_size (by exact zk1 HB)));replace HB:=Aside0.mk (below_step (by exact zk1 HB) hb);clear hb ho11;obtain⟨Ao12,co12,eo12⟩:=Kd.R_slice HO427.out;subst eo12)|((with_reducible refine gate_callee (f:=64) rfl ?_);refine goesL_ (some 9) rfl rfl Try.func64 (by kernel_rfl) rfl #[.slice A0 l0.length c0,.slice Ao12 y425.length co12] rfl zq2 ?_;(with_reducible refine(impl_goodTree.calls k _ _ l0 _ _ y425 false _ ?side1 ?side2 ?side3 ?side4 A3.out).mono ?_);(case side1=>exact zcc ((Kd.C_below HR0.out HB.out)));(case side2=>exact HC0.out);(case side3=>exact zcc ((Kd.R_reads' HO427.out).2.2));(case side4=>exact(Kd.R_reads' HO427.out).2.1);rintro e w' ⟨rfl,⟨nd,rfl⟩⟩;refine⟨_,rfl,?_⟩))
  go_ret2
  exact⟨_,by first|rfl|(simp [errW_none,errW_some]<;>rfl)|(simp [*,errW_none,errW_some]<;>rfl),by first|exact Kd.R_nil _ _ _ _ _|exact Kd.N_nil _ _ _ _ _|exact Kd.V_nil _ _ _ _ _|exact Kd.Q_nil _ _ _ _ _|exact Kd.S_nil _ _ _ _ _,by exact zk1 HB⟩
mutual
def spec_GoodEdges.l0:Nat→Int→List (S79)→List (S79)→Int→Int→Option (Bool)
 | 0,_,_,_,_,_=>none
 |k+1,x0,x1,x7,x8,x9=>if x9<x8 then(if 0≤x9 then(if x9< (x7.length:Int) then((spec_l1In.f ((rd_T79 x7 x9).f0) 0 (wrap64 (x0 - 1))).bind fun t283=>(if t283=true then((spec_l1In.f ((rd_T79 x7 x9).f1) 0 (wrap64 (x0 - 1))).bind fun t284=>(if t284=true then(if ((rd_T79 x7 x9).f0)≥ ((rd_T79 x7 x9).f1) then(spec_GoodEdges.j1 k x0 x1 x9 x7 x8 x9 true ((rd_T79 x7 x9).f0) ((rd_T79 x7 x9).f1) ((rd_T79 x7 x9).f2)) else((spec_l1In.f ((rd_T79 x7 x9).f2) 1 100).bind fun t285=>(spec_GoodEdges.j1 k x0 x1 x9 x7 x8 x9 (!t285) ((rd_T79 x7 x9).f0) ((rd_T79 x7 x9).f1) ((rd_T79 x7 x9).f2)))) else(spec_GoodEdges.j1 k x0 x1 x9 x7 x8 x9 true ((rd_T79 x7 x9).f0) ((rd_T79 x7 x9).f1) ((rd_T79 x7 x9).f2)))) else(spec_GoodEdges.j1 k x0 x1 x9 x7 x8 x9 true ((rd_T79 x7 x9).f0) ((rd_T79 x7 x9).f1) ((rd_T79 x7 x9).f2)))) else(none)) else(none)) else((spec_l1In.f x0 1 12).bind fun t280=>(if t280=true then(some (decide ((x1.length:Int)≤40))) else(some false)))
def spec_GoodEdges.j1:Nat→Int→List (S79)→Int→List (S79)→Int→Int→Bool→Int→Int→Int→Option (Bool)
 | 0,_,_,_,_,_,_,_,_,_,_=>none
 |k+1,x0,x1,x5,x7,x8,x9,x40,x283000,x283001,x283002=>if x40=true then(some false) else(if x5 > 0 then(if 0≤ (wrap64 (x5 - 1)) then(if (wrap64 (x5 - 1))< (x1.length:Int) then(if ((rd_T79 x1 (wrap64 (x5 - 1))).f0) > x283000 then(some false) else(if ((rd_T79 x1 (wrap64 (x5 - 1))).f0)=x283000 then(if ((rd_T79 x1 (wrap64 (x5 - 1))).f1)≥x283001 then(some false) else(spec_GoodEdges.l0 k x0 x1 x7 x8 (wrap64 (x9+1)))) else(spec_GoodEdges.l0 k x0 x1 x7 x8 (wrap64 (x9+1))))) else(none)) else(none)) else(spec_GoodEdges.l0 k x0 x1 x7 x8 (wrap64 (x9+1))))
end
def spec_GoodEdges.f (k:Nat) (a0:Int) (l1:List (S79)):Option (Bool):=spec_GoodEdges.l0 k a0 l1 l1 (l1.length:Int) 0
set_option maxHeartbeats 8000000 in
set_option maxRecDepth 100000 in
theorem spec_GoodEdges.calls (k:Nat) (a0:Int) (A1:Option Addr) (c1:Nat) (l1:List (S79)) (r:Bool) (w:World) (hr1:Kd.C k79 w A1 l1.length l1) (hc1:l1.length≤c1) (h:spec_GoodEdges.f k a0 l1=some r):
  Calls Try.prog 66 #[.int .i64 a0,.slice A1 l1.length c1] w fun e w'=>e= .returned (.bool r)∧Below w.heap.size w w':=by
 have hu79:=Try.underlying79
 have HR1:=Aside0.mk hr1
 have HC1:=Aside0.mk hc1
 clear hr1 hc1
 have HB:=Aside0.mk (Below.refl w.heap.size w)
 have H:(spec_GoodEdges.l0 k a0 l1 l1 (l1.length:Int) 0)=some r:=h
 clear h
 have H':=Aside0.mk H
 clear H
 go_enter Try.func66,Try.ntmps66
 go_wp2
 repeat(go_quiet (fail);try go_wp2)
 go_loopg [9] k (fun kq v9 w'=> ∃ (x9_1:Int),v9= .int .i64 x9_1∧Aside0 (spec_GoodEdges.l0 kq a0 l1 l1 (l1.length:Int) x9_1=some r)∧Aside0 (kq≤k)∧Aside0 (Below w.heap.size w w'))
 case atStart=>exact⟨(0),(by first|rfl|(simp;done)|(simp [*];done)),H',⟨Nat.le_refl _⟩,⟨by exact zk1 HB⟩⟩
 case round=>
  clear H'
  try clear c1
  try clear p2
  obtain⟨x9_1,rfl,HA,HK1,HB⟩:=hrel
  cases gk with
  |zero=>exact absurd HA.out (by simp [spec_GoodEdges.l0])
  |succ k1=>
   have H:=HA.out
   clear HA
   simp only [spec_GoodEdges.l0] at H
   by_cases c3:x9_1< (l1.length:Int)
   ·rw [if_pos c3] at H
    have c3b0:decide (x9_1< (l1.length:Int))=true:=decide_eq_true c3
    clear c3
    by_cases c4: 0≤x9_1
    case neg=>rw [if_neg c4] at H;exact absurd H (by simp)
    rw [if_pos c4] at H
    have c4b0:decide (0≤x9_1)=true:=decide_eq_true c4
    clear c4
    by_cases c5:x9_1< (l1.length:Int)
    case neg=>rw [if_neg c5] at H;exact absurd H (by simp)
    rw [if_pos c5] at H
    have c5b0:decide (x9_1< (l1.length:Int))=true:=decide_eq_true c5
    clear c5
    have HC6:=Aside0.mk H
    clear H
    have p281: 0≤ (x9_1:Int):=of_decide_eq_true zq1
    have q281:x9_1< (l1.length:Int):=of_decide_eq_true zq1
    obtain⟨ad281,e281,hx281_0,hx281_1,hx281_2⟩:=at_T79 HR1.out x9_1 p281 q281
    cases e281
    replace hx281_0:=zhx HB hx281_0
    replace hx281_1:=zhx HB hx281_1
    replace hx281_2:=zhx HB hx281_2
    replace p281:=eq_true p281
    replace q281:=eq_true q281
    go_upto_region 4 with (first|((with_reducible refine gate_dst (N:=6) rfl ?_);(try(refine gate_guard (by rfl) ?_;dsimp only));refine box_event ?hg (N:=6) ?hd (cs:= #[.int .i64 0,.int .i64 0,.int .i64 0]) (t:=79) ?hr ?_;(case hd=>rfl);(case hg=>rfl);(case hr=>first|(go_simp;done)|(go_simp;rfl));intro gb282 hg w7 hbox hb;have BK282:=Aside0.mk (hbox);have GW282:=Aside0.mk ((by rw [hg];exact(below_size (by exact zk1 HB)):w.heap.size≤gb282));have GE282:=Aside0.mk ((by rw [hg];exact(below_size (by exact zk1 HB)):w.heap.size≤gb282));replace HB:=Aside0.mk (below_step (by exact zk1 HB) hb);clear hb hbox hg;have hcz8_0:w7.cell? ⟨gb282,0,none⟩=some (.int .i64 0):=(blk_cell BK282.out 0).trans rfl;have hcz8_1:w7.cell? ⟨gb282,1,none⟩=some (.int .i64 0):=(blk_cell BK282.out 1).trans rfl;have hcz8_2:w7.cell? ⟨gb282,2,none⟩=some (.int .i64 0):=(blk_cell BK282.out 2).trans rfl;have hfz8_0:=blk_frozen BK282.out 0;have hfz8_1:=blk_frozen BK282.out 1;have hfz8_2:=blk_frozen BK282.out 2))
    repeat(go_quiet (first|((with_reducible refine gate_dst (N:=6) rfl ?_);(try(refine gate_guard (by rfl) ?_;dsimp only));refine box_event ?hg (N:=6) ?hd (cs:= #[.int .i64 0,.int .i64 0,.int .i64 0]) (t:=79) ?hr ?_;(case hd=>rfl);(case hg=>rfl);(case hr=>first|(go_simp;done)|(go_simp;rfl));intro gb282 hg w7 hbox hb;have BK282:=Aside0.mk (hbox);have GW282:=Aside0.mk ((by rw [hg];exact(below_size (by exact zk1 HB)):w.heap.size≤gb282));have GE282:=Aside0.mk ((by rw [hg];exact(below_size (by exact zk1 HB)):w.heap.size≤gb282));replace HB:=Aside0.mk (below_step (by exact zk1 HB) hb);clear hb hbox hg;have hcz8_0:w7.cell? ⟨gb282,0,none⟩=some (.int .i64 0):=(blk_cell BK282.out 0).trans rfl;have hcz8_1:w7.cell? ⟨gb282,1,none⟩=some (.int .i64 0):=(blk_cell BK282.out 1).trans rfl;have hcz8_2:w7.cell? ⟨gb282,2,none⟩=some (.int .i64 0):=(blk_cell BK282.out 2).trans rfl;have hfz8_0:=blk_frozen BK282.out 0;have hfz8_1:=blk_frozen BK282.out 1;have hfz8_2:=blk_frozen BK282.out 2));go_upto_region 4 with (first|((with_reducible refine gate_dst (N:=6) rfl ?_);(try(refine gate_guard (by rfl) ?_;dsimp only));refine box_event ?hg (N:=6) ?hd (cs:= #[.int .i64 0,.int .i64 0,.int .i64 0]) (t:=79) ?hr ?_;(case hd=>rfl);(case hg=>rfl);(case hr=>first|(go_simp;done)|(go_simp;rfl));intro gb282 hg w7 hbox hb;have BK282:=Aside0.mk (hbox);have GW282:=Aside0.mk ((by rw [hg];exact(below_size (by exact zk1 HB)):w.heap.size≤gb282));have GE282:=Aside0.mk ((by rw [hg];exact(below_size (by exact zk1 HB)):w.heap.size≤gb282));replace HB:=Aside0.mk (below_step (by exact zk1 HB) hb);clear hb hbox hg;have hcz8_0:w7.cell? ⟨gb282,0,none⟩=some (.int .i64 0):=(blk_cell BK282.out 0).trans rfl;have hcz8_1:w7.cell? ⟨gb282,1,none⟩=some (.int .i64 0):=(blk_cell BK282.out 1).trans rfl;have hcz8_2:w7.cell? ⟨gb282,2,none⟩=some (.int .i64 0):=(blk_cell BK282.out 2).trans rfl;have hfz8_0:=blk_frozen BK282.out 0;have hfz8_1:=blk_frozen BK282.out 1;have hfz8_2:=blk_frozen BK282.out 2)))
    (try simp only [Act.put,List.setIfInBounds_toArray,List.set_cons_zero,List.set_cons_succ])
    go_cut [40] (fun v40 wc=> ∃ (kq:Nat) (x40_5:Bool),v40= .bool x40_5∧Aside0 (spec_GoodEdges.j1 kq a0 l1 x9_1 l1 (l1.length:Int) x9_1 x40_5 ((rd_T79 l1 x9_1).f0) ((rd_T79 l1 x9_1).f1) ((rd_T79 l1 x9_1).f2)=some r)∧Aside0 (kq≤k1)∧Aside0 (wc.heap[gb282]?=some (.cells #[.int .i64 ((rd_T79 l1 x9_1).f0),.int .i64 ((rd_T79 l1 x9_1).f1),.int .i64 ((rd_T79 l1 x9_1).f2)] 79 (0,0)))∧Aside0 (Below w.heap.size w wc))
    case first=>
     have H:=HC6.out
     clear HC6
     replace H:=Option.bind_eq_some_iff.mp H
     obtain⟨t283,A90,H⟩:=H
     replace H:(if t283=true then((spec_l1In.f ((rd_T79 l1 x9_1).f1) 0 (wrap64 (a0 - 1))).bind fun t284=>(if t284=true then(if ((rd_T79 l1 x9_1).f0)≥ ((rd_T79 l1 x9_1).f1) then(spec_GoodEdges.j1 k1 a0 l1 x9_1 l1 (l1.length:Int) x9_1 true ((rd_T79 l1 x9_1).f0) ((rd_T79 l1 x9_1).f1) ((rd_T79 l1 x9_1).f2)) else((spec_l1In.f ((rd_T79 l1 x9_1).f2) 1 100).bind fun t285=>(spec_GoodEdges.j1 k1 a0 l1 x9_1 l1 (l1.length:Int) x9_1 (!t285) ((rd_T79 l1 x9_1).f0) ((rd_T79 l1 x9_1).f1) ((rd_T79 l1 x9_1).f2)))) else(spec_GoodEdges.j1 k1 a0 l1 x9_1 l1 (l1.length:Int) x9_1 true ((rd_T79 l1 x9_1).f0) ((rd_T79 l1 x9_1).f1) ((rd_T79 l1 x9_1).f2)))) else(spec_GoodEdges.j1 k1 a0 l1 x9_1 l1 (l1.length:Int) x9_1 true ((rd_T79 l1 x9_1).f0) ((rd_T79 l1 x9_1).f1) ((rd_T79 l1 x9_1).f2)))=some r:=H
     have A9:=Aside0.mk A90
     clear A90
     by_cases c10:t283=true
     ·subst c10
      have H1:((spec_l1In.f ((rd_T79 l1 x9_1).f1) 0 (wrap64 (a0 - 1))).bind fun t284=>(if t284=true then(if ((rd_T79 l1 x9_1).f0)≥ ((rd_T79 l1 x9_1).f1) then(spec_GoodEdges.j1 k1 a0 l1 x9_1 l1 (l1.length:Int) x9_1 true ((rd_T79 l1 x9_1).f0) ((rd_T79 l1 x9_1).f1) ((rd_T79 l1 x9_1).f2)) else((spec_l1In.f ((rd_T79 l1 x9_1).f2) 1 100).bind fun t285=>(spec_GoodEdges.j1 k1 a0 l1 x9_1 l1 (l1.length:Int) x9_1 (!t285) ((rd_T79 l1 x9_1).f0) ((rd_T79 l1 x9_1).f1) ((rd_T79 l1 x9_1).f2)))) else(spec_GoodEdges.j1 k1 a0 l1 x9_1 l1 (l1.length:Int) x9_1 true ((rd_T79 l1 x9_1).f0) ((rd_T79 l1 x9_1).f1) ((rd_T79 l1 x9_1).f2))))=some r:=by rw [if_pos rfl] at H;exact H
      clear H
      have H:=H1
      clear H1
      replace H:=Option.bind_eq_some_iff.mp H
      obtain⟨t284,A110,H⟩:=H
      replace H:(if t284=true then(if ((rd_T79 l1 x9_1).f0)≥ ((rd_T79 l1 x9_1).f1) then(spec_GoodEdges.j1 k1 a0 l1 x9_1 l1 (l1.length:Int) x9_1 true ((rd_T79 l1 x9_1).f0) ((rd_T79 l1 x9_1).f1) ((rd_T79 l1 x9_1).f2)) else((spec_l1In.f ((rd_T79 l1 x9_1).f2) 1 100).bind fun t285=>(spec_GoodEdges.j1 k1 a0 l1 x9_1 l1 (l1.length:Int) x9_1 (!t285) ((rd_T79 l1 x9_1).f0) ((rd_T79 l1 x9_1).f1) ((rd_T79 l1 x9_1).f2)))) else(spec_GoodEdges.j1 k1 a0 l1 x9_1 l1 (l1.length:Int) x9_1 true ((rd_T79 l1 x9_1).f0) ((rd_T79 l1 x9_1).f1) ((rd_T79 l1 x9_1).f2)))=some r:=H
      have A11:=Aside0.mk A110
      clear A110
      by_cases c12:t284=true
      ·subst c12
       have H1:(if ((rd_T79 l1 x9_1).f0)≥ ((rd_T79 l1 x9_1).f1) then(spec_GoodEdges.j1 k1 a0 l1 x9_1 l1 (l1.length:Int) x9_1 true ((rd_T79 l1 x9_1).f0) ((rd_T79 l1 x9_1).f1) ((rd_T79 l1 x9_1).f2)) else((spec_l1In.f ((rd_T79 l1 x9_1).f2) 1 100).bind fun t285=>(spec_GoodEdges.j1 k1 a0 l1 x9_1 l1 (l1.length:Int) x9_1 (!t285) ((rd_T79 l1 x9_1).f0) ((rd_T79 l1 x9_1).f1) ((rd_T79 l1 x9_1).f2))))=some r:=by rw [if_pos rfl] at H;exact H
       clear H
       have H:=H1
       clear H1
       by_cases c13:((rd_T79 l1 x9_1).f0)≥ ((rd_T79 l1 x9_1).f1)
       ·rw [if_pos c13] at H
        have c13b0:decide (((rd_T79 l1 x9_1).f1)≤ ((rd_T79 l1 x9_1).f0))=true:=decide_eq_true c13
        clear c13
        (first|rw [c13b0]|(simp only [i64_w,i32_w];rw [c13b0])|skip)
        have H':=Aside0.mk H
        clear H
        have hcz14_0:w7.cell? ⟨gb282,0,none⟩=some (.int .i64 0):=(blk_cell BK282.out 0).trans rfl
        have hcz14_1:w7.cell? ⟨gb282,1,none⟩=some (.int .i64 0):=(blk_cell BK282.out 1).trans rfl
        have hcz14_2:w7.cell? ⟨gb282,2,none⟩=some (.int .i64 0):=(blk_cell BK282.out 2).trans rfl
        have hfz14_0:=blk_frozen BK282.out 0
        have hfz14_1:=blk_frozen BK282.out 1
        have hfz14_2:=blk_frozen BK282.out 2
        go_wp2_with (first|(go_at_call 59;(with_reducible refine(spec_l1In.calls ((rd_T79 l1 x9_1).f0) 0 (wrap64 (a0 - 1)) true _ A9.out).mono ?_);rintro e w' ⟨rfl,⟨nd,rfl⟩⟩;(try first|exact⟨rfl,_,World.drewN_drewN _ _ _⟩|exact⟨rfl,_,Eq.trans (World.drewN_drewN _ _ _) (congrArg (World.drewN _) (Nat.add_assoc _ _ _))⟩))|(go_at_call 59;(with_reducible refine(spec_l1In.calls ((rd_T79 l1 x9_1).f1) 0 (wrap64 (a0 - 1)) true _ A11.out).mono ?_);rintro e w' ⟨rfl,⟨nd,rfl⟩⟩;(try first|exact⟨rfl,_,World.drewN_drewN _ _ _⟩|exact⟨rfl,_,Eq.trans (World.drewN_drewN _ _ _) (congrArg (World.drewN _) (Nat.add_assoc _ _ _))⟩)))
        repeat(go_quiet (first|(go_at_call 59;(with_reducible refine(spec_l1In.calls ((rd_T79 l1 x9_1).f0) 0 (wrap64 (a0 - 1)) true _ A9.out).mono ?_);rintro e w' ⟨rfl,⟨nd,rfl⟩⟩;(try first|exact⟨rfl,_,World.drewN_drewN _ _ _⟩|exact⟨rfl,_,Eq.trans (World.drewN_drewN _ _ _) (congrArg (World.drewN _) (Nat.add_assoc _ _ _))⟩))|(go_at_call 59;(with_reducible refine(spec_l1In.calls ((rd_T79 l1 x9_1).f1) 0 (wrap64 (a0 - 1)) true _ A11.out).mono ?_);rintro e w' ⟨rfl,⟨nd,rfl⟩⟩;(try first|exact⟨rfl,_,World.drewN_drewN _ _ _⟩|exact⟨rfl,_,Eq.trans (World.drewN_drewN _ _ _) (congrArg (World.drewN _) (Nat.add_assoc _ _ _))⟩)));try go_wp2_with (first|(go_at_call 59;(with_reducible refine(spec_l1In.calls ((rd_T79 l1 x9_1).f0) 0 (wrap64 (a0 - 1)) true _ A9.out).mono ?_);rintro e w' ⟨rfl,⟨nd,rfl⟩⟩;(try first|exact⟨rfl,_,World.drewN_drewN _ _ _⟩|exact⟨rfl,_,Eq.trans (World.drewN_drewN _ _ _) (congrArg (World.drewN _) (Nat.add_assoc _ _ _))⟩))|(go_at_call 59;(with_reducible refine(spec_l1In.calls ((rd_T79 l1 x9_1).f1) 0 (wrap64 (a0 - 1)) true _ A11.out).mono ?_);rintro e w' ⟨rfl,⟨nd,rfl⟩⟩;(try first|exact⟨rfl,_,World.drewN_drewN _ _ _⟩|exact⟨rfl,_,Eq.trans (World.drewN_drewN _ _ _) (congrArg (World.drewN _) (Nat.add_assoc _ _ _))⟩))))
        go_meet
        case rel=>exact⟨_,(true),(by first|rfl|(simp;done)|(simp [*];done)),H',⟨by have:=HK1.out;first|omega|exact Nat.le_refl _⟩,⟨by(with_reducible repeat(first|refine blk_drewN ?_ _|refine blk_drew ?_ |refine blk_alloc ?_ _));refine blk_put (cs:= #[.int .i64 ((rd_T79 l1 x9_1).f0),.int .i64 ((rd_T79 l1 x9_1).f1),.int .i64 0]) ?_ 2 _ rfl;(with_reducible repeat(first|refine blk_drewN ?_ _|refine blk_drew ?_ |refine blk_alloc ?_ _));refine blk_put (cs:= #[.int .i64 ((rd_T79 l1 x9_1).f0),.int .i64 0,.int .i64 0]) ?_ 1 _ rfl;(with_reducible repeat(first|refine blk_drewN ?_ _|refine blk_drew ?_ |refine blk_alloc ?_ _));refine blk_put (cs:= #[.int .i64 0,.int .i64 0,.int .i64 0]) ?_ 0 _ rfl;(with_reducible repeat(first|refine blk_drewN ?_ _|refine blk_drew ?_ |refine blk_alloc ?_ _));exact BK282.out⟩,⟨by exact zk2 HB GE282.out⟩⟩
       ·rw [if_neg c13] at H
        have c13b0:decide (((rd_T79 l1 x9_1).f1)≤ ((rd_T79 l1 x9_1).f0))=false:=decide_eq_false c13
        clear c13
        (first|rw [c13b0]|(simp only [i64_w,i32_w];rw [c13b0])|skip)
        replace H:=Option.bind_eq_some_iff.mp H
        obtain⟨t285,A150,H⟩:=H
        replace H:(spec_GoodEdges.j1 k1 a0 l1 x9_1 l1 (l1.length:Int) x9_1 (!t285) ((rd_T79 l1 x9_1).f0) ((rd_T79 l1 x9_1).f1) ((rd_T79 l1 x9_1).f2))=some r:=H
        have A15:=Aside0.mk A150
        clear A150
        have H':=Aside0.mk H
        clear H
        have hcz16_0:w7.cell? ⟨gb282,0,none⟩=some (.int .i64 0):=(blk_cell BK282.out 0).trans rfl
        have hcz16_1:w7.cell? ⟨gb282,1,none⟩=some (.int .i64 0):=(blk_cell BK282.out 1).trans rfl
        have hcz16_2:w7.cell? ⟨gb282,2,none⟩=some (.int .i64 0):=(blk_cell BK282.out 2).trans rfl
        have hfz16_0:=blk_frozen BK282.out 0
        have hfz16_1:=blk_frozen BK282.out 1
        have hfz16_2:=blk_frozen BK282.out 2
        go_wp2_with (first|(go_at_call 59;(with_reducible refine(spec_l1In.calls ((rd_T79 l1 x9_1).f0) 0 (wrap64 (a0 - 1)) true _ A9.out).mono ?_);rintro e w' ⟨rfl,⟨nd,rfl⟩⟩;(try first|exact⟨rfl,_,World.drewN_drewN _ _ _⟩|exact⟨rfl,_,Eq.trans (World.drewN_drewN _ _ _) (congrArg (World.drewN _) (Nat.add_assoc _ _ _))⟩))|(go_at_call 59;(with_reducible refine(spec_l1In.calls ((rd_T79 l1 x9_1).f1) 0 (wrap64 (a0 - 1)) true _ A11.out).mono ?_);rintro e w' ⟨rfl,⟨nd,rfl⟩⟩;(try first|exact⟨rfl,_,World.drewN_drewN _ _ _⟩|exact⟨rfl,_,Eq.trans (World.drewN_drewN _ _ _) (congrArg (World.drewN _) (Nat.add_assoc _ _ _))⟩))|(go_at_call 59;(with_reducible refine(spec_l1In.calls ((rd_T79 l1 x9_1).f2) 1 100 t285 _ A15.out).mono ?_);rintro e w' ⟨rfl,⟨nd,rfl⟩⟩;(try first|exact⟨rfl,_,World.drewN_drewN _ _ _⟩|exact⟨rfl,_,Eq.trans (World.drewN_drewN _ _ _) (congrArg (World.drewN _) (Nat.add_assoc _ _ _))⟩)))
        repeat(go_quiet (first|(go_at_call 59;(with_reducible refine(spec_l1In.calls ((rd_T79 l1 x9_1).f0) 0 (wrap64 (a0 - 1)) true _ A9.out).mono ?_);rintro e w' ⟨rfl,⟨nd,rfl⟩⟩;(try first|exact⟨rfl,_,World.drewN_drewN _ _ _⟩|exact⟨rfl,_,Eq.trans (World.drewN_drewN _ _ _) (congrArg (World.drewN _) (Nat.add_assoc _ _ _))⟩))|(go_at_call 59;(with_reducible refine(spec_l1In.calls ((rd_T79 l1 x9_1).f1) 0 (wrap64 (a0 - 1)) true _ A11.out).mono ?_);rintro e w' ⟨rfl,⟨nd,rfl⟩⟩;(try first|exact⟨rfl,_,World.drewN_drewN _ _ _⟩|exact⟨rfl,_,Eq.trans (World.drewN_drewN _ _ _) (congrArg (World.drewN _) (Nat.add_assoc _ _ _))⟩))|(go_at_call 59;(with_reducible refine(spec_l1In.calls ((rd_T79 l1 x9_1).f2) 1 100 t285 _ A15.out).mono ?_);rintro e w' ⟨rfl,⟨nd,rfl⟩⟩;(try first|exact⟨rfl,_,World.drewN_drewN _ _ _⟩|exact⟨rfl,_,Eq.trans (World.drewN_drewN _ _ _) (congrArg (World.drewN _) (Nat.add_assoc _ _ _))⟩)));try go_wp2_with (first|(go_at_call 59;(with_reducible refine(spec_l1In.calls ((rd_T79 l1 x9_1).f0) 0 (wrap64 (a0 - 1)) true _ A9.out).mono ?_);rintro e w' ⟨rfl,⟨nd,rfl⟩⟩;(try first|exact⟨rfl,_,World.drewN_drewN _ _ _⟩|exact⟨rfl,_,Eq.trans (World.drewN_drewN _ _ _) (congrArg (World.drewN _) (Nat.add_assoc _ _ _))⟩))|(go_at_call 59;(with_reducible refine(spec_l1In.calls ((rd_T79 l1 x9_1).f1) 0 (wrap64 (a0 - 1)) true _ A11.out).mono ?_);rintro e w' ⟨rfl,⟨nd,rfl⟩⟩;(try first|exact⟨rfl,_,World.drewN_drewN _ _ _⟩|exact⟨rfl,_,Eq.trans (World.drewN_drewN _ _ _) (congrArg (World.drewN _) (Nat.add_assoc _ _ _))⟩))|(go_at_call 59;(with_reducible refine(spec_l1In.calls ((rd_T79 l1 x9_1).f2) 1 100 t285 _ A15.out).mono ?_);rintro e w' ⟨rfl,⟨nd,rfl⟩⟩;(try first|exact⟨rfl,_,World.drewN_drewN _ _ _⟩|exact⟨rfl,_,Eq.trans (World.drewN_drewN _ _ _) (congrArg (World.drewN _) (Nat.add_assoc _ _ _))⟩))))
        go_meet
        case rel=>exact⟨_,(!t285),(by first|rfl|(simp;done)|(simp [*];done)),H',⟨by have:=HK1.out;first|omega|exact Nat.le_refl _⟩,⟨by(with_reducible repeat(first|refine blk_drewN ?_ _|refine blk_drew ?_ |refine blk_alloc ?_ _));refine blk_put (cs:= #[.int .i64 ((rd_T79 l1 x9_1).f0),.int .i64 ((rd_T79 l1 x9_1).f1),.int .i64 0]) ?_ 2 _ rfl;(with_reducible repeat(first|refine blk_drewN ?_ _|refine blk_drew ?_ |refine blk_alloc ?_ _));refine blk_put (cs:= #[.int .i64 ((rd_T79 l1 x9_1).f0),.int .i64 0,.int .i64 0]) ?_ 1 _ rfl;(with_reducible repeat(first|refine blk_drewN ?_ _|refine blk_drew ?_ |refine blk_alloc ?_ _));refine blk_put (cs:= #[.int .i64 0,.int .i64 0,.int .i64 0]) ?_ 0 _ rfl;(with_reducible repeat(first|refine blk_drewN ?_ _|refine blk_drew ?_ |refine blk_alloc ?_ _));exact BK282.out⟩,⟨by exact zk2 HB GE282.out⟩⟩
      ·replace c12:=Bool.eq_false_iff.mpr c12
       subst c12
       have H1:(spec_GoodEdges.j1 k1 a0 l1 x9_1 l1 (l1.length:Int) x9_1 true ((rd_T79 l1 x9_1).f0) ((rd_T79 l1 x9_1).f1) ((rd_T79 l1 x9_1).f2))=some r:=by rw [if_neg (show ¬ (false=true) by decide)] at H;exact H
       clear H
       have H:=H1
       clear H1
       have H':=Aside0.mk H
       clear H
       have hcz17_0:w7.cell? ⟨gb282,0,none⟩=some (.int .i64 0):=(blk_cell BK282.out 0).trans rfl
       have hcz17_1:w7.cell? ⟨gb282,1,none⟩=some (.int .i64 0):=(blk_cell BK282.out 1).trans rfl
       have hcz17_2:w7.cell? ⟨gb282,2,none⟩=some (.int .i64 0):=(blk_cell BK282.out 2).trans rfl
       have hfz17_0:=blk_frozen BK282.out 0
       have hfz17_1:=blk_frozen BK282.out 1
       have hfz17_2:=blk_frozen BK282.out 2
       go_wp2_with (first|(go_at_call 59;(with_reducible refine(spec_l1In.calls ((rd_T79 l1 x9_1).f0) 0 (wrap64 (a0 - 1)) true _ A9.out).mono ?_);rintro e w' ⟨rfl,⟨nd,rfl⟩⟩;(try first|exact⟨rfl,_,World.drewN_drewN _ _ _⟩|exact⟨rfl,_,Eq.trans (World.drewN_drewN _ _ _) (congrArg (World.drewN _) (Nat.add_assoc _ _ _))⟩))|(go_at_call 59;(with_reducible refine(spec_l1In.calls ((rd_T79 l1 x9_1).f1) 0 (wrap64 (a0 - 1)) false _ A11.out).mono ?_);rintro e w' ⟨rfl,⟨nd,rfl⟩⟩;(try first|exact⟨rfl,_,World.drewN_drewN _ _ _⟩|exact⟨rfl,_,Eq.trans (World.drewN_drewN _ _ _) (congrArg (World.drewN _) (Nat.add_assoc _ _ _))⟩)))
       repeat(go_quiet (first|(go_at_call 59;(with_reducible refine(spec_l1In.calls ((rd_T79 l1 x9_1).f0) 0 (wrap64 (a0 - 1)) true _ A9.out).mono ?_);rintro e w' ⟨rfl,⟨nd,rfl⟩⟩;(try first|exact⟨rfl,_,World.drewN_drewN _ _ _⟩|exact⟨rfl,_,Eq.trans (World.drewN_drewN _ _ _) (congrArg (World.drewN _) (Nat.add_assoc _ _ _))⟩))|(go_at_call 59;(with_reducible refine(spec_l1In.calls ((rd_T79 l1 x9_1).f1) 0 (wrap64 (a0 - 1)) false _ A11.out).mono ?_);rintro e w' ⟨rfl,⟨nd,rfl⟩⟩;(try first|exact⟨rfl,_,World.drewN_drewN _ _ _⟩|exact⟨rfl,_,Eq.trans (World.drewN_drewN _ _ _) (congrArg (World.drewN _) (Nat.add_assoc _ _ _))⟩)));try go_wp2_with (first|(go_at_call 59;(with_reducible refine(spec_l1In.calls ((rd_T79 l1 x9_1).f0) 0 (wrap64 (a0 - 1)) true _ A9.out).mono ?_);rintro e w' ⟨rfl,⟨nd,rfl⟩⟩;(try first|exact⟨rfl,_,World.drewN_drewN _ _ _⟩|exact⟨rfl,_,Eq.trans (World.drewN_drewN _ _ _) (congrArg (World.drewN _) (Nat.add_assoc _ _ _))⟩))|(go_at_call 59;(with_reducible refine(spec_l1In.calls ((rd_T79 l1 x9_1).f1) 0 (wrap64 (a0 - 1)) false _ A11.out).mono ?_);rintro e w' ⟨rfl,⟨nd,rfl⟩⟩;(try first|exact⟨rfl,_,World.drewN_drewN _ _ _⟩|exact⟨rfl,_,Eq.trans (World.drewN_drewN _ _ _) (congrArg (World.drewN _) (Nat.add_assoc _ _ _))⟩))))
       go_meet
       case rel=>exact⟨_,(true),(by first|rfl|(simp;done)|(simp [*];done)),H',⟨by have:=HK1.out;first|omega|exact Nat.le_refl _⟩,⟨by(with_reducible repeat(first|refine blk_drewN ?_ _|refine blk_drew ?_ |refine blk_alloc ?_ _));refine blk_put (cs:= #[.int .i64 ((rd_T79 l1 x9_1).f0),.int .i64 ((rd_T79 l1 x9_1).f1),.int .i64 0]) ?_ 2 _ rfl;(with_reducible repeat(first|refine blk_drewN ?_ _|refine blk_drew ?_ |refine blk_alloc ?_ _));refine blk_put (cs:= #[.int .i64 ((rd_T79 l1 x9_1).f0),.int .i64 0,.int .i64 0]) ?_ 1 _ rfl;(with_reducible repeat(first|refine blk_drewN ?_ _|refine blk_drew ?_ |refine blk_alloc ?_ _));refine blk_put (cs:= #[.int .i64 0,.int .i64 0,.int .i64 0]) ?_ 0 _ rfl;(with_reducible repeat(first|refine blk_drewN ?_ _|refine blk_drew ?_ |refine blk_alloc ?_ _));exact BK282.out⟩,⟨by exact zk2 HB GE282.out⟩⟩
     ·replace c10:=Bool.eq_false_iff.mpr c10
      subst c10
      have H1:(spec_GoodEdges.j1 k1 a0 l1 x9_1 l1 (l1.length:Int) x9_1 true ((rd_T79 l1 x9_1).f0) ((rd_T79 l1 x9_1).f1) ((rd_T79 l1 x9_1).f2))=some r:=by rw [if_neg (show ¬ (false=true) by decide)] at H;exact H
      clear H
      have H:=H1
      clear H1
      have H':=Aside0.mk H
      clear H
      have hcz18_0:w7.cell? ⟨gb282,0,none⟩=some (.int .i64 0):=(blk_cell BK282.out 0).trans rfl
      have hcz18_1:w7.cell? ⟨gb282,1,none⟩=some (.int .i64 0):=(blk_cell BK282.out 1).trans rfl
      have hcz18_2:w7.cell? ⟨gb282,2,none⟩=some (.int .i64 0):=(blk_cell BK282.out 2).trans rfl
      have hfz18_0:=blk_frozen BK282.out 0
      have hfz18_1:=blk_frozen BK282.out 1
      have hfz18_2:=blk_frozen BK282.out 2
      go_wp2_with (first|(go_at_call 59;(with_reducible refine(spec_l1In.calls ((rd_T79 l1 x9_1).f0) 0 (wrap64 (a0 - 1)) false _ A9.out).mono ?_);rintro e w' ⟨rfl,⟨nd,rfl⟩⟩;(try first|exact⟨rfl,_,World.drewN_drewN _ _ _⟩|exact⟨rfl,_,Eq.trans (World.drewN_drewN _ _ _) (congrArg (World.drewN _) (Nat.add_assoc _ _ _))⟩)))
      repeat(go_quiet (first|(go_at_call 59;(with_reducible refine(spec_l1In.calls ((rd_T79 l1 x9_1).f0) 0 (wrap64 (a0 - 1)) false _ A9.out).mono ?_);rintro e w' ⟨rfl,⟨nd,rfl⟩⟩;(try first|exact⟨rfl,_,World.drewN_drewN _ _ _⟩|exact⟨rfl,_,Eq.trans (World.drewN_drewN _ _ _) (congrArg (World.drewN _) (Nat.add_assoc _ _ _))⟩)));try go_wp2_with (first|(go_at_call 59;(with_reducible refine(spec_l1In.calls ((rd_T79 l1 x9_1).f0) 0 (wrap64 (a0 - 1)) false _ A9.out).mono ?_);rintro e w' ⟨rfl,⟨nd,rfl⟩⟩;(try first|exact⟨rfl,_,World.drewN_drewN _ _ _⟩|exact⟨rfl,_,Eq.trans (World.drewN_drewN _ _ _) (congrArg (World.drewN _) (Nat.add_assoc _ _ _))⟩))))
      go_meet
      case rel=>exact⟨_,(true),(by first|rfl|(simp;done)|(simp [*];done)),H',⟨by have:=HK1.out;first|omega|exact Nat.le_refl _⟩,⟨by(with_reducible repeat(first|refine blk_drewN ?_ _|refine blk_drew ?_ |refine blk_alloc ?_ _));refine blk_put (cs:= #[.int .i64 ((rd_T79 l1 x9_1).f0),.int .i64 ((rd_T79 l1 x9_1).f1),.int .i64 0]) ?_ 2 _ rfl;(with_reducible repeat(first|refine blk_drewN ?_ _|refine blk_drew ?_ |refine blk_alloc ?_ _));refine blk_put (cs:= #[.int .i64 ((rd_T79 l1 x9_1).f0),.int .i64 0,.int .i64 0]) ?_ 1 _ rfl;(with_reducible repeat(first|refine blk_drewN ?_ _|refine blk_drew ?_ |refine blk_alloc ?_ _));refine blk_put (cs:= #[.int .i64 0,.int .i64 0,.int .i64 0]) ?_ 0 _ rfl;(with_reducible repeat(first|refine blk_drewN ?_ _|refine blk_drew ?_ |refine blk_alloc ?_ _));exact BK282.out⟩,⟨by exact zk2 HB GE282.out⟩⟩
    case rest=>
     clear HC6
     try clear c1
     try clear p2
     try clear q2
     try clear hx2
     try clear c3
     try clear c3b0
     try clear c4
     try clear c4b0
     try clear c5
     try clear c5b0
     try clear c6
     try clear p6
     try clear c10
     try clear c12
     try clear c13
     try clear c13b0
     try clear hcz14_0
     try clear hcz14_1
     try clear hcz14_2
     try clear hcz16_0
     try clear hcz16_1
     try clear hcz16_2
     try clear hcz17_0
     try clear hcz17_1
     try clear hcz17_2
     try clear hcz18_0
     try clear hcz18_1
     try clear hcz18_2
     try clear hcz8_0
     try clear hcz8_1
     try clear hcz8_2
     try clear hfz14_0
     try clear hfz14_1
     try clear hfz14_2
     try clear hfz16_0
     try clear hfz16_1
     try clear hfz16_2
     try clear hfz17_0
     try clear hfz17_1
     try clear hfz17_2
     try clear hfz18_0
     try clear hfz18_1
     try clear hfz18_2
     try clear hfz8_0
     try clear hfz8_1
     try clear hfz8_2
     try clear hx281_0
     try clear hx281_1
     try clear hx281_2
     try clear p2
     try clear p281
     try clear q281
     obtain⟨kq,x40_5,rfl,HA,HJ5,BK282,HB⟩:=hcut
     cases kq with
     |zero=>exact absurd HA.out (by simp [spec_GoodEdges.j1])
     |succ kj5=>
      have H:=HA.out
      clear HA
      simp only [spec_GoodEdges.j1] at H
      by_cases c19:x40_5=true
      ·subst c19
       have H1:(some false)=some r:=by rw [if_pos rfl] at H;exact H
       clear H
       have H:=H1
       clear H1
       obtain rfl:=Option.some.inj H
       go_wp2
       repeat(go_quiet (fail);try go_wp2)
       go_ret
       exact⟨by first|rfl|(simp [errW_none,errW_some]<;>rfl)|(simp [*,errW_none,errW_some]<;>rfl),by exact zk2 HB GE282.out⟩
      ·replace c19:=Bool.eq_false_iff.mpr c19
       subst c19
       have H1:(if x9_1 > 0 then(if 0≤ (wrap64 (x9_1 - 1)) then(if (wrap64 (x9_1 - 1))< (l1.length:Int) then(if ((rd_T79 l1 (wrap64 (x9_1 - 1))).f0) > ((rd_T79 l1 x9_1).f0) then(some false) else(if ((rd_T79 l1 (wrap64 (x9_1 - 1))).f0)= ((rd_T79 l1 x9_1).f0) then(if ((rd_T79 l1 (wrap64 (x9_1 - 1))).f1)≥ ((rd_T79 l1 x9_1).f1) then(some false) else(spec_GoodEdges.l0 kj5 a0 l1 l1 (l1.length:Int) (wrap64 (x9_1+1)))) else(spec_GoodEdges.l0 kj5 a0 l1 l1 (l1.length:Int) (wrap64 (x9_1+1))))) else(none)) else(none)) else(spec_GoodEdges.l0 kj5 a0 l1 l1 (l1.length:Int) (wrap64 (x9_1+1))))=some r:=by rw [if_neg (show ¬ (false=true) by decide)] at H;exact H
       clear H
       have H:=H1
       clear H1
       by_cases c20:x9_1 > 0
       ·rw [if_pos c20] at H
        have c20b0:decide (0<x9_1)=true:=decide_eq_true c20
        clear c20
        obtain⟨ji21,hji21⟩ :∃ j_:Int,(wrap64 (x9_1 - 1))=j_:=⟨_,rfl⟩
        replace H:(if 0≤ (ji21) then(if (ji21)< (l1.length:Int) then(if ((rd_T79 l1 (ji21)).f0) > ((rd_T79 l1 x9_1).f0) then(some false) else(if ((rd_T79 l1 (ji21)).f0)= ((rd_T79 l1 x9_1).f0) then(if ((rd_T79 l1 (ji21)).f1)≥ ((rd_T79 l1 x9_1).f1) then(some false) else(spec_GoodEdges.l0 kj5 a0 l1 l1 (l1.length:Int) (wrap64 (x9_1+1)))) else(spec_GoodEdges.l0 kj5 a0 l1 l1 (l1.length:Int) (wrap64 (x9_1+1))))) else(none)) else(none))=some r:=by first|(rw [hji21] at H;exact H)|(simp only [hji21] at H ⊢;exact H)
        have hji21w:(IntKind.i64.wrap (x9_1 - 1))=ji21:=(i64_w _).trans hji21
        by_cases c22: 0≤ (ji21)
        case neg=>rw [if_neg c22] at H;exact absurd H (by simp)
        rw [if_pos c22] at H
        have c22b0:decide (0≤ (ji21))=true:=decide_eq_true c22
        clear c22
        by_cases c23:(ji21)< (l1.length:Int)
        case neg=>rw [if_neg c23] at H;exact absurd H (by simp)
        rw [if_pos c23] at H
        have c23b0:decide ((ji21)< (l1.length:Int))=true:=decide_eq_true c23
        clear c23
        by_cases c24:((rd_T79 l1 (ji21)).f0) > ((rd_T79 l1 x9_1).f0)
        ·rw [if_pos c24] at H
         have c24b0:decide (((rd_T79 l1 x9_1).f0)< ((rd_T79 l1 (ji21)).f0))=true:=decide_eq_true c24
         clear c24
         obtain rfl:=Option.some.inj H
         have p286: 0≤ ((ji21):Int):=of_decide_eq_true zq1
         have q286:(ji21)< (l1.length:Int):=of_decide_eq_true zq1
         obtain⟨ad286,e286,hx286_0,hx286_1,hx286_2⟩:=at_T79 HR1.out (ji21) p286 q286
         obtain rfl:ad281=ad286:=(by injection e286)
         replace hx286_0:=zhx HB hx286_0
         replace hx286_1:=zhx HB hx286_1
         replace hx286_2:=zhx HB hx286_2
         replace p286:=eq_true p286
         replace q286:=eq_true q286
         have hcz25_0:wc.cell? ⟨gb282,0,none⟩=some (.int .i64 ((rd_T79 l1 x9_1).f0)):=(blk_cell BK282.out 0).trans rfl
         have hcz25_1:wc.cell? ⟨gb282,1,none⟩=some (.int .i64 ((rd_T79 l1 x9_1).f1)):=(blk_cell BK282.out 1).trans rfl
         have hcz25_2:wc.cell? ⟨gb282,2,none⟩=some (.int .i64 ((rd_T79 l1 x9_1).f2)):=(blk_cell BK282.out 2).trans rfl
         have hfz25_0:=blk_frozen BK282.out 0
         have hfz25_1:=blk_frozen BK282.out 1
         have hfz25_2:=blk_frozen BK282.out 2
         go_wp2
         repeat(go_quiet (fail);try go_wp2)
         go_ret
         exact⟨by first|rfl|(simp [errW_none,errW_some]<;>rfl)|(simp only [← hji21];first|rfl|(simp [errW_none,errW_some]<;>rfl))|(simp [*,errW_none,errW_some]<;>rfl),by exact zk2 HB GE282.out⟩
        ·rw [if_neg c24] at H
         have c24b0:decide (((rd_T79 l1 x9_1).f0)< ((rd_T79 l1 (ji21)).f0))=false:=decide_eq_false c24
         clear c24
         by_cases c26:((rd_T79 l1 (ji21)).f0)= ((rd_T79 l1 x9_1).f0)
         ·rw [if_pos c26] at H
          have c26b0:(((rd_T79 l1 (ji21)).f0)== ((rd_T79 l1 x9_1).f0))=true:=beq_iff_eq.mpr c26
          have c26b1:(((rd_T79 l1 (ji21)).f0) != ((rd_T79 l1 x9_1).f0))=false:=bne_eq_false_iff_eq.mpr c26
          clear c26
          by_cases c27:((rd_T79 l1 (ji21)).f1)≥ ((rd_T79 l1 x9_1).f1)
          ·rw [if_pos c27] at H
           have c27b0:decide (((rd_T79 l1 x9_1).f1)≤ ((rd_T79 l1 (ji21)).f1))=true:=decide_eq_true c27
           clear c27
           obtain rfl:=Option.some.inj H
           have p286: 0≤ ((ji21):Int):=of_decide_eq_true zq1
           have q286:(ji21)< (l1.length:Int):=of_decide_eq_true zq1
           obtain⟨ad286,e286,hx286_0,hx286_1,hx286_2⟩:=at_T79 HR1.out (ji21) p286 q286
           obtain rfl:ad281=ad286:=(by injection e286)
           replace hx286_0:=zhx HB hx286_0
           replace hx286_1:=zhx HB hx286_1
           replace hx286_2:=zhx HB hx286_2
           replace p286:=eq_true p286
           replace q286:=eq_true q286
           have hcz28_0:wc.cell? ⟨gb282,0,none⟩=some (.int .i64 ((rd_T79 l1 x9_1).f0)):=(blk_cell BK282.out 0).trans rfl
           have hcz28_1:wc.cell? ⟨gb282,1,none⟩=some (.int .i64 ((rd_T79 l1 x9_1).f1)):=(blk_cell BK282.out 1).trans rfl
           have hcz28_2:wc.cell? ⟨gb282,2,none⟩=some (.int .i64 ((rd_T79 l1 x9_1).f2)):=(blk_cell BK282.out 2).trans rfl
           have hfz28_0:=blk_frozen BK282.out 0
           have hfz28_1:=blk_frozen BK282.out 1
           have hfz28_2:=blk_frozen BK282.out 2
           have p287: 0≤ ((ji21):Int):=of_decide_eq_true zq1
           have q287:(ji21)< (l1.length:Int):=of_decide_eq_true zq1
           obtain⟨ad287,e287,hx287_0,hx287_1,hx287_2⟩:=at_T79 HR1.out (ji21) p287 q287
           obtain rfl:ad281=ad287:=(by injection e287)
           replace hx287_0:=zhx HB hx287_0
           replace hx287_1:=zhx HB hx287_1
           replace hx287_2:=zhx HB hx287_2
           replace p287:=eq_true p287
           replace q287:=eq_true q287
           have p288: 0≤ ((ji21):Int):=of_decide_eq_true zq1
           have q288:(ji21)< (l1.length:Int):=of_decide_eq_true zq1
           obtain⟨ad288,e288,hx288_0,hx288_1,hx288_2⟩:=at_T79 HR1.out (ji21) p288 q288
           obtain rfl:ad281=ad288:=(by injection e288)
           replace hx288_0:=zhx HB hx288_0
           replace hx288_1:=zhx HB hx288_1
           replace hx288_2:=zhx HB hx288_2
           replace p288:=eq_true p288
           replace q288:=eq_true q288
           go_wp2
           repeat(go_quiet (fail);try go_wp2)
           go_ret
           exact⟨by first|rfl|(simp [errW_none,errW_some]<;>rfl)|(simp only [← hji21];first|rfl|(simp [errW_none,errW_some]<;>rfl))|(simp [*,errW_none,errW_some]<;>rfl),by exact zk2 HB GE282.out⟩
          ·rw [if_neg c27] at H
           have c27b0:decide (((rd_T79 l1 x9_1).f1)≤ ((rd_T79 l1 (ji21)).f1))=false:=decide_eq_false c27
           clear c27
           have H':=Aside0.mk H
           clear H
           have p286: 0≤ ((ji21):Int):=of_decide_eq_true zq1
           have q286:(ji21)< (l1.length:Int):=of_decide_eq_true zq1
           obtain⟨ad286,e286,hx286_0,hx286_1,hx286_2⟩:=at_T79 HR1.out (ji21) p286 q286
           obtain rfl:ad281=ad286:=(by injection e286)
           replace hx286_0:=zhx HB hx286_0
           replace hx286_1:=zhx HB hx286_1
           replace hx286_2:=zhx HB hx286_2
           replace p286:=eq_true p286
           replace q286:=eq_true q286
           have hcz29_0:wc.cell? ⟨gb282,0,none⟩=some (.int .i64 ((rd_T79 l1 x9_1).f0)):=(blk_cell BK282.out 0).trans rfl
           have hcz29_1:wc.cell? ⟨gb282,1,none⟩=some (.int .i64 ((rd_T79 l1 x9_1).f1)):=(blk_cell BK282.out 1).trans rfl
           have hcz29_2:wc.cell? ⟨gb282,2,none⟩=some (.int .i64 ((rd_T79 l1 x9_1).f2)):=(blk_cell BK282.out 2).trans rfl
           have hfz29_0:=blk_frozen BK282.out 0
           have hfz29_1:=blk_frozen BK282.out 1
           have hfz29_2:=blk_frozen BK282.out 2
           have p287: 0≤ ((ji21):Int):=of_decide_eq_true zq1
           have q287:(ji21)< (l1.length:Int):=of_decide_eq_true zq1
           obtain⟨ad287,e287,hx287_0,hx287_1,hx287_2⟩:=at_T79 HR1.out (ji21) p287 q287
           obtain rfl:ad281=ad287:=(by injection e287)
           replace hx287_0:=zhx HB hx287_0
           replace hx287_1:=zhx HB hx287_1
           replace hx287_2:=zhx HB hx287_2
           replace p287:=eq_true p287
           replace q287:=eq_true q287
           have p288: 0≤ ((ji21):Int):=of_decide_eq_true zq1
           have q288:(ji21)< (l1.length:Int):=of_decide_eq_true zq1
           obtain⟨ad288,e288,hx288_0,hx288_1,hx288_2⟩:=at_T79 HR1.out (ji21) p288 q288
           obtain rfl:ad281=ad288:=(by injection e288)
           replace hx288_0:=zhx HB hx288_0
           replace hx288_1:=zhx HB hx288_1
           replace hx288_2:=zhx HB hx288_2
           replace p288:=eq_true p288
           replace q288:=eq_true q288
           go_wp2
           repeat(go_quiet (fail);try go_wp2)
           go_roundg kj5
           case measure=>have:=HK1.out;have:=HJ5.out;omega
           case rel=>exact⟨(wrap64 (x9_1+1)),(by first|rfl|(simp;done)|(simp [*];done)),H',⟨by have:=HK1.out;have:=HJ5.out;omega⟩,⟨by exact zk2 HB GE282.out⟩⟩
         ·rw [if_neg c26] at H
          have c26b0:(((rd_T79 l1 (ji21)).f0)== ((rd_T79 l1 x9_1).f0))=false:=beq_eq_false_iff_ne.mpr c26
          have c26b1:(((rd_T79 l1 (ji21)).f0) != ((rd_T79 l1 x9_1).f0))=true:=bne_iff_ne.mpr c26
          have H':=Aside0.mk H
          clear H
          have p286: 0≤ ((ji21):Int):=of_decide_eq_true zq1
          have q286:(ji21)< (l1.length:Int):=of_decide_eq_true zq1
          obtain⟨ad286,e286,hx286_0,hx286_1,hx286_2⟩:=at_T79 HR1.out (ji21) p286 q286
          obtain rfl:ad281=ad286:=(by injection e286)
          replace hx286_0:=zhx HB hx286_0
          replace hx286_1:=zhx HB hx286_1
          replace hx286_2:=zhx HB hx286_2
          replace p286:=eq_true p286
          replace q286:=eq_true q286
          have hcz30_0:wc.cell? ⟨gb282,0,none⟩=some (.int .i64 ((rd_T79 l1 x9_1).f0)):=(blk_cell BK282.out 0).trans rfl
          have hcz30_1:wc.cell? ⟨gb282,1,none⟩=some (.int .i64 ((rd_T79 l1 x9_1).f1)):=(blk_cell BK282.out 1).trans rfl
          have hcz30_2:wc.cell? ⟨gb282,2,none⟩=some (.int .i64 ((rd_T79 l1 x9_1).f2)):=(blk_cell BK282.out 2).trans rfl
          have hfz30_0:=blk_frozen BK282.out 0
          have hfz30_1:=blk_frozen BK282.out 1
          have hfz30_2:=blk_frozen BK282.out 2
          have p287: 0≤ ((ji21):Int):=of_decide_eq_true zq1
          have q287:(ji21)< (l1.length:Int):=of_decide_eq_true zq1
          obtain⟨ad287,e287,hx287_0,hx287_1,hx287_2⟩:=at_T79 HR1.out (ji21) p287 q287
          obtain rfl:ad281=ad287:=(by injection e287)
          replace hx287_0:=zhx HB hx287_0
          replace hx287_1:=zhx HB hx287_1
          replace hx287_2:=zhx HB hx287_2
          replace p287:=eq_true p287
          replace q287:=eq_true q287
          go_wp2
          repeat(go_quiet (fail);try go_wp2)
          go_roundg kj5
          case measure=>have:=HK1.out;have:=HJ5.out;omega
          case rel=>exact⟨(wrap64 (x9_1+1)),(by first|rfl|(simp;done)|(simp [*];done)),H',⟨by have:=HK1.out;have:=HJ5.out;omega⟩,⟨by exact zk2 HB GE282.out⟩⟩
       ·rw [if_neg c20] at H
        have c20b0:decide (0<x9_1)=false:=decide_eq_false c20
        clear c20
        have H':=Aside0.mk H
        clear H
        go_wp2
        repeat(go_quiet (fail);try go_wp2)
        go_roundg kj5
        case measure=>have:=HK1.out;have:=HJ5.out;omega
        case rel=>exact⟨(wrap64 (x9_1+1)),(by first|rfl|(simp;done)|(simp [*];done)),H',⟨by have:=HK1.out;have:=HJ5.out;omega⟩,⟨by exact zk2 HB GE282.out⟩⟩
   ·rw [if_neg c3] at H
    have c3b0:decide (x9_1< (l1.length:Int))=false:=decide_eq_false c3
    clear c3
    replace H:=Option.bind_eq_some_iff.mp H
    obtain⟨t280,A310,H⟩:=H
    replace H:(if t280=true then(some (decide ((l1.length:Int)≤40))) else(some false))=some r:=H
    have A31:=Aside0.mk A310
    clear A310
    by_cases c32:t280=true
    ·subst c32
     have H1:(some (decide ((l1.length:Int)≤40)))=some r:=by rw [if_pos rfl] at H;exact H
     clear H
     have H:=H1
     clear H1
     obtain rfl:=Option.some.inj H
     go_wp2_with (first|(go_at_call 59;(with_reducible refine(spec_l1In.calls a0 1 12 true _ A31.out).mono ?_);rintro e w' ⟨rfl,⟨nd,rfl⟩⟩;(try first|exact⟨rfl,_,World.drewN_drewN _ _ _⟩|exact⟨rfl,_,Eq.trans (World.drewN_drewN _ _ _) (congrArg (World.drewN _) (Nat.add_assoc _ _ _))⟩)))
     repeat(go_quiet (first|(go_at_call 59;(with_reducible refine(spec_l1In.calls a0 1 12 true _ A31.out).mono ?_);rintro e w' ⟨rfl,⟨nd,rfl⟩⟩;(try first|exact⟨rfl,_,World.drewN_drewN _ _ _⟩|exact⟨rfl,_,Eq.trans (World.drewN_drewN _ _ _) (congrArg (World.drewN _) (Nat.add_assoc _ _ _))⟩)));try go_wp2_with (first|(go_at_call 59;(with_reducible refine(spec_l1In.calls a0 1 12 true _ A31.out).mono ?_);rintro e w' ⟨rfl,⟨nd,rfl⟩⟩;(try first|exact⟨rfl,_,World.drewN_drewN _ _ _⟩|exact⟨rfl,_,Eq.trans (World.drewN_drewN _ _ _) (congrArg (World.drewN _) (Nat.add_assoc _ _ _))⟩))))
     go_ret
     exact⟨by first|rfl|(simp [errW_none,errW_some]<;>rfl)|(simp [*,errW_none,errW_some]<;>rfl),by exact zk1 HB⟩
    ·replace c32:=Bool.eq_false_iff.mpr c32
     subst c32
     have H1:(some false)=some r:=by rw [if_neg (show ¬ (false=true) by decide)] at H;exact H
     clear H
     have H:=H1
     clear H1
     obtain rfl:=Option.some.inj H
     go_wp2_with (first|(go_at_call 59;(with_reducible refine(spec_l1In.calls a0 1 12 false _ A31.out).mono ?_);rintro e w' ⟨rfl,⟨nd,rfl⟩⟩;(try first|exact⟨rfl,_,World.drewN_drewN _ _ _⟩|exact⟨rfl,_,Eq.trans (World.drewN_drewN _ _ _) (congrArg (World.drewN _) (Nat.add_assoc _ _ _))⟩)))
     repeat(go_quiet (first|(go_at_call 59;(with_reducible refine(spec_l1In.calls a0 1 12 false _ A31.out).mono ?_);rintro e w' ⟨rfl,⟨nd,rfl⟩⟩;(try first|exact⟨rfl,_,World.drewN_drewN _ _ _⟩|exact⟨rfl,_,Eq.trans (World.drewN_drewN _ _ _) (congrArg (World.drewN _) (Nat.add_assoc _ _ _))⟩)));try go_wp2_with (first|(go_at_call 59;(with_reducible refine(spec_l1In.calls a0 1 12 false _ A31.out).mono ?_);rintro e w' ⟨rfl,⟨nd,rfl⟩⟩;(try first|exact⟨rfl,_,World.drewN_drewN _ _ _⟩|exact⟨rfl,_,Eq.trans (World.drewN_drewN _ _ _) (congrArg (World.drewN _) (Nat.add_assoc _ _ _))⟩))))
     go_ret
     exact⟨by first|rfl|(simp [errW_none,errW_some]<;>rfl)|(simp [*,errW_none,errW_some]<;>rfl),by exact zk1 HB⟩
def spec_l9Edge.l0:Nat→Int→Int→List (S79)→Int→Int→Option (Int)
 | 0,_,_,_,_,_=>none
 |k+1,x1,x2,x9,x10,x11=>if x11<x10 then(if 0≤x11 then(if x11< (x9.length:Int) then(if ((rd_T79 x9 x11).f0)=x1 then(if ((rd_T79 x9 x11).f1)=x2 then(some ((rd_T79 x9 x11).f2)) else(if ((rd_T79 x9 x11).f0)=x2 then(if ((rd_T79 x9 x11).f1)=x1 then(some ((rd_T79 x9 x11).f2)) else(spec_l9Edge.l0 k x1 x2 x9 x10 (wrap64 (x11+1)))) else(spec_l9Edge.l0 k x1 x2 x9 x10 (wrap64 (x11+1))))) else(if ((rd_T79 x9 x11).f0)=x2 then(if ((rd_T79 x9 x11).f1)=x1 then(some ((rd_T79 x9 x11).f2)) else(spec_l9Edge.l0 k x1 x2 x9 x10 (wrap64 (x11+1)))) else(spec_l9Edge.l0 k x1 x2 x9 x10 (wrap64 (x11+1))))) else(none)) else(none)) else(some 0)
def spec_l9Edge.f (k:Nat) (l0:List (S79)) (a1:Int) (a2:Int):Option (Int):=spec_l9Edge.l0 k a1 a2 l0 (l0.length:Int) 0
set_option maxHeartbeats 8000000 in
set_option maxRecDepth 100000 in
theorem spec_l9Edge.calls (k:Nat) (A0:Option Addr) (c0:Nat) (l0:List (S79)) (a1:Int) (a2:Int) (r:Int) (w:World) (hr0:Kd.C k79 w A0 l0.length l0) (hc0:l0.length≤c0) (h:spec_l9Edge.f k l0 a1 a2=some r):
  Calls Try.prog 67 #[.slice A0 l0.length c0,.int .i64 a1,.int .i64 a2] w fun e w'=>e= .returned (.int .i64 r)∧Below w.heap.size w w':=by
 have hu79:=Try.underlying79
 have HR0:=Aside0.mk hr0
 have HC0:=Aside0.mk hc0
 clear hr0 hc0
 have HB:=Aside0.mk (Below.refl w.heap.size w)
 have H:(spec_l9Edge.l0 k a1 a2 l0 (l0.length:Int) 0)=some r:=h
 clear h
 have H':=Aside0.mk H
 clear H
 go_enter Try.func67,Try.ntmps67
 go_wp2
 go_loopg [11] k (fun kq v11 w'=> ∃ (x11_1:Int),v11= .int .i64 x11_1∧Aside0 (spec_l9Edge.l0 kq a1 a2 l0 (l0.length:Int) x11_1=some r)∧Aside0 (kq≤k)∧Aside0 (Below w.heap.size w w'))
 case atStart=>exact⟨(0),(by first|rfl|(simp;done)|(simp [*];done)),H',⟨Nat.le_refl _⟩,⟨by exact zk1 HB⟩⟩
 case round=>
  clear H'
  try clear p2
  obtain⟨x11_1,rfl,HA,HK1,HB⟩:=hrel
  cases gk with
  |zero=>exact absurd HA.out (by simp [spec_l9Edge.l0])
  |succ k1=>
   have H:=HA.out
   clear HA
   simp only [spec_l9Edge.l0] at H
   by_cases c4:x11_1< (l0.length:Int)
   ·rw [if_pos c4] at H
    have c4b0:decide (x11_1< (l0.length:Int))=true:=decide_eq_true c4
    clear c4
    by_cases c5: 0≤x11_1
    case neg=>rw [if_neg c5] at H;exact absurd H (by simp)
    rw [if_pos c5] at H
    have c5b0:decide (0≤x11_1)=true:=decide_eq_true c5
    clear c5
    by_cases c6:x11_1< (l0.length:Int)
    case neg=>rw [if_neg c6] at H;exact absurd H (by simp)
    rw [if_pos c6] at H
    have c6b0:decide (x11_1< (l0.length:Int))=true:=decide_eq_true c6
    clear c6
    by_cases c7:((rd_T79 l0 x11_1).f0)=a1
    ·rw [if_pos c7] at H
     have c7b0:(((rd_T79 l0 x11_1).f0)==a1)=true:=beq_iff_eq.mpr c7
     have c7b1:(((rd_T79 l0 x11_1).f0) !=a1)=false:=bne_eq_false_iff_eq.mpr c7
     clear c7
     by_cases c8:((rd_T79 l0 x11_1).f1)=a2
     ·rw [if_pos c8] at H
      have c8b0:(((rd_T79 l0 x11_1).f1)==a2)=true:=beq_iff_eq.mpr c8
      have c8b1:(((rd_T79 l0 x11_1).f1) !=a2)=false:=bne_eq_false_iff_eq.mpr c8
      clear c8
      obtain rfl:=Option.some.inj H
      have p289: 0≤ (x11_1:Int):=of_decide_eq_true zq1
      have q289:x11_1< (l0.length:Int):=of_decide_eq_true zq1
      obtain⟨ad289,e289,hx289_0,hx289_1,hx289_2⟩:=at_T79 HR0.out x11_1 p289 q289
      cases e289
      replace hx289_0:=zhx HB hx289_0
      replace hx289_1:=zhx HB hx289_1
      replace hx289_2:=zhx HB hx289_2
      replace p289:=eq_true p289
      replace q289:=eq_true q289
      go_wp2_with (first|((with_reducible refine gate_dst (N:=8) rfl ?_);refine box_event ?hg (N:=8) ?hd (cs:= #[.int .i64 0,.int .i64 0,.int .i64 0]) (t:=79) ?hr ?_;(case hd=>rfl);(case hg=>rfl);(case hr=>first|(go_simp;done)|(go_simp;rfl));intro gb290 hg w9 hbox hb;have BK290:=Aside0.mk (hbox);have GW290:=Aside0.mk ((by rw [hg];exact(below_size (by exact zk1 HB)):w.heap.size≤gb290));have GE290:=Aside0.mk ((by rw [hg];exact(below_size (by exact zk1 HB)):w.heap.size≤gb290));replace HB:=Aside0.mk (below_step (by exact zk1 HB) hb);clear hb hbox hg;have hcz10_0:w9.cell? ⟨gb290,0,none⟩=some (.int .i64 0):=(blk_cell BK290.out 0).trans rfl;have hcz10_1:w9.cell? ⟨gb290,1,none⟩=some (.int .i64 0):=(blk_cell BK290.out 1).trans rfl;have hcz10_2:w9.cell? ⟨gb290,2,none⟩=some (.int .i64 0):=(blk_cell BK290.out 2).trans rfl;have hfz10_0:=blk_frozen BK290.out 0;have hfz10_1:=blk_frozen BK290.out 1;have hfz10_2:=blk_frozen BK290.out 2))
      go_ret
      exact⟨by first|rfl|(simp [errW_none,errW_some]<;>rfl)|(simp [*,errW_none,errW_some]<;>rfl),by exact zk2 HB GE290.out⟩
     ·rw [if_neg c8] at H
      have c8b0:(((rd_T79 l0 x11_1).f1)==a2)=false:=beq_eq_false_iff_ne.mpr c8
      have c8b1:(((rd_T79 l0 x11_1).f1) !=a2)=true:=bne_iff_ne.mpr c8
      by_cases c11:((rd_T79 l0 x11_1).f0)=a2
      ·rw [if_pos c11] at H
       have c11b0:(((rd_T79 l0 x11_1).f0)==a2)=true:=beq_iff_eq.mpr c11
       have c11b1:(((rd_T79 l0 x11_1).f0) !=a2)=false:=bne_eq_false_iff_eq.mpr c11
       clear c11
       by_cases c12:((rd_T79 l0 x11_1).f1)=a1
       ·rw [if_pos c12] at H
        have c12b0:(((rd_T79 l0 x11_1).f1)==a1)=true:=beq_iff_eq.mpr c12
        have c12b1:(((rd_T79 l0 x11_1).f1) !=a1)=false:=bne_eq_false_iff_eq.mpr c12
        clear c12
        obtain rfl:=Option.some.inj H
        have p289: 0≤ (x11_1:Int):=of_decide_eq_true zq1
        have q289:x11_1< (l0.length:Int):=of_decide_eq_true zq1
        obtain⟨ad289,e289,hx289_0,hx289_1,hx289_2⟩:=at_T79 HR0.out x11_1 p289 q289
        cases e289
        replace hx289_0:=zhx HB hx289_0
        replace hx289_1:=zhx HB hx289_1
        replace hx289_2:=zhx HB hx289_2
        replace p289:=eq_true p289
        replace q289:=eq_true q289
        go_wp2_with (first|((with_reducible refine gate_dst (N:=8) rfl ?_);refine box_event ?hg (N:=8) ?hd (cs:= #[.int .i64 0,.int .i64 0,.int .i64 0]) (t:=79) ?hr ?_;(case hd=>rfl);(case hg=>rfl);(case hr=>first|(go_simp;done)|(go_simp;rfl));intro gb290 hg w13 hbox hb;have BK290:=Aside0.mk (hbox);have GW290:=Aside0.mk ((by rw [hg];exact(below_size (by exact zk1 HB)):w.heap.size≤gb290));have GE290:=Aside0.mk ((by rw [hg];exact(below_size (by exact zk1 HB)):w.heap.size≤gb290));replace HB:=Aside0.mk (below_step (by exact zk1 HB) hb);clear hb hbox hg;have hcz14_0:w13.cell? ⟨gb290,0,none⟩=some (.int .i64 0):=(blk_cell BK290.out 0).trans rfl;have hcz14_1:w13.cell? ⟨gb290,1,none⟩=some (.int .i64 0):=(blk_cell BK290.out 1).trans rfl;have hcz14_2:w13.cell? ⟨gb290,2,none⟩=some (.int .i64 0):=(blk_cell BK290.out 2).trans rfl;have hfz14_0:=blk_frozen BK290.out 0;have hfz14_1:=blk_frozen BK290.out 1;have hfz14_2:=blk_frozen BK290.out 2))
        go_ret
        exact⟨by first|rfl|(simp [errW_none,errW_some]<;>rfl)|(simp [*,errW_none,errW_some]<;>rfl),by exact zk2 HB GE290.out⟩
       ·rw [if_neg c12] at H
        have c12b0:(((rd_T79 l0 x11_1).f1)==a1)=false:=beq_eq_false_iff_ne.mpr c12
        have c12b1:(((rd_T79 l0 x11_1).f1) !=a1)=true:=bne_iff_ne.mpr c12
        have H':=Aside0.mk H
        clear H
        have p289: 0≤ (x11_1:Int):=of_decide_eq_true zq1
        have q289:x11_1< (l0.length:Int):=of_decide_eq_true zq1
        obtain⟨ad289,e289,hx289_0,hx289_1,hx289_2⟩:=at_T79 HR0.out x11_1 p289 q289
        cases e289
        replace hx289_0:=zhx HB hx289_0
        replace hx289_1:=zhx HB hx289_1
        replace hx289_2:=zhx HB hx289_2
        replace p289:=eq_true p289
        replace q289:=eq_true q289
        go_wp2_with (first|((with_reducible refine gate_dst (N:=8) rfl ?_);refine box_event ?hg (N:=8) ?hd (cs:= #[.int .i64 0,.int .i64 0,.int .i64 0]) (t:=79) ?hr ?_;(case hd=>rfl);(case hg=>rfl);(case hr=>first|(go_simp;done)|(go_simp;rfl));intro gb290 hg w15 hbox hb;have BK290:=Aside0.mk (hbox);have GW290:=Aside0.mk ((by rw [hg];exact(below_size (by exact zk1 HB)):w.heap.size≤gb290));have GE290:=Aside0.mk ((by rw [hg];exact(below_size (by exact zk1 HB)):w.heap.size≤gb290));replace HB:=Aside0.mk (below_step (by exact zk1 HB) hb);clear hb hbox hg;have hcz16_0:w15.cell? ⟨gb290,0,none⟩=some (.int .i64 0):=(blk_cell BK290.out 0).trans rfl;have hcz16_1:w15.cell? ⟨gb290,1,none⟩=some (.int .i64 0):=(blk_cell BK290.out 1).trans rfl;have hcz16_2:w15.cell? ⟨gb290,2,none⟩=some (.int .i64 0):=(blk_cell BK290.out 2).trans rfl;have hfz16_0:=blk_frozen BK290.out 0;have hfz16_1:=blk_frozen BK290.out 1;have hfz16_2:=blk_frozen BK290.out 2))
        go_roundg k1
        case measure=>have:=HK1.out;omega
        case rel=>exact⟨(wrap64 (x11_1+1)),(by first|rfl|(simp;done)|(simp [*];done)),H',⟨by have:=HK1.out;omega⟩,⟨by exact zk2 HB GE290.out⟩⟩
      ·rw [if_neg c11] at H
       have c11b0:(((rd_T79 l0 x11_1).f0)==a2)=false:=beq_eq_false_iff_ne.mpr c11
       have c11b1:(((rd_T79 l0 x11_1).f0) !=a2)=true:=bne_iff_ne.mpr c11
       have H':=Aside0.mk H
       clear H
       have p289: 0≤ (x11_1:Int):=of_decide_eq_true zq1
       have q289:x11_1< (l0.length:Int):=of_decide_eq_true zq1
       obtain⟨ad289,e289,hx289_0,hx289_1,hx289_2⟩:=at_T79 HR0.out x11_1 p289 q289
       cases e289
       replace hx289_0:=zhx HB hx289_0
       replace hx289_1:=zhx HB hx289_1
       replace hx289_2:=zhx HB hx289_2
       replace p289:=eq_true p289
       replace q289:=eq_true q289
       go_wp2_with (first|((with_reducible refine gate_dst (N:=8) rfl ?_);refine box_event ?hg (N:=8) ?hd (cs:= #[.int .i64 0,.int .i64 0,.int .i64 0]) (t:=79) ?hr ?_;(case hd=>rfl);(case hg=>rfl);(case hr=>first|(go_simp;done)|(go_simp;rfl));intro gb290 hg w17 hbox hb;have BK290:=Aside0.mk (hbox);have GW290:=Aside0.mk ((by rw [hg];exact(below_size (by exact zk1 HB)):w.heap.size≤gb290));have GE290:=Aside0.mk ((by rw [hg];exact(below_size (by exact zk1 HB)):w.heap.size≤gb290));replace HB:=Aside0.mk (below_step (by exact zk1 HB) hb);clear hb hbox hg;have hcz18_0:w17.cell? ⟨gb290,0,none⟩=some (.int .i64 0):=(blk_cell BK290.out 0).trans rfl;have hcz18_1:w17.cell? ⟨gb290,1,none⟩=some (.int .i64 0):=(blk_cell BK290.out 1).trans rfl;have hcz18_2:w17.cell? ⟨gb290,2,none⟩=some (.int .i64 0):=(blk_cell BK290.out 2).trans rfl;have hfz18_0:=blk_frozen BK290.out 0;have hfz18_1:=blk_frozen BK290.out 1;have hfz18_2:=blk_frozen BK290.out 2))
       go_roundg k1
       case measure=>have:=HK1.out;omega
       case rel=>exact⟨(wrap64 (x11_1+1)),(by first|rfl|(simp;done)|(simp [*];done)),H',⟨by have:=HK1.out;omega⟩,⟨by exact zk2 HB GE290.out⟩⟩
    ·rw [if_neg c7] at H
     have c7b0:(((rd_T79 l0 x11_1).f0)==a1)=false:=beq_eq_false_iff_ne.mpr c7
     have c7b1:(((rd_T79 l0 x11_1).f0) !=a1)=true:=bne_iff_ne.mpr c7
     by_cases c19:((rd_T79 l0 x11_1).f0)=a2
     ·rw [if_pos c19] at H
      have c19b0:(((rd_T79 l0 x11_1).f0)==a2)=true:=beq_iff_eq.mpr c19
      have c19b1:(((rd_T79 l0 x11_1).f0) !=a2)=false:=bne_eq_false_iff_eq.mpr c19
      clear c19
      by_cases c20:((rd_T79 l0 x11_1).f1)=a1
      ·rw [if_pos c20] at H
       have c20b0:(((rd_T79 l0 x11_1).f1)==a1)=true:=beq_iff_eq.mpr c20
       have c20b1:(((rd_T79 l0 x11_1).f1) !=a1)=false:=bne_eq_false_iff_eq.mpr c20
       clear c20
       obtain rfl:=Option.some.inj H
       have p289: 0≤ (x11_1:Int):=of_decide_eq_true zq1
       have q289:x11_1< (l0.length:Int):=of_decide_eq_true zq1
       obtain⟨ad289,e289,hx289_0,hx289_1,hx289_2⟩:=at_T79 HR0.out x11_1 p289 q289
       cases e289
       replace hx289_0:=zhx HB hx289_0
       replace hx289_1:=zhx HB hx289_1
       replace hx289_2:=zhx HB hx289_2
       replace p289:=eq_true p289
       replace q289:=eq_true q289
       go_wp2_with (first|((with_reducible refine gate_dst (N:=8) rfl ?_);refine box_event ?hg (N:=8) ?hd (cs:= #[.int .i64 0,.int .i64 0,.int .i64 0]) (t:=79) ?hr ?_;(case hd=>rfl);(case hg=>rfl);(case hr=>first|(go_simp;done)|(go_simp;rfl));intro gb290 hg w21 hbox hb;have BK290:=Aside0.mk (hbox);have GW290:=Aside0.mk ((by rw [hg];exact(below_size (by exact zk1 HB)):w.heap.size≤gb290));have GE290:=Aside0.mk ((by rw [hg];exact(below_size (by exact zk1 HB)):w.heap.size≤gb290));replace HB:=Aside0.mk (below_step (by exact zk1 HB) hb);clear hb hbox hg;have hcz22_0:w21.cell? ⟨gb290,0,none⟩=some (.int .i64 0):=(blk_cell BK290.out 0).trans rfl;have hcz22_1:w21.cell? ⟨gb290,1,none⟩=some (.int .i64 0):=(blk_cell BK290.out 1).trans rfl;have hcz22_2:w21.cell? ⟨gb290,2,none⟩=some (.int .i64 0):=(blk_cell BK290.out 2).trans rfl;have hfz22_0:=blk_frozen BK290.out 0;have hfz22_1:=blk_frozen BK290.out 1;have hfz22_2:=blk_frozen BK290.out 2))
       go_ret
       exact⟨by first|rfl|(simp [errW_none,errW_some]<;>rfl)|(simp [*,errW_none,errW_some]<;>rfl),by exact zk2 HB GE290.out⟩
      ·rw [if_neg c20] at H
       have c20b0:(((rd_T79 l0 x11_1).f1)==a1)=false:=beq_eq_false_iff_ne.mpr c20
       have c20b1:(((rd_T79 l0 x11_1).f1) !=a1)=true:=bne_iff_ne.mpr c20
       have H':=Aside0.mk H
       clear H
       have p289: 0≤ (x11_1:Int):=of_decide_eq_true zq1
       have q289:x11_1< (l0.length:Int):=of_decide_eq_true zq1
       obtain⟨ad289,e289,hx289_0,hx289_1,hx289_2⟩:=at_T79 HR0.out x11_1 p289 q289
       cases e289
       replace hx289_0:=zhx HB hx289_0
       replace hx289_1:=zhx HB hx289_1
       replace hx289_2:=zhx HB hx289_2
       replace p289:=eq_true p289
       replace q289:=eq_true q289
       go_wp2_with (first|((with_reducible refine gate_dst (N:=8) rfl ?_);refine box_event ?hg (N:=8) ?hd (cs:= #[.int .i64 0,.int .i64 0,.int .i64 0]) (t:=79) ?hr ?_;(case hd=>rfl);(case hg=>rfl);(case hr=>first|(go_simp;done)|(go_simp;rfl));intro gb290 hg w23 hbox hb;have BK290:=Aside0.mk (hbox);have GW290:=Aside0.mk ((by rw [hg];exact(below_size (by exact zk1 HB)):w.heap.size≤gb290));have GE290:=Aside0.mk ((by rw [hg];exact(below_size (by exact zk1 HB)):w.heap.size≤gb290));replace HB:=Aside0.mk (below_step (by exact zk1 HB) hb);clear hb hbox hg;have hcz24_0:w23.cell? ⟨gb290,0,none⟩=some (.int .i64 0):=(blk_cell BK290.out 0).trans rfl;have hcz24_1:w23.cell? ⟨gb290,1,none⟩=some (.int .i64 0):=(blk_cell BK290.out 1).trans rfl;have hcz24_2:w23.cell? ⟨gb290,2,none⟩=some (.int .i64 0):=(blk_cell BK290.out 2).trans rfl;have hfz24_0:=blk_frozen BK290.out 0;have hfz24_1:=blk_frozen BK290.out 1;have hfz24_2:=blk_frozen BK290.out 2))
       go_roundg k1
       case measure=>have:=HK1.out;omega
       case rel=>exact⟨(wrap64 (x11_1+1)),(by first|rfl|(simp;done)|(simp [*];done)),H',⟨by have:=HK1.out;omega⟩,⟨by exact zk2 HB GE290.out⟩⟩
     ·rw [if_neg c19] at H
      have c19b0:(((rd_T79 l0 x11_1).f0)==a2)=false:=beq_eq_false_iff_ne.mpr c19
      have c19b1:(((rd_T79 l0 x11_1).f0) !=a2)=true:=bne_iff_ne.mpr c19
      have H':=Aside0.mk H
      clear H
      have p289: 0≤ (x11_1:Int):=of_decide_eq_true zq1
      have q289:x11_1< (l0.length:Int):=of_decide_eq_true zq1
      obtain⟨ad289,e289,hx289_0,hx289_1,hx289_2⟩:=at_T79 HR0.out x11_1 p289 q289
      cases e289
      replace hx289_0:=zhx HB hx289_0
      replace hx289_1:=zhx HB hx289_1
      replace hx289_2:=zhx HB hx289_2
      replace p289:=eq_true p289
      replace q289:=eq_true q289
      go_wp2_with (first|((with_reducible refine gate_dst (N:=8) rfl ?_);refine box_event ?hg (N:=8) ?hd (cs:= #[.int .i64 0,.int .i64 0,.int .i64 0]) (t:=79) ?hr ?_;(case hd=>rfl);(case hg=>rfl);(case hr=>first|(go_simp;done)|(go_simp;rfl));intro gb290 hg w25 hbox hb;have BK290:=Aside0.mk (hbox);have GW290:=Aside0.mk ((by rw [hg];exact(below_size (by exact zk1 HB)):w.heap.size≤gb290));have GE290:=Aside0.mk ((by rw [hg];exact(below_size (by exact zk1 HB)):w.heap.size≤gb290));replace HB:=Aside0.mk (below_step (by exact zk1 HB) hb);clear hb hbox hg;have hcz26_0:w25.cell? ⟨gb290,0,none⟩=some (.int .i64 0):=(blk_cell BK290.out 0).trans rfl;have hcz26_1:w25.cell? ⟨gb290,1,none⟩=some (.int .i64 0):=(blk_cell BK290.out 1).trans rfl;have hcz26_2:w25.cell? ⟨gb290,2,none⟩=some (.int .i64 0):=(blk_cell BK290.out 2).trans rfl;have hfz26_0:=blk_frozen BK290.out 0;have hfz26_1:=blk_frozen BK290.out 1;have hfz26_2:=blk_frozen BK290.out 2))
      go_roundg k1
      case measure=>have:=HK1.out;omega
      case rel=>exact⟨(wrap64 (x11_1+1)),(by first|rfl|(simp;done)|(simp [*];done)),H',⟨by have:=HK1.out;omega⟩,⟨by exact zk2 HB GE290.out⟩⟩
   ·rw [if_neg c4] at H
    have c4b0:decide (x11_1< (l0.length:Int))=false:=decide_eq_false c4
    clear c4
    obtain rfl:=Option.some.inj H
    go_wp2
    go_ret
    exact⟨by first|rfl|(simp [errW_none,errW_some]<;>rfl)|(simp [*,errW_none,errW_some]<;>rfl),by exact zk1 HB⟩
def impl_byEnds.f (a0_0:Int) (a0_1:Int) (a0_2:Int) (a1_0:Int) (a1_1:Int) (a1_2:Int):Option (Int):=if a0_0=a1_0 then(some (wrap64 (a0_1 - a1_1))) else(some (wrap64 (a0_0 - a1_0)))
set_option maxHeartbeats 8000000 in
set_option maxRecDepth 100000 in
theorem impl_byEnds.calls (a0_0:Int) (a0_1:Int) (a0_2:Int) (a1_0:Int) (a1_1:Int) (a1_2:Int) (r:Int) (w:World) (h:impl_byEnds.f a0_0 a0_1 a0_2 a1_0 a1_1 a1_2=some r):
  Calls Try.prog 93 #[.agg #[.int .i64 a0_0,.int .i64 a0_1,.int .i64 a0_2],.agg #[.int .i64 a1_0,.int .i64 a1_1,.int .i64 a1_2]] w fun e w'=>e= .returned (.int .i64 r)∧Below w.heap.size w w':=by
 have hu79:=Try.underlying79
 have HB:=Aside0.mk (Below.refl w.heap.size w)
 have H:(if a0_0=a1_0 then(some (wrap64 (a0_1 - a1_1))) else(some (wrap64 (a0_0 - a1_0))))=some r:=h
 clear h
 by_cases c3:a0_0=a1_0
 ·rw [if_pos c3] at H
  have c3b0:(a0_0==a1_0)=true:=beq_iff_eq.mpr c3
  have c3b1:(a0_0 !=a1_0)=false:=bne_eq_false_iff_eq.mpr c3
  clear c3
  obtain rfl:=Option.some.inj H
  go_enter Try.func93,Try.ntmps93
  go_wp2_with (first|((with_reducible refine gate_dst (N:=2) rfl ?_);refine box_event ?hg (N:=2) ?hd (cs:= #[.int .i64 a0_0,.int .i64 a0_1,.int .i64 a0_2]) (t:=79) ?hr ?_;(case hd=>rfl);(case hg=>rfl);(case hr=>first|(go_simp;done)|(go_simp;rfl));intro gb306 hg w4 hbox hb;have BK306:=Aside0.mk (hbox);have GW306:=Aside0.mk ((by rw [hg];exact(below_size (by exact zk1 HB)):w.heap.size≤gb306));have GE306:=Aside0.mk ((by rw [hg];exact(below_size (by exact zk1 HB)):w.heap.size≤gb306));replace HB:=Aside0.mk (below_step (by exact zk1 HB) hb);clear hb hbox hg)|((with_reducible refine gate_dst (N:=3) rfl ?_);refine box_event ?hg (N:=3) ?hd (cs:= #[.int .i64 a1_0,.int .i64 a1_1,.int .i64 a1_2]) (t:=79) ?hr ?_;(case hd=>rfl);(case hg=>rfl);(case hr=>first|(go_simp;done)|(go_simp;rfl));intro gb307 hg w5 hbox hb;have BK307:=Aside0.mk (hbox);have GW307:=Aside0.mk ((by rw [hg];exact(below_size (by exact zk2 HB GE306.out)):w.heap.size≤gb307));have GE307:=Aside0.mk ((by rw [hg];exact(below_size (by exact zk2 HB GE306.out)):w.heap.size≤gb307));have NB306_307:=Aside0.mk ((by rw [hg];exact Nat.ne_of_lt (blk_lt (g:=gb306) (o:= .cells #[.int .i64 a0_0,.int .i64 a0_1,.int .i64 a0_2] 79 (0,0)) (zq3 BK306)):gb306≠gb307));have NB307_306:=Aside0.mk ((by rw [hg];exact Nat.ne_of_gt (blk_lt (g:=gb306) (o:= .cells #[.int .i64 a0_0,.int .i64 a0_1,.int .i64 a0_2] 79 (0,0)) (zq3 BK306)):gb307≠gb306));replace BK306:=Aside0.mk (blk_below (g:=gb306) (o:= .cells #[.int .i64 a0_0,.int .i64 a0_1,.int .i64 a0_2] 79 (0,0)) (zq3 BK306) hb);replace HB:=Aside0.mk (below_step (by exact zk2 HB GE306.out) hb);clear hb hbox hg;have hnb6:=NB306_307.out;have hnc6:=NB307_306.out;have hcz7_0:w5.cell? ⟨gb306,0,none⟩=some (.int .i64 a0_0):=(blk_cell BK306.out 0).trans rfl;have hcz7_1:w5.cell? ⟨gb306,1,none⟩=some (.int .i64 a0_1):=(blk_cell BK306.out 1).trans rfl;have hcz7_2:w5.cell? ⟨gb306,2,none⟩=some (.int .i64 a0_2):=(blk_cell BK306.out 2).trans rfl;have hfz7_0:=blk_frozen BK306.out 0;have hfz7_1:=blk_frozen BK306.out 1;have hfz7_2:=blk_frozen BK306.out 2;have hcz8_0:w5.cell? ⟨gb307,0,none⟩=some (.int .i64 a1_0):=(blk_cell BK307.out 0).trans rfl;have hcz8_1:w5.cell? ⟨gb307,1,none⟩=some (.int .i64 a1_1):=(blk_cell BK307.out 1).trans rfl;have hcz8_2:w5.cell? ⟨gb307,2,none⟩=some (.int .i64 a1_2):=(blk_cell BK307.out 2).trans rfl;have hfz8_0:=blk_frozen BK307.out 0;have hfz8_1:=blk_frozen BK307.out 1;have hfz8_2:=blk_frozen BK307.out 2))
  go_ret
  exact⟨by first|rfl|(simp [errW_none,errW_some]<;>rfl)|(simp [*,errW_none,errW_some]<;>rfl),by exact zk4 HB GE306.out GE307.out⟩
 ·rw [if_neg c3] at H
  have c3b0:(a0_0==a1_0)=false:=beq_eq_false_iff_ne.mpr c3
  have c3b1:(a0_0 !=a1_0)=true:=bne_iff_ne.mpr c3
  obtain rfl:=Option.some.inj H
  go_enter Try.func93,Try.ntmps93
  go_wp2_with (first|((with_reducible refine gate_dst (N:=2) rfl ?_);refine box_event ?hg (N:=2) ?hd (cs:= #[.int .i64 a0_0,.int .i64 a0_1,.int .i64 a0_2]) (t:=79) ?hr ?_;(case hd=>rfl);(case hg=>rfl);(case hr=>first|(go_simp;done)|(go_simp;rfl));intro gb306 hg w9 hbox hb;have BK306:=Aside0.mk (hbox);have GW306:=Aside0.mk ((by rw [hg];exact(below_size (by exact zk1 HB)):w.heap.size≤gb306));have GE306:=Aside0.mk ((by rw [hg];exact(below_size (by exact zk1 HB)):w.heap.size≤gb306));replace HB:=Aside0.mk (below_step (by exact zk1 HB) hb);clear hb hbox hg)|((with_reducible refine gate_dst (N:=3) rfl ?_);refine box_event ?hg (N:=3) ?hd (cs:= #[.int .i64 a1_0,.int .i64 a1_1,.int .i64 a1_2]) (t:=79) ?hr ?_;(case hd=>rfl);(case hg=>rfl);(case hr=>first|(go_simp;done)|(go_simp;rfl));intro gb307 hg w10 hbox hb;have BK307:=Aside0.mk (hbox);have GW307:=Aside0.mk ((by rw [hg];exact(below_size (by exact zk2 HB GE306.out)):w.heap.size≤gb307));have GE307:=Aside0.mk ((by rw [hg];exact(below_size (by exact zk2 HB GE306.out)):w.heap.size≤gb307));have NB306_307:=Aside0.mk ((by rw [hg];exact Nat.ne_of_lt (blk_lt (g:=gb306) (o:= .cells #[.int .i64 a0_0,.int .i64 a0_1,.int .i64 a0_2] 79 (0,0)) (zq3 BK306)):gb306≠gb307));have NB307_306:=Aside0.mk ((by rw [hg];exact Nat.ne_of_gt (blk_lt (g:=gb306) (o:= .cells #[.int .i64 a0_0,.int .i64 a0_1,.int .i64 a0_2] 79 (0,0)) (zq3 BK306)):gb307≠gb306));replace BK306:=Aside0.mk (blk_below (g:=gb306) (o:= .cells #[.int .i64 a0_0,.int .i64 a0_1,.int .i64 a0_2] 79 (0,0)) (zq3 BK306) hb);replace HB:=Aside0.mk (below_step (by exact zk2 HB GE306.out) hb);clear hb hbox hg;have hnb11:=NB306_307.out;have hnc11:=NB307_306.out;have hcz12_0:w10.cell? ⟨gb306,0,none⟩=some (.int .i64 a0_0):=(blk_cell BK306.out 0).trans rfl;have hcz12_1:w10.cell? ⟨gb306,1,none⟩=some (.int .i64 a0_1):=(blk_cell BK306.out 1).trans rfl;have hcz12_2:w10.cell? ⟨gb306,2,none⟩=some (.int .i64 a0_2):=(blk_cell BK306.out 2).trans rfl;have hfz12_0:=blk_frozen BK306.out 0;have hfz12_1:=blk_frozen BK306.out 1;have hfz12_2:=blk_frozen BK306.out 2;have hcz13_0:w10.cell? ⟨gb307,0,none⟩=some (.int .i64 a1_0):=(blk_cell BK307.out 0).trans rfl;have hcz13_1:w10.cell? ⟨gb307,1,none⟩=some (.int .i64 a1_1):=(blk_cell BK307.out 1).trans rfl;have hcz13_2:w10.cell? ⟨gb307,2,none⟩=some (.int .i64 a1_2):=(blk_cell BK307.out 2).trans rfl;have hfz13_0:=blk_frozen BK307.out 0;have hfz13_1:=blk_frozen BK307.out 1;have hfz13_2:=blk_frozen BK307.out 2))
  go_ret
  exact⟨by first|rfl|(simp [errW_none,errW_some]<;>rfl)|(simp [*,errW_none,errW_some]<;>rfl),by exact zk4 HB GE306.out GE307.out⟩
end Go.Proofs.Ytedegfbheihopaa.P
