/- Functions, walks and plain lemmas that the law FnStable reaches, part 7. -/
import Derived.Test.YtoipbblhmcpneaaCFnStable6
import Derived.Below
import Derived.Deep.Draws
import Derived.Deep.AppendLies
import Derived.Maps.AppendAt
import Derived.OwnWalk
import Derived.Laws.BytesArg
import Derived.Laws.MakeOwn
import Derived.Laws.OwnMore
import Derived.Deep.OwnRows
import Derived.Tactics
import Derived.Lib.ConvBytes
import Derived.Laws.Slices
import Derived.WalkKit
import Derived.KernelRfl
import Derived.RowKit3
import Derived.Deep.LoopGhost
import Derived.Deep.QuietTactic
import Derived.BigQuiet
import Derived.WideLaws
import Derived.Deep.DeepCutAuto
import Derived.Deep.CutBlock
import Derived.Deep.RegionHeld3
import Derived.Laws.Rows
import Derived.Lib.AppendStr
import Derived.ArgAppend
import Derived.Laws.IdiomCopy
import Derived.OrdersHeld
import Derived.Laws.BitsLemmas
import Derived.RowKit
import Derived.WalkSpells
import Derived.Lib.SliceRun
import Derived.Shelf.Abstract
import Derived.ProofKit
import Derived.OpenShut
import Derived.ShutString
import Derived.ChangeOld
import Derived.SizedLaws
namespace Go.Proofs.Ytoipbblhmcpneaa.P
open Go.RowKit Go.Proofs.YtoipbblhmcpneaaW.PrintWords Go.Proofs.YtoipbblhmcpneaaW.PrintLast Go.Proofs.YtoipbblhmcpneaaW.PrintMore
attribute [local go_sem] max2_int min2_int max_two min_two max_three min_three max_four min_four   -- for this text's walks alone
set_option linter.unusedVariables false
set_option linter.unusedSimpArgs false
mutual
def laws_FnStable.j0:Nat→List Int→List Int→List Int→Bool→Bool→List (List Int)→List (List Int)→List Int→Option (Bool)
 | 0,_,_,_,_,_,_,_,_=>none
 |k+1,x1,x6,x7,x8,x60,x1013000,x1013001,x1013002=>if x60=true then(some false) else(if x8=true then((impl_IsStable.f k x1013000 x1013001 x1013002 x7).bind fun bt1023=>((impl_RanksOf.f k x1013000 x1013001 x1013002 x7).bind fun bt1025=>((impl_GoodMatch.f k x1013000 x1013001 x1013002 x7).bind fun t1029=>(if t1029=true then(if bt1023.2=true then(if bt1023.1=true then(laws_FnStable.j1 k x1 x6 bt1025.1 (!bt1025.2) x1013000 x1013001 x1013002) else(laws_FnStable.j1 k x1 x6 bt1025.1 true x1013000 x1013001 x1013002)) else(laws_FnStable.j1 k x1 x6 bt1025.1 true x1013000 x1013001 x1013002)) else(laws_FnStable.j1 k x1 x6 bt1025.1 true x1013000 x1013001 x1013002))))) else(laws_FnStable.j4 k x1))
def laws_FnStable.j4:Nat→List Int→Option (Bool)
 | 0,_=>none
 |k+1,x1=>(spec_DrawMatchAll.f k x1).bind fun bt1038=>((impl_MatchAll.f k bt1038.1 bt1038.2.1 bt1038.2.2).bind fun bt1048=>((spec_MatchAll.f k bt1038.1 bt1038.2.1 bt1038.2.2).bind fun bt1052=>(if (bt1048.2==bt1052.2)=true then((laws_sameInts.f k bt1048.1 bt1052.1).bind fun t1056=>(some t1056)) else(some false))))
def laws_FnStable.j1:Nat→List Int→List Int→List Int→Bool→List (List Int)→List (List Int)→List Int→Option (Bool)
 | 0,_,_,_,_,_,_,_=>none
 |k+1,x1,x6,x13,x89,x1013000,x1013001,x1013002=>if x89=true then(some false) else((impl_IsStable.f k x1013000 x1013001 x1013002 x6).bind fun bt1030=>((impl_RanksOf.f k x1013000 x1013001 x1013002 x6).bind fun bt1032=>(if bt1030.2=true then(laws_FnStable.j2 k x1 x13 bt1032.1 bt1032.2 bt1030.1) else(laws_FnStable.j2 k x1 x13 bt1032.1 bt1032.2 false))))
def laws_FnStable.j2:Nat→List Int→List Int→List Int→Bool→Bool→Option (Bool)
 | 0,_,_,_,_,_=>none
 |k+1,x1,x13,x17,x18,x105=>if x105=true then(if x18=true then(laws_FnStable.l0 k x1 x13 x17 (x13.length:Int) 0) else(some false)) else(laws_FnStable.j4 k x1)
def laws_FnStable.l0:Nat→List Int→List Int→List Int→Int→Int→Option (Bool)
 | 0,_,_,_,_,_=>none
 |k+1,x1,x13,x17,x109,x110=>if x110<x109 then(if 0≤x110 then(if x110< (x13.length:Int) then(if x110< (x17.length:Int) then(if (rd x13 x110) > (rd x17 x110) then(some false) else(laws_FnStable.l0 k x1 x13 x17 x109 (wrap64 (x110+1)))) else(none)) else(none)) else(none)) else(laws_FnStable.j4 k x1)
end
def laws_FnStable.f (k:Nat) (l0:List Int) (l1:List Int):Option (Bool):=if (wrap64 ((l0.length:Int)+ (l1.length:Int))) > 1048576 then(some true) else((spec_DrawGoodMatch.f k l0).bind fun bt1000=>((impl_MatchAll.f k bt1000.1 bt1000.2.1 bt1000.2.2.1).bind fun bt1013=>((spec_MatchAll.f k bt1000.1 bt1000.2.1 bt1000.2.2.1).bind fun bt1017=>(if (bt1013.2 !=bt1017.2)=true then(laws_FnStable.j0 k l1 bt1000.2.2.2 bt1013.1 bt1013.2 true bt1000.1 bt1000.2.1 bt1000.2.2.1) else((laws_sameInts.f k bt1013.1 bt1017.1).bind fun t1021=>(if t1021=true then((impl_GoodWishes.f k bt1000.1 bt1000.2.1 bt1000.2.2.1).bind fun t1022=>(laws_FnStable.j0 k l1 bt1000.2.2.2 bt1013.1 bt1013.2 (t1022 !=bt1013.2) bt1000.1 bt1000.2.1 bt1000.2.2.1)) else(laws_FnStable.j0 k l1 bt1000.2.2.2 bt1013.1 bt1013.2 true bt1000.1 bt1000.2.1 bt1000.2.2.1)))))))
set_option maxHeartbeats 8000000 in
set_option maxRecDepth 100000 in
theorem laws_FnStable.calls (k:Nat) (A0:Option Addr) (c0:Nat) (l0:List Int) (A1:Option Addr) (c1:Nat) (l1:List Int) (r:Bool) (w:World) (hr0:Kd.C (Kd.int .u8) w A0 l0.length l0) (hc0:l0.length≤c0) (hr1:Kd.C (Kd.int .u8) w A1 l1.length l1) (hc1:l1.length≤c1) (h:laws_FnStable.f k l0 l1=some r) (hrt:r=true:=by rfl):
  Calls Try.prog 12 #[.slice A0 l0.length c0,.slice A1 l1.length c1] w fun e w'=>e= .returned (.bool r)∧Below w.heap.size w w':=by
 have HRT:=Aside0.mk hrt
 clear hrt
 have hu33:=Try.underlying33
 have HR0:=Aside0.mk hr0
 have HC0:=Aside0.mk hc0
 clear hr0 hc0
 have HR1:=Aside0.mk hr1
 have HC1:=Aside0.mk hc1
 clear hr1 hc1
 have HB:=Aside0.mk (Below.refl w.heap.size w)
 have H:(if (wrap64 ((l0.length:Int)+ (l1.length:Int))) > 1048576 then(some true) else((spec_DrawGoodMatch.f k l0).bind fun bt1000=>((impl_MatchAll.f k bt1000.1 bt1000.2.1 bt1000.2.2.1).bind fun bt1013=>((spec_MatchAll.f k bt1000.1 bt1000.2.1 bt1000.2.2.1).bind fun bt1017=>(if (bt1013.2 !=bt1017.2)=true then(laws_FnStable.j0 k l1 bt1000.2.2.2 bt1013.1 bt1013.2 true bt1000.1 bt1000.2.1 bt1000.2.2.1) else((laws_sameInts.f k bt1013.1 bt1017.1).bind fun t1021=>(if t1021=true then((impl_GoodWishes.f k bt1000.1 bt1000.2.1 bt1000.2.2.1).bind fun t1022=>(laws_FnStable.j0 k l1 bt1000.2.2.2 bt1013.1 bt1013.2 (t1022 !=bt1013.2) bt1000.1 bt1000.2.1 bt1000.2.2.1)) else(laws_FnStable.j0 k l1 bt1000.2.2.2 bt1013.1 bt1013.2 true bt1000.1 bt1000.2.1 bt1000.2.2.1))))))))=some r:=h
 clear h
 by_cases c3:(wrap64 ((l0.length:Int)+ (l1.length:Int))) > 1048576
 ·rw [if_pos c3] at H
  have c3b0:decide (1048576< (wrap64 ((l0.length:Int)+ (l1.length:Int))))=true:=decide_eq_true c3
  clear c3
  as_aux_lemma=>
   obtain rfl:=Option.some.inj H
   go_enter Try.func12,Try.ntmps12
   go_wp2
   repeat(go_quiet (fail);try go_wp2)
   go_ret
   exact⟨zer,by exact zk1 HB⟩
 ·rw [if_neg c3] at H
  have c3b0:decide (1048576< (wrap64 ((l0.length:Int)+ (l1.length:Int))))=false:=decide_eq_false c3
  clear c3
  replace H:=Option.bind_eq_some_iff.mp H
  obtain⟨⟨t1000,t1003,t1006,t1009⟩,A40,H⟩:=H
  replace H:((impl_MatchAll.f k t1000 t1003 t1006).bind fun bt1013=>((spec_MatchAll.f k t1000 t1003 t1006).bind fun bt1017=>(if (bt1013.2 !=bt1017.2)=true then(laws_FnStable.j0 k l1 t1009 bt1013.1 bt1013.2 true t1000 t1003 t1006) else((laws_sameInts.f k bt1013.1 bt1017.1).bind fun t1021=>(if t1021=true then((impl_GoodWishes.f k t1000 t1003 t1006).bind fun t1022=>(laws_FnStable.j0 k l1 t1009 bt1013.1 bt1013.2 (t1022 !=bt1013.2) t1000 t1003 t1006)) else(laws_FnStable.j0 k l1 t1009 bt1013.1 bt1013.2 true t1000 t1003 t1006))))))=some r:=H
  have A4:=Aside0.mk A40
  clear A40
  replace H:=Option.bind_eq_some_iff.mp H
  obtain⟨⟨t1013,t1016⟩,A50,H⟩:=H
  replace H:((spec_MatchAll.f k t1000 t1003 t1006).bind fun bt1017=>(if (t1016 !=bt1017.2)=true then(laws_FnStable.j0 k l1 t1009 t1013 t1016 true t1000 t1003 t1006) else((laws_sameInts.f k t1013 bt1017.1).bind fun t1021=>(if t1021=true then((impl_GoodWishes.f k t1000 t1003 t1006).bind fun t1022=>(laws_FnStable.j0 k l1 t1009 t1013 t1016 (t1022 !=t1016) t1000 t1003 t1006)) else(laws_FnStable.j0 k l1 t1009 t1013 t1016 true t1000 t1003 t1006)))))=some r:=H
  have A5:=Aside0.mk A50
  clear A50
  replace H:=Option.bind_eq_some_iff.mp H
  obtain⟨⟨t1017,t1020⟩,A60,H⟩:=H
  replace H:(if (t1016 !=t1020)=true then(laws_FnStable.j0 k l1 t1009 t1013 t1016 true t1000 t1003 t1006) else((laws_sameInts.f k t1013 t1017).bind fun t1021=>(if t1021=true then((impl_GoodWishes.f k t1000 t1003 t1006).bind fun t1022=>(laws_FnStable.j0 k l1 t1009 t1013 t1016 (t1022 !=t1016) t1000 t1003 t1006)) else(laws_FnStable.j0 k l1 t1009 t1013 t1016 true t1000 t1003 t1006))))=some r:=H
  have A6:=Aside0.mk A60
  clear A60
  have HC7:=Aside0.mk H
  clear H
  go_enter Try.func12,Try.ntmps12
  go_upto_region 6 with (first|(go_at_call 41;(with_reducible refine(spec_DrawGoodMatch.calls k _ _ l0 t1000 t1003 t1006 t1009 _ ?side1 ?side2 A4.out).mono ?_);(case side1=>exact zcc (HR0.out));(case side2=>exact HC0.out);rintro e w8 ⟨v1001,v1004,v1007,v1010,rfl,ho0,ho1,ho2,ho3,hb⟩;have HO1002:=Aside0.mk (Kd.S_lower ho0 (below_size (by exact zk1 HB)));have HO1005:=Aside0.mk (Kd.S_lower ho1 (below_size (by exact zk1 HB)));have HO1008:=Aside0.mk (Kd.R_lower ho2 (below_size (by exact zk1 HB)));have HO1011:=Aside0.mk (Kd.R_lower ho3 (below_size (by exact zk1 HB)));replace HB:=Aside0.mk (below_step (by exact zk1 HB) hb);(try clear hb);(try clear hb2);(try clear hk);(try clear hi);(try clear ho0);(try clear ho1);(try clear ho2);(try clear ho3))|((with_reducible refine gate_dst (N:=5) rfl ?_);refine box_event ?hg (N:=5) ?hd (cs:= #[.slice none 0 0,.slice none 0 0,.slice none 0 0]) (t:=33) ?hr ?_;(case hd=>rfl);(case hg=>rfl);(case hr=>first|(go_simp;done)|(go_simp;rfl));intro gb1012 hg w9 hbox hb;have BK1012:=Aside0.mk (hbox);have GW1012:=Aside0.mk ((by rw [hg];exact(below_size (by exact zk1 HB)):w.heap.size≤gb1012));have GE1012:=GW1012;replace HO1002:=Aside0.mk (Kd.S_below (by(with_reducible repeat(first|apply Kd.S_alloc|apply Kd.S_drewN|apply Kd.S_drew));exact HO1002.out) hb);replace HO1005:=Aside0.mk (Kd.S_below (by(with_reducible repeat(first|apply Kd.S_alloc|apply Kd.S_drewN|apply Kd.S_drew));exact HO1005.out) hb);replace HO1008:=Aside0.mk (Kd.R_below (zq4 HO1008) hb);replace HO1011:=Aside0.mk (Kd.R_below (zq4 HO1011) hb);replace HB:=Aside0.mk (below_step (by exact zk1 HB) hb);clear hb hbox hg;obtain⟨Ao10,co10,eo10⟩:=Kd.S_slice HO1002.out;subst eo10;have hcz11_0:=zcz BK1012 0 (.slice none 0 0);have hcz11_1:=zcz BK1012 1 (.slice none 0 0);have hcz11_2:=zcz BK1012 2 (.slice none 0 0);have hfz11_0:=blk_frozen BK1012.out 0;have hfz11_1:=blk_frozen BK1012.out 1;have hfz11_2:=blk_frozen BK1012.out 2;obtain⟨Ao12,co12,eo12⟩:=Kd.S_slice HO1005.out;subst eo12;obtain⟨Ao13,co13,eo13⟩:=Kd.R_slice HO1008.out;subst eo13)|(go_at_call 36;(with_reducible refine(impl_MatchAll.calls k _ _ t1000 _ _ t1003 _ _ t1006 t1013 t1016 _ ?side1 ?side2 ?side3 ?side4 ?side5 ?side6 A5.out).mono ?_);(case side1=>refine(Kd.S_reads' (e:=22) (base:=w.heap.size) (ok:=fun k_=>(some k_≠ (.slice Ao12 t1003.length co12:Value).ownBlock∧ (some k_≠ (.slice Ao13 t1006.length co13:Value).ownBlock∧some k_≠ (v1010:Value).ownBlock))) (n:=t1000.length) (c:=co10) ?_).2.2;exact(by(with_reducible repeat(first|apply Kd.S_alloc|apply Kd.S_drewN|apply Kd.S_drew));exact(Kd.S_mono (Kd.S_far (p:=⟨gb1012,2,none⟩) (Kd.S_far (p:=⟨gb1012,1,none⟩) (Kd.S_far (p:=⟨gb1012,0,none⟩) (Kd.S_types HO1002.out BK1012.out (by decide)) (fun _ hk=>hk.2) (.slice Ao10 t1000.length co10)) (fun _ hk=>hk.2) (.slice Ao12 t1003.length co12)) (fun _ hk=>hk.2) (.slice Ao13 t1006.length co13)) (fun _ h_=>h_.1))));(case side2=>exact(Kd.S_reads' HO1002.out).2.1);(case side3=>refine(Kd.S_reads' (e:=22) (base:=w.heap.size) (ok:=fun k_=>(some k_≠ (.slice Ao10 t1000.length co10:Value).ownBlock∧ (some k_≠ (.slice Ao13 t1006.length co13:Value).ownBlock∧some k_≠ (v1010:Value).ownBlock))) (n:=t1003.length) (c:=co12) ?_).2.2;exact(by(with_reducible repeat(first|apply Kd.S_alloc|apply Kd.S_drewN|apply Kd.S_drew));exact(Kd.S_mono (Kd.S_far (p:=⟨gb1012,2,none⟩) (Kd.S_far (p:=⟨gb1012,1,none⟩) (Kd.S_far (p:=⟨gb1012,0,none⟩) (Kd.S_types HO1005.out BK1012.out (by decide)) (fun _ hk=>hk.2) (.slice Ao10 t1000.length co10)) (fun _ hk=>hk.2) (.slice Ao12 t1003.length co12)) (fun _ hk=>hk.2) (.slice Ao13 t1006.length co13)) (fun _ h_=>h_.1))));(case side4=>exact(Kd.S_reads' HO1005.out).2.1);(case side5=>refine(Kd.R_reads' (e:=3) (base:=w.heap.size) (ok:=fun k_=>some k_≠ (v1010:Value).ownBlock) (n:=t1006.length) (c:=co13) ?_).2.2;exact(by(with_reducible repeat(first|apply Kd.R_alloc|apply Kd.R_drewN|apply Kd.R_drew));exact(Kd.R_mono (Kd.R_far (p:=⟨gb1012,2,none⟩) (Kd.R_far (p:=⟨gb1012,1,none⟩) (Kd.R_far (p:=⟨gb1012,0,none⟩) (Kd.R_types HO1008.out BK1012.out (by decide)) (fun _ hk=>hk.2) (.slice Ao10 t1000.length co10)) (fun _ hk=>hk.2) (.slice Ao12 t1003.length co12)) (fun _ hk=>hk.2) (.slice Ao13 t1006.length co13)) (fun _ h_=>h_.1))));(case side6=>exact(Kd.R_reads' HO1008.out).2.1);rintro e w14 ⟨v1014,rfl,ho0,hb⟩;have HO1015:=Aside0.mk (Kd.R_lower (Kd.R_new' (Kd.R_new' ho0 (Kd.R_lt (by(with_reducible repeat(first|apply Kd.R_alloc|apply Kd.R_drewN|apply Kd.R_drew));exact(Kd.R_mono (Kd.R_far (p:=⟨gb1012,2,none⟩) (Kd.R_far (p:=⟨gb1012,1,none⟩) (Kd.R_far (p:=⟨gb1012,0,none⟩) (Kd.R_types HO1008.out BK1012.out (by decide)) (fun _ hk=>hk.2) (.slice Ao10 t1000.length co10)) (fun _ hk=>hk.2) (.slice Ao12 t1003.length co12)) (fun _ hk=>hk.2) (.slice Ao13 t1006.length co13)) (fun _ h_=>h_.1))))) (Kd.R_lt (by(with_reducible repeat(first|apply Kd.R_alloc|apply Kd.R_drewN|apply Kd.R_drew));exact(Kd.R_mono (Kd.R_far (p:=⟨gb1012,2,none⟩) (Kd.R_far (p:=⟨gb1012,1,none⟩) (Kd.R_far (p:=⟨gb1012,0,none⟩) (Kd.R_types HO1011.out BK1012.out (by decide)) (fun _ hk=>hk.2) (.slice Ao10 t1000.length co10)) (fun _ hk=>hk.2) (.slice Ao12 t1003.length co12)) (fun _ hk=>hk.2) (.slice Ao13 t1006.length co13)) (fun _ h_=>h_.1))))) (below_size (by exact zk2 HB GE1012.out)));replace HO1002:=Aside0.mk (Kd.S_elder' (by(with_reducible repeat(first|apply Kd.S_alloc|apply Kd.S_drewN|apply Kd.S_drew));exact(Kd.S_mono (Kd.S_far (p:=⟨gb1012,2,none⟩) (Kd.S_far (p:=⟨gb1012,1,none⟩) (Kd.S_far (p:=⟨gb1012,0,none⟩) (Kd.S_types HO1002.out BK1012.out (by decide)) (fun _ hk=>hk.2) (.slice Ao10 t1000.length co10)) (fun _ hk=>hk.2) (.slice Ao12 t1003.length co12)) (fun _ hk=>hk.2) (.slice Ao13 t1006.length co13)) (fun _ h_=>h_.1))) (Kd.R_base ho0) hb);replace HO1005:=Aside0.mk (Kd.S_elder' (by(with_reducible repeat(first|apply Kd.S_alloc|apply Kd.S_drewN|apply Kd.S_drew));exact(Kd.S_mono (Kd.S_far (p:=⟨gb1012,2,none⟩) (Kd.S_far (p:=⟨gb1012,1,none⟩) (Kd.S_far (p:=⟨gb1012,0,none⟩) (Kd.S_types HO1005.out BK1012.out (by decide)) (fun _ hk=>hk.2) (.slice Ao10 t1000.length co10)) (fun _ hk=>hk.2) (.slice Ao12 t1003.length co12)) (fun _ hk=>hk.2) (.slice Ao13 t1006.length co13)) (fun _ h_=>h_.1))) (Kd.R_base ho0) hb);replace HO1008:=Aside0.mk (Kd.R_elder' (by(with_reducible repeat(first|apply Kd.R_alloc|apply Kd.R_drewN|apply Kd.R_drew));exact(Kd.R_mono (Kd.R_far (p:=⟨gb1012,2,none⟩) (Kd.R_far (p:=⟨gb1012,1,none⟩) (Kd.R_far (p:=⟨gb1012,0,none⟩) (Kd.R_types HO1008.out BK1012.out (by decide)) (fun _ hk=>hk.2) (.slice Ao10 t1000.length co10)) (fun _ hk=>hk.2) (.slice Ao12 t1003.length co12)) (fun _ hk=>hk.2) (.slice Ao13 t1006.length co13)) (fun _ h_=>h_.1))) (Kd.R_base ho0) hb);replace HO1011:=Aside0.mk (Kd.R_elder' (by(with_reducible repeat(first|apply Kd.R_alloc|apply Kd.R_drewN|apply Kd.R_drew));exact(Kd.R_mono (Kd.R_far (p:=⟨gb1012,2,none⟩) (Kd.R_far (p:=⟨gb1012,1,none⟩) (Kd.R_far (p:=⟨gb1012,0,none⟩) (Kd.R_types HO1011.out BK1012.out (by decide)) (fun _ hk=>hk.2) (.slice Ao10 t1000.length co10)) (fun _ hk=>hk.2) (.slice Ao12 t1003.length co12)) (fun _ hk=>hk.2) (.slice Ao13 t1006.length co13)) (fun _ h_=>h_.1))) (Kd.R_base ho0) hb);replace BK1012:=Aside0.mk (blk_below (g:=gb1012) (o:= .cells #[.slice Ao10 t1000.length co10,.slice Ao12 t1003.length co12,.slice Ao13 t1006.length co13] 33 (0,0)) (by(with_reducible repeat(first|refine blk_drewN ?_ _|refine blk_drew ?_ |refine blk_alloc ?_ _));refine blk_put (cs:= #[.slice Ao10 t1000.length co10,.slice Ao12 t1003.length co12,.slice none 0 0]) ?_ 2 _ rfl;(with_reducible repeat(first|refine blk_drewN ?_ _|refine blk_drew ?_ |refine blk_alloc ?_ _));refine blk_put (cs:= #[.slice Ao10 t1000.length co10,.slice none 0 0,.slice none 0 0]) ?_ 1 _ rfl;(with_reducible repeat(first|refine blk_drewN ?_ _|refine blk_drew ?_ |refine blk_alloc ?_ _));refine blk_put (cs:= #[.slice none 0 0,.slice none 0 0,.slice none 0 0]) ?_ 0 _ rfl;(with_reducible repeat(first|refine blk_drewN ?_ _|refine blk_drew ?_ |refine blk_alloc ?_ _));exact BK1012.out) hb);replace HB:=Aside0.mk (below_step (by exact zk2 HB GE1012.out) hb);(try clear hb);(try clear hb2);(try clear hk);(try clear hi);(try clear ho0);have hcz15_0:=zcz BK1012 0 (.slice Ao10 t1000.length co10);have hcz15_1:=zcz BK1012 1 (.slice Ao12 t1003.length co12);have hcz15_2:=zcz BK1012 2 (.slice Ao13 t1006.length co13);have hfz15_0:=blk_frozen BK1012.out 0;have hfz15_1:=blk_frozen BK1012.out 1;have hfz15_2:=blk_frozen BK1012.out 2)|(go_at_call 35;(with_reducible refine(spec_MatchAll.calls k _ _ t1000 _ _ t1003 _ _ t1006 t1017 t1020 _ ?side1 ?side2 ?side3 ?side4 ?side5 ?side6 A6.out).mono ?_);(case side1=>exact zcc ((Kd.S_reads' HO1002.out).2.2));(case side2=>exact(Kd.S_reads' HO1002.out).2.1);(case side3=>exact zcc ((Kd.S_reads' HO1005.out).2.2));(case side4=>exact(Kd.S_reads' HO1005.out).2.1);(case side5=>exact zcc ((Kd.R_reads' HO1008.out).2.2));(case side6=>exact(Kd.R_reads' HO1008.out).2.1);rintro e w16 ⟨v1018,rfl,ho0,hb⟩;have HO1019:=Aside0.mk (Kd.R_lower (Kd.R_new' (Kd.R_new' (Kd.R_new' ho0 (Kd.R_lt (zq4 HO1008))) (Kd.R_lt (zq4 HO1011))) (Kd.R_lt (zq4 HO1015))) (below_size (by exact zk2 HB GE1012.out)));replace HO1002:=Aside0.mk (Kd.S_elder' (by(with_reducible repeat(first|apply Kd.S_alloc|apply Kd.S_drewN|apply Kd.S_drew));exact HO1002.out) (Kd.R_base ho0) hb);replace HO1005:=Aside0.mk (Kd.S_elder' (by(with_reducible repeat(first|apply Kd.S_alloc|apply Kd.S_drewN|apply Kd.S_drew));exact HO1005.out) (Kd.R_base ho0) hb);replace HO1008:=Aside0.mk (Kd.R_elder' (zq4 HO1008) (Kd.R_base ho0) hb);replace HO1011:=Aside0.mk (Kd.R_elder' (zq4 HO1011) (Kd.R_base ho0) hb);replace HO1015:=Aside0.mk (Kd.R_elder' (zq4 HO1015) (Kd.R_base ho0) hb);replace BK1012:=Aside0.mk (blk_below (g:=gb1012) (o:= .cells #[.slice Ao10 t1000.length co10,.slice Ao12 t1003.length co12,.slice Ao13 t1006.length co13] 33 (0,0)) (zq3 BK1012) hb);replace HB:=Aside0.mk (below_step (by exact zk2 HB GE1012.out) hb);(try clear hb);(try clear hb2);(try clear hk);(try clear hi);(try clear ho0)))
  repeat(go_quiet (first|(go_at_call 41;(with_reducible refine(spec_DrawGoodMatch.calls k _ _ l0 t1000 t1003 t1006 t1009 _ ?side1 ?side2 A4.out).mono ?_);(case side1=>exact zcc (HR0.out));(case side2=>exact HC0.out);rintro e w8 ⟨v1001,v1004,v1007,v1010,rfl,ho0,ho1,ho2,ho3,hb⟩;have HO1002:=Aside0.mk (Kd.S_lower ho0 (below_size (by exact zk1 HB)));have HO1005:=Aside0.mk (Kd.S_lower ho1 (below_size (by exact zk1 HB)));have HO1008:=Aside0.mk (Kd.R_lower ho2 (below_size (by exact zk1 HB)));have HO1011:=Aside0.mk (Kd.R_lower ho3 (below_size (by exact zk1 HB)));replace HB:=Aside0.mk (below_step (by exact zk1 HB) hb);(try clear hb);(try clear hb2);(try clear hk);(try clear hi);(try clear ho0);(try clear ho1);(try clear ho2);(try clear ho3))|((with_reducible refine gate_dst (N:=5) rfl ?_);refine box_event ?hg (N:=5) ?hd (cs:= #[.slice none 0 0,.slice none 0 0,.slice none 0 0]) (t:=33) ?hr ?_;(case hd=>rfl);(case hg=>rfl);(case hr=>first|(go_simp;done)|(go_simp;rfl));intro gb1012 hg w9 hbox hb;have BK1012:=Aside0.mk (hbox);have GW1012:=Aside0.mk ((by rw [hg];exact(below_size (by exact zk1 HB)):w.heap.size≤gb1012));have GE1012:=GW1012;replace HO1002:=Aside0.mk (Kd.S_below (by(with_reducible repeat(first|apply Kd.S_alloc|apply Kd.S_drewN|apply Kd.S_drew));exact HO1002.out) hb);replace HO1005:=Aside0.mk (Kd.S_below (by(with_reducible repeat(first|apply Kd.S_alloc|apply Kd.S_drewN|apply Kd.S_drew));exact HO1005.out) hb);replace HO1008:=Aside0.mk (Kd.R_below (zq4 HO1008) hb);replace HO1011:=Aside0.mk (Kd.R_below (zq4 HO1011) hb);replace HB:=Aside0.mk (below_step (by exact zk1 HB) hb);clear hb hbox hg;obtain⟨Ao10,co10,eo10⟩:=Kd.S_slice HO1002.out;subst eo10;have hcz11_0:=zcz BK1012 0 (.slice none 0 0);have hcz11_1:=zcz BK1012 1 (.slice none 0 0);have hcz11_2:=zcz BK1012 2 (.slice none 0 0);have hfz11_0:=blk_frozen BK1012.out 0;have hfz11_1:=blk_frozen BK1012.out 1;have hfz11_2:=blk_frozen BK1012.out 2;obtain⟨Ao12,co12,eo12⟩:=Kd.S_slice HO1005.out;subst eo12;obtain⟨Ao13,co13,eo13⟩:=Kd.R_slice HO1008.out;subst eo13)|(go_at_call 36;(with_reducible refine(impl_MatchAll.calls k _ _ t1000 _ _ t1003 _ _ t1006 t1013 t1016 _ ?side1 ?side2 ?side3 ?side4 ?side5 ?side6 A5.out).mono ?_);(case side1=>refine(Kd.S_reads' (e:=22) (base:=w.heap.size) (ok:=fun k_=>(some k_≠ (.slice Ao12 t1003.length co12:Value).ownBlock∧ (some k_≠ (.slice Ao13 t1006.length co13:Value).ownBlock∧some k_≠ (v1010:Value).ownBlock))) (n:=t1000.length) (c:=co10) ?_).2.2;exact(by(with_reducible repeat(first|apply Kd.S_alloc|apply Kd.S_drewN|apply Kd.S_drew));exact(Kd.S_mono (Kd.S_far (p:=⟨gb1012,2,none⟩) (Kd.S_far (p:=⟨gb1012,1,none⟩) (Kd.S_far (p:=⟨gb1012,0,none⟩) (Kd.S_types HO1002.out BK1012.out (by decide)) (fun _ hk=>hk.2) (.slice Ao10 t1000.length co10)) (fun _ hk=>hk.2) (.slice Ao12 t1003.length co12)) (fun _ hk=>hk.2) (.slice Ao13 t1006.length co13)) (fun _ h_=>h_.1))));(case side2=>exact(Kd.S_reads' HO1002.out).2.1);(case side3=>refine(Kd.S_reads' (e:=22) (base:=w.heap.size) (ok:=fun k_=>(some k_≠ (.slice Ao10 t1000.length co10:Value).ownBlock∧ (some k_≠ (.slice Ao13 t1006.length co13:Value).ownBlock∧some k_≠ (v1010:Value).ownBlock))) (n:=t1003.length) (c:=co12) ?_).2.2;exact(by(with_reducible repeat(first|apply Kd.S_alloc|apply Kd.S_drewN|apply Kd.S_drew));exact(Kd.S_mono (Kd.S_far (p:=⟨gb1012,2,none⟩) (Kd.S_far (p:=⟨gb1012,1,none⟩) (Kd.S_far (p:=⟨gb1012,0,none⟩) (Kd.S_types HO1005.out BK1012.out (by decide)) (fun _ hk=>hk.2) (.slice Ao10 t1000.length co10)) (fun _ hk=>hk.2) (.slice Ao12 t1003.length co12)) (fun _ hk=>hk.2) (.slice Ao13 t1006.length co13)) (fun _ h_=>h_.1))));(case side4=>exact(Kd.S_reads' HO1005.out).2.1);(case side5=>refine(Kd.R_reads' (e:=3) (base:=w.heap.size) (ok:=fun k_=>some k_≠ (v1010:Value).ownBlock) (n:=t1006.length) (c:=co13) ?_).2.2;exact(by(with_reducible repeat(first|apply Kd.R_alloc|apply Kd.R_drewN|apply Kd.R_drew));exact(Kd.R_mono (Kd.R_far (p:=⟨gb1012,2,none⟩) (Kd.R_far (p:=⟨gb1012,1,none⟩) (Kd.R_far (p:=⟨gb1012,0,none⟩) (Kd.R_types HO1008.out BK1012.out (by decide)) (fun _ hk=>hk.2) (.slice Ao10 t1000.length co10)) (fun _ hk=>hk.2) (.slice Ao12 t1003.length co12)) (fun _ hk=>hk.2) (.slice Ao13 t1006.length co13)) (fun _ h_=>h_.1))));(case side6=>exact(Kd.R_reads' HO1008.out).2.1);rintro e w14 ⟨v1014,rfl,ho0,hb⟩;have HO1015:=Aside0.mk (Kd.R_lower (Kd.R_new' (Kd.R_new' ho0 (Kd.R_lt (by(with_reducible repeat(first|apply Kd.R_alloc|apply Kd.R_drewN|apply Kd.R_drew));exact(Kd.R_mono (Kd.R_far (p:=⟨gb1012,2,none⟩) (Kd.R_far (p:=⟨gb1012,1,none⟩) (Kd.R_far (p:=⟨gb1012,0,none⟩) (Kd.R_types HO1008.out BK1012.out (by decide)) (fun _ hk=>hk.2) (.slice Ao10 t1000.length co10)) (fun _ hk=>hk.2) (.slice Ao12 t1003.length co12)) (fun _ hk=>hk.2) (.slice Ao13 t1006.length co13)) (fun _ h_=>h_.1))))) (Kd.R_lt (by(with_reducible repeat(first|apply Kd.R_alloc|apply Kd.R_drewN|apply Kd.R_drew));exact(Kd.R_mono (Kd.R_far (p:=⟨gb1012,2,none⟩) (Kd.R_far (p:=⟨gb1012,1,none⟩) (Kd.R_far (p:=⟨gb1012,0,none⟩) (Kd.R_types HO1011.out BK1012.out (by decide)) (fun _ hk=>hk.2) (.slice Ao10 t1000.length co10)) (fun _ hk=>hk.2) (.slice Ao12 t1003.length co12)) (fun _ hk=>hk.2) (.slice Ao13 t1006.length co13)) (fun _ h_=>h_.1))))) (below_size (by exact zk2 HB GE1012.out)));replace HO1002:=Aside0.mk (Kd.S_elder' (by(with_reducible repeat(first|apply Kd.S_alloc|apply Kd.S_drewN|apply Kd.S_drew));exact(Kd.S_mono (Kd.S_far (p:=⟨gb1012,2,none⟩) (Kd.S_far (p:=⟨gb1012,1,none⟩) (Kd.S_far (p:=⟨gb1012,0,none⟩) (Kd.S_types HO1002.out BK1012.out (by decide)) (fun _ hk=>hk.2) (.slice Ao10 t1000.length co10)) (fun _ hk=>hk.2) (.slice Ao12 t1003.length co12)) (fun _ hk=>hk.2) (.slice Ao13 t1006.length co13)) (fun _ h_=>h_.1))) (Kd.R_base ho0) hb);replace HO1005:=Aside0.mk (Kd.S_elder' (by(with_reducible repeat(first|apply Kd.S_alloc|apply Kd.S_drewN|apply Kd.S_drew));exact(Kd.S_mono (Kd.S_far (p:=⟨gb1012,2,none⟩) (Kd.S_far (p:=⟨gb1012,1,none⟩) (Kd.S_far (p:=⟨gb1012,0,none⟩) (Kd.S_types HO1005.out BK1012.out (by decide)) (fun _ hk=>hk.2) (.slice Ao10 t1000.length co10)) (fun _ hk=>hk.2) (.slice Ao12 t1003.length co12)) (fun _ hk=>hk.2) (.slice Ao13 t1006.length co13)) (fun _ h_=>h_.1))) (Kd.R_base ho0) hb);replace HO1008:=Aside0.mk (Kd.R_elder' (by(with_reducible repeat(first|apply Kd.R_alloc|apply Kd.R_drewN|apply Kd.R_drew));exact(Kd.R_mono (Kd.R_far (p:=⟨gb1012,2,none⟩) (Kd.R_far (p:=⟨gb1012,1,none⟩) (Kd.R_far (p:=⟨gb1012,0,none⟩) (Kd.R_types HO1008.out BK1012.out (by decide)) (fun _ hk=>hk.2) (.slice Ao10 t1000.length co10)) (fun _ hk=>hk.2) (.slice Ao12 t1003.length co12)) (fun _ hk=>hk.2) (.slice Ao13 t1006.length co13)) (fun _ h_=>h_.1))) (Kd.R_base ho0) hb);replace HO1011:=Aside0.mk (Kd.R_elder' (by(with_reducible repeat(first|apply Kd.R_alloc|apply Kd.R_drewN|apply Kd.R_drew));exact(Kd.R_mono (Kd.R_far (p:=⟨gb1012,2,none⟩) (Kd.R_far (p:=⟨gb1012,1,none⟩) (Kd.R_far (p:=⟨gb1012,0,none⟩) (Kd.R_types HO1011.out BK1012.out (by decide)) (fun _ hk=>hk.2) (.slice Ao10 t1000.length co10)) (fun _ hk=>hk.2) (.slice Ao12 t1003.length co12)) (fun _ hk=>hk.2) (.slice Ao13 t1006.length co13)) (fun _ h_=>h_.1))) (Kd.R_base ho0) hb);replace BK1012:=Aside0.mk (blk_below (g:=gb1012) (o:= .cells #[.slice Ao10 t1000.length co10,.slice Ao12 t1003.length co12,.slice Ao13 t1006.length co13] 33 (0,0)) (by(with_reducible repeat(first|refine blk_drewN ?_ _|refine blk_drew ?_ |refine blk_alloc ?_ _));refine blk_put (cs:= #[.slice Ao10 t1000.length co10,.slice Ao12 t1003.length co12,.slice none 0 0]) ?_ 2 _ rfl;(with_reducible repeat(first|refine blk_drewN ?_ _|refine blk_drew ?_ |refine blk_alloc ?_ _));refine blk_put (cs:= #[.slice Ao10 t1000.length co10,.slice none 0 0,.slice none 0 0]) ?_ 1 _ rfl;(with_reducible repeat(first|refine blk_drewN ?_ _|refine blk_drew ?_ |refine blk_alloc ?_ _));refine blk_put (cs:= #[.slice none 0 0,.slice none 0 0,.slice none 0 0]) ?_ 0 _ rfl;(with_reducible repeat(first|refine blk_drewN ?_ _|refine blk_drew ?_ |refine blk_alloc ?_ _));exact BK1012.out) hb);replace HB:=Aside0.mk (below_step (by exact zk2 HB GE1012.out) hb);(try clear hb);(try clear hb2);(try clear hk);(try clear hi);(try clear ho0);have hcz15_0:=zcz BK1012 0 (.slice Ao10 t1000.length co10);have hcz15_1:=zcz BK1012 1 (.slice Ao12 t1003.length co12);have hcz15_2:=zcz BK1012 2 (.slice Ao13 t1006.length co13);have hfz15_0:=blk_frozen BK1012.out 0;have hfz15_1:=blk_frozen BK1012.out 1;have hfz15_2:=blk_frozen BK1012.out 2)|(go_at_call 35;(with_reducible refine(spec_MatchAll.calls k _ _ t1000 _ _ t1003 _ _ t1006 t1017 t1020 _ ?side1 ?side2 ?side3 ?side4 ?side5 ?side6 A6.out).mono ?_);(case side1=>exact zcc ((Kd.S_reads' HO1002.out).2.2));(case side2=>exact(Kd.S_reads' HO1002.out).2.1);(case side3=>exact zcc ((Kd.S_reads' HO1005.out).2.2));(case side4=>exact(Kd.S_reads' HO1005.out).2.1);(case side5=>exact zcc ((Kd.R_reads' HO1008.out).2.2));(case side6=>exact(Kd.R_reads' HO1008.out).2.1);rintro e w16 ⟨v1018,rfl,ho0,hb⟩;have HO1019:=Aside0.mk (Kd.R_lower (Kd.R_new' (Kd.R_new' (Kd.R_new' ho0 (Kd.R_lt (zq4 HO1008))) (Kd.R_lt (zq4 HO1011))) (Kd.R_lt (zq4 HO1015))) (below_size (by exact zk2 HB GE1012.out)));replace HO1002:=Aside0.mk (Kd.S_elder' (by(with_reducible repeat(first|apply Kd.S_alloc|apply Kd.S_drewN|apply Kd.S_drew));exact HO1002.out) (Kd.R_base ho0) hb);replace HO1005:=Aside0.mk (Kd.S_elder' (by(with_reducible repeat(first|apply Kd.S_alloc|apply Kd.S_drewN|apply Kd.S_drew));exact HO1005.out) (Kd.R_base ho0) hb);replace HO1008:=Aside0.mk (Kd.R_elder' (zq4 HO1008) (Kd.R_base ho0) hb);replace HO1011:=Aside0.mk (Kd.R_elder' (zq4 HO1011) (Kd.R_base ho0) hb);replace HO1015:=Aside0.mk (Kd.R_elder' (zq4 HO1015) (Kd.R_base ho0) hb);replace BK1012:=Aside0.mk (blk_below (g:=gb1012) (o:= .cells #[.slice Ao10 t1000.length co10,.slice Ao12 t1003.length co12,.slice Ao13 t1006.length co13] 33 (0,0)) (zq3 BK1012) hb);replace HB:=Aside0.mk (below_step (by exact zk2 HB GE1012.out) hb);(try clear hb);(try clear hb2);(try clear hk);(try clear hi);(try clear ho0)));go_upto_region 6 with (first|(go_at_call 41;(with_reducible refine(spec_DrawGoodMatch.calls k _ _ l0 t1000 t1003 t1006 t1009 _ ?side1 ?side2 A4.out).mono ?_);(case side1=>exact zcc (HR0.out));(case side2=>exact HC0.out);rintro e w8 ⟨v1001,v1004,v1007,v1010,rfl,ho0,ho1,ho2,ho3,hb⟩;have HO1002:=Aside0.mk (Kd.S_lower ho0 (below_size (by exact zk1 HB)));have HO1005:=Aside0.mk (Kd.S_lower ho1 (below_size (by exact zk1 HB)));have HO1008:=Aside0.mk (Kd.R_lower ho2 (below_size (by exact zk1 HB)));have HO1011:=Aside0.mk (Kd.R_lower ho3 (below_size (by exact zk1 HB)));replace HB:=Aside0.mk (below_step (by exact zk1 HB) hb);(try clear hb);(try clear hb2);(try clear hk);(try clear hi);(try clear ho0);(try clear ho1);(try clear ho2);(try clear ho3))|((with_reducible refine gate_dst (N:=5) rfl ?_);refine box_event ?hg (N:=5) ?hd (cs:= #[.slice none 0 0,.slice none 0 0,.slice none 0 0]) (t:=33) ?hr ?_;(case hd=>rfl);(case hg=>rfl);(case hr=>first|(go_simp;done)|(go_simp;rfl));intro gb1012 hg w9 hbox hb;have BK1012:=Aside0.mk (hbox);have GW1012:=Aside0.mk ((by rw [hg];exact(below_size (by exact zk1 HB)):w.heap.size≤gb1012));have GE1012:=GW1012;replace HO1002:=Aside0.mk (Kd.S_below (by(with_reducible repeat(first|apply Kd.S_alloc|apply Kd.S_drewN|apply Kd.S_drew));exact HO1002.out) hb);replace HO1005:=Aside0.mk (Kd.S_below (by(with_reducible repeat(first|apply Kd.S_alloc|apply Kd.S_drewN|apply Kd.S_drew));exact HO1005.out) hb);replace HO1008:=Aside0.mk (Kd.R_below (zq4 HO1008) hb);replace HO1011:=Aside0.mk (Kd.R_below (zq4 HO1011) hb);replace HB:=Aside0.mk (below_step (by exact zk1 HB) hb);clear hb hbox hg;obtain⟨Ao10,co10,eo10⟩:=Kd.S_slice HO1002.out;subst eo10;have hcz11_0:=zcz BK1012 0 (.slice none 0 0);have hcz11_1:=zcz BK1012 1 (.slice none 0 0);have hcz11_2:=zcz BK1012 2 (.slice none 0 0);have hfz11_0:=blk_frozen BK1012.out 0;have hfz11_1:=blk_frozen BK1012.out 1;have hfz11_2:=blk_frozen BK1012.out 2;obtain⟨Ao12,co12,eo12⟩:=Kd.S_slice HO1005.out;subst eo12;obtain⟨Ao13,co13,eo13⟩:=Kd.R_slice HO1008.out;subst eo13)|(go_at_call 36;(with_reducible refine(impl_MatchAll.calls k _ _ t1000 _ _ t1003 _ _ t1006 t1013 t1016 _ ?side1 ?side2 ?side3 ?side4 ?side5 ?side6 A5.out).mono ?_);(case side1=>refine(Kd.S_reads' (e:=22) (base:=w.heap.size) (ok:=fun k_=>(some k_≠ (.slice Ao12 t1003.length co12:Value).ownBlock∧ (some k_≠ (.slice Ao13 t1006.length co13:Value).ownBlock∧some k_≠ (v1010:Value).ownBlock))) (n:=t1000.length) (c:=co10) ?_).2.2;exact(by(with_reducible repeat(first|apply Kd.S_alloc|apply Kd.S_drewN|apply Kd.S_drew));exact(Kd.S_mono (Kd.S_far (p:=⟨gb1012,2,none⟩) (Kd.S_far (p:=⟨gb1012,1,none⟩) (Kd.S_far (p:=⟨gb1012,0,none⟩) (Kd.S_types HO1002.out BK1012.out (by decide)) (fun _ hk=>hk.2) (.slice Ao10 t1000.length co10)) (fun _ hk=>hk.2) (.slice Ao12 t1003.length co12)) (fun _ hk=>hk.2) (.slice Ao13 t1006.length co13)) (fun _ h_=>h_.1))));(case side2=>exact(Kd.S_reads' HO1002.out).2.1);(case side3=>refine(Kd.S_reads' (e:=22) (base:=w.heap.size) (ok:=fun k_=>(some k_≠ (.slice Ao10 t1000.length co10:Value).ownBlock∧ (some k_≠ (.slice Ao13 t1006.length co13:Value).ownBlock∧some k_≠ (v1010:Value).ownBlock))) (n:=t1003.length) (c:=co12) ?_).2.2;exact(by(with_reducible repeat(first|apply Kd.S_alloc|apply Kd.S_drewN|apply Kd.S_drew));exact(Kd.S_mono (Kd.S_far (p:=⟨gb1012,2,none⟩) (Kd.S_far (p:=⟨gb1012,1,none⟩) (Kd.S_far (p:=⟨gb1012,0,none⟩) (Kd.S_types HO1005.out BK1012.out (by decide)) (fun _ hk=>hk.2) (.slice Ao10 t1000.length co10)) (fun _ hk=>hk.2) (.slice Ao12 t1003.length co12)) (fun _ hk=>hk.2) (.slice Ao13 t1006.length co13)) (fun _ h_=>h_.1))));(case side4=>exact(Kd.S_reads' HO1005.out).2.1);(case side5=>refine(Kd.R_reads' (e:=3) (base:=w.heap.size) (ok:=fun k_=>some k_≠ (v1010:Value).ownBlock) (n:=t1006.length) (c:=co13) ?_).2.2;exact(by(with_reducible repeat(first|apply Kd.R_alloc|apply Kd.R_drewN|apply Kd.R_drew));exact(Kd.R_mono (Kd.R_far (p:=⟨gb1012,2,none⟩) (Kd.R_far (p:=⟨gb1012,1,none⟩) (Kd.R_far (p:=⟨gb1012,0,none⟩) (Kd.R_types HO1008.out BK1012.out (by decide)) (fun _ hk=>hk.2) (.slice Ao10 t1000.length co10)) (fun _ hk=>hk.2) (.slice Ao12 t1003.length co12)) (fun _ hk=>hk.2) (.slice Ao13 t1006.length co13)) (fun _ h_=>h_.1))));(case side6=>exact(Kd.R_reads' HO1008.out).2.1);rintro e w14 ⟨v1014,rfl,ho0,hb⟩;have HO1015:=Aside0.mk (Kd.R_lower (Kd.R_new' (Kd.R_new' ho0 (Kd.R_lt (by(with_reducible repeat(first|apply Kd.R_alloc|apply Kd.R_drewN|apply Kd.R_drew));exact(Kd.R_mono (Kd.R_far (p:=⟨gb1012,2,none⟩) (Kd.R_far (p:=⟨gb1012,1,none⟩) (Kd.R_far (p:=⟨gb1012,0,none⟩) (Kd.R_types HO1008.out BK1012.out (by decide)) (fun _ hk=>hk.2) (.slice Ao10 t1000.length co10)) (fun _ hk=>hk.2) (.slice Ao12 t1003.length co12)) (fun _ hk=>hk.2) (.slice Ao13 t1006.length co13)) (fun _ h_=>h_.1))))) (Kd.R_lt (by(with_reducible repeat(first|apply Kd.R_alloc|apply Kd.R_drewN|apply Kd.R_drew));exact(Kd.R_mono (Kd.R_far (p:=⟨gb1012,2,none⟩) (Kd.R_far (p:=⟨gb1012,1,none⟩) (Kd.R_far (p:=⟨gb1012,0,none⟩) (Kd.R_types HO1011.out BK1012.out (by decide)) (fun _ hk=>hk.2) (.slice Ao10 t1000.length co10)) (fun _ hk=>hk.2) (.slice Ao12 t1003.length co12)) (fun _ hk=>hk.2) (.slice Ao13 t1006.length co13)) (fun _ h_=>h_.1))))) (below_size (by exact zk2 HB GE1012.out)));replace HO1002:=Aside0.mk (Kd.S_elder' (by(with_reducible repeat(first|apply Kd.S_alloc|apply Kd.S_drewN|apply Kd.S_drew));exact(Kd.S_mono (Kd.S_far (p:=⟨gb1012,2,none⟩) (Kd.S_far (p:=⟨gb1012,1,none⟩) (Kd.S_far (p:=⟨gb1012,0,none⟩) (Kd.S_types HO1002.out BK1012.out (by decide)) (fun _ hk=>hk.2) (.slice Ao10 t1000.length co10)) (fun _ hk=>hk.2) (.slice Ao12 t1003.length co12)) (fun _ hk=>hk.2) (.slice Ao13 t1006.length co13)) (fun _ h_=>h_.1))) (Kd.R_base ho0) hb);replace HO1005:=Aside0.mk (Kd.S_elder' (by(with_reducible repeat(first|apply Kd.S_alloc|apply Kd.S_drewN|apply Kd.S_drew));exact(Kd.S_mono (Kd.S_far (p:=⟨gb1012,2,none⟩) (Kd.S_far (p:=⟨gb1012,1,none⟩) (Kd.S_far (p:=⟨gb1012,0,none⟩) (Kd.S_types HO1005.out BK1012.out (by decide)) (fun _ hk=>hk.2) (.slice Ao10 t1000.length co10)) (fun _ hk=>hk.2) (.slice Ao12 t1003.length co12)) (fun _ hk=>hk.2) (.slice Ao13 t1006.length co13)) (fun _ h_=>h_.1))) (Kd.R_base ho0) hb);replace HO1008:=Aside0.mk (Kd.R_elder' (by(with_reducible repeat(first|apply Kd.R_alloc|apply Kd.R_drewN|apply Kd.R_drew));exact(Kd.R_mono (Kd.R_far (p:=⟨gb1012,2,none⟩) (Kd.R_far (p:=⟨gb1012,1,none⟩) (Kd.R_far (p:=⟨gb1012,0,none⟩) (Kd.R_types HO1008.out BK1012.out (by decide)) (fun _ hk=>hk.2) (.slice Ao10 t1000.length co10)) (fun _ hk=>hk.2) (.slice Ao12 t1003.length co12)) (fun _ hk=>hk.2) (.slice Ao13 t1006.length co13)) (fun _ h_=>h_.1))) (Kd.R_base ho0) hb);replace HO1011:=Aside0.mk (Kd.R_elder' (by(with_reducible repeat(first|apply Kd.R_alloc|apply Kd.R_drewN|apply Kd.R_drew));exact(Kd.R_mono (Kd.R_far (p:=⟨gb1012,2,none⟩) (Kd.R_far (p:=⟨gb1012,1,none⟩) (Kd.R_far (p:=⟨gb1012,0,none⟩) (Kd.R_types HO1011.out BK1012.out (by decide)) (fun _ hk=>hk.2) (.slice Ao10 t1000.length co10)) (fun _ hk=>hk.2) (.slice Ao12 t1003.length co12)) (fun _ hk=>hk.2) (.slice Ao13 t1006.length co13)) (fun _ h_=>h_.1))) (Kd.R_base ho0) hb);replace BK1012:=Aside0.mk (blk_below (g:=gb1012) (o:= .cells #[.slice Ao10 t1000.length co10,.slice Ao12 t1003.length co12,.slice Ao13 t1006.length co13] 33 (0,0)) (by(with_reducible repeat(first|refine blk_drewN ?_ _|refine blk_drew ?_ |refine blk_alloc ?_ _));refine blk_put (cs:= #[.slice Ao10 t1000.length co10,.slice Ao12 t1003.length co12,.slice none 0 0]) ?_ 2 _ rfl;(with_reducible repeat(first|refine blk_drewN ?_ _|refine blk_drew ?_ |refine blk_alloc ?_ _));refine blk_put (cs:= #[.slice Ao10 t1000.length co10,.slice none 0 0,.slice none 0 0]) ?_ 1 _ rfl;(with_reducible repeat(first|refine blk_drewN ?_ _|refine blk_drew ?_ |refine blk_alloc ?_ _));refine blk_put (cs:= #[.slice none 0 0,.slice none 0 0,.slice none 0 0]) ?_ 0 _ rfl;(with_reducible repeat(first|refine blk_drewN ?_ _|refine blk_drew ?_ |refine blk_alloc ?_ _));exact BK1012.out) hb);replace HB:=Aside0.mk (below_step (by exact zk2 HB GE1012.out) hb);(try clear hb);(try clear hb2);(try clear hk);(try clear hi);(try clear ho0);have hcz15_0:=zcz BK1012 0 (.slice Ao10 t1000.length co10);have hcz15_1:=zcz BK1012 1 (.slice Ao12 t1003.length co12);have hcz15_2:=zcz BK1012 2 (.slice Ao13 t1006.length co13);have hfz15_0:=blk_frozen BK1012.out 0;have hfz15_1:=blk_frozen BK1012.out 1;have hfz15_2:=blk_frozen BK1012.out 2)|(go_at_call 35;(with_reducible refine(spec_MatchAll.calls k _ _ t1000 _ _ t1003 _ _ t1006 t1017 t1020 _ ?side1 ?side2 ?side3 ?side4 ?side5 ?side6 A6.out).mono ?_);(case side1=>exact zcc ((Kd.S_reads' HO1002.out).2.2));(case side2=>exact(Kd.S_reads' HO1002.out).2.1);(case side3=>exact zcc ((Kd.S_reads' HO1005.out).2.2));(case side4=>exact(Kd.S_reads' HO1005.out).2.1);(case side5=>exact zcc ((Kd.R_reads' HO1008.out).2.2));(case side6=>exact(Kd.R_reads' HO1008.out).2.1);rintro e w16 ⟨v1018,rfl,ho0,hb⟩;have HO1019:=Aside0.mk (Kd.R_lower (Kd.R_new' (Kd.R_new' (Kd.R_new' ho0 (Kd.R_lt (zq4 HO1008))) (Kd.R_lt (zq4 HO1011))) (Kd.R_lt (zq4 HO1015))) (below_size (by exact zk2 HB GE1012.out)));replace HO1002:=Aside0.mk (Kd.S_elder' (by(with_reducible repeat(first|apply Kd.S_alloc|apply Kd.S_drewN|apply Kd.S_drew));exact HO1002.out) (Kd.R_base ho0) hb);replace HO1005:=Aside0.mk (Kd.S_elder' (by(with_reducible repeat(first|apply Kd.S_alloc|apply Kd.S_drewN|apply Kd.S_drew));exact HO1005.out) (Kd.R_base ho0) hb);replace HO1008:=Aside0.mk (Kd.R_elder' (zq4 HO1008) (Kd.R_base ho0) hb);replace HO1011:=Aside0.mk (Kd.R_elder' (zq4 HO1011) (Kd.R_base ho0) hb);replace HO1015:=Aside0.mk (Kd.R_elder' (zq4 HO1015) (Kd.R_base ho0) hb);replace BK1012:=Aside0.mk (blk_below (g:=gb1012) (o:= .cells #[.slice Ao10 t1000.length co10,.slice Ao12 t1003.length co12,.slice Ao13 t1006.length co13] 33 (0,0)) (zq3 BK1012) hb);replace HB:=Aside0.mk (below_step (by exact zk2 HB GE1012.out) hb);(try clear hb);(try clear hb2);(try clear hk);(try clear hi);(try clear ho0))))
  (try simp only [Act.put,List.setIfInBounds_toArray,List.set_cons_zero,List.set_cons_succ])
  go_cut [60] (fun v60 wc=> ∃ (kq:Nat) (x60_6:Bool),v60= .bool x60_6∧Aside0 (laws_FnStable.j0 kq l1 t1009 t1013 t1016 x60_6 t1000 t1003 t1006=some r)∧Aside0 (kq≤k)∧Aside0 (Kd.R (Kd.int .i64) 3 wc w.heap.size (fun k_=>some k_≠ (v1014:Value).ownBlock∧some k_≠ ((.slice Ao13 t1006.length co13):Value).ownBlock) v1010 t1009)∧Aside0 (Kd.R (Kd.int .i64) 3 wc w.heap.size (fun k_=>some k_≠ (v1010:Value).ownBlock∧some k_≠ ((.slice Ao13 t1006.length co13):Value).ownBlock) v1014 t1013)∧Aside0 (Kd.S (Kd.slice 3 (Kd.int .i64)) 22 wc w.heap.size (fun k_=>some k_≠ (v1010:Value).ownBlock∧some k_≠ (v1014:Value).ownBlock∧some k_≠ ((.slice Ao12 t1003.length co12):Value).ownBlock∧some k_≠ ((.slice Ao13 t1006.length co13):Value).ownBlock) (.slice Ao10 t1000.length co10) t1000)∧Aside0 (Kd.S (Kd.slice 3 (Kd.int .i64)) 22 wc w.heap.size (fun k_=>some k_≠ (v1010:Value).ownBlock∧some k_≠ (v1014:Value).ownBlock∧some k_≠ ((.slice Ao10 t1000.length co10):Value).ownBlock∧some k_≠ ((.slice Ao13 t1006.length co13):Value).ownBlock) (.slice Ao12 t1003.length co12) t1003)∧Aside0 (Kd.R (Kd.int .i64) 3 wc w.heap.size (fun k_=>some k_≠ (v1010:Value).ownBlock∧some k_≠ (v1014:Value).ownBlock) (.slice Ao13 t1006.length co13) t1006)∧Aside0 (wc.heap[gb1012]?=some (.cells #[(.slice Ao10 t1000.length co10),(.slice Ao12 t1003.length co12),(.slice Ao13 t1006.length co13)] 33 (0,0)))∧Aside0 (Below w.heap.size w wc))
  case first=>
   have H:=HC7.out
   clear HC7
   by_cases c17:(t1016 !=t1020)=true
   ·rw [if_pos c17] at H
    have c17b0:(t1016 !=t1020)=true:=c17
    (try(have c17b1:decide (t1016=t1020)=false:=by simpa using c17))
    (try(have c17b2:(t1016==t1020)=false:=by simpa using c17))
    (try(have c17b3:¬ (t1016=t1020):=by simpa using c17))
    clear c17
    (first|rw [c17b0]|(simp only [i64_w,i32_w];rw [c17b0])|skip)
    exact absurd (H.trans (congrArg some HRT.out)) (by cases k<;>simp [laws_FnStable.j0])
   ·rw [if_neg c17] at H
    have c17b0:(t1016 !=t1020)=false:=by simpa using c17
    (try(have c17b1:decide (t1016=t1020)=true:=by simpa using c17))
    (try(have c17b2:(t1016==t1020)=true:=by simpa using c17))
    clear c17
    (first|rw [c17b0]|(simp only [i64_w,i32_w];rw [c17b0])|skip)
    replace H:=Option.bind_eq_some_iff.mp H
    obtain⟨t1021,A180,H⟩:=H
    replace H:(if t1021=true then((impl_GoodWishes.f k t1000 t1003 t1006).bind fun t1022=>(laws_FnStable.j0 k l1 t1009 t1013 t1016 (t1022 !=t1016) t1000 t1003 t1006)) else(laws_FnStable.j0 k l1 t1009 t1013 t1016 true t1000 t1003 t1006))=some r:=H
    have A18:=Aside0.mk A180
    clear A180
    by_cases c19:t1021=true
    ·subst c19
     have H1:((impl_GoodWishes.f k t1000 t1003 t1006).bind fun t1022=>(laws_FnStable.j0 k l1 t1009 t1013 t1016 (t1022 !=t1016) t1000 t1003 t1006))=some r:=by rw [if_pos rfl] at H;exact H
     clear H
     have H:=H1
     clear H1
     replace H:=Option.bind_eq_some_iff.mp H
     obtain⟨t1022,A200,H⟩:=H
     replace H:(laws_FnStable.j0 k l1 t1009 t1013 t1016 (t1022 !=t1016) t1000 t1003 t1006)=some r:=H
     have A20:=Aside0.mk A200
     clear A200
     as_aux_lemma=>
      have H':=Aside0.mk H
      clear H
      obtain⟨Ao21,co21,eo21⟩:=Kd.R_slice HO1015.out
      subst eo21
      obtain⟨Ao22,co22,eo22⟩:=Kd.R_slice HO1019.out
      subst eo22
      go_wp2_with (first|(go_at_call 38;(with_reducible refine(laws_sameInts.calls k _ _ t1013 _ _ t1017 true _ ?side1 ?side2 ?side3 ?side4 A18.out).mono ?_);(case side1=>exact zcc ((Kd.R_reads' HO1015.out).2.2));(case side2=>exact(Kd.R_reads' HO1015.out).2.1);(case side3=>exact zcc ((Kd.R_reads' HO1019.out).2.2));(case side4=>exact(Kd.R_reads' HO1019.out).2.1);rintro e w' ⟨rfl,⟨nd,rfl⟩⟩;(try first|exact⟨rfl,_,World.drewN_drewN _ _ _⟩|exact⟨rfl,_,Eq.trans (World.drewN_drewN _ _ _) (congrArg (World.drewN _) (Nat.add_assoc _ _ _))⟩);have hcz23_0:=zcz BK1012 0 (.slice Ao10 t1000.length co10);have hcz23_1:=zcz BK1012 1 (.slice Ao12 t1003.length co12);have hcz23_2:=zcz BK1012 2 (.slice Ao13 t1006.length co13);have hfz23_0:=blk_frozen BK1012.out 0;have hfz23_1:=blk_frozen BK1012.out 1;have hfz23_2:=blk_frozen BK1012.out 2)|(go_at_call 20;(with_reducible refine(impl_GoodWishes.calls k _ _ t1000 _ _ t1003 _ _ t1006 t1022 _ ?side1 ?side2 ?side3 ?side4 ?side5 ?side6 A20.out).mono ?_);(case side1=>exact zcc ((Kd.S_reads' HO1002.out).2.2));(case side2=>exact(Kd.S_reads' HO1002.out).2.1);(case side3=>exact zcc ((Kd.S_reads' HO1005.out).2.2));(case side4=>exact(Kd.S_reads' HO1005.out).2.1);(case side5=>exact zcc ((Kd.R_reads' HO1008.out).2.2));(case side6=>exact(Kd.R_reads' HO1008.out).2.1);rintro e w24 ⟨rfl,hb⟩;replace HO1002:=Aside0.mk (Kd.S_below (by(with_reducible repeat(first|apply Kd.S_alloc|apply Kd.S_drewN|apply Kd.S_drew));exact HO1002.out) hb);replace HO1005:=Aside0.mk (Kd.S_below (by(with_reducible repeat(first|apply Kd.S_alloc|apply Kd.S_drewN|apply Kd.S_drew));exact HO1005.out) hb);replace HO1008:=Aside0.mk (Kd.R_below (zq4 HO1008) hb);replace HO1011:=Aside0.mk (Kd.R_below (zq4 HO1011) hb);replace HO1015:=Aside0.mk (Kd.R_below (zq4 HO1015) hb);replace HO1019:=Aside0.mk (Kd.R_below (zq4 HO1019) hb);replace BK1012:=Aside0.mk (blk_below (g:=gb1012) (o:= .cells #[.slice Ao10 t1000.length co10,.slice Ao12 t1003.length co12,.slice Ao13 t1006.length co13] 33 (0,0)) (zq3 BK1012) hb);replace HB:=Aside0.mk (below_step (by exact zk2 HB GE1012.out) hb);(try clear hb);(try clear hb2);(try clear hk);(try clear hi)))
      repeat(go_quiet (first|(go_at_call 38;(with_reducible refine(laws_sameInts.calls k _ _ t1013 _ _ t1017 true _ ?side1 ?side2 ?side3 ?side4 A18.out).mono ?_);(case side1=>exact zcc ((Kd.R_reads' HO1015.out).2.2));(case side2=>exact(Kd.R_reads' HO1015.out).2.1);(case side3=>exact zcc ((Kd.R_reads' HO1019.out).2.2));(case side4=>exact(Kd.R_reads' HO1019.out).2.1);rintro e w' ⟨rfl,⟨nd,rfl⟩⟩;(try first|exact⟨rfl,_,World.drewN_drewN _ _ _⟩|exact⟨rfl,_,Eq.trans (World.drewN_drewN _ _ _) (congrArg (World.drewN _) (Nat.add_assoc _ _ _))⟩);have hcz23_0:=zcz BK1012 0 (.slice Ao10 t1000.length co10);have hcz23_1:=zcz BK1012 1 (.slice Ao12 t1003.length co12);have hcz23_2:=zcz BK1012 2 (.slice Ao13 t1006.length co13);have hfz23_0:=blk_frozen BK1012.out 0;have hfz23_1:=blk_frozen BK1012.out 1;have hfz23_2:=blk_frozen BK1012.out 2)|(go_at_call 20;(with_reducible refine(impl_GoodWishes.calls k _ _ t1000 _ _ t1003 _ _ t1006 t1022 _ ?side1 ?side2 ?side3 ?side4 ?side5 ?side6 A20.out).mono ?_);(case side1=>exact zcc ((Kd.S_reads' HO1002.out).2.2));(case side2=>exact(Kd.S_reads' HO1002.out).2.1);(case side3=>exact zcc ((Kd.S_reads' HO1005.out).2.2));(case side4=>exact(Kd.S_reads' HO1005.out).2.1);(case side5=>exact zcc ((Kd.R_reads' HO1008.out).2.2));(case side6=>exact(Kd.R_reads' HO1008.out).2.1);rintro e w24 ⟨rfl,hb⟩;replace HO1002:=Aside0.mk (Kd.S_below (by(with_reducible repeat(first|apply Kd.S_alloc|apply Kd.S_drewN|apply Kd.S_drew));exact HO1002.out) hb);replace HO1005:=Aside0.mk (Kd.S_below (by(with_reducible repeat(first|apply Kd.S_alloc|apply Kd.S_drewN|apply Kd.S_drew));exact HO1005.out) hb);replace HO1008:=Aside0.mk (Kd.R_below (zq4 HO1008) hb);replace HO1011:=Aside0.mk (Kd.R_below (zq4 HO1011) hb);replace HO1015:=Aside0.mk (Kd.R_below (zq4 HO1015) hb);replace HO1019:=Aside0.mk (Kd.R_below (zq4 HO1019) hb);replace BK1012:=Aside0.mk (blk_below (g:=gb1012) (o:= .cells #[.slice Ao10 t1000.length co10,.slice Ao12 t1003.length co12,.slice Ao13 t1006.length co13] 33 (0,0)) (zq3 BK1012) hb);replace HB:=Aside0.mk (below_step (by exact zk2 HB GE1012.out) hb);(try clear hb);(try clear hb2);(try clear hk);(try clear hi)));try go_wp2_with (first|(go_at_call 38;(with_reducible refine(laws_sameInts.calls k _ _ t1013 _ _ t1017 true _ ?side1 ?side2 ?side3 ?side4 A18.out).mono ?_);(case side1=>exact zcc ((Kd.R_reads' HO1015.out).2.2));(case side2=>exact(Kd.R_reads' HO1015.out).2.1);(case side3=>exact zcc ((Kd.R_reads' HO1019.out).2.2));(case side4=>exact(Kd.R_reads' HO1019.out).2.1);rintro e w' ⟨rfl,⟨nd,rfl⟩⟩;(try first|exact⟨rfl,_,World.drewN_drewN _ _ _⟩|exact⟨rfl,_,Eq.trans (World.drewN_drewN _ _ _) (congrArg (World.drewN _) (Nat.add_assoc _ _ _))⟩);have hcz23_0:=zcz BK1012 0 (.slice Ao10 t1000.length co10);have hcz23_1:=zcz BK1012 1 (.slice Ao12 t1003.length co12);have hcz23_2:=zcz BK1012 2 (.slice Ao13 t1006.length co13);have hfz23_0:=blk_frozen BK1012.out 0;have hfz23_1:=blk_frozen BK1012.out 1;have hfz23_2:=blk_frozen BK1012.out 2)|(go_at_call 20;(with_reducible refine(impl_GoodWishes.calls k _ _ t1000 _ _ t1003 _ _ t1006 t1022 _ ?side1 ?side2 ?side3 ?side4 ?side5 ?side6 A20.out).mono ?_);(case side1=>exact zcc ((Kd.S_reads' HO1002.out).2.2));(case side2=>exact(Kd.S_reads' HO1002.out).2.1);(case side3=>exact zcc ((Kd.S_reads' HO1005.out).2.2));(case side4=>exact(Kd.S_reads' HO1005.out).2.1);(case side5=>exact zcc ((Kd.R_reads' HO1008.out).2.2));(case side6=>exact(Kd.R_reads' HO1008.out).2.1);rintro e w24 ⟨rfl,hb⟩;replace HO1002:=Aside0.mk (Kd.S_below (by(with_reducible repeat(first|apply Kd.S_alloc|apply Kd.S_drewN|apply Kd.S_drew));exact HO1002.out) hb);replace HO1005:=Aside0.mk (Kd.S_below (by(with_reducible repeat(first|apply Kd.S_alloc|apply Kd.S_drewN|apply Kd.S_drew));exact HO1005.out) hb);replace HO1008:=Aside0.mk (Kd.R_below (zq4 HO1008) hb);replace HO1011:=Aside0.mk (Kd.R_below (zq4 HO1011) hb);replace HO1015:=Aside0.mk (Kd.R_below (zq4 HO1015) hb);replace HO1019:=Aside0.mk (Kd.R_below (zq4 HO1019) hb);replace BK1012:=Aside0.mk (blk_below (g:=gb1012) (o:= .cells #[.slice Ao10 t1000.length co10,.slice Ao12 t1003.length co12,.slice Ao13 t1006.length co13] 33 (0,0)) (zq3 BK1012) hb);replace HB:=Aside0.mk (below_step (by exact zk2 HB GE1012.out) hb);(try clear hb);(try clear hb2);(try clear hk);(try clear hi))))
      go_meet
      case rel=>exact⟨_,((t1022 !=t1016)),zrs,H',⟨by first|omega|exact Nat.le_refl _⟩,⟨by(with_reducible repeat(first|apply Kd.R_alloc|apply Kd.R_drewN|apply Kd.R_drew));exact Kd.R_mono HO1011.out (fun _ hk=>⟨hk.1.2,hk.1.1⟩)⟩,⟨by(with_reducible repeat(first|apply Kd.R_alloc|apply Kd.R_drewN|apply Kd.R_drew));exact Kd.R_mono HO1015.out (fun _ hk=>⟨hk.1.2,hk.1.1.2⟩)⟩,⟨by(with_reducible repeat(first|apply Kd.S_alloc|apply Kd.S_drewN|apply Kd.S_drew));exact Kd.S_mono HO1002.out (fun _ hk=>⟨hk.1.1.2.2,⟨hk.1.2,⟨hk.1.1.1,hk.1.1.2.1⟩⟩⟩)⟩,⟨by(with_reducible repeat(first|apply Kd.S_alloc|apply Kd.S_drewN|apply Kd.S_drew));exact Kd.S_mono HO1005.out (fun _ hk=>⟨hk.1.1.2.2,⟨hk.1.2,⟨hk.1.1.1,hk.1.1.2.1⟩⟩⟩)⟩,⟨by(with_reducible repeat(first|apply Kd.R_alloc|apply Kd.R_drewN|apply Kd.R_drew));exact Kd.R_mono HO1008.out (fun _ hk=>⟨hk.1.1,hk.1.2⟩)⟩,⟨by(with_reducible repeat(first|refine blk_drewN ?_ _|refine blk_drew ?_ |refine blk_alloc ?_ _));exact BK1012.out⟩,⟨by exact zk2 HB GE1012.out⟩⟩
    ·replace c19:=Bool.eq_false_iff.mpr c19
     subst c19
     have H1:(laws_FnStable.j0 k l1 t1009 t1013 t1016 true t1000 t1003 t1006)=some r:=by rw [if_neg (show ¬ (false=true) by decide)] at H;exact H
     clear H
     have H:=H1
     clear H1
     exact absurd (H.trans (congrArg some HRT.out)) (by cases k<;>simp [laws_FnStable.j0])
  case rest=>
   clear HC7
   try clear c1
   try clear p2
   try clear c3
   try clear c3b0
   try clear p6
   try clear c12
   try clear c17
   try clear c17b0
   try clear c17b1
   try clear c17b2
   try clear c19
   try clear hcz11_0
   try clear hcz11_1
   try clear hcz11_2
   try clear hcz15_0
   try clear hcz15_1
   try clear hcz15_2
   try clear hcz23_0
   try clear hcz23_1
   try clear hcz23_2
   try clear hfz11_0
   try clear hfz11_1
   try clear hfz11_2
   try clear hfz15_0
   try clear hfz15_1
   try clear hfz15_2
   try clear hfz23_0
   try clear hfz23_1
   try clear hfz23_2
   obtain⟨kq,x60_6,rfl,HA,HJ6,HO_6,HO_7,HO_1013000,HO_1013001,HO_1013002,BK1012,HB⟩:=hcut
   cases kq with
   |zero=>exact absurd HA.out (by simp [laws_FnStable.j0])
   |succ kj6=>
    have H:=HA.out
    clear HA
    simp only [laws_FnStable.j0] at H
    by_cases c25:x60_6=true
    ·subst c25
     have H1:(some false)=some r:=by rw [if_pos rfl] at H;exact H
     clear H
     have H:=H1
     clear H1
     exact absurd ((Option.some.inj H).trans HRT.out) (by decide)
    ·replace c25:=Bool.eq_false_iff.mpr c25
     subst c25
     have H1:(if t1016=true then((impl_IsStable.f kj6 t1000 t1003 t1006 t1013).bind fun bt1023=>((impl_RanksOf.f kj6 t1000 t1003 t1006 t1013).bind fun bt1025=>((impl_GoodMatch.f kj6 t1000 t1003 t1006 t1013).bind fun t1029=>(if t1029=true then(if bt1023.2=true then(if bt1023.1=true then(laws_FnStable.j1 kj6 l1 t1009 bt1025.1 (!bt1025.2) t1000 t1003 t1006) else(laws_FnStable.j1 kj6 l1 t1009 bt1025.1 true t1000 t1003 t1006)) else(laws_FnStable.j1 kj6 l1 t1009 bt1025.1 true t1000 t1003 t1006)) else(laws_FnStable.j1 kj6 l1 t1009 bt1025.1 true t1000 t1003 t1006))))) else(laws_FnStable.j4 kj6 l1))=some r:=by rw [if_neg (show ¬ (false=true) by decide)] at H;exact H
     clear H
     have H:=H1
     clear H1
     have HC26:=Aside0.mk H
     clear H
     go_upto_if 61 with (fail)
     repeat(go_quiet (fail);go_upto_if 61 with (fail))
     go_cut [] (fun wc=> ∃ (kq:Nat),Aside0 (laws_FnStable.j4 kq l1=some r)∧Aside0 (kq≤kj6)∧Aside0 (Kd.S (Kd.slice 3 (Kd.int .i64)) 22 wc w.heap.size (fun k_=>some k_≠ ((.slice Ao12 t1003.length co12):Value).ownBlock∧some k_≠ ((.slice Ao13 t1006.length co13):Value).ownBlock) (.slice Ao10 t1000.length co10) t1000)∧Aside0 (Kd.S (Kd.slice 3 (Kd.int .i64)) 22 wc w.heap.size (fun k_=>some k_≠ ((.slice Ao10 t1000.length co10):Value).ownBlock∧some k_≠ ((.slice Ao13 t1006.length co13):Value).ownBlock) (.slice Ao12 t1003.length co12) t1003)∧Aside0 (Kd.R (Kd.int .i64) 3 wc w.heap.size (fun _=>True) (.slice Ao13 t1006.length co13) t1006)∧Aside0 (wc.heap[gb1012]?=some (.cells #[(.slice Ao10 t1000.length co10),(.slice Ao12 t1003.length co12),(.slice Ao13 t1006.length co13)] 33 (0,0)))∧Aside0 (Below w.heap.size w wc))
     case first=>
      have H:=HC26.out
      clear HC26
      by_cases c27:t1016=true
      ·subst c27
       have H1:((impl_IsStable.f kj6 t1000 t1003 t1006 t1013).bind fun bt1023=>((impl_RanksOf.f kj6 t1000 t1003 t1006 t1013).bind fun bt1025=>((impl_GoodMatch.f kj6 t1000 t1003 t1006 t1013).bind fun t1029=>(if t1029=true then(if bt1023.2=true then(if bt1023.1=true then(laws_FnStable.j1 kj6 l1 t1009 bt1025.1 (!bt1025.2) t1000 t1003 t1006) else(laws_FnStable.j1 kj6 l1 t1009 bt1025.1 true t1000 t1003 t1006)) else(laws_FnStable.j1 kj6 l1 t1009 bt1025.1 true t1000 t1003 t1006)) else(laws_FnStable.j1 kj6 l1 t1009 bt1025.1 true t1000 t1003 t1006)))))=some r:=by rw [if_pos rfl] at H;exact H
       clear H
       have H:=H1
       clear H1
       replace H:=Option.bind_eq_some_iff.mp H
       obtain⟨⟨t1023,t1024⟩,A280,H⟩:=H
       replace H:((impl_RanksOf.f kj6 t1000 t1003 t1006 t1013).bind fun bt1025=>((impl_GoodMatch.f kj6 t1000 t1003 t1006 t1013).bind fun t1029=>(if t1029=true then(if t1024=true then(if t1023=true then(laws_FnStable.j1 kj6 l1 t1009 bt1025.1 (!bt1025.2) t1000 t1003 t1006) else(laws_FnStable.j1 kj6 l1 t1009 bt1025.1 true t1000 t1003 t1006)) else(laws_FnStable.j1 kj6 l1 t1009 bt1025.1 true t1000 t1003 t1006)) else(laws_FnStable.j1 kj6 l1 t1009 bt1025.1 true t1000 t1003 t1006))))=some r:=H
       have A28:=Aside0.mk A280
       clear A280
       replace H:=Option.bind_eq_some_iff.mp H
       obtain⟨⟨t1025,t1028⟩,A290,H⟩:=H
       replace H:((impl_GoodMatch.f kj6 t1000 t1003 t1006 t1013).bind fun t1029=>(if t1029=true then(if t1024=true then(if t1023=true then(laws_FnStable.j1 kj6 l1 t1009 t1025 (!t1028) t1000 t1003 t1006) else(laws_FnStable.j1 kj6 l1 t1009 t1025 true t1000 t1003 t1006)) else(laws_FnStable.j1 kj6 l1 t1009 t1025 true t1000 t1003 t1006)) else(laws_FnStable.j1 kj6 l1 t1009 t1025 true t1000 t1003 t1006)))=some r:=H
       have A29:=Aside0.mk A290
       clear A290
       have HC30:=Aside0.mk H
       clear H
       have hcz31_0:wc.cell? ⟨gb1012,0,none⟩=some (.slice Ao10 t1000.length co10):=(blk_cell BK1012.out 0).trans rfl
       have hcz31_1:wc.cell? ⟨gb1012,1,none⟩=some (.slice Ao12 t1003.length co12):=(blk_cell BK1012.out 1).trans rfl
       have hcz31_2:wc.cell? ⟨gb1012,2,none⟩=some (.slice Ao13 t1006.length co13):=(blk_cell BK1012.out 2).trans rfl
       have hfz31_0:=blk_frozen BK1012.out 0
       have hfz31_1:=blk_frozen BK1012.out 1
       have hfz31_2:=blk_frozen BK1012.out 2
       obtain⟨Ao32,co32,eo32⟩:=Kd.R_slice HO_7.out
       subst eo32
       go_upto_region 11 with (first|(go_at_call 32;(with_reducible refine(impl_IsStable.calls kj6 _ _ t1000 _ _ t1003 _ _ t1006 _ _ t1013 t1023 t1024 _ ?side1 ?side2 ?side3 ?side4 ?side5 ?side6 ?side7 ?side8 A28.out).mono ?_);(case side1=>exact zcc ((Kd.S_reads' HO_1013000.out).2.2));(case side2=>exact(Kd.S_reads' HO_1013000.out).2.1);(case side3=>exact zcc ((Kd.S_reads' HO_1013001.out).2.2));(case side4=>exact(Kd.S_reads' HO_1013001.out).2.1);(case side5=>exact zcc ((Kd.R_reads' HO_1013002.out).2.2));(case side6=>exact(Kd.R_reads' HO_1013002.out).2.1);(case side7=>exact zcc ((Kd.R_reads' HO_7.out).2.2));(case side8=>exact(Kd.R_reads' HO_7.out).2.1);rintro e w33 ⟨rfl,hb⟩;replace HO_6:=Aside0.mk (Kd.R_below (zq4 HO_6) hb);replace HO_7:=Aside0.mk (Kd.R_below (zq4 HO_7) hb);replace HO_1013000:=Aside0.mk (Kd.S_below (by(with_reducible repeat(first|apply Kd.S_alloc|apply Kd.S_drewN|apply Kd.S_drew));exact HO_1013000.out) hb);replace HO_1013001:=Aside0.mk (Kd.S_below (by(with_reducible repeat(first|apply Kd.S_alloc|apply Kd.S_drewN|apply Kd.S_drew));exact HO_1013001.out) hb);replace HO_1013002:=Aside0.mk (Kd.R_below (zq4 HO_1013002) hb);replace BK1012:=Aside0.mk (blk_below (g:=gb1012) (o:= .cells #[.slice Ao10 t1000.length co10,.slice Ao12 t1003.length co12,.slice Ao13 t1006.length co13] 33 (0,0)) (zq3 BK1012) hb);replace HB:=Aside0.mk (below_step (by exact zk2 HB GE1012.out) hb);(try clear hb);(try clear hb2);(try clear hk);(try clear hi);have hcz34_0:=zcz BK1012 0 (.slice Ao10 t1000.length co10);have hcz34_1:=zcz BK1012 1 (.slice Ao12 t1003.length co12);have hcz34_2:=zcz BK1012 2 (.slice Ao13 t1006.length co13);have hfz34_0:=blk_frozen BK1012.out 0;have hfz34_1:=blk_frozen BK1012.out 1;have hfz34_2:=blk_frozen BK1012.out 2)|(go_at_call 30;(with_reducible refine(impl_RanksOf.calls kj6 _ _ t1000 _ _ t1003 _ _ t1006 _ _ t1013 t1025 t1028 _ ?side1 ?side2 ?side3 ?side4 ?side5 ?side6 ?side7 ?side8 A29.out).mono ?_);(case side1=>exact zcc ((Kd.S_reads' HO_1013000.out).2.2));(case side2=>exact(Kd.S_reads' HO_1013000.out).2.1);(case side3=>exact zcc ((Kd.S_reads' HO_1013001.out).2.2));(case side4=>exact(Kd.S_reads' HO_1013001.out).2.1);(case side5=>exact zcc ((Kd.R_reads' HO_1013002.out).2.2));(case side6=>exact(Kd.R_reads' HO_1013002.out).2.1);(case side7=>exact zcc ((Kd.R_reads' HO_7.out).2.2));(case side8=>exact(Kd.R_reads' HO_7.out).2.1);rintro e w35 ⟨v1026,rfl,ho0,hb⟩;have HO1027:=Aside0.mk (Kd.R_lower (Kd.R_new' (Kd.R_new' (Kd.R_new' ho0 (Kd.R_lt (zq4 HO_6))) (Kd.R_lt (zq4 HO_7))) (Kd.R_lt (zq4 HO_1013002))) (below_size (by exact zk2 HB GE1012.out)));replace HO_6:=Aside0.mk (Kd.R_elder' (zq4 HO_6) (Kd.R_base ho0) hb);replace HO_7:=Aside0.mk (Kd.R_elder' (zq4 HO_7) (Kd.R_base ho0) hb);replace HO_1013000:=Aside0.mk (Kd.S_elder' (by(with_reducible repeat(first|apply Kd.S_alloc|apply Kd.S_drewN|apply Kd.S_drew));exact HO_1013000.out) (Kd.R_base ho0) hb);replace HO_1013001:=Aside0.mk (Kd.S_elder' (by(with_reducible repeat(first|apply Kd.S_alloc|apply Kd.S_drewN|apply Kd.S_drew));exact HO_1013001.out) (Kd.R_base ho0) hb);replace HO_1013002:=Aside0.mk (Kd.R_elder' (zq4 HO_1013002) (Kd.R_base ho0) hb);replace BK1012:=Aside0.mk (blk_below (g:=gb1012) (o:= .cells #[.slice Ao10 t1000.length co10,.slice Ao12 t1003.length co12,.slice Ao13 t1006.length co13] 33 (0,0)) (zq3 BK1012) hb);replace HB:=Aside0.mk (below_step (by exact zk2 HB GE1012.out) hb);(try clear hb);(try clear hb2);(try clear hk);(try clear hi);(try clear ho0)))
       repeat(go_quiet (first|(go_at_call 32;(with_reducible refine(impl_IsStable.calls kj6 _ _ t1000 _ _ t1003 _ _ t1006 _ _ t1013 t1023 t1024 _ ?side1 ?side2 ?side3 ?side4 ?side5 ?side6 ?side7 ?side8 A28.out).mono ?_);(case side1=>exact zcc ((Kd.S_reads' HO_1013000.out).2.2));(case side2=>exact(Kd.S_reads' HO_1013000.out).2.1);(case side3=>exact zcc ((Kd.S_reads' HO_1013001.out).2.2));(case side4=>exact(Kd.S_reads' HO_1013001.out).2.1);(case side5=>exact zcc ((Kd.R_reads' HO_1013002.out).2.2));(case side6=>exact(Kd.R_reads' HO_1013002.out).2.1);(case side7=>exact zcc ((Kd.R_reads' HO_7.out).2.2));(case side8=>exact(Kd.R_reads' HO_7.out).2.1);rintro e w33 ⟨rfl,hb⟩;replace HO_6:=Aside0.mk (Kd.R_below (zq4 HO_6) hb);replace HO_7:=Aside0.mk (Kd.R_below (zq4 HO_7) hb);replace HO_1013000:=Aside0.mk (Kd.S_below (by(with_reducible repeat(first|apply Kd.S_alloc|apply Kd.S_drewN|apply Kd.S_drew));exact HO_1013000.out) hb);replace HO_1013001:=Aside0.mk (Kd.S_below (by(with_reducible repeat(first|apply Kd.S_alloc|apply Kd.S_drewN|apply Kd.S_drew));exact HO_1013001.out) hb);replace HO_1013002:=Aside0.mk (Kd.R_below (zq4 HO_1013002) hb);replace BK1012:=Aside0.mk (blk_below (g:=gb1012) (o:= .cells #[.slice Ao10 t1000.length co10,.slice Ao12 t1003.length co12,.slice Ao13 t1006.length co13] 33 (0,0)) (zq3 BK1012) hb);replace HB:=Aside0.mk (below_step (by exact zk2 HB GE1012.out) hb);(try clear hb);(try clear hb2);(try clear hk);(try clear hi);have hcz34_0:=zcz BK1012 0 (.slice Ao10 t1000.length co10);have hcz34_1:=zcz BK1012 1 (.slice Ao12 t1003.length co12);have hcz34_2:=zcz BK1012 2 (.slice Ao13 t1006.length co13);have hfz34_0:=blk_frozen BK1012.out 0;have hfz34_1:=blk_frozen BK1012.out 1;have hfz34_2:=blk_frozen BK1012.out 2)|(go_at_call 30;(with_reducible refine(impl_RanksOf.calls kj6 _ _ t1000 _ _ t1003 _ _ t1006 _ _ t1013 t1025 t1028 _ ?side1 ?side2 ?side3 ?side4 ?side5 ?side6 ?side7 ?side8 A29.out).mono ?_);(case side1=>exact zcc ((Kd.S_reads' HO_1013000.out).2.2));(case side2=>exact(Kd.S_reads' HO_1013000.out).2.1);(case side3=>exact zcc ((Kd.S_reads' HO_1013001.out).2.2));(case side4=>exact(Kd.S_reads' HO_1013001.out).2.1);(case side5=>exact zcc ((Kd.R_reads' HO_1013002.out).2.2));(case side6=>exact(Kd.R_reads' HO_1013002.out).2.1);(case side7=>exact zcc ((Kd.R_reads' HO_7.out).2.2));(case side8=>exact(Kd.R_reads' HO_7.out).2.1);rintro e w35 ⟨v1026,rfl,ho0,hb⟩;have HO1027:=Aside0.mk (Kd.R_lower (Kd.R_new' (Kd.R_new' (Kd.R_new' ho0 (Kd.R_lt (zq4 HO_6))) (Kd.R_lt (zq4 HO_7))) (Kd.R_lt (zq4 HO_1013002))) (below_size (by exact zk2 HB GE1012.out)));replace HO_6:=Aside0.mk (Kd.R_elder' (zq4 HO_6) (Kd.R_base ho0) hb);replace HO_7:=Aside0.mk (Kd.R_elder' (zq4 HO_7) (Kd.R_base ho0) hb);replace HO_1013000:=Aside0.mk (Kd.S_elder' (by(with_reducible repeat(first|apply Kd.S_alloc|apply Kd.S_drewN|apply Kd.S_drew));exact HO_1013000.out) (Kd.R_base ho0) hb);replace HO_1013001:=Aside0.mk (Kd.S_elder' (by(with_reducible repeat(first|apply Kd.S_alloc|apply Kd.S_drewN|apply Kd.S_drew));exact HO_1013001.out) (Kd.R_base ho0) hb);replace HO_1013002:=Aside0.mk (Kd.R_elder' (zq4 HO_1013002) (Kd.R_base ho0) hb);replace BK1012:=Aside0.mk (blk_below (g:=gb1012) (o:= .cells #[.slice Ao10 t1000.length co10,.slice Ao12 t1003.length co12,.slice Ao13 t1006.length co13] 33 (0,0)) (zq3 BK1012) hb);replace HB:=Aside0.mk (below_step (by exact zk2 HB GE1012.out) hb);(try clear hb);(try clear hb2);(try clear hk);(try clear hi);(try clear ho0)));go_upto_region 11 with (first|(go_at_call 32;(with_reducible refine(impl_IsStable.calls kj6 _ _ t1000 _ _ t1003 _ _ t1006 _ _ t1013 t1023 t1024 _ ?side1 ?side2 ?side3 ?side4 ?side5 ?side6 ?side7 ?side8 A28.out).mono ?_);(case side1=>exact zcc ((Kd.S_reads' HO_1013000.out).2.2));(case side2=>exact(Kd.S_reads' HO_1013000.out).2.1);(case side3=>exact zcc ((Kd.S_reads' HO_1013001.out).2.2));(case side4=>exact(Kd.S_reads' HO_1013001.out).2.1);(case side5=>exact zcc ((Kd.R_reads' HO_1013002.out).2.2));(case side6=>exact(Kd.R_reads' HO_1013002.out).2.1);(case side7=>exact zcc ((Kd.R_reads' HO_7.out).2.2));(case side8=>exact(Kd.R_reads' HO_7.out).2.1);rintro e w33 ⟨rfl,hb⟩;replace HO_6:=Aside0.mk (Kd.R_below (zq4 HO_6) hb);replace HO_7:=Aside0.mk (Kd.R_below (zq4 HO_7) hb);replace HO_1013000:=Aside0.mk (Kd.S_below (by(with_reducible repeat(first|apply Kd.S_alloc|apply Kd.S_drewN|apply Kd.S_drew));exact HO_1013000.out) hb);replace HO_1013001:=Aside0.mk (Kd.S_below (by(with_reducible repeat(first|apply Kd.S_alloc|apply Kd.S_drewN|apply Kd.S_drew));exact HO_1013001.out) hb);replace HO_1013002:=Aside0.mk (Kd.R_below (zq4 HO_1013002) hb);replace BK1012:=Aside0.mk (blk_below (g:=gb1012) (o:= .cells #[.slice Ao10 t1000.length co10,.slice Ao12 t1003.length co12,.slice Ao13 t1006.length co13] 33 (0,0)) (zq3 BK1012) hb);replace HB:=Aside0.mk (below_step (by exact zk2 HB GE1012.out) hb);(try clear hb);(try clear hb2);(try clear hk);(try clear hi);have hcz34_0:=zcz BK1012 0 (.slice Ao10 t1000.length co10);have hcz34_1:=zcz BK1012 1 (.slice Ao12 t1003.length co12);have hcz34_2:=zcz BK1012 2 (.slice Ao13 t1006.length co13);have hfz34_0:=blk_frozen BK1012.out 0;have hfz34_1:=blk_frozen BK1012.out 1;have hfz34_2:=blk_frozen BK1012.out 2)|(go_at_call 30;(with_reducible refine(impl_RanksOf.calls kj6 _ _ t1000 _ _ t1003 _ _ t1006 _ _ t1013 t1025 t1028 _ ?side1 ?side2 ?side3 ?side4 ?side5 ?side6 ?side7 ?side8 A29.out).mono ?_);(case side1=>exact zcc ((Kd.S_reads' HO_1013000.out).2.2));(case side2=>exact(Kd.S_reads' HO_1013000.out).2.1);(case side3=>exact zcc ((Kd.S_reads' HO_1013001.out).2.2));(case side4=>exact(Kd.S_reads' HO_1013001.out).2.1);(case side5=>exact zcc ((Kd.R_reads' HO_1013002.out).2.2));(case side6=>exact(Kd.R_reads' HO_1013002.out).2.1);(case side7=>exact zcc ((Kd.R_reads' HO_7.out).2.2));(case side8=>exact(Kd.R_reads' HO_7.out).2.1);rintro e w35 ⟨v1026,rfl,ho0,hb⟩;have HO1027:=Aside0.mk (Kd.R_lower (Kd.R_new' (Kd.R_new' (Kd.R_new' ho0 (Kd.R_lt (zq4 HO_6))) (Kd.R_lt (zq4 HO_7))) (Kd.R_lt (zq4 HO_1013002))) (below_size (by exact zk2 HB GE1012.out)));replace HO_6:=Aside0.mk (Kd.R_elder' (zq4 HO_6) (Kd.R_base ho0) hb);replace HO_7:=Aside0.mk (Kd.R_elder' (zq4 HO_7) (Kd.R_base ho0) hb);replace HO_1013000:=Aside0.mk (Kd.S_elder' (by(with_reducible repeat(first|apply Kd.S_alloc|apply Kd.S_drewN|apply Kd.S_drew));exact HO_1013000.out) (Kd.R_base ho0) hb);replace HO_1013001:=Aside0.mk (Kd.S_elder' (by(with_reducible repeat(first|apply Kd.S_alloc|apply Kd.S_drewN|apply Kd.S_drew));exact HO_1013001.out) (Kd.R_base ho0) hb);replace HO_1013002:=Aside0.mk (Kd.R_elder' (zq4 HO_1013002) (Kd.R_base ho0) hb);replace BK1012:=Aside0.mk (blk_below (g:=gb1012) (o:= .cells #[.slice Ao10 t1000.length co10,.slice Ao12 t1003.length co12,.slice Ao13 t1006.length co13] 33 (0,0)) (zq3 BK1012) hb);replace HB:=Aside0.mk (below_step (by exact zk2 HB GE1012.out) hb);(try clear hb);(try clear hb2);(try clear hk);(try clear hi);(try clear ho0))))
       (try simp only [Act.put,List.setIfInBounds_toArray,List.set_cons_zero,List.set_cons_succ])
       go_cut [89] (fun v89 wc=> ∃ (kq:Nat) (x89_29:Bool),v89= .bool x89_29∧Aside0 (laws_FnStable.j1 kq l1 t1009 t1025 x89_29 t1000 t1003 t1006=some r)∧Aside0 (kq≤kj6)∧Aside0 (Kd.R (Kd.int .i64) 3 wc w.heap.size (fun k_=>some k_≠ (v1026:Value).ownBlock∧some k_≠ ((.slice Ao13 t1006.length co13):Value).ownBlock) v1010 t1009)∧Aside0 (Kd.R (Kd.int .i64) 3 wc w.heap.size (fun k_=>some k_≠ (v1010:Value).ownBlock∧some k_≠ ((.slice Ao13 t1006.length co13):Value).ownBlock) v1026 t1025)∧Aside0 (Kd.S (Kd.slice 3 (Kd.int .i64)) 22 wc w.heap.size (fun k_=>some k_≠ (v1010:Value).ownBlock∧some k_≠ (v1026:Value).ownBlock∧some k_≠ ((.slice Ao12 t1003.length co12):Value).ownBlock∧some k_≠ ((.slice Ao13 t1006.length co13):Value).ownBlock) (.slice Ao10 t1000.length co10) t1000)∧Aside0 (Kd.S (Kd.slice 3 (Kd.int .i64)) 22 wc w.heap.size (fun k_=>some k_≠ (v1010:Value).ownBlock∧some k_≠ (v1026:Value).ownBlock∧some k_≠ ((.slice Ao10 t1000.length co10):Value).ownBlock∧some k_≠ ((.slice Ao13 t1006.length co13):Value).ownBlock) (.slice Ao12 t1003.length co12) t1003)∧Aside0 (Kd.R (Kd.int .i64) 3 wc w.heap.size (fun k_=>some k_≠ (v1010:Value).ownBlock∧some k_≠ (v1026:Value).ownBlock) (.slice Ao13 t1006.length co13) t1006)∧Aside0 (wc.heap[gb1012]?=some (.cells #[(.slice Ao10 t1000.length co10),(.slice Ao12 t1003.length co12),(.slice Ao13 t1006.length co13)] 33 (0,0)))∧Aside0 (Below w.heap.size w wc))
       case first=>
        have H:=HC30.out
        clear HC30
        replace H:=Option.bind_eq_some_iff.mp H
        obtain⟨t1029,A360,H⟩:=H
        replace H:(if t1029=true then(if t1024=true then(if t1023=true then(laws_FnStable.j1 kj6 l1 t1009 t1025 (!t1028) t1000 t1003 t1006) else(laws_FnStable.j1 kj6 l1 t1009 t1025 true t1000 t1003 t1006)) else(laws_FnStable.j1 kj6 l1 t1009 t1025 true t1000 t1003 t1006)) else(laws_FnStable.j1 kj6 l1 t1009 t1025 true t1000 t1003 t1006))=some r:=H
        have A36:=Aside0.mk A360
        clear A360
        by_cases c37:t1029=true
        ·subst c37
         have H1:(if t1024=true then(if t1023=true then(laws_FnStable.j1 kj6 l1 t1009 t1025 (!t1028) t1000 t1003 t1006) else(laws_FnStable.j1 kj6 l1 t1009 t1025 true t1000 t1003 t1006)) else(laws_FnStable.j1 kj6 l1 t1009 t1025 true t1000 t1003 t1006))=some r:=by rw [if_pos rfl] at H;exact H
         clear H
         have H:=H1
         clear H1
         by_cases c38:t1024=true
         ·subst c38
          have H1:(if t1023=true then(laws_FnStable.j1 kj6 l1 t1009 t1025 (!t1028) t1000 t1003 t1006) else(laws_FnStable.j1 kj6 l1 t1009 t1025 true t1000 t1003 t1006))=some r:=by rw [if_pos rfl] at H;exact H
          clear H
          have H:=H1
          clear H1
          by_cases c39:t1023=true
          ·subst c39
           have H1:(laws_FnStable.j1 kj6 l1 t1009 t1025 (!t1028) t1000 t1003 t1006)=some r:=by rw [if_pos rfl] at H;exact H
           clear H
           have H:=H1
           clear H1
           as_aux_lemma=>
            have H':=Aside0.mk H
            clear H
            have hcz40_0:=zcz BK1012 0 (.slice Ao10 t1000.length co10)
            have hcz40_1:=zcz BK1012 1 (.slice Ao12 t1003.length co12)
            have hcz40_2:=zcz BK1012 2 (.slice Ao13 t1006.length co13)
            have hfz40_0:=blk_frozen BK1012.out 0
            have hfz40_1:=blk_frozen BK1012.out 1
            have hfz40_2:=blk_frozen BK1012.out 2
            go_wp2_with (first|(go_at_call 23;(with_reducible refine(impl_GoodMatch.calls kj6 _ _ t1000 _ _ t1003 _ _ t1006 _ _ t1013 true _ ?side1 ?side2 ?side3 ?side4 ?side5 ?side6 ?side7 ?side8 A36.out).mono ?_);(case side1=>exact zcc ((Kd.S_reads' HO_1013000.out).2.2));(case side2=>exact(Kd.S_reads' HO_1013000.out).2.1);(case side3=>exact zcc ((Kd.S_reads' HO_1013001.out).2.2));(case side4=>exact(Kd.S_reads' HO_1013001.out).2.1);(case side5=>exact zcc ((Kd.R_reads' HO_1013002.out).2.2));(case side6=>exact(Kd.R_reads' HO_1013002.out).2.1);(case side7=>exact zcc ((Kd.R_reads' HO_7.out).2.2));(case side8=>exact(Kd.R_reads' HO_7.out).2.1);rintro e w41 ⟨rfl,hb⟩;replace HO_6:=Aside0.mk (Kd.R_below (zq4 HO_6) hb);replace HO_7:=Aside0.mk (Kd.R_below (zq4 HO_7) hb);replace HO_1013000:=Aside0.mk (Kd.S_below (by(with_reducible repeat(first|apply Kd.S_alloc|apply Kd.S_drewN|apply Kd.S_drew));exact HO_1013000.out) hb);replace HO_1013001:=Aside0.mk (Kd.S_below (by(with_reducible repeat(first|apply Kd.S_alloc|apply Kd.S_drewN|apply Kd.S_drew));exact HO_1013001.out) hb);replace HO_1013002:=Aside0.mk (Kd.R_below (zq4 HO_1013002) hb);replace HO1027:=Aside0.mk (Kd.R_below (zq4 HO1027) hb);replace BK1012:=Aside0.mk (blk_below (g:=gb1012) (o:= .cells #[.slice Ao10 t1000.length co10,.slice Ao12 t1003.length co12,.slice Ao13 t1006.length co13] 33 (0,0)) (zq3 BK1012) hb);replace HB:=Aside0.mk (below_step (by exact zk2 HB GE1012.out) hb);(try clear hb);(try clear hb2);(try clear hk);(try clear hi)))
            repeat(go_quiet (first|(go_at_call 23;(with_reducible refine(impl_GoodMatch.calls kj6 _ _ t1000 _ _ t1003 _ _ t1006 _ _ t1013 true _ ?side1 ?side2 ?side3 ?side4 ?side5 ?side6 ?side7 ?side8 A36.out).mono ?_);(case side1=>exact zcc ((Kd.S_reads' HO_1013000.out).2.2));(case side2=>exact(Kd.S_reads' HO_1013000.out).2.1);(case side3=>exact zcc ((Kd.S_reads' HO_1013001.out).2.2));(case side4=>exact(Kd.S_reads' HO_1013001.out).2.1);(case side5=>exact zcc ((Kd.R_reads' HO_1013002.out).2.2));(case side6=>exact(Kd.R_reads' HO_1013002.out).2.1);(case side7=>exact zcc ((Kd.R_reads' HO_7.out).2.2));(case side8=>exact(Kd.R_reads' HO_7.out).2.1);rintro e w41 ⟨rfl,hb⟩;replace HO_6:=Aside0.mk (Kd.R_below (zq4 HO_6) hb);replace HO_7:=Aside0.mk (Kd.R_below (zq4 HO_7) hb);replace HO_1013000:=Aside0.mk (Kd.S_below (by(with_reducible repeat(first|apply Kd.S_alloc|apply Kd.S_drewN|apply Kd.S_drew));exact HO_1013000.out) hb);replace HO_1013001:=Aside0.mk (Kd.S_below (by(with_reducible repeat(first|apply Kd.S_alloc|apply Kd.S_drewN|apply Kd.S_drew));exact HO_1013001.out) hb);replace HO_1013002:=Aside0.mk (Kd.R_below (zq4 HO_1013002) hb);replace HO1027:=Aside0.mk (Kd.R_below (zq4 HO1027) hb);replace BK1012:=Aside0.mk (blk_below (g:=gb1012) (o:= .cells #[.slice Ao10 t1000.length co10,.slice Ao12 t1003.length co12,.slice Ao13 t1006.length co13] 33 (0,0)) (zq3 BK1012) hb);replace HB:=Aside0.mk (below_step (by exact zk2 HB GE1012.out) hb);(try clear hb);(try clear hb2);(try clear hk);(try clear hi)));try go_wp2_with (first|(go_at_call 23;(with_reducible refine(impl_GoodMatch.calls kj6 _ _ t1000 _ _ t1003 _ _ t1006 _ _ t1013 true _ ?side1 ?side2 ?side3 ?side4 ?side5 ?side6 ?side7 ?side8 A36.out).mono ?_);(case side1=>exact zcc ((Kd.S_reads' HO_1013000.out).2.2));(case side2=>exact(Kd.S_reads' HO_1013000.out).2.1);(case side3=>exact zcc ((Kd.S_reads' HO_1013001.out).2.2));(case side4=>exact(Kd.S_reads' HO_1013001.out).2.1);(case side5=>exact zcc ((Kd.R_reads' HO_1013002.out).2.2));(case side6=>exact(Kd.R_reads' HO_1013002.out).2.1);(case side7=>exact zcc ((Kd.R_reads' HO_7.out).2.2));(case side8=>exact(Kd.R_reads' HO_7.out).2.1);rintro e w41 ⟨rfl,hb⟩;replace HO_6:=Aside0.mk (Kd.R_below (zq4 HO_6) hb);replace HO_7:=Aside0.mk (Kd.R_below (zq4 HO_7) hb);replace HO_1013000:=Aside0.mk (Kd.S_below (by(with_reducible repeat(first|apply Kd.S_alloc|apply Kd.S_drewN|apply Kd.S_drew));exact HO_1013000.out) hb);replace HO_1013001:=Aside0.mk (Kd.S_below (by(with_reducible repeat(first|apply Kd.S_alloc|apply Kd.S_drewN|apply Kd.S_drew));exact HO_1013001.out) hb);replace HO_1013002:=Aside0.mk (Kd.R_below (zq4 HO_1013002) hb);replace HO1027:=Aside0.mk (Kd.R_below (zq4 HO1027) hb);replace BK1012:=Aside0.mk (blk_below (g:=gb1012) (o:= .cells #[.slice Ao10 t1000.length co10,.slice Ao12 t1003.length co12,.slice Ao13 t1006.length co13] 33 (0,0)) (zq3 BK1012) hb);replace HB:=Aside0.mk (below_step (by exact zk2 HB GE1012.out) hb);(try clear hb);(try clear hb2);(try clear hk);(try clear hi))))
            go_meet
            case rel=>exact⟨_,(!t1028),zrs,H',⟨by have:=HJ6.out;first|omega|exact Nat.le_refl _⟩,⟨by(with_reducible repeat(first|apply Kd.R_alloc|apply Kd.R_drewN|apply Kd.R_drew));exact Kd.R_mono HO_6.out (fun _ hk=>⟨hk.2,hk.1.2⟩)⟩,⟨by(with_reducible repeat(first|apply Kd.R_alloc|apply Kd.R_drewN|apply Kd.R_drew));exact Kd.R_mono HO1027.out (fun _ hk=>⟨hk.1.1.2,hk.2⟩)⟩,⟨by(with_reducible repeat(first|apply Kd.S_alloc|apply Kd.S_drewN|apply Kd.S_drew));exact Kd.S_mono HO_1013000.out (fun _ hk=>⟨hk.1.1,⟨hk.2,⟨hk.1.2.2.1,hk.1.2.2.2⟩⟩⟩)⟩,⟨by(with_reducible repeat(first|apply Kd.S_alloc|apply Kd.S_drewN|apply Kd.S_drew));exact Kd.S_mono HO_1013001.out (fun _ hk=>⟨hk.1.1,⟨hk.2,⟨hk.1.2.2.1,hk.1.2.2.2⟩⟩⟩)⟩,⟨by(with_reducible repeat(first|apply Kd.R_alloc|apply Kd.R_drewN|apply Kd.R_drew));exact Kd.R_mono HO_1013002.out (fun _ hk=>⟨hk.1.1,hk.2⟩)⟩,⟨by(with_reducible repeat(first|refine blk_drewN ?_ _|refine blk_drew ?_ |refine blk_alloc ?_ _));exact BK1012.out⟩,⟨by exact zk2 HB GE1012.out⟩⟩
          ·replace c39:=Bool.eq_false_iff.mpr c39
           subst c39
           have H1:(laws_FnStable.j1 kj6 l1 t1009 t1025 true t1000 t1003 t1006)=some r:=by rw [if_neg (show ¬ (false=true) by decide)] at H;exact H
           clear H
           have H:=H1
           clear H1
           exact absurd (H.trans (congrArg some HRT.out)) (by cases kj6<;>simp [laws_FnStable.j1])
         ·replace c38:=Bool.eq_false_iff.mpr c38
          subst c38
          have H1:(laws_FnStable.j1 kj6 l1 t1009 t1025 true t1000 t1003 t1006)=some r:=by rw [if_neg (show ¬ (false=true) by decide)] at H;exact H
          clear H
          have H:=H1
          clear H1
          exact absurd (H.trans (congrArg some HRT.out)) (by cases kj6<;>simp [laws_FnStable.j1])
        ·replace c37:=Bool.eq_false_iff.mpr c37
         subst c37
         have H1:(laws_FnStable.j1 kj6 l1 t1009 t1025 true t1000 t1003 t1006)=some r:=by rw [if_neg (show ¬ (false=true) by decide)] at H;exact H
         clear H
         have H:=H1
         clear H1
         exact absurd (H.trans (congrArg some HRT.out)) (by cases kj6<;>simp [laws_FnStable.j1])
       case rest=>
        clear HC30
        try clear c1
        try clear c2
        try clear p2
        try clear c3
        try clear c3b0
        try clear p6
        try clear c12
        try clear c17
        try clear c17b0
        try clear c17b1
        try clear c17b2
        try clear c19
        try clear c25
        try clear c27
        try clear c37
        try clear c38
        try clear c39
        try clear hcz11_0
        try clear hcz11_1
        try clear hcz11_2
        try clear hcz15_0
        try clear hcz15_1
        try clear hcz15_2
        try clear hcz23_0
        try clear hcz23_1
        try clear hcz23_2
        try clear hcz31_0
        try clear hcz31_1
        try clear hcz31_2
        try clear hcz34_0
        try clear hcz34_1
        try clear hcz34_2
        try clear hcz40_0
        try clear hcz40_1
        try clear hcz40_2
        try clear hfz11_0
        try clear hfz11_1
        try clear hfz11_2
        try clear hfz15_0
        try clear hfz15_1
        try clear hfz15_2
        try clear hfz23_0
        try clear hfz23_1
        try clear hfz23_2
        try clear hfz31_0
        try clear hfz31_1
        try clear hfz31_2
        try clear hfz34_0
        try clear hfz34_1
        try clear hfz34_2
        try clear hfz40_0
        try clear hfz40_1
        try clear hfz40_2
        try clear p2
        try clear p6
        obtain⟨kq,x89_29,rfl,HA,HJ29,HO_6,HO_13,HO_1013000,HO_1013001,HO_1013002,BK1012,HB⟩:=hcut
        cases kq with
        |zero=>exact absurd HA.out (by simp [laws_FnStable.j1])
        |succ kj29=>
         have H:=HA.out
         clear HA
         simp only [laws_FnStable.j1] at H
         by_cases c42:x89_29=true
         ·subst c42
          have H1:(some false)=some r:=by rw [if_pos rfl] at H;exact H
          clear H
          have H:=H1
          clear H1
          exact absurd ((Option.some.inj H).trans HRT.out) (by decide)
         ·replace c42:=Bool.eq_false_iff.mpr c42
          subst c42
          have H1:((impl_IsStable.f kj29 t1000 t1003 t1006 t1009).bind fun bt1030=>((impl_RanksOf.f kj29 t1000 t1003 t1006 t1009).bind fun bt1032=>(if bt1030.2=true then(laws_FnStable.j2 kj29 l1 t1025 bt1032.1 bt1032.2 bt1030.1) else(laws_FnStable.j2 kj29 l1 t1025 bt1032.1 bt1032.2 false))))=some r:=by rw [if_neg (show ¬ (false=true) by decide)] at H;exact H
          clear H
          have H:=H1
          clear H1
          replace H:=Option.bind_eq_some_iff.mp H
          obtain⟨⟨t1030,t1031⟩,A430,H⟩:=H
          replace H:((impl_RanksOf.f kj29 t1000 t1003 t1006 t1009).bind fun bt1032=>(if t1031=true then(laws_FnStable.j2 kj29 l1 t1025 bt1032.1 bt1032.2 t1030) else(laws_FnStable.j2 kj29 l1 t1025 bt1032.1 bt1032.2 false)))=some r:=H
          have A43:=Aside0.mk A430
          clear A430
          replace H:=Option.bind_eq_some_iff.mp H
          obtain⟨⟨t1032,t1035⟩,A440,H⟩:=H
          replace H:(if t1031=true then(laws_FnStable.j2 kj29 l1 t1025 t1032 t1035 t1030) else(laws_FnStable.j2 kj29 l1 t1025 t1032 t1035 false))=some r:=H
          have A44:=Aside0.mk A440
          clear A440
          have HC45:=Aside0.mk H
          clear H
          have hcz46_0:wc.cell? ⟨gb1012,0,none⟩=some (.slice Ao10 t1000.length co10):=(blk_cell BK1012.out 0).trans rfl
          have hcz46_1:wc.cell? ⟨gb1012,1,none⟩=some (.slice Ao12 t1003.length co12):=(blk_cell BK1012.out 1).trans rfl
          have hcz46_2:wc.cell? ⟨gb1012,2,none⟩=some (.slice Ao13 t1006.length co13):=(blk_cell BK1012.out 2).trans rfl
          have hfz46_0:=blk_frozen BK1012.out 0
          have hfz46_1:=blk_frozen BK1012.out 1
          have hfz46_2:=blk_frozen BK1012.out 2
          obtain⟨Ao47,co47,eo47⟩:=Kd.R_slice HO_6.out
          subst eo47
          go_upto_region 15 with (first|(go_at_call 32;(with_reducible refine(impl_IsStable.calls kj29 _ _ t1000 _ _ t1003 _ _ t1006 _ _ t1009 t1030 t1031 _ ?side1 ?side2 ?side3 ?side4 ?side5 ?side6 ?side7 ?side8 A43.out).mono ?_);(case side1=>exact zcc ((Kd.S_reads' HO_1013000.out).2.2));(case side2=>exact(Kd.S_reads' HO_1013000.out).2.1);(case side3=>exact zcc ((Kd.S_reads' HO_1013001.out).2.2));(case side4=>exact(Kd.S_reads' HO_1013001.out).2.1);(case side5=>exact zcc ((Kd.R_reads' HO_1013002.out).2.2));(case side6=>exact(Kd.R_reads' HO_1013002.out).2.1);(case side7=>exact zcc ((Kd.R_reads' HO_6.out).2.2));(case side8=>exact(Kd.R_reads' HO_6.out).2.1);rintro e w48 ⟨rfl,hb⟩;replace HO_6:=Aside0.mk (Kd.R_below (zq4 HO_6) hb);replace HO_13:=Aside0.mk (Kd.R_below (zq4 HO_13) hb);replace HO_1013000:=Aside0.mk (Kd.S_below (by(with_reducible repeat(first|apply Kd.S_alloc|apply Kd.S_drewN|apply Kd.S_drew));exact HO_1013000.out) hb);replace HO_1013001:=Aside0.mk (Kd.S_below (by(with_reducible repeat(first|apply Kd.S_alloc|apply Kd.S_drewN|apply Kd.S_drew));exact HO_1013001.out) hb);replace HO_1013002:=Aside0.mk (Kd.R_below (zq4 HO_1013002) hb);replace BK1012:=Aside0.mk (blk_below (g:=gb1012) (o:= .cells #[.slice Ao10 t1000.length co10,.slice Ao12 t1003.length co12,.slice Ao13 t1006.length co13] 33 (0,0)) (zq3 BK1012) hb);replace HB:=Aside0.mk (below_step (by exact zk2 HB GE1012.out) hb);(try clear hb);(try clear hb2);(try clear hk);(try clear hi);have hcz49_0:=zcz BK1012 0 (.slice Ao10 t1000.length co10);have hcz49_1:=zcz BK1012 1 (.slice Ao12 t1003.length co12);have hcz49_2:=zcz BK1012 2 (.slice Ao13 t1006.length co13);have hfz49_0:=blk_frozen BK1012.out 0;have hfz49_1:=blk_frozen BK1012.out 1;have hfz49_2:=blk_frozen BK1012.out 2)|(go_at_call 30;(with_reducible refine(impl_RanksOf.calls kj29 _ _ t1000 _ _ t1003 _ _ t1006 _ _ t1009 t1032 t1035 _ ?side1 ?side2 ?side3 ?side4 ?side5 ?side6 ?side7 ?side8 A44.out).mono ?_);(case side1=>exact zcc ((Kd.S_reads' HO_1013000.out).2.2));(case side2=>exact(Kd.S_reads' HO_1013000.out).2.1);(case side3=>exact zcc ((Kd.S_reads' HO_1013001.out).2.2));(case side4=>exact(Kd.S_reads' HO_1013001.out).2.1);(case side5=>exact zcc ((Kd.R_reads' HO_1013002.out).2.2));(case side6=>exact(Kd.R_reads' HO_1013002.out).2.1);(case side7=>exact zcc ((Kd.R_reads' HO_6.out).2.2));(case side8=>exact(Kd.R_reads' HO_6.out).2.1);rintro e w50 ⟨v1033,rfl,ho0,hb⟩;have HO1034:=Aside0.mk (Kd.R_lower (Kd.R_new' (Kd.R_new' (Kd.R_new' ho0 (Kd.R_lt (zq4 HO_6))) (Kd.R_lt (zq4 HO_13))) (Kd.R_lt (zq4 HO_1013002))) (below_size (by exact zk2 HB GE1012.out)));replace HO_6:=Aside0.mk (Kd.R_elder' (zq4 HO_6) (Kd.R_base ho0) hb);replace HO_13:=Aside0.mk (Kd.R_elder' (zq4 HO_13) (Kd.R_base ho0) hb);replace HO_1013000:=Aside0.mk (Kd.S_elder' (by(with_reducible repeat(first|apply Kd.S_alloc|apply Kd.S_drewN|apply Kd.S_drew));exact HO_1013000.out) (Kd.R_base ho0) hb);replace HO_1013001:=Aside0.mk (Kd.S_elder' (by(with_reducible repeat(first|apply Kd.S_alloc|apply Kd.S_drewN|apply Kd.S_drew));exact HO_1013001.out) (Kd.R_base ho0) hb);replace HO_1013002:=Aside0.mk (Kd.R_elder' (zq4 HO_1013002) (Kd.R_base ho0) hb);replace BK1012:=Aside0.mk (blk_below (g:=gb1012) (o:= .cells #[.slice Ao10 t1000.length co10,.slice Ao12 t1003.length co12,.slice Ao13 t1006.length co13] 33 (0,0)) (zq3 BK1012) hb);replace HB:=Aside0.mk (below_step (by exact zk2 HB GE1012.out) hb);(try clear hb);(try clear hb2);(try clear hk);(try clear hi);(try clear ho0)))
          repeat(go_quiet (first|(go_at_call 32;(with_reducible refine(impl_IsStable.calls kj29 _ _ t1000 _ _ t1003 _ _ t1006 _ _ t1009 t1030 t1031 _ ?side1 ?side2 ?side3 ?side4 ?side5 ?side6 ?side7 ?side8 A43.out).mono ?_);(case side1=>exact zcc ((Kd.S_reads' HO_1013000.out).2.2));(case side2=>exact(Kd.S_reads' HO_1013000.out).2.1);(case side3=>exact zcc ((Kd.S_reads' HO_1013001.out).2.2));(case side4=>exact(Kd.S_reads' HO_1013001.out).2.1);(case side5=>exact zcc ((Kd.R_reads' HO_1013002.out).2.2));(case side6=>exact(Kd.R_reads' HO_1013002.out).2.1);(case side7=>exact zcc ((Kd.R_reads' HO_6.out).2.2));(case side8=>exact(Kd.R_reads' HO_6.out).2.1);rintro e w48 ⟨rfl,hb⟩;replace HO_6:=Aside0.mk (Kd.R_below (zq4 HO_6) hb);replace HO_13:=Aside0.mk (Kd.R_below (zq4 HO_13) hb);replace HO_1013000:=Aside0.mk (Kd.S_below (by(with_reducible repeat(first|apply Kd.S_alloc|apply Kd.S_drewN|apply Kd.S_drew));exact HO_1013000.out) hb);replace HO_1013001:=Aside0.mk (Kd.S_below (by(with_reducible repeat(first|apply Kd.S_alloc|apply Kd.S_drewN|apply Kd.S_drew));exact HO_1013001.out) hb);replace HO_1013002:=Aside0.mk (Kd.R_below (zq4 HO_1013002) hb);replace BK1012:=Aside0.mk (blk_below (g:=gb1012) (o:= .cells #[.slice Ao10 t1000.length co10,.slice Ao12 t1003.length co12,.slice Ao13 t1006.length co13] 33 (0,0)) (zq3 BK1012) hb);replace HB:=Aside0.mk (below_step (by exact zk2 HB GE1012.out) hb);(try clear hb);(try clear hb2);(try clear hk);(try clear hi);have hcz49_0:=zcz BK1012 0 (.slice Ao10 t1000.length co10);have hcz49_1:=zcz BK1012 1 (.slice Ao12 t1003.length co12);have hcz49_2:=zcz BK1012 2 (.slice Ao13 t1006.length co13);have hfz49_0:=blk_frozen BK1012.out 0;have hfz49_1:=blk_frozen BK1012.out 1;have hfz49_2:=blk_frozen BK1012.out 2)|(go_at_call 30;(with_reducible refine(impl_RanksOf.calls kj29 _ _ t1000 _ _ t1003 _ _ t1006 _ _ t1009 t1032 t1035 _ ?side1 ?side2 ?side3 ?side4 ?side5 ?side6 ?side7 ?side8 A44.out).mono ?_);(case side1=>exact zcc ((Kd.S_reads' HO_1013000.out).2.2));(case side2=>exact(Kd.S_reads' HO_1013000.out).2.1);(case side3=>exact zcc ((Kd.S_reads' HO_1013001.out).2.2));(case side4=>exact(Kd.S_reads' HO_1013001.out).2.1);(case side5=>exact zcc ((Kd.R_reads' HO_1013002.out).2.2));(case side6=>exact(Kd.R_reads' HO_1013002.out).2.1);(case side7=>exact zcc ((Kd.R_reads' HO_6.out).2.2));(case side8=>exact(Kd.R_reads' HO_6.out).2.1);rintro e w50 ⟨v1033,rfl,ho0,hb⟩;have HO1034:=Aside0.mk (Kd.R_lower (Kd.R_new' (Kd.R_new' (Kd.R_new' ho0 (Kd.R_lt (zq4 HO_6))) (Kd.R_lt (zq4 HO_13))) (Kd.R_lt (zq4 HO_1013002))) (below_size (by exact zk2 HB GE1012.out)));replace HO_6:=Aside0.mk (Kd.R_elder' (zq4 HO_6) (Kd.R_base ho0) hb);replace HO_13:=Aside0.mk (Kd.R_elder' (zq4 HO_13) (Kd.R_base ho0) hb);replace HO_1013000:=Aside0.mk (Kd.S_elder' (by(with_reducible repeat(first|apply Kd.S_alloc|apply Kd.S_drewN|apply Kd.S_drew));exact HO_1013000.out) (Kd.R_base ho0) hb);replace HO_1013001:=Aside0.mk (Kd.S_elder' (by(with_reducible repeat(first|apply Kd.S_alloc|apply Kd.S_drewN|apply Kd.S_drew));exact HO_1013001.out) (Kd.R_base ho0) hb);replace HO_1013002:=Aside0.mk (Kd.R_elder' (zq4 HO_1013002) (Kd.R_base ho0) hb);replace BK1012:=Aside0.mk (blk_below (g:=gb1012) (o:= .cells #[.slice Ao10 t1000.length co10,.slice Ao12 t1003.length co12,.slice Ao13 t1006.length co13] 33 (0,0)) (zq3 BK1012) hb);replace HB:=Aside0.mk (below_step (by exact zk2 HB GE1012.out) hb);(try clear hb);(try clear hb2);(try clear hk);(try clear hi);(try clear ho0)));go_upto_region 15 with (first|(go_at_call 32;(with_reducible refine(impl_IsStable.calls kj29 _ _ t1000 _ _ t1003 _ _ t1006 _ _ t1009 t1030 t1031 _ ?side1 ?side2 ?side3 ?side4 ?side5 ?side6 ?side7 ?side8 A43.out).mono ?_);(case side1=>exact zcc ((Kd.S_reads' HO_1013000.out).2.2));(case side2=>exact(Kd.S_reads' HO_1013000.out).2.1);(case side3=>exact zcc ((Kd.S_reads' HO_1013001.out).2.2));(case side4=>exact(Kd.S_reads' HO_1013001.out).2.1);(case side5=>exact zcc ((Kd.R_reads' HO_1013002.out).2.2));(case side6=>exact(Kd.R_reads' HO_1013002.out).2.1);(case side7=>exact zcc ((Kd.R_reads' HO_6.out).2.2));(case side8=>exact(Kd.R_reads' HO_6.out).2.1);rintro e w48 ⟨rfl,hb⟩;replace HO_6:=Aside0.mk (Kd.R_below (zq4 HO_6) hb);replace HO_13:=Aside0.mk (Kd.R_below (zq4 HO_13) hb);replace HO_1013000:=Aside0.mk (Kd.S_below (by(with_reducible repeat(first|apply Kd.S_alloc|apply Kd.S_drewN|apply Kd.S_drew));exact HO_1013000.out) hb);replace HO_1013001:=Aside0.mk (Kd.S_below (by(with_reducible repeat(first|apply Kd.S_alloc|apply Kd.S_drewN|apply Kd.S_drew));exact HO_1013001.out) hb);replace HO_1013002:=Aside0.mk (Kd.R_below (zq4 HO_1013002) hb);replace BK1012:=Aside0.mk (blk_below (g:=gb1012) (o:= .cells #[.slice Ao10 t1000.length co10,.slice Ao12 t1003.length co12,.slice Ao13 t1006.length co13] 33 (0,0)) (zq3 BK1012) hb);replace HB:=Aside0.mk (below_step (by exact zk2 HB GE1012.out) hb);(try clear hb);(try clear hb2);(try clear hk);(try clear hi);have hcz49_0:=zcz BK1012 0 (.slice Ao10 t1000.length co10);have hcz49_1:=zcz BK1012 1 (.slice Ao12 t1003.length co12);have hcz49_2:=zcz BK1012 2 (.slice Ao13 t1006.length co13);have hfz49_0:=blk_frozen BK1012.out 0;have hfz49_1:=blk_frozen BK1012.out 1;have hfz49_2:=blk_frozen BK1012.out 2)|(go_at_call 30;(with_reducible refine(impl_RanksOf.calls kj29 _ _ t1000 _ _ t1003 _ _ t1006 _ _ t1009 t1032 t1035 _ ?side1 ?side2 ?side3 ?side4 ?side5 ?side6 ?side7 ?side8 A44.out).mono ?_);(case side1=>exact zcc ((Kd.S_reads' HO_1013000.out).2.2));(case side2=>exact(Kd.S_reads' HO_1013000.out).2.1);(case side3=>exact zcc ((Kd.S_reads' HO_1013001.out).2.2));(case side4=>exact(Kd.S_reads' HO_1013001.out).2.1);(case side5=>exact zcc ((Kd.R_reads' HO_1013002.out).2.2));(case side6=>exact(Kd.R_reads' HO_1013002.out).2.1);(case side7=>exact zcc ((Kd.R_reads' HO_6.out).2.2));(case side8=>exact(Kd.R_reads' HO_6.out).2.1);rintro e w50 ⟨v1033,rfl,ho0,hb⟩;have HO1034:=Aside0.mk (Kd.R_lower (Kd.R_new' (Kd.R_new' (Kd.R_new' ho0 (Kd.R_lt (zq4 HO_6))) (Kd.R_lt (zq4 HO_13))) (Kd.R_lt (zq4 HO_1013002))) (below_size (by exact zk2 HB GE1012.out)));replace HO_6:=Aside0.mk (Kd.R_elder' (zq4 HO_6) (Kd.R_base ho0) hb);replace HO_13:=Aside0.mk (Kd.R_elder' (zq4 HO_13) (Kd.R_base ho0) hb);replace HO_1013000:=Aside0.mk (Kd.S_elder' (by(with_reducible repeat(first|apply Kd.S_alloc|apply Kd.S_drewN|apply Kd.S_drew));exact HO_1013000.out) (Kd.R_base ho0) hb);replace HO_1013001:=Aside0.mk (Kd.S_elder' (by(with_reducible repeat(first|apply Kd.S_alloc|apply Kd.S_drewN|apply Kd.S_drew));exact HO_1013001.out) (Kd.R_base ho0) hb);replace HO_1013002:=Aside0.mk (Kd.R_elder' (zq4 HO_1013002) (Kd.R_base ho0) hb);replace BK1012:=Aside0.mk (blk_below (g:=gb1012) (o:= .cells #[.slice Ao10 t1000.length co10,.slice Ao12 t1003.length co12,.slice Ao13 t1006.length co13] 33 (0,0)) (zq3 BK1012) hb);replace HB:=Aside0.mk (below_step (by exact zk2 HB GE1012.out) hb);(try clear hb);(try clear hb2);(try clear hk);(try clear hi);(try clear ho0))))
          (try simp only [Act.put,List.setIfInBounds_toArray,List.set_cons_zero,List.set_cons_succ])
          go_cut [105] (fun v105 wc=> ∃ (kq:Nat) (x105_44:Bool),v105= .bool x105_44∧Aside0 (laws_FnStable.j2 kq l1 t1025 t1032 t1035 x105_44=some r)∧Aside0 (kq≤kj29)∧Aside0 (Kd.R (Kd.int .i64) 3 wc w.heap.size (fun k_=>some k_≠ (v1033:Value).ownBlock∧some k_≠ ((.slice Ao13 t1006.length co13):Value).ownBlock) v1026 t1025)∧Aside0 (Kd.R (Kd.int .i64) 3 wc w.heap.size (fun k_=>some k_≠ (v1026:Value).ownBlock∧some k_≠ ((.slice Ao13 t1006.length co13):Value).ownBlock) v1033 t1032)∧Aside0 (Kd.S (Kd.slice 3 (Kd.int .i64)) 22 wc w.heap.size (fun k_=>some k_≠ (v1026:Value).ownBlock∧some k_≠ (v1033:Value).ownBlock∧some k_≠ ((.slice Ao12 t1003.length co12):Value).ownBlock∧some k_≠ ((.slice Ao13 t1006.length co13):Value).ownBlock) (.slice Ao10 t1000.length co10) t1000)∧Aside0 (Kd.S (Kd.slice 3 (Kd.int .i64)) 22 wc w.heap.size (fun k_=>some k_≠ (v1026:Value).ownBlock∧some k_≠ (v1033:Value).ownBlock∧some k_≠ ((.slice Ao10 t1000.length co10):Value).ownBlock∧some k_≠ ((.slice Ao13 t1006.length co13):Value).ownBlock) (.slice Ao12 t1003.length co12) t1003)∧Aside0 (Kd.R (Kd.int .i64) 3 wc w.heap.size (fun k_=>some k_≠ (v1026:Value).ownBlock∧some k_≠ (v1033:Value).ownBlock) (.slice Ao13 t1006.length co13) t1006)∧Aside0 (wc.heap[gb1012]?=some (.cells #[(.slice Ao10 t1000.length co10),(.slice Ao12 t1003.length co12),(.slice Ao13 t1006.length co13)] 33 (0,0)))∧Aside0 (Below w.heap.size w wc))
          case first=>
           have H:=HC45.out
           clear HC45
           by_cases c51:t1031=true
           ·subst c51
            have H1:(laws_FnStable.j2 kj29 l1 t1025 t1032 t1035 t1030)=some r:=by rw [if_pos rfl] at H;exact H
            clear H
            have H:=H1
            clear H1
            as_aux_lemma=>
             have H':=Aside0.mk H
             clear H
             go_wp2
             repeat(go_quiet (fail);try go_wp2)
             go_meet
             case rel=>exact⟨_,(t1030),zrs,H',⟨by have:=HJ6.out;have:=HJ29.out;first|omega|exact Nat.le_refl _⟩,⟨by(with_reducible repeat(first|apply Kd.R_alloc|apply Kd.R_drewN|apply Kd.R_drew));exact Kd.R_mono HO_13.out (fun _ hk=>⟨hk.2,hk.1.2⟩)⟩,⟨by(with_reducible repeat(first|apply Kd.R_alloc|apply Kd.R_drewN|apply Kd.R_drew));exact Kd.R_mono HO1034.out (fun _ hk=>⟨hk.1.2,hk.2⟩)⟩,⟨by(with_reducible repeat(first|apply Kd.S_alloc|apply Kd.S_drewN|apply Kd.S_drew));exact Kd.S_mono HO_1013000.out (fun _ hk=>⟨hk.1.2.1,⟨hk.2,⟨hk.1.2.2.1,hk.1.2.2.2⟩⟩⟩)⟩,⟨by(with_reducible repeat(first|apply Kd.S_alloc|apply Kd.S_drewN|apply Kd.S_drew));exact Kd.S_mono HO_1013001.out (fun _ hk=>⟨hk.1.2.1,⟨hk.2,⟨hk.1.2.2.1,hk.1.2.2.2⟩⟩⟩)⟩,⟨by(with_reducible repeat(first|apply Kd.R_alloc|apply Kd.R_drewN|apply Kd.R_drew));exact Kd.R_mono HO_1013002.out (fun _ hk=>⟨hk.1.2,hk.2⟩)⟩,⟨by(with_reducible repeat(first|refine blk_drewN ?_ _|refine blk_drew ?_ |refine blk_alloc ?_ _));exact BK1012.out⟩,⟨by exact zk2 HB GE1012.out⟩⟩
           ·replace c51:=Bool.eq_false_iff.mpr c51
            subst c51
            have H1:(laws_FnStable.j2 kj29 l1 t1025 t1032 t1035 false)=some r:=by rw [if_neg (show ¬ (false=true) by decide)] at H;exact H
            clear H
            have H:=H1
            clear H1
            as_aux_lemma=>
             have H':=Aside0.mk H
             clear H
             go_wp2
             repeat(go_quiet (fail);try go_wp2)
             go_meet
             case rel=>exact⟨_,(false),zrs,H',⟨by have:=HJ6.out;have:=HJ29.out;first|omega|exact Nat.le_refl _⟩,⟨by(with_reducible repeat(first|apply Kd.R_alloc|apply Kd.R_drewN|apply Kd.R_drew));exact Kd.R_mono HO_13.out (fun _ hk=>⟨hk.2,hk.1.2⟩)⟩,⟨by(with_reducible repeat(first|apply Kd.R_alloc|apply Kd.R_drewN|apply Kd.R_drew));exact Kd.R_mono HO1034.out (fun _ hk=>⟨hk.1.2,hk.2⟩)⟩,⟨by(with_reducible repeat(first|apply Kd.S_alloc|apply Kd.S_drewN|apply Kd.S_drew));exact Kd.S_mono HO_1013000.out (fun _ hk=>⟨hk.1.2.1,⟨hk.2,⟨hk.1.2.2.1,hk.1.2.2.2⟩⟩⟩)⟩,⟨by(with_reducible repeat(first|apply Kd.S_alloc|apply Kd.S_drewN|apply Kd.S_drew));exact Kd.S_mono HO_1013001.out (fun _ hk=>⟨hk.1.2.1,⟨hk.2,⟨hk.1.2.2.1,hk.1.2.2.2⟩⟩⟩)⟩,⟨by(with_reducible repeat(first|apply Kd.R_alloc|apply Kd.R_drewN|apply Kd.R_drew));exact Kd.R_mono HO_1013002.out (fun _ hk=>⟨hk.1.2,hk.2⟩)⟩,⟨by(with_reducible repeat(first|refine blk_drewN ?_ _|refine blk_drew ?_ |refine blk_alloc ?_ _));exact BK1012.out⟩,⟨by exact zk2 HB GE1012.out⟩⟩
          case rest=>
           clear HC45
           try clear c1
           try clear c2
           try clear p2
           try clear c3
           try clear c3b0
           try clear c4
           try clear c5
           try clear p6
           try clear c12
           try clear c17
           try clear c17b0
           try clear c17b1
           try clear c17b2
           try clear c19
           try clear c25
           try clear c27
           try clear c37
           try clear c38
           try clear c39
           try clear c42
           try clear c51
           try clear hcz11_0
           try clear hcz11_1
           try clear hcz11_2
           try clear hcz15_0
           try clear hcz15_1
           try clear hcz15_2
           try clear hcz23_0
           try clear hcz23_1
           try clear hcz23_2
           try clear hcz31_0
           try clear hcz31_1
           try clear hcz31_2
           try clear hcz34_0
           try clear hcz34_1
           try clear hcz34_2
           try clear hcz40_0
           try clear hcz40_1
           try clear hcz40_2
           try clear hcz46_0
           try clear hcz46_1
           try clear hcz46_2
           try clear hcz49_0
           try clear hcz49_1
           try clear hcz49_2
           try clear hfz11_0
           try clear hfz11_1
           try clear hfz11_2
           try clear hfz15_0
           try clear hfz15_1
           try clear hfz15_2
           try clear hfz23_0
           try clear hfz23_1
           try clear hfz23_2
           try clear hfz31_0
           try clear hfz31_1
           try clear hfz31_2
           try clear hfz34_0
           try clear hfz34_1
           try clear hfz34_2
           try clear hfz40_0
           try clear hfz40_1
           try clear hfz40_2
           try clear hfz46_0
           try clear hfz46_1
           try clear hfz46_2
           try clear hfz49_0
           try clear hfz49_1
           try clear hfz49_2
           try clear p2
           try clear p6
           obtain⟨kq,x105_44,rfl,HA,HJ44,HO_13,HO_17,HO_1013000,HO_1013001,HO_1013002,BK1012,HB⟩:=hcut
           cases kq with
           |zero=>exact absurd HA.out (by simp [laws_FnStable.j2])
           |succ kj44=>
            have H:=HA.out
            clear HA
            simp only [laws_FnStable.j2] at H
            by_cases c52:x105_44=true
            ·subst c52
             have H1:(if t1035=true then(laws_FnStable.l0 kj44 l1 t1025 t1032 (t1025.length:Int) 0) else(some false))=some r:=by rw [if_pos rfl] at H;exact H
             clear H
             have H:=H1
             clear H1
             by_cases c53:t1035=true
             ·subst c53
              have H1:(laws_FnStable.l0 kj44 l1 t1025 t1032 (t1025.length:Int) 0)=some r:=by rw [if_pos rfl] at H;exact H
              clear H
              have H:=H1
              clear H1
              have H':=Aside0.mk H
              clear H
              obtain⟨Ao54,co54,eo54⟩:=Kd.R_slice HO_13.out
              subst eo54
              go_wp2
              repeat(go_quiet (fail);try go_wp2)
              go_loopg [110] kj44 (fun kq v110 w'=> ∃ (x110_4:Int),v110= .int .i64 x110_4∧Aside0 (laws_FnStable.l0 kq l1 t1025 t1032 (t1025.length:Int) x110_4=some r)∧Aside0 (kq≤kj44)∧Aside0 (Kd.R (Kd.int .i64) 3 w' w.heap.size (fun k_=>some k_≠ (v1033:Value).ownBlock∧some k_≠ ((.slice Ao13 t1006.length co13):Value).ownBlock) (.slice Ao54 t1025.length co54) t1025)∧Aside0 (Kd.R (Kd.int .i64) 3 w' w.heap.size (fun k_=>some k_≠ ((.slice Ao54 t1025.length co54):Value).ownBlock∧some k_≠ ((.slice Ao13 t1006.length co13):Value).ownBlock) v1033 t1032)∧Aside0 (Kd.S (Kd.slice 3 (Kd.int .i64)) 22 w' w.heap.size (fun k_=>some k_≠ ((.slice Ao54 t1025.length co54):Value).ownBlock∧some k_≠ (v1033:Value).ownBlock∧some k_≠ ((.slice Ao12 t1003.length co12):Value).ownBlock∧some k_≠ ((.slice Ao13 t1006.length co13):Value).ownBlock) (.slice Ao10 t1000.length co10) t1000)∧Aside0 (Kd.S (Kd.slice 3 (Kd.int .i64)) 22 w' w.heap.size (fun k_=>some k_≠ ((.slice Ao54 t1025.length co54):Value).ownBlock∧some k_≠ (v1033:Value).ownBlock∧some k_≠ ((.slice Ao10 t1000.length co10):Value).ownBlock∧some k_≠ ((.slice Ao13 t1006.length co13):Value).ownBlock) (.slice Ao12 t1003.length co12) t1003)∧Aside0 (Kd.R (Kd.int .i64) 3 w' w.heap.size (fun k_=>some k_≠ ((.slice Ao54 t1025.length co54):Value).ownBlock∧some k_≠ (v1033:Value).ownBlock) (.slice Ao13 t1006.length co13) t1006)∧Aside0 (w'.heap[gb1012]?=some (.cells #[(.slice Ao10 t1000.length co10),(.slice Ao12 t1003.length co12),(.slice Ao13 t1006.length co13)] 33 (0,0)))∧Aside0 (Below w.heap.size w w'))
              case atStart=>exact⟨(0),zrs,H',⟨Nat.le_refl _⟩,⟨zdr HO_13⟩,⟨zdr HO_17⟩,⟨by(with_reducible repeat(first|apply Kd.S_alloc|apply Kd.S_drewN|apply Kd.S_drew));exact HO_1013000.out⟩,⟨by(with_reducible repeat(first|apply Kd.S_alloc|apply Kd.S_drewN|apply Kd.S_drew));exact HO_1013001.out⟩,⟨zdr HO_1013002⟩,⟨by(with_reducible repeat(first|refine blk_drewN ?_ _|refine blk_drew ?_ |refine blk_alloc ?_ _));exact BK1012.out⟩,⟨by exact zk2 HB GE1012.out⟩⟩
              case round=>
               clear H'
               try clear c1
               try clear c2
               try clear p2
               try clear c3
               try clear c3b0
               try clear c4
               try clear c5
               try clear p6
               try clear c12
               try clear c17
               try clear c17b0
               try clear c17b1
               try clear c17b2
               try clear c19
               try clear c25
               try clear c27
               try clear c37
               try clear c38
               try clear c39
               try clear c42
               try clear c51
               try clear c52
               try clear c53
               try clear hcz11_0
               try clear hcz11_1
               try clear hcz11_2
               try clear hcz15_0
               try clear hcz15_1
               try clear hcz15_2
               try clear hcz23_0
               try clear hcz23_1
               try clear hcz23_2
               try clear hcz31_0
               try clear hcz31_1
               try clear hcz31_2
               try clear hcz34_0
               try clear hcz34_1
               try clear hcz34_2
               try clear hcz40_0
               try clear hcz40_1
               try clear hcz40_2
               try clear hcz46_0
               try clear hcz46_1
               try clear hcz46_2
               try clear hcz49_0
               try clear hcz49_1
               try clear hcz49_2
               try clear hfz11_0
               try clear hfz11_1
               try clear hfz11_2
               try clear hfz15_0
               try clear hfz15_1
               try clear hfz15_2
               try clear hfz23_0
               try clear hfz23_1
               try clear hfz23_2
               try clear hfz31_0
               try clear hfz31_1
               try clear hfz31_2
               try clear hfz34_0
               try clear hfz34_1
               try clear hfz34_2
               try clear hfz40_0
               try clear hfz40_1
               try clear hfz40_2
               try clear hfz46_0
               try clear hfz46_1
               try clear hfz46_2
               try clear hfz49_0
               try clear hfz49_1
               try clear hfz49_2
               try clear p2
               try clear p6
               obtain⟨x110_4,rfl,HA,HK4,HO_13,HO_17,HO_1013000,HO_1013001,HO_1013002,BK1012,HB⟩:=hrel
               cases gk with
               |zero=>exact absurd HA.out (by simp [laws_FnStable.l0])
               |succ k4=>
                have H:=HA.out
                clear HA
                simp only [laws_FnStable.l0] at H
                by_cases c55:x110_4< (t1025.length:Int)
                ·rw [if_pos c55] at H
                 have c55b0:decide (x110_4< (t1025.length:Int))=true:=decide_eq_true c55
                 clear c55
                 by_cases c56: 0≤x110_4
                 case neg=>exact znn c56 H
                 rw [if_pos c56] at H
                 have c56b0:decide (0≤x110_4)=true:=decide_eq_true c56
                 clear c56
                 by_cases c57:x110_4< (t1025.length:Int)
                 case neg=>exact znn c57 H
                 rw [if_pos c57] at H
                 have c57b0:decide (x110_4< (t1025.length:Int))=true:=decide_eq_true c57
                 clear c57
                 by_cases c58:x110_4< (t1032.length:Int)
                 case neg=>exact znn c58 H
                 rw [if_pos c58] at H
                 have c58b0:decide (x110_4< (t1032.length:Int))=true:=decide_eq_true c58
                 clear c58
                 by_cases c59:(rd t1025 x110_4) > (rd t1032 x110_4)
                 ·rw [if_pos c59] at H
                  have c59b0:decide ((rd t1032 x110_4)< (rd t1025 x110_4))=true:=decide_eq_true c59
                  clear c59
                  exact absurd ((Option.some.inj H).trans HRT.out) (by decide)
                 ·rw [if_neg c59] at H
                  have c59b0:decide ((rd t1032 x110_4)< (rd t1025 x110_4))=false:=decide_eq_false c59
                  clear c59
                  as_aux_lemma=>
                   have H':=Aside0.mk H
                   clear H
                   have p1036: 0≤ (x110_4:Int):=of_decide_eq_true zq1
                   have q1036:x110_4< (t1025.length:Int):=of_decide_eq_true zq1
                   obtain⟨ad1036,e1036,hx1036_0⟩:=Kd.at_int (Kd.R_reads' HO_13.out).2.2 x110_4 p1036 q1036
                   cases e1036
                   replace p1036:=eq_true p1036
                   replace q1036:=eq_true q1036
                   obtain⟨Ao60,co60,eo60⟩:=Kd.R_slice HO_17.out
                   subst eo60
                   have p1037: 0≤ (x110_4:Int):=of_decide_eq_true zq1
                   have q1037:x110_4< (t1032.length:Int):=of_decide_eq_true zq1
                   obtain⟨ad1037,e1037,hx1037_0⟩:=Kd.at_int (Kd.R_reads' HO_17.out).2.2 x110_4 p1037 q1037
                   cases e1037
                   replace p1037:=eq_true p1037
                   replace q1037:=eq_true q1037
                   go_wp2
                   repeat(go_quiet (fail);try go_wp2)
                   go_roundg k4
                   case measure=>have:=HJ6.out;have:=HJ29.out;have:=HJ44.out;have:=HK4.out;omega
                   case rel=>exact⟨(wrap64 (x110_4+1)),zrs,H',⟨by have:=HJ6.out;have:=HJ29.out;have:=HJ44.out;have:=HK4.out;omega⟩,⟨zdr HO_13⟩,⟨zdr HO_17⟩,⟨by(with_reducible repeat(first|apply Kd.S_alloc|apply Kd.S_drewN|apply Kd.S_drew));exact HO_1013000.out⟩,⟨by(with_reducible repeat(first|apply Kd.S_alloc|apply Kd.S_drewN|apply Kd.S_drew));exact HO_1013001.out⟩,⟨zdr HO_1013002⟩,⟨by(with_reducible repeat(first|refine blk_drewN ?_ _|refine blk_drew ?_ |refine blk_alloc ?_ _));exact BK1012.out⟩,⟨by exact zk2 HB GE1012.out⟩⟩
                ·rw [if_neg c55] at H
                 have c55b0:decide (x110_4< (t1025.length:Int))=false:=decide_eq_false c55
                 clear c55
                 as_aux_lemma=>
                  have H':=Aside0.mk H
                  clear H
                  go_wp2
                  repeat(go_quiet (fail);try go_wp2)
                  go_meet
                  case rel=>exact⟨_,H',⟨by have:=HJ6.out;have:=HJ29.out;have:=HJ44.out;have:=HK4.out;first|omega|exact Nat.le_refl _⟩,⟨by(with_reducible repeat(first|apply Kd.S_alloc|apply Kd.S_drewN|apply Kd.S_drew));exact Kd.S_mono HO_1013000.out (fun _ hk=>⟨hk.2.2.1,hk.2.2.2⟩)⟩,⟨by(with_reducible repeat(first|apply Kd.S_alloc|apply Kd.S_drewN|apply Kd.S_drew));exact Kd.S_mono HO_1013001.out (fun _ hk=>⟨hk.2.2.1,hk.2.2.2⟩)⟩,⟨by(with_reducible repeat(first|apply Kd.R_alloc|apply Kd.R_drewN|apply Kd.R_drew));exact Kd.R_mono HO_1013002.out (fun _ hk=>trivial)⟩,⟨by(with_reducible repeat(first|refine blk_drewN ?_ _|refine blk_drew ?_ |refine blk_alloc ?_ _));exact BK1012.out⟩,⟨by exact zk2 HB GE1012.out⟩⟩
             ·replace c53:=Bool.eq_false_iff.mpr c53
              subst c53
              have H1:(some false)=some r:=by rw [if_neg (show ¬ (false=true) by decide)] at H;exact H
              clear H
              have H:=H1
              clear H1
              exact absurd ((Option.some.inj H).trans HRT.out) (by decide)
            ·replace c52:=Bool.eq_false_iff.mpr c52
             subst c52
             have H1:(laws_FnStable.j4 kj44 l1)=some r:=by rw [if_neg (show ¬ (false=true) by decide)] at H;exact H
             clear H
             have H:=H1
             clear H1
             as_aux_lemma=>
              have H':=Aside0.mk H
              clear H
              go_wp2
              repeat(go_quiet (fail);try go_wp2)
              go_meet
              case rel=>exact⟨_,H',⟨by have:=HJ6.out;have:=HJ29.out;have:=HJ44.out;first|omega|exact Nat.le_refl _⟩,⟨by(with_reducible repeat(first|apply Kd.S_alloc|apply Kd.S_drewN|apply Kd.S_drew));exact Kd.S_mono HO_1013000.out (fun _ hk=>⟨hk.2.2.1,hk.2.2.2⟩)⟩,⟨by(with_reducible repeat(first|apply Kd.S_alloc|apply Kd.S_drewN|apply Kd.S_drew));exact Kd.S_mono HO_1013001.out (fun _ hk=>⟨hk.2.2.1,hk.2.2.2⟩)⟩,⟨by(with_reducible repeat(first|apply Kd.R_alloc|apply Kd.R_drewN|apply Kd.R_drew));exact Kd.R_mono HO_1013002.out (fun _ hk=>trivial)⟩,⟨by(with_reducible repeat(first|refine blk_drewN ?_ _|refine blk_drew ?_ |refine blk_alloc ?_ _));exact BK1012.out⟩,⟨by exact zk2 HB GE1012.out⟩⟩
      ·replace c27:=Bool.eq_false_iff.mpr c27
       subst c27
       have H1:(laws_FnStable.j4 kj6 l1)=some r:=by rw [if_neg (show ¬ (false=true) by decide)] at H;exact H
       clear H
       have H:=H1
       clear H1
       as_aux_lemma=>
        have H':=Aside0.mk H
        clear H
        go_wp2
        repeat(go_quiet (fail);try go_wp2)
        go_meet
        case rel=>exact⟨_,H',⟨by have:=HJ6.out;first|omega|exact Nat.le_refl _⟩,⟨by(with_reducible repeat(first|apply Kd.S_alloc|apply Kd.S_drewN|apply Kd.S_drew));exact Kd.S_mono HO_1013000.out (fun _ hk=>⟨hk.2.2.1,hk.2.2.2⟩)⟩,⟨by(with_reducible repeat(first|apply Kd.S_alloc|apply Kd.S_drewN|apply Kd.S_drew));exact Kd.S_mono HO_1013001.out (fun _ hk=>⟨hk.2.2.1,hk.2.2.2⟩)⟩,⟨by(with_reducible repeat(first|apply Kd.R_alloc|apply Kd.R_drewN|apply Kd.R_drew));exact Kd.R_mono HO_1013002.out (fun _ hk=>trivial)⟩,⟨by(with_reducible repeat(first|refine blk_drewN ?_ _|refine blk_drew ?_ |refine blk_alloc ?_ _));exact BK1012.out⟩,⟨by exact zk2 HB GE1012.out⟩⟩
     case rest=>
      clear HC26
      try clear c1
      try clear p1
      try clear q1
      try clear hx1
      try clear c2
      try clear p2
      try clear c3
      try clear c3b0
      try clear c4
      try clear c5
      try clear p6
      try clear p10
      try clear q10
      try clear hx10
      try clear c12
      try clear c17
      try clear c17b0
      try clear c17b1
      try clear c17b2
      try clear c19
      try clear c25
      try clear c27
      try clear c37
      try clear c38
      try clear c39
      try clear c42
      try clear c51
      try clear c52
      try clear c53
      try clear c55
      try clear c55b0
      try clear c56
      try clear c56b0
      try clear c57
      try clear c57b0
      try clear c58
      try clear c58b0
      try clear c59
      try clear c59b0
      try clear hcz11_0
      try clear hcz11_1
      try clear hcz11_2
      try clear hcz15_0
      try clear hcz15_1
      try clear hcz15_2
      try clear hcz23_0
      try clear hcz23_1
      try clear hcz23_2
      try clear hcz31_0
      try clear hcz31_1
      try clear hcz31_2
      try clear hcz34_0
      try clear hcz34_1
      try clear hcz34_2
      try clear hcz40_0
      try clear hcz40_1
      try clear hcz40_2
      try clear hcz46_0
      try clear hcz46_1
      try clear hcz46_2
      try clear hcz49_0
      try clear hcz49_1
      try clear hcz49_2
      try clear hfz11_0
      try clear hfz11_1
      try clear hfz11_2
      try clear hfz15_0
      try clear hfz15_1
      try clear hfz15_2
      try clear hfz23_0
      try clear hfz23_1
      try clear hfz23_2
      try clear hfz31_0
      try clear hfz31_1
      try clear hfz31_2
      try clear hfz34_0
      try clear hfz34_1
      try clear hfz34_2
      try clear hfz40_0
      try clear hfz40_1
      try clear hfz40_2
      try clear hfz46_0
      try clear hfz46_1
      try clear hfz46_2
      try clear hfz49_0
      try clear hfz49_1
      try clear hfz49_2
      try clear hx1036_0
      try clear hx1037_0
      try clear p1036
      try clear p1037
      try clear p2
      try clear p6
      try clear q1036
      try clear q1037
      obtain⟨kq,HA,HJ25,HO_1013000,HO_1013001,HO_1013002,BK1012,HB⟩:=hcut
      cases kq with
      |zero=>exact absurd HA.out (by simp [laws_FnStable.j4])
      |succ kj25=>
       have H:=HA.out
       clear HA
       simp only [laws_FnStable.j4] at H
       replace H:=Option.bind_eq_some_iff.mp H
       obtain⟨⟨t1038,t1041,t1044⟩,A610,H⟩:=H
       replace H:((impl_MatchAll.f kj25 t1038 t1041 t1044).bind fun bt1048=>((spec_MatchAll.f kj25 t1038 t1041 t1044).bind fun bt1052=>(if (bt1048.2==bt1052.2)=true then((laws_sameInts.f kj25 bt1048.1 bt1052.1).bind fun t1056=>(some t1056)) else(some false))))=some r:=H
       have A61:=Aside0.mk A610
       clear A610
       replace H:=Option.bind_eq_some_iff.mp H
       obtain⟨⟨t1048,t1051⟩,A620,H⟩:=H
       replace H:((spec_MatchAll.f kj25 t1038 t1041 t1044).bind fun bt1052=>(if (t1051==bt1052.2)=true then((laws_sameInts.f kj25 t1048 bt1052.1).bind fun t1056=>(some t1056)) else(some false)))=some r:=H
       have A62:=Aside0.mk A620
       clear A620
       replace H:=Option.bind_eq_some_iff.mp H
       obtain⟨⟨t1052,t1055⟩,A630,H⟩:=H
       replace H:(if (t1051==t1055)=true then((laws_sameInts.f kj25 t1048 t1052).bind fun t1056=>(some t1056)) else(some false))=some r:=H
       have A63:=Aside0.mk A630
       clear A630
       by_cases c64:(t1051==t1055)=true
       ·rw [if_pos c64] at H
        have c64b0:(t1051==t1055)=true:=c64
        (try(have c64b1:decide (t1051=t1055)=true:=by simpa using c64))
        (try(have c64b2:(t1051==t1055)=true:=by simpa using c64))
        clear c64
        replace H:=Option.bind_eq_some_iff.mp H
        obtain⟨t1056,A650,H⟩:=H
        replace H:(some t1056)=some r:=H
        have A65:=Aside0.mk A650
        clear A650
        as_aux_lemma=>
         obtain rfl:=Option.some.inj H
         go_wp2_with (first|(go_at_call 42;(with_reducible refine(spec_DrawMatchAll.calls kj25 _ _ l1 t1038 t1041 t1044 _ ?side1 ?side2 A61.out).mono ?_);(case side1=>exact zcc ((Kd.C_below HR1.out HB.out)));(case side2=>exact HC1.out);rintro e w66 ⟨v1039,v1042,v1045,rfl,ho0,ho1,ho2,hb⟩;have HO1040:=Aside0.mk (Kd.S_lower (Kd.S_new' (Kd.S_new' (Kd.S_new' ho0 (Kd.S_lt (by(with_reducible repeat(first|apply Kd.S_alloc|apply Kd.S_drewN|apply Kd.S_drew));exact HO_1013000.out))) (Kd.S_lt (by(with_reducible repeat(first|apply Kd.S_alloc|apply Kd.S_drewN|apply Kd.S_drew));exact HO_1013001.out))) (Kd.R_lt (zq4 HO_1013002))) (below_size (by exact zk2 HB GE1012.out)));have HO1043:=Aside0.mk (Kd.S_lower (Kd.S_new' (Kd.S_new' (Kd.S_new' ho1 (Kd.S_lt (by(with_reducible repeat(first|apply Kd.S_alloc|apply Kd.S_drewN|apply Kd.S_drew));exact HO_1013000.out))) (Kd.S_lt (by(with_reducible repeat(first|apply Kd.S_alloc|apply Kd.S_drewN|apply Kd.S_drew));exact HO_1013001.out))) (Kd.R_lt (zq4 HO_1013002))) (below_size (by exact zk2 HB GE1012.out)));have HO1046:=Aside0.mk (Kd.R_lower (Kd.R_new' ho2 (Kd.R_lt (zq4 HO_1013002))) (below_size (by exact zk2 HB GE1012.out)));replace HO_1013000:=Aside0.mk (Kd.S_mono (Kd.S_told (Kd.S_told (Kd.S_told (Kd.S_old (by(with_reducible repeat(first|apply Kd.S_alloc|apply Kd.S_drewN|apply Kd.S_drew));exact HO_1013000.out) hb) (Kd.S_base ho0)) (Kd.S_base ho1)) (Kd.R_base ho2)) (fun _ h_=>h_.1));replace HO_1013001:=Aside0.mk (Kd.S_mono (Kd.S_told (Kd.S_told (Kd.S_told (Kd.S_old (by(with_reducible repeat(first|apply Kd.S_alloc|apply Kd.S_drewN|apply Kd.S_drew));exact HO_1013001.out) hb) (Kd.S_base ho0)) (Kd.S_base ho1)) (Kd.R_base ho2)) (fun _ h_=>h_.1));replace HO_1013002:=Aside0.mk (Kd.R_elder' (zq4 HO_1013002) (Kd.R_base ho2) hb);replace BK1012:=Aside0.mk (blk_below (g:=gb1012) (o:= .cells #[.slice Ao10 t1000.length co10,.slice Ao12 t1003.length co12,.slice Ao13 t1006.length co13] 33 (0,0)) (zq3 BK1012) hb);replace HB:=Aside0.mk (below_step (by exact zk2 HB GE1012.out) hb);(try clear hb);(try clear hb2);(try clear hk);(try clear hi);(try clear ho0);(try clear ho1);(try clear ho2))|((with_reducible refine gate_dst (N:=20) rfl ?_);refine box_event ?hg (N:=20) ?hd (cs:= #[.slice none 0 0,.slice none 0 0,.slice none 0 0]) (t:=33) ?hr ?_;(case hd=>rfl);(case hg=>rfl);(case hr=>first|(go_simp;done)|(go_simp;rfl));intro gb1047 hg w67 hbox hb;have BK1047:=Aside0.mk (hbox);have GW1047:=Aside0.mk ((by rw [hg];exact(below_size (by exact zk2 HB GE1012.out)):w.heap.size≤gb1047));have GE1047:=GW1047;have NB1012_1047:=Aside0.mk ((by rw [hg];exact Nat.ne_of_lt (blk_lt (g:=gb1012) (o:= .cells #[.slice Ao10 t1000.length co10,.slice Ao12 t1003.length co12,.slice Ao13 t1006.length co13] 33 (0,0)) (zq3 BK1012)):gb1012≠gb1047));have NB1047_1012:=Aside0.mk ((by rw [hg];exact Nat.ne_of_gt (blk_lt (g:=gb1012) (o:= .cells #[.slice Ao10 t1000.length co10,.slice Ao12 t1003.length co12,.slice Ao13 t1006.length co13] 33 (0,0)) (zq3 BK1012)):gb1047≠gb1012));replace HO_1013000:=Aside0.mk (Kd.S_below (by(with_reducible repeat(first|apply Kd.S_alloc|apply Kd.S_drewN|apply Kd.S_drew));exact HO_1013000.out) hb);replace HO_1013001:=Aside0.mk (Kd.S_below (by(with_reducible repeat(first|apply Kd.S_alloc|apply Kd.S_drewN|apply Kd.S_drew));exact HO_1013001.out) hb);replace HO_1013002:=Aside0.mk (Kd.R_below (zq4 HO_1013002) hb);replace HO1040:=Aside0.mk (Kd.S_below (by(with_reducible repeat(first|apply Kd.S_alloc|apply Kd.S_drewN|apply Kd.S_drew));exact HO1040.out) hb);replace HO1043:=Aside0.mk (Kd.S_below (by(with_reducible repeat(first|apply Kd.S_alloc|apply Kd.S_drewN|apply Kd.S_drew));exact HO1043.out) hb);replace HO1046:=Aside0.mk (Kd.R_below (zq4 HO1046) hb);replace BK1012:=Aside0.mk (blk_below (g:=gb1012) (o:= .cells #[.slice Ao10 t1000.length co10,.slice Ao12 t1003.length co12,.slice Ao13 t1006.length co13] 33 (0,0)) (zq3 BK1012) hb);replace HB:=Aside0.mk (below_step (by exact zk2 HB GE1012.out) hb);clear hb hbox hg;obtain⟨Ao68,co68,eo68⟩:=Kd.S_slice HO1040.out;subst eo68;have hnb69:=NB1047_1012.out;have hnc69:=NB1012_1047.out;have hcz70_0:=zcz BK1047 0 (.slice none 0 0);have hcz70_1:=zcz BK1047 1 (.slice none 0 0);have hcz70_2:=zcz BK1047 2 (.slice none 0 0);have hfz70_0:=blk_frozen BK1047.out 0;have hfz70_1:=blk_frozen BK1047.out 1;have hfz70_2:=blk_frozen BK1047.out 2;obtain⟨Ao71,co71,eo71⟩:=Kd.S_slice HO1043.out;subst eo71;obtain⟨Ao72,co72,eo72⟩:=Kd.R_slice HO1046.out;subst eo72)|(go_at_call 36;(with_reducible refine(impl_MatchAll.calls kj25 _ _ t1038 _ _ t1041 _ _ t1044 t1048 t1051 _ ?side1 ?side2 ?side3 ?side4 ?side5 ?side6 A62.out).mono ?_);(case side1=>refine(Kd.S_reads' (e:=22) (base:=w.heap.size) (ok:=fun k_=>((((some k_≠ (.slice Ao71 t1041.length co71:Value).ownBlock∧some k_≠ (.slice Ao72 t1044.length co72:Value).ownBlock)∧some k_≠ (.slice Ao10 t1000.length co10:Value).ownBlock)∧some k_≠ (.slice Ao12 t1003.length co12:Value).ownBlock)∧some k_≠ (.slice Ao13 t1006.length co13:Value).ownBlock)) (n:=t1038.length) (c:=co68) ?_).2.2;exact(by(with_reducible repeat(first|apply Kd.S_alloc|apply Kd.S_drewN|apply Kd.S_drew));exact(Kd.S_mono (Kd.S_far (p:=⟨gb1047,2,none⟩) (Kd.S_far (p:=⟨gb1047,1,none⟩) (Kd.S_far (p:=⟨gb1047,0,none⟩) (Kd.S_types HO1040.out BK1047.out (by decide)) (fun _ hk=>hk.2) (.slice Ao68 t1038.length co68)) (fun _ hk=>hk.2) (.slice Ao71 t1041.length co71)) (fun _ hk=>hk.2) (.slice Ao72 t1044.length co72)) (fun _ h_=>h_.1))));(case side2=>exact(Kd.S_reads' HO1040.out).2.1);(case side3=>refine(Kd.S_reads' (e:=22) (base:=w.heap.size) (ok:=fun k_=>((((some k_≠ (.slice Ao68 t1038.length co68:Value).ownBlock∧some k_≠ (.slice Ao72 t1044.length co72:Value).ownBlock)∧some k_≠ (.slice Ao10 t1000.length co10:Value).ownBlock)∧some k_≠ (.slice Ao12 t1003.length co12:Value).ownBlock)∧some k_≠ (.slice Ao13 t1006.length co13:Value).ownBlock)) (n:=t1041.length) (c:=co71) ?_).2.2;exact(by(with_reducible repeat(first|apply Kd.S_alloc|apply Kd.S_drewN|apply Kd.S_drew));exact(Kd.S_mono (Kd.S_far (p:=⟨gb1047,2,none⟩) (Kd.S_far (p:=⟨gb1047,1,none⟩) (Kd.S_far (p:=⟨gb1047,0,none⟩) (Kd.S_types HO1043.out BK1047.out (by decide)) (fun _ hk=>hk.2) (.slice Ao68 t1038.length co68)) (fun _ hk=>hk.2) (.slice Ao71 t1041.length co71)) (fun _ hk=>hk.2) (.slice Ao72 t1044.length co72)) (fun _ h_=>h_.1))));(case side4=>exact(Kd.S_reads' HO1043.out).2.1);(case side5=>refine(Kd.R_reads' (e:=3) (base:=w.heap.size) (ok:=fun k_=>(True∧some k_≠ (.slice Ao13 t1006.length co13:Value).ownBlock)) (n:=t1044.length) (c:=co72) ?_).2.2;exact(by(with_reducible repeat(first|apply Kd.R_alloc|apply Kd.R_drewN|apply Kd.R_drew));exact(Kd.R_mono (Kd.R_far (p:=⟨gb1047,2,none⟩) (Kd.R_far (p:=⟨gb1047,1,none⟩) (Kd.R_far (p:=⟨gb1047,0,none⟩) (Kd.R_types HO1046.out BK1047.out (by decide)) (fun _ hk=>hk.2) (.slice Ao68 t1038.length co68)) (fun _ hk=>hk.2) (.slice Ao71 t1041.length co71)) (fun _ hk=>hk.2) (.slice Ao72 t1044.length co72)) (fun _ h_=>h_.1))));(case side6=>exact(Kd.R_reads' HO1046.out).2.1);rintro e w73 ⟨v1049,rfl,ho0,hb⟩;have HO1050:=Aside0.mk (Kd.R_lower (Kd.R_new' (Kd.R_new' ho0 (Kd.R_lt (by(with_reducible repeat(first|apply Kd.R_alloc|apply Kd.R_drewN|apply Kd.R_drew));exact(Kd.R_mono (Kd.R_far (p:=⟨gb1047,2,none⟩) (Kd.R_far (p:=⟨gb1047,1,none⟩) (Kd.R_far (p:=⟨gb1047,0,none⟩) (Kd.R_types HO_1013002.out BK1047.out (by decide)) (fun _ hk=>hk.2) (.slice Ao68 t1038.length co68)) (fun _ hk=>hk.2) (.slice Ao71 t1041.length co71)) (fun _ hk=>hk.2) (.slice Ao72 t1044.length co72)) (fun _ h_=>h_.1))))) (Kd.R_lt (by(with_reducible repeat(first|apply Kd.R_alloc|apply Kd.R_drewN|apply Kd.R_drew));exact(Kd.R_mono (Kd.R_far (p:=⟨gb1047,2,none⟩) (Kd.R_far (p:=⟨gb1047,1,none⟩) (Kd.R_far (p:=⟨gb1047,0,none⟩) (Kd.R_types HO1046.out BK1047.out (by decide)) (fun _ hk=>hk.2) (.slice Ao68 t1038.length co68)) (fun _ hk=>hk.2) (.slice Ao71 t1041.length co71)) (fun _ hk=>hk.2) (.slice Ao72 t1044.length co72)) (fun _ h_=>h_.1))))) (below_size (by exact zk5 HB GE1012.out GE1047.out)));replace HO_1013000:=Aside0.mk (Kd.S_elder' (by(with_reducible repeat(first|apply Kd.S_alloc|apply Kd.S_drewN|apply Kd.S_drew));exact(Kd.S_mono (Kd.S_far (p:=⟨gb1047,2,none⟩) (Kd.S_far (p:=⟨gb1047,1,none⟩) (Kd.S_far (p:=⟨gb1047,0,none⟩) (Kd.S_types HO_1013000.out BK1047.out (by decide)) (fun _ hk=>hk.2) (.slice Ao68 t1038.length co68)) (fun _ hk=>hk.2) (.slice Ao71 t1041.length co71)) (fun _ hk=>hk.2) (.slice Ao72 t1044.length co72)) (fun _ h_=>h_.1))) (Kd.R_base ho0) hb);replace HO_1013001:=Aside0.mk (Kd.S_elder' (by(with_reducible repeat(first|apply Kd.S_alloc|apply Kd.S_drewN|apply Kd.S_drew));exact(Kd.S_mono (Kd.S_far (p:=⟨gb1047,2,none⟩) (Kd.S_far (p:=⟨gb1047,1,none⟩) (Kd.S_far (p:=⟨gb1047,0,none⟩) (Kd.S_types HO_1013001.out BK1047.out (by decide)) (fun _ hk=>hk.2) (.slice Ao68 t1038.length co68)) (fun _ hk=>hk.2) (.slice Ao71 t1041.length co71)) (fun _ hk=>hk.2) (.slice Ao72 t1044.length co72)) (fun _ h_=>h_.1))) (Kd.R_base ho0) hb);replace HO_1013002:=Aside0.mk (Kd.R_elder' (by(with_reducible repeat(first|apply Kd.R_alloc|apply Kd.R_drewN|apply Kd.R_drew));exact(Kd.R_mono (Kd.R_far (p:=⟨gb1047,2,none⟩) (Kd.R_far (p:=⟨gb1047,1,none⟩) (Kd.R_far (p:=⟨gb1047,0,none⟩) (Kd.R_types HO_1013002.out BK1047.out (by decide)) (fun _ hk=>hk.2) (.slice Ao68 t1038.length co68)) (fun _ hk=>hk.2) (.slice Ao71 t1041.length co71)) (fun _ hk=>hk.2) (.slice Ao72 t1044.length co72)) (fun _ h_=>h_.1))) (Kd.R_base ho0) hb);replace HO1040:=Aside0.mk (Kd.S_elder' (by(with_reducible repeat(first|apply Kd.S_alloc|apply Kd.S_drewN|apply Kd.S_drew));exact(Kd.S_mono (Kd.S_far (p:=⟨gb1047,2,none⟩) (Kd.S_far (p:=⟨gb1047,1,none⟩) (Kd.S_far (p:=⟨gb1047,0,none⟩) (Kd.S_types HO1040.out BK1047.out (by decide)) (fun _ hk=>hk.2) (.slice Ao68 t1038.length co68)) (fun _ hk=>hk.2) (.slice Ao71 t1041.length co71)) (fun _ hk=>hk.2) (.slice Ao72 t1044.length co72)) (fun _ h_=>h_.1))) (Kd.R_base ho0) hb);replace HO1043:=Aside0.mk (Kd.S_elder' (by(with_reducible repeat(first|apply Kd.S_alloc|apply Kd.S_drewN|apply Kd.S_drew));exact(Kd.S_mono (Kd.S_far (p:=⟨gb1047,2,none⟩) (Kd.S_far (p:=⟨gb1047,1,none⟩) (Kd.S_far (p:=⟨gb1047,0,none⟩) (Kd.S_types HO1043.out BK1047.out (by decide)) (fun _ hk=>hk.2) (.slice Ao68 t1038.length co68)) (fun _ hk=>hk.2) (.slice Ao71 t1041.length co71)) (fun _ hk=>hk.2) (.slice Ao72 t1044.length co72)) (fun _ h_=>h_.1))) (Kd.R_base ho0) hb);replace HO1046:=Aside0.mk (Kd.R_elder' (by(with_reducible repeat(first|apply Kd.R_alloc|apply Kd.R_drewN|apply Kd.R_drew));exact(Kd.R_mono (Kd.R_far (p:=⟨gb1047,2,none⟩) (Kd.R_far (p:=⟨gb1047,1,none⟩) (Kd.R_far (p:=⟨gb1047,0,none⟩) (Kd.R_types HO1046.out BK1047.out (by decide)) (fun _ hk=>hk.2) (.slice Ao68 t1038.length co68)) (fun _ hk=>hk.2) (.slice Ao71 t1041.length co71)) (fun _ hk=>hk.2) (.slice Ao72 t1044.length co72)) (fun _ h_=>h_.1))) (Kd.R_base ho0) hb);replace BK1012:=Aside0.mk (blk_below (g:=gb1012) (o:= .cells #[.slice Ao10 t1000.length co10,.slice Ao12 t1003.length co12,.slice Ao13 t1006.length co13] 33 (0,0)) (by(with_reducible repeat(first|refine blk_drewN ?_ _|refine blk_drew ?_ |refine blk_alloc ?_ _));refine blk_far ?_ NB1012_1047.out _;(with_reducible repeat(first|refine blk_drewN ?_ _|refine blk_drew ?_ |refine blk_alloc ?_ _));refine blk_far ?_ NB1012_1047.out _;(with_reducible repeat(first|refine blk_drewN ?_ _|refine blk_drew ?_ |refine blk_alloc ?_ _));refine blk_far ?_ NB1012_1047.out _;(with_reducible repeat(first|refine blk_drewN ?_ _|refine blk_drew ?_ |refine blk_alloc ?_ _));exact BK1012.out) hb);replace BK1047:=Aside0.mk (blk_below (g:=gb1047) (o:= .cells #[.slice Ao68 t1038.length co68,.slice Ao71 t1041.length co71,.slice Ao72 t1044.length co72] 33 (0,0)) (by(with_reducible repeat(first|refine blk_drewN ?_ _|refine blk_drew ?_ |refine blk_alloc ?_ _));refine blk_put (cs:= #[.slice Ao68 t1038.length co68,.slice Ao71 t1041.length co71,.slice none 0 0]) ?_ 2 _ rfl;(with_reducible repeat(first|refine blk_drewN ?_ _|refine blk_drew ?_ |refine blk_alloc ?_ _));refine blk_put (cs:= #[.slice Ao68 t1038.length co68,.slice none 0 0,.slice none 0 0]) ?_ 1 _ rfl;(with_reducible repeat(first|refine blk_drewN ?_ _|refine blk_drew ?_ |refine blk_alloc ?_ _));refine blk_put (cs:= #[.slice none 0 0,.slice none 0 0,.slice none 0 0]) ?_ 0 _ rfl;(with_reducible repeat(first|refine blk_drewN ?_ _|refine blk_drew ?_ |refine blk_alloc ?_ _));exact BK1047.out) hb);replace HB:=Aside0.mk (below_step (by exact zk5 HB GE1012.out GE1047.out) hb);(try clear hb);(try clear hb2);(try clear hk);(try clear hi);(try clear ho0);have hcz74_0:=zcz BK1047 0 (.slice Ao68 t1038.length co68);have hcz74_1:=zcz BK1047 1 (.slice Ao71 t1041.length co71);have hcz74_2:=zcz BK1047 2 (.slice Ao72 t1044.length co72);have hfz74_0:=blk_frozen BK1047.out 0;have hfz74_1:=blk_frozen BK1047.out 1;have hfz74_2:=blk_frozen BK1047.out 2)|(go_at_call 35;(with_reducible refine(spec_MatchAll.calls kj25 _ _ t1038 _ _ t1041 _ _ t1044 t1052 t1055 _ ?side1 ?side2 ?side3 ?side4 ?side5 ?side6 A63.out).mono ?_);(case side1=>exact zcc ((Kd.S_reads' HO1040.out).2.2));(case side2=>exact(Kd.S_reads' HO1040.out).2.1);(case side3=>exact zcc ((Kd.S_reads' HO1043.out).2.2));(case side4=>exact(Kd.S_reads' HO1043.out).2.1);(case side5=>exact zcc ((Kd.R_reads' HO1046.out).2.2));(case side6=>exact(Kd.R_reads' HO1046.out).2.1);rintro e w75 ⟨v1053,rfl,ho0,hb⟩;have HO1054:=Aside0.mk (Kd.R_lower (Kd.R_new' (Kd.R_new' (Kd.R_new' ho0 (Kd.R_lt (zq4 HO_1013002))) (Kd.R_lt (zq4 HO1046))) (Kd.R_lt (zq4 HO1050))) (below_size (by exact zk5 HB GE1012.out GE1047.out)));replace HO_1013000:=Aside0.mk (Kd.S_elder' (by(with_reducible repeat(first|apply Kd.S_alloc|apply Kd.S_drewN|apply Kd.S_drew));exact HO_1013000.out) (Kd.R_base ho0) hb);replace HO_1013001:=Aside0.mk (Kd.S_elder' (by(with_reducible repeat(first|apply Kd.S_alloc|apply Kd.S_drewN|apply Kd.S_drew));exact HO_1013001.out) (Kd.R_base ho0) hb);replace HO_1013002:=Aside0.mk (Kd.R_elder' (zq4 HO_1013002) (Kd.R_base ho0) hb);replace HO1040:=Aside0.mk (Kd.S_elder' (by(with_reducible repeat(first|apply Kd.S_alloc|apply Kd.S_drewN|apply Kd.S_drew));exact HO1040.out) (Kd.R_base ho0) hb);replace HO1043:=Aside0.mk (Kd.S_elder' (by(with_reducible repeat(first|apply Kd.S_alloc|apply Kd.S_drewN|apply Kd.S_drew));exact HO1043.out) (Kd.R_base ho0) hb);replace HO1046:=Aside0.mk (Kd.R_elder' (zq4 HO1046) (Kd.R_base ho0) hb);replace HO1050:=Aside0.mk (Kd.R_elder' (zq4 HO1050) (Kd.R_base ho0) hb);replace BK1012:=Aside0.mk (blk_below (g:=gb1012) (o:= .cells #[.slice Ao10 t1000.length co10,.slice Ao12 t1003.length co12,.slice Ao13 t1006.length co13] 33 (0,0)) (zq3 BK1012) hb);replace BK1047:=Aside0.mk (blk_below (g:=gb1047) (o:= .cells #[.slice Ao68 t1038.length co68,.slice Ao71 t1041.length co71,.slice Ao72 t1044.length co72] 33 (0,0)) (zq3 BK1047) hb);replace HB:=Aside0.mk (below_step (by exact zk5 HB GE1012.out GE1047.out) hb);(try clear hb);(try clear hb2);(try clear hk);(try clear hi);(try clear ho0);obtain⟨Ao76,co76,eo76⟩:=Kd.R_slice HO1050.out;subst eo76;obtain⟨Ao77,co77,eo77⟩:=Kd.R_slice HO1054.out;subst eo77)|(go_at_call 38;(with_reducible refine(laws_sameInts.calls kj25 _ _ t1048 _ _ t1052 t1056 _ ?side1 ?side2 ?side3 ?side4 A65.out).mono ?_);(case side1=>exact zcc ((Kd.R_reads' HO1050.out).2.2));(case side2=>exact(Kd.R_reads' HO1050.out).2.1);(case side3=>exact zcc ((Kd.R_reads' HO1054.out).2.2));(case side4=>exact(Kd.R_reads' HO1054.out).2.1);rintro e w' ⟨rfl,⟨nd,rfl⟩⟩;(try first|exact⟨rfl,_,World.drewN_drewN _ _ _⟩|exact⟨rfl,_,Eq.trans (World.drewN_drewN _ _ _) (congrArg (World.drewN _) (Nat.add_assoc _ _ _))⟩)))
         repeat(go_quiet (first|(go_at_call 42;(with_reducible refine(spec_DrawMatchAll.calls kj25 _ _ l1 t1038 t1041 t1044 _ ?side1 ?side2 A61.out).mono ?_);(case side1=>exact zcc ((Kd.C_below HR1.out HB.out)));(case side2=>exact HC1.out);rintro e w66 ⟨v1039,v1042,v1045,rfl,ho0,ho1,ho2,hb⟩;have HO1040:=Aside0.mk (Kd.S_lower (Kd.S_new' (Kd.S_new' (Kd.S_new' ho0 (Kd.S_lt (by(with_reducible repeat(first|apply Kd.S_alloc|apply Kd.S_drewN|apply Kd.S_drew));exact HO_1013000.out))) (Kd.S_lt (by(with_reducible repeat(first|apply Kd.S_alloc|apply Kd.S_drewN|apply Kd.S_drew));exact HO_1013001.out))) (Kd.R_lt (zq4 HO_1013002))) (below_size (by exact zk2 HB GE1012.out)));have HO1043:=Aside0.mk (Kd.S_lower (Kd.S_new' (Kd.S_new' (Kd.S_new' ho1 (Kd.S_lt (by(with_reducible repeat(first|apply Kd.S_alloc|apply Kd.S_drewN|apply Kd.S_drew));exact HO_1013000.out))) (Kd.S_lt (by(with_reducible repeat(first|apply Kd.S_alloc|apply Kd.S_drewN|apply Kd.S_drew));exact HO_1013001.out))) (Kd.R_lt (zq4 HO_1013002))) (below_size (by exact zk2 HB GE1012.out)));have HO1046:=Aside0.mk (Kd.R_lower (Kd.R_new' ho2 (Kd.R_lt (zq4 HO_1013002))) (below_size (by exact zk2 HB GE1012.out)));replace HO_1013000:=Aside0.mk (Kd.S_mono (Kd.S_told (Kd.S_told (Kd.S_told (Kd.S_old (by(with_reducible repeat(first|apply Kd.S_alloc|apply Kd.S_drewN|apply Kd.S_drew));exact HO_1013000.out) hb) (Kd.S_base ho0)) (Kd.S_base ho1)) (Kd.R_base ho2)) (fun _ h_=>h_.1));replace HO_1013001:=Aside0.mk (Kd.S_mono (Kd.S_told (Kd.S_told (Kd.S_told (Kd.S_old (by(with_reducible repeat(first|apply Kd.S_alloc|apply Kd.S_drewN|apply Kd.S_drew));exact HO_1013001.out) hb) (Kd.S_base ho0)) (Kd.S_base ho1)) (Kd.R_base ho2)) (fun _ h_=>h_.1));replace HO_1013002:=Aside0.mk (Kd.R_elder' (zq4 HO_1013002) (Kd.R_base ho2) hb);replace BK1012:=Aside0.mk (blk_below (g:=gb1012) (o:= .cells #[.slice Ao10 t1000.length co10,.slice Ao12 t1003.length co12,.slice Ao13 t1006.length co13] 33 (0,0)) (zq3 BK1012) hb);replace HB:=Aside0.mk (below_step (by exact zk2 HB GE1012.out) hb);(try clear hb);(try clear hb2);(try clear hk);(try clear hi);(try clear ho0);(try clear ho1);(try clear ho2))|((with_reducible refine gate_dst (N:=20) rfl ?_);refine box_event ?hg (N:=20) ?hd (cs:= #[.slice none 0 0,.slice none 0 0,.slice none 0 0]) (t:=33) ?hr ?_;(case hd=>rfl);(case hg=>rfl);(case hr=>first|(go_simp;done)|(go_simp;rfl));intro gb1047 hg w67 hbox hb;have BK1047:=Aside0.mk (hbox);have GW1047:=Aside0.mk ((by rw [hg];exact(below_size (by exact zk2 HB GE1012.out)):w.heap.size≤gb1047));have GE1047:=GW1047;have NB1012_1047:=Aside0.mk ((by rw [hg];exact Nat.ne_of_lt (blk_lt (g:=gb1012) (o:= .cells #[.slice Ao10 t1000.length co10,.slice Ao12 t1003.length co12,.slice Ao13 t1006.length co13] 33 (0,0)) (zq3 BK1012)):gb1012≠gb1047));have NB1047_1012:=Aside0.mk ((by rw [hg];exact Nat.ne_of_gt (blk_lt (g:=gb1012) (o:= .cells #[.slice Ao10 t1000.length co10,.slice Ao12 t1003.length co12,.slice Ao13 t1006.length co13] 33 (0,0)) (zq3 BK1012)):gb1047≠gb1012));replace HO_1013000:=Aside0.mk (Kd.S_below (by(with_reducible repeat(first|apply Kd.S_alloc|apply Kd.S_drewN|apply Kd.S_drew));exact HO_1013000.out) hb);replace HO_1013001:=Aside0.mk (Kd.S_below (by(with_reducible repeat(first|apply Kd.S_alloc|apply Kd.S_drewN|apply Kd.S_drew));exact HO_1013001.out) hb);replace HO_1013002:=Aside0.mk (Kd.R_below (zq4 HO_1013002) hb);replace HO1040:=Aside0.mk (Kd.S_below (by(with_reducible repeat(first|apply Kd.S_alloc|apply Kd.S_drewN|apply Kd.S_drew));exact HO1040.out) hb);replace HO1043:=Aside0.mk (Kd.S_below (by(with_reducible repeat(first|apply Kd.S_alloc|apply Kd.S_drewN|apply Kd.S_drew));exact HO1043.out) hb);replace HO1046:=Aside0.mk (Kd.R_below (zq4 HO1046) hb);replace BK1012:=Aside0.mk (blk_below (g:=gb1012) (o:= .cells #[.slice Ao10 t1000.length co10,.slice Ao12 t1003.length co12,.slice Ao13 t1006.length co13] 33 (0,0)) (zq3 BK1012) hb);replace HB:=Aside0.mk (below_step (by exact zk2 HB GE1012.out) hb);clear hb hbox hg;obtain⟨Ao68,co68,eo68⟩:=Kd.S_slice HO1040.out;subst eo68;have hnb69:=NB1047_1012.out;have hnc69:=NB1012_1047.out;have hcz70_0:=zcz BK1047 0 (.slice none 0 0);have hcz70_1:=zcz BK1047 1 (.slice none 0 0);have hcz70_2:=zcz BK1047 2 (.slice none 0 0);have hfz70_0:=blk_frozen BK1047.out 0;have hfz70_1:=blk_frozen BK1047.out 1;have hfz70_2:=blk_frozen BK1047.out 2;obtain⟨Ao71,co71,eo71⟩:=Kd.S_slice HO1043.out;subst eo71;obtain⟨Ao72,co72,eo72⟩:=Kd.R_slice HO1046.out;subst eo72)|(go_at_call 36;(with_reducible refine(impl_MatchAll.calls kj25 _ _ t1038 _ _ t1041 _ _ t1044 t1048 t1051 _ ?side1 ?side2 ?side3 ?side4 ?side5 ?side6 A62.out).mono ?_);(case side1=>refine(Kd.S_reads' (e:=22) (base:=w.heap.size) (ok:=fun k_=>((((some k_≠ (.slice Ao71 t1041.length co71:Value).ownBlock∧some k_≠ (.slice Ao72 t1044.length co72:Value).ownBlock)∧some k_≠ (.slice Ao10 t1000.length co10:Value).ownBlock)∧some k_≠ (.slice Ao12 t1003.length co12:Value).ownBlock)∧some k_≠ (.slice Ao13 t1006.length co13:Value).ownBlock)) (n:=t1038.length) (c:=co68) ?_).2.2;exact(by(with_reducible repeat(first|apply Kd.S_alloc|apply Kd.S_drewN|apply Kd.S_drew));exact(Kd.S_mono (Kd.S_far (p:=⟨gb1047,2,none⟩) (Kd.S_far (p:=⟨gb1047,1,none⟩) (Kd.S_far (p:=⟨gb1047,0,none⟩) (Kd.S_types HO1040.out BK1047.out (by decide)) (fun _ hk=>hk.2) (.slice Ao68 t1038.length co68)) (fun _ hk=>hk.2) (.slice Ao71 t1041.length co71)) (fun _ hk=>hk.2) (.slice Ao72 t1044.length co72)) (fun _ h_=>h_.1))));(case side2=>exact(Kd.S_reads' HO1040.out).2.1);(case side3=>refine(Kd.S_reads' (e:=22) (base:=w.heap.size) (ok:=fun k_=>((((some k_≠ (.slice Ao68 t1038.length co68:Value).ownBlock∧some k_≠ (.slice Ao72 t1044.length co72:Value).ownBlock)∧some k_≠ (.slice Ao10 t1000.length co10:Value).ownBlock)∧some k_≠ (.slice Ao12 t1003.length co12:Value).ownBlock)∧some k_≠ (.slice Ao13 t1006.length co13:Value).ownBlock)) (n:=t1041.length) (c:=co71) ?_).2.2;exact(by(with_reducible repeat(first|apply Kd.S_alloc|apply Kd.S_drewN|apply Kd.S_drew));exact(Kd.S_mono (Kd.S_far (p:=⟨gb1047,2,none⟩) (Kd.S_far (p:=⟨gb1047,1,none⟩) (Kd.S_far (p:=⟨gb1047,0,none⟩) (Kd.S_types HO1043.out BK1047.out (by decide)) (fun _ hk=>hk.2) (.slice Ao68 t1038.length co68)) (fun _ hk=>hk.2) (.slice Ao71 t1041.length co71)) (fun _ hk=>hk.2) (.slice Ao72 t1044.length co72)) (fun _ h_=>h_.1))));(case side4=>exact(Kd.S_reads' HO1043.out).2.1);(case side5=>refine(Kd.R_reads' (e:=3) (base:=w.heap.size) (ok:=fun k_=>(True∧some k_≠ (.slice Ao13 t1006.length co13:Value).ownBlock)) (n:=t1044.length) (c:=co72) ?_).2.2;exact(by(with_reducible repeat(first|apply Kd.R_alloc|apply Kd.R_drewN|apply Kd.R_drew));exact(Kd.R_mono (Kd.R_far (p:=⟨gb1047,2,none⟩) (Kd.R_far (p:=⟨gb1047,1,none⟩) (Kd.R_far (p:=⟨gb1047,0,none⟩) (Kd.R_types HO1046.out BK1047.out (by decide)) (fun _ hk=>hk.2) (.slice Ao68 t1038.length co68)) (fun _ hk=>hk.2) (.slice Ao71 t1041.length co71)) (fun _ hk=>hk.2) (.slice Ao72 t1044.length co72)) (fun _ h_=>h_.1))));(case side6=>exact(Kd.R_reads' HO1046.out).2.1);rintro e w73 ⟨v1049,rfl,ho0,hb⟩;have HO1050:=Aside0.mk (Kd.R_lower (Kd.R_new' (Kd.R_new' ho0 (Kd.R_lt (by(with_reducible repeat(first|apply Kd.R_alloc|apply Kd.R_drewN|apply Kd.R_drew));exact(Kd.R_mono (Kd.R_far (p:=⟨gb1047,2,none⟩) (Kd.R_far (p:=⟨gb1047,1,none⟩) (Kd.R_far (p:=⟨gb1047,0,none⟩) (Kd.R_types HO_1013002.out BK1047.out (by decide)) (fun _ hk=>hk.2) (.slice Ao68 t1038.length co68)) (fun _ hk=>hk.2) (.slice Ao71 t1041.length co71)) (fun _ hk=>hk.2) (.slice Ao72 t1044.length co72)) (fun _ h_=>h_.1))))) (Kd.R_lt (by(with_reducible repeat(first|apply Kd.R_alloc|apply Kd.R_drewN|apply Kd.R_drew));exact(Kd.R_mono (Kd.R_far (p:=⟨gb1047,2,none⟩) (Kd.R_far (p:=⟨gb1047,1,none⟩) (Kd.R_far (p:=⟨gb1047,0,none⟩) (Kd.R_types HO1046.out BK1047.out (by decide)) (fun _ hk=>hk.2) (.slice Ao68 t1038.length co68)) (fun _ hk=>hk.2) (.slice Ao71 t1041.length co71)) (fun _ hk=>hk.2) (.slice Ao72 t1044.length co72)) (fun _ h_=>h_.1))))) (below_size (by exact zk5 HB GE1012.out GE1047.out)));replace HO_1013000:=Aside0.mk (Kd.S_elder' (by(with_reducible repeat(first|apply Kd.S_alloc|apply Kd.S_drewN|apply Kd.S_drew));exact(Kd.S_mono (Kd.S_far (p:=⟨gb1047,2,none⟩) (Kd.S_far (p:=⟨gb1047,1,none⟩) (Kd.S_far (p:=⟨gb1047,0,none⟩) (Kd.S_types HO_1013000.out BK1047.out (by decide)) (fun _ hk=>hk.2) (.slice Ao68 t1038.length co68)) (fun _ hk=>hk.2) (.slice Ao71 t1041.length co71)) (fun _ hk=>hk.2) (.slice Ao72 t1044.length co72)) (fun _ h_=>h_.1))) (Kd.R_base ho0) hb);replace HO_1013001:=Aside0.mk (Kd.S_elder' (by(with_reducible repeat(first|apply Kd.S_alloc|apply Kd.S_drewN|apply Kd.S_drew));exact(Kd.S_mono (Kd.S_far (p:=⟨gb1047,2,none⟩) (Kd.S_far (p:=⟨gb1047,1,none⟩) (Kd.S_far (p:=⟨gb1047,0,none⟩) (Kd.S_types HO_1013001.out BK1047.out (by decide)) (fun _ hk=>hk.2) (.slice Ao68 t1038.length co68)) (fun _ hk=>hk.2) (.slice Ao71 t1041.length co71)) (fun _ hk=>hk.2) (.slice Ao72 t1044.length co72)) (fun _ h_=>h_.1))) (Kd.R_base ho0) hb);replace HO_1013002:=Aside0.mk (Kd.R_elder' (by(with_reducible repeat(first|apply Kd.R_alloc|apply Kd.R_drewN|apply Kd.R_drew));exact(Kd.R_mono (Kd.R_far (p:=⟨gb1047,2,none⟩) (Kd.R_far (p:=⟨gb1047,1,none⟩) (Kd.R_far (p:=⟨gb1047,0,none⟩) (Kd.R_types HO_1013002.out BK1047.out (by decide)) (fun _ hk=>hk.2) (.slice Ao68 t1038.length co68)) (fun _ hk=>hk.2) (.slice Ao71 t1041.length co71)) (fun _ hk=>hk.2) (.slice Ao72 t1044.length co72)) (fun _ h_=>h_.1))) (Kd.R_base ho0) hb);replace HO1040:=Aside0.mk (Kd.S_elder' (by(with_reducible repeat(first|apply Kd.S_alloc|apply Kd.S_drewN|apply Kd.S_drew));exact(Kd.S_mono (Kd.S_far (p:=⟨gb1047,2,none⟩) (Kd.S_far (p:=⟨gb1047,1,none⟩) (Kd.S_far (p:=⟨gb1047,0,none⟩) (Kd.S_types HO1040.out BK1047.out (by decide)) (fun _ hk=>hk.2) (.slice Ao68 t1038.length co68)) (fun _ hk=>hk.2) (.slice Ao71 t1041.length co71)) (fun _ hk=>hk.2) (.slice Ao72 t1044.length co72)) (fun _ h_=>h_.1))) (Kd.R_base ho0) hb);replace HO1043:=Aside0.mk (Kd.S_elder' (by(with_reducible repeat(first|apply Kd.S_alloc|apply Kd.S_drewN|apply Kd.S_drew));exact(Kd.S_mono (Kd.S_far (p:=⟨gb1047,2,none⟩) (Kd.S_far (p:=⟨gb1047,1,none⟩) (Kd.S_far (p:=⟨gb1047,0,none⟩) (Kd.S_types HO1043.out BK1047.out (by decide)) (fun _ hk=>hk.2) (.slice Ao68 t1038.length co68)) (fun _ hk=>hk.2) (.slice Ao71 t1041.length co71)) (fun _ hk=>hk.2) (.slice Ao72 t1044.length co72)) (fun _ h_=>h_.1))) (Kd.R_base ho0) hb);replace HO1046:=Aside0.mk (Kd.R_elder' (by(with_reducible repeat(first|apply Kd.R_alloc|apply Kd.R_drewN|apply Kd.R_drew));exact(Kd.R_mono (Kd.R_far (p:=⟨gb1047,2,none⟩) (Kd.R_far (p:=⟨gb1047,1,none⟩) (Kd.R_far (p:=⟨gb1047,0,none⟩) (Kd.R_types HO1046.out BK1047.out (by decide)) (fun _ hk=>hk.2) (.slice Ao68 t1038.length co68)) (fun _ hk=>hk.2) (.slice Ao71 t1041.length co71)) (fun _ hk=>hk.2) (.slice Ao72 t1044.length co72)) (fun _ h_=>h_.1))) (Kd.R_base ho0) hb);replace BK1012:=Aside0.mk (blk_below (g:=gb1012) (o:= .cells #[.slice Ao10 t1000.length co10,.slice Ao12 t1003.length co12,.slice Ao13 t1006.length co13] 33 (0,0)) (by(with_reducible repeat(first|refine blk_drewN ?_ _|refine blk_drew ?_ |refine blk_alloc ?_ _));refine blk_far ?_ NB1012_1047.out _;(with_reducible repeat(first|refine blk_drewN ?_ _|refine blk_drew ?_ |refine blk_alloc ?_ _));refine blk_far ?_ NB1012_1047.out _;(with_reducible repeat(first|refine blk_drewN ?_ _|refine blk_drew ?_ |refine blk_alloc ?_ _));refine blk_far ?_ NB1012_1047.out _;(with_reducible repeat(first|refine blk_drewN ?_ _|refine blk_drew ?_ |refine blk_alloc ?_ _));exact BK1012.out) hb);replace BK1047:=Aside0.mk (blk_below (g:=gb1047) (o:= .cells #[.slice Ao68 t1038.length co68,.slice Ao71 t1041.length co71,.slice Ao72 t1044.length co72] 33 (0,0)) (by(with_reducible repeat(first|refine blk_drewN ?_ _|refine blk_drew ?_ |refine blk_alloc ?_ _));refine blk_put (cs:= #[.slice Ao68 t1038.length co68,.slice Ao71 t1041.length co71,.slice none 0 0]) ?_ 2 _ rfl;(with_reducible repeat(first|refine blk_drewN ?_ _|refine blk_drew ?_ |refine blk_alloc ?_ _));refine blk_put (cs:= #[.slice Ao68 t1038.length co68,.slice none 0 0,.slice none 0 0]) ?_ 1 _ rfl;(with_reducible repeat(first|refine blk_drewN ?_ _|refine blk_drew ?_ |refine blk_alloc ?_ _));refine blk_put (cs:= #[.slice none 0 0,.slice none 0 0,.slice none 0 0]) ?_ 0 _ rfl;(with_reducible repeat(first|refine blk_drewN ?_ _|refine blk_drew ?_ |refine blk_alloc ?_ _));exact BK1047.out) hb);replace HB:=Aside0.mk (below_step (by exact zk5 HB GE1012.out GE1047.out) hb);(try clear hb);(try clear hb2);(try clear hk);(try clear hi);(try clear ho0);have hcz74_0:=zcz BK1047 0 (.slice Ao68 t1038.length co68);have hcz74_1:=zcz BK1047 1 (.slice Ao71 t1041.length co71);have hcz74_2:=zcz BK1047 2 (.slice Ao72 t1044.length co72);have hfz74_0:=blk_frozen BK1047.out 0;have hfz74_1:=blk_frozen BK1047.out 1;have hfz74_2:=blk_frozen BK1047.out 2)|(go_at_call 35;(with_reducible refine(spec_MatchAll.calls kj25 _ _ t1038 _ _ t1041 _ _ t1044 t1052 t1055 _ ?side1 ?side2 ?side3 ?side4 ?side5 ?side6 A63.out).mono ?_);(case side1=>exact zcc ((Kd.S_reads' HO1040.out).2.2));(case side2=>exact(Kd.S_reads' HO1040.out).2.1);(case side3=>exact zcc ((Kd.S_reads' HO1043.out).2.2));(case side4=>exact(Kd.S_reads' HO1043.out).2.1);(case side5=>exact zcc ((Kd.R_reads' HO1046.out).2.2));(case side6=>exact(Kd.R_reads' HO1046.out).2.1);rintro e w75 ⟨v1053,rfl,ho0,hb⟩;have HO1054:=Aside0.mk (Kd.R_lower (Kd.R_new' (Kd.R_new' (Kd.R_new' ho0 (Kd.R_lt (zq4 HO_1013002))) (Kd.R_lt (zq4 HO1046))) (Kd.R_lt (zq4 HO1050))) (below_size (by exact zk5 HB GE1012.out GE1047.out)));replace HO_1013000:=Aside0.mk (Kd.S_elder' (by(with_reducible repeat(first|apply Kd.S_alloc|apply Kd.S_drewN|apply Kd.S_drew));exact HO_1013000.out) (Kd.R_base ho0) hb);replace HO_1013001:=Aside0.mk (Kd.S_elder' (by(with_reducible repeat(first|apply Kd.S_alloc|apply Kd.S_drewN|apply Kd.S_drew));exact HO_1013001.out) (Kd.R_base ho0) hb);replace HO_1013002:=Aside0.mk (Kd.R_elder' (zq4 HO_1013002) (Kd.R_base ho0) hb);replace HO1040:=Aside0.mk (Kd.S_elder' (by(with_reducible repeat(first|apply Kd.S_alloc|apply Kd.S_drewN|apply Kd.S_drew));exact HO1040.out) (Kd.R_base ho0) hb);replace HO1043:=Aside0.mk (Kd.S_elder' (by(with_reducible repeat(first|apply Kd.S_alloc|apply Kd.S_drewN|apply Kd.S_drew));exact HO1043.out) (Kd.R_base ho0) hb);replace HO1046:=Aside0.mk (Kd.R_elder' (zq4 HO1046) (Kd.R_base ho0) hb);replace HO1050:=Aside0.mk (Kd.R_elder' (zq4 HO1050) (Kd.R_base ho0) hb);replace BK1012:=Aside0.mk (blk_below (g:=gb1012) (o:= .cells #[.slice Ao10 t1000.length co10,.slice Ao12 t1003.length co12,.slice Ao13 t1006.length co13] 33 (0,0)) (zq3 BK1012) hb);replace BK1047:=Aside0.mk (blk_below (g:=gb1047) (o:= .cells #[.slice Ao68 t1038.length co68,.slice Ao71 t1041.length co71,.slice Ao72 t1044.length co72] 33 (0,0)) (zq3 BK1047) hb);replace HB:=Aside0.mk (below_step (by exact zk5 HB GE1012.out GE1047.out) hb);(try clear hb);(try clear hb2);(try clear hk);(try clear hi);(try clear ho0);obtain⟨Ao76,co76,eo76⟩:=Kd.R_slice HO1050.out;subst eo76;obtain⟨Ao77,co77,eo77⟩:=Kd.R_slice HO1054.out;subst eo77)|(go_at_call 38;(with_reducible refine(laws_sameInts.calls kj25 _ _ t1048 _ _ t1052 t1056 _ ?side1 ?side2 ?side3 ?side4 A65.out).mono ?_);(case side1=>exact zcc ((Kd.R_reads' HO1050.out).2.2));(case side2=>exact(Kd.R_reads' HO1050.out).2.1);(case side3=>exact zcc ((Kd.R_reads' HO1054.out).2.2));(case side4=>exact(Kd.R_reads' HO1054.out).2.1);rintro e w' ⟨rfl,⟨nd,rfl⟩⟩;(try first|exact⟨rfl,_,World.drewN_drewN _ _ _⟩|exact⟨rfl,_,Eq.trans (World.drewN_drewN _ _ _) (congrArg (World.drewN _) (Nat.add_assoc _ _ _))⟩)));try go_wp2_with (first|(go_at_call 42;(with_reducible refine(spec_DrawMatchAll.calls kj25 _ _ l1 t1038 t1041 t1044 _ ?side1 ?side2 A61.out).mono ?_);(case side1=>exact zcc ((Kd.C_below HR1.out HB.out)));(case side2=>exact HC1.out);rintro e w66 ⟨v1039,v1042,v1045,rfl,ho0,ho1,ho2,hb⟩;have HO1040:=Aside0.mk (Kd.S_lower (Kd.S_new' (Kd.S_new' (Kd.S_new' ho0 (Kd.S_lt (by(with_reducible repeat(first|apply Kd.S_alloc|apply Kd.S_drewN|apply Kd.S_drew));exact HO_1013000.out))) (Kd.S_lt (by(with_reducible repeat(first|apply Kd.S_alloc|apply Kd.S_drewN|apply Kd.S_drew));exact HO_1013001.out))) (Kd.R_lt (zq4 HO_1013002))) (below_size (by exact zk2 HB GE1012.out)));have HO1043:=Aside0.mk (Kd.S_lower (Kd.S_new' (Kd.S_new' (Kd.S_new' ho1 (Kd.S_lt (by(with_reducible repeat(first|apply Kd.S_alloc|apply Kd.S_drewN|apply Kd.S_drew));exact HO_1013000.out))) (Kd.S_lt (by(with_reducible repeat(first|apply Kd.S_alloc|apply Kd.S_drewN|apply Kd.S_drew));exact HO_1013001.out))) (Kd.R_lt (zq4 HO_1013002))) (below_size (by exact zk2 HB GE1012.out)));have HO1046:=Aside0.mk (Kd.R_lower (Kd.R_new' ho2 (Kd.R_lt (zq4 HO_1013002))) (below_size (by exact zk2 HB GE1012.out)));replace HO_1013000:=Aside0.mk (Kd.S_mono (Kd.S_told (Kd.S_told (Kd.S_told (Kd.S_old (by(with_reducible repeat(first|apply Kd.S_alloc|apply Kd.S_drewN|apply Kd.S_drew));exact HO_1013000.out) hb) (Kd.S_base ho0)) (Kd.S_base ho1)) (Kd.R_base ho2)) (fun _ h_=>h_.1));replace HO_1013001:=Aside0.mk (Kd.S_mono (Kd.S_told (Kd.S_told (Kd.S_told (Kd.S_old (by(with_reducible repeat(first|apply Kd.S_alloc|apply Kd.S_drewN|apply Kd.S_drew));exact HO_1013001.out) hb) (Kd.S_base ho0)) (Kd.S_base ho1)) (Kd.R_base ho2)) (fun _ h_=>h_.1));replace HO_1013002:=Aside0.mk (Kd.R_elder' (zq4 HO_1013002) (Kd.R_base ho2) hb);replace BK1012:=Aside0.mk (blk_below (g:=gb1012) (o:= .cells #[.slice Ao10 t1000.length co10,.slice Ao12 t1003.length co12,.slice Ao13 t1006.length co13] 33 (0,0)) (zq3 BK1012) hb);replace HB:=Aside0.mk (below_step (by exact zk2 HB GE1012.out) hb);(try clear hb);(try clear hb2);(try clear hk);(try clear hi);(try clear ho0);(try clear ho1);(try clear ho2))|((with_reducible refine gate_dst (N:=20) rfl ?_);refine box_event ?hg (N:=20) ?hd (cs:= #[.slice none 0 0,.slice none 0 0,.slice none 0 0]) (t:=33) ?hr ?_;(case hd=>rfl);(case hg=>rfl);(case hr=>first|(go_simp;done)|(go_simp;rfl));intro gb1047 hg w67 hbox hb;have BK1047:=Aside0.mk (hbox);have GW1047:=Aside0.mk ((by rw [hg];exact(below_size (by exact zk2 HB GE1012.out)):w.heap.size≤gb1047));have GE1047:=GW1047;have NB1012_1047:=Aside0.mk ((by rw [hg];exact Nat.ne_of_lt (blk_lt (g:=gb1012) (o:= .cells #[.slice Ao10 t1000.length co10,.slice Ao12 t1003.length co12,.slice Ao13 t1006.length co13] 33 (0,0)) (zq3 BK1012)):gb1012≠gb1047));have NB1047_1012:=Aside0.mk ((by rw [hg];exact Nat.ne_of_gt (blk_lt (g:=gb1012) (o:= .cells #[.slice Ao10 t1000.length co10,.slice Ao12 t1003.length co12,.slice Ao13 t1006.length co13] 33 (0,0)) (zq3 BK1012)):gb1047≠gb1012));replace HO_1013000:=Aside0.mk (Kd.S_below (by(with_reducible repeat(first|apply Kd.S_alloc|apply Kd.S_drewN|apply Kd.S_drew));exact HO_1013000.out) hb);replace HO_1013001:=Aside0.mk (Kd.S_below (by(with_reducible repeat(first|apply Kd.S_alloc|apply Kd.S_drewN|apply Kd.S_drew));exact HO_1013001.out) hb);replace HO_1013002:=Aside0.mk (Kd.R_below (zq4 HO_1013002) hb);replace HO1040:=Aside0.mk (Kd.S_below (by(with_reducible repeat(first|apply Kd.S_alloc|apply Kd.S_drewN|apply Kd.S_drew));exact HO1040.out) hb);replace HO1043:=Aside0.mk (Kd.S_below (by(with_reducible repeat(first|apply Kd.S_alloc|apply Kd.S_drewN|apply Kd.S_drew));exact HO1043.out) hb);replace HO1046:=Aside0.mk (Kd.R_below (zq4 HO1046) hb);replace BK1012:=Aside0.mk (blk_below (g:=gb1012) (o:= .cells #[.slice Ao10 t1000.length co10,.slice Ao12 t1003.length co12,.slice Ao13 t1006.length co13] 33 (0,0)) (zq3 BK1012) hb);replace HB:=Aside0.mk (below_step (by exact zk2 HB GE1012.out) hb);clear hb hbox hg;obtain⟨Ao68,co68,eo68⟩:=Kd.S_slice HO1040.out;subst eo68;have hnb69:=NB1047_1012.out;have hnc69:=NB1012_1047.out;have hcz70_0:=zcz BK1047 0 (.slice none 0 0);have hcz70_1:=zcz BK1047 1 (.slice none 0 0);have hcz70_2:=zcz BK1047 2 (.slice none 0 0);have hfz70_0:=blk_frozen BK1047.out 0;have hfz70_1:=blk_frozen BK1047.out 1;have hfz70_2:=blk_frozen BK1047.out 2;obtain⟨Ao71,co71,eo71⟩:=Kd.S_slice HO1043.out;subst eo71;obtain⟨Ao72,co72,eo72⟩:=Kd.R_slice HO1046.out;subst eo72)|(go_at_call 36;(with_reducible refine(impl_MatchAll.calls kj25 _ _ t1038 _ _ t1041 _ _ t1044 t1048 t1051 _ ?side1 ?side2 ?side3 ?side4 ?side5 ?side6 A62.out).mono ?_);(case side1=>refine(Kd.S_reads' (e:=22) (base:=w.heap.size) (ok:=fun k_=>((((some k_≠ (.slice Ao71 t1041.length co71:Value).ownBlock∧some k_≠ (.slice Ao72 t1044.length co72:Value).ownBlock)∧some k_≠ (.slice Ao10 t1000.length co10:Value).ownBlock)∧some k_≠ (.slice Ao12 t1003.length co12:Value).ownBlock)∧some k_≠ (.slice Ao13 t1006.length co13:Value).ownBlock)) (n:=t1038.length) (c:=co68) ?_).2.2;exact(by(with_reducible repeat(first|apply Kd.S_alloc|apply Kd.S_drewN|apply Kd.S_drew));exact(Kd.S_mono (Kd.S_far (p:=⟨gb1047,2,none⟩) (Kd.S_far (p:=⟨gb1047,1,none⟩) (Kd.S_far (p:=⟨gb1047,0,none⟩) (Kd.S_types HO1040.out BK1047.out (by decide)) (fun _ hk=>hk.2) (.slice Ao68 t1038.length co68)) (fun _ hk=>hk.2) (.slice Ao71 t1041.length co71)) (fun _ hk=>hk.2) (.slice Ao72 t1044.length co72)) (fun _ h_=>h_.1))));(case side2=>exact(Kd.S_reads' HO1040.out).2.1);(case side3=>refine(Kd.S_reads' (e:=22) (base:=w.heap.size) (ok:=fun k_=>((((some k_≠ (.slice Ao68 t1038.length co68:Value).ownBlock∧some k_≠ (.slice Ao72 t1044.length co72:Value).ownBlock)∧some k_≠ (.slice Ao10 t1000.length co10:Value).ownBlock)∧some k_≠ (.slice Ao12 t1003.length co12:Value).ownBlock)∧some k_≠ (.slice Ao13 t1006.length co13:Value).ownBlock)) (n:=t1041.length) (c:=co71) ?_).2.2;exact(by(with_reducible repeat(first|apply Kd.S_alloc|apply Kd.S_drewN|apply Kd.S_drew));exact(Kd.S_mono (Kd.S_far (p:=⟨gb1047,2,none⟩) (Kd.S_far (p:=⟨gb1047,1,none⟩) (Kd.S_far (p:=⟨gb1047,0,none⟩) (Kd.S_types HO1043.out BK1047.out (by decide)) (fun _ hk=>hk.2) (.slice Ao68 t1038.length co68)) (fun _ hk=>hk.2) (.slice Ao71 t1041.length co71)) (fun _ hk=>hk.2) (.slice Ao72 t1044.length co72)) (fun _ h_=>h_.1))));(case side4=>exact(Kd.S_reads' HO1043.out).2.1);(case side5=>refine(Kd.R_reads' (e:=3) (base:=w.heap.size) (ok:=fun k_=>(True∧some k_≠ (.slice Ao13 t1006.length co13:Value).ownBlock)) (n:=t1044.length) (c:=co72) ?_).2.2;exact(by(with_reducible repeat(first|apply Kd.R_alloc|apply Kd.R_drewN|apply Kd.R_drew));exact(Kd.R_mono (Kd.R_far (p:=⟨gb1047,2,none⟩) (Kd.R_far (p:=⟨gb1047,1,none⟩) (Kd.R_far (p:=⟨gb1047,0,none⟩) (Kd.R_types HO1046.out BK1047.out (by decide)) (fun _ hk=>hk.2) (.slice Ao68 t1038.length co68)) (fun _ hk=>hk.2) (.slice Ao71 t1041.length co71)) (fun _ hk=>hk.2) (.slice Ao72 t1044.length co72)) (fun _ h_=>h_.1))));(case side6=>exact(Kd.R_reads' HO1046.out).2.1);rintro e w73 ⟨v1049,rfl,ho0,hb⟩;have HO1050:=Aside0.mk (Kd.R_lower (Kd.R_new' (Kd.R_new' ho0 (Kd.R_lt (by(with_reducible repeat(first|apply Kd.R_alloc|apply Kd.R_drewN|apply Kd.R_drew));exact(Kd.R_mono (Kd.R_far (p:=⟨gb1047,2,none⟩) (Kd.R_far (p:=⟨gb1047,1,none⟩) (Kd.R_far (p:=⟨gb1047,0,none⟩) (Kd.R_types HO_1013002.out BK1047.out (by decide)) (fun _ hk=>hk.2) (.slice Ao68 t1038.length co68)) (fun _ hk=>hk.2) (.slice Ao71 t1041.length co71)) (fun _ hk=>hk.2) (.slice Ao72 t1044.length co72)) (fun _ h_=>h_.1))))) (Kd.R_lt (by(with_reducible repeat(first|apply Kd.R_alloc|apply Kd.R_drewN|apply Kd.R_drew));exact(Kd.R_mono (Kd.R_far (p:=⟨gb1047,2,none⟩) (Kd.R_far (p:=⟨gb1047,1,none⟩) (Kd.R_far (p:=⟨gb1047,0,none⟩) (Kd.R_types HO1046.out BK1047.out (by decide)) (fun _ hk=>hk.2) (.slice Ao68 t1038.length co68)) (fun _ hk=>hk.2) (.slice Ao71 t1041.length co71)) (fun _ hk=>hk.2) (.slice Ao72 t1044.length co72)) (fun _ h_=>h_.1))))) (below_size (by exact zk5 HB GE1012.out GE1047.out)));replace HO_1013000:=Aside0.mk (Kd.S_elder' (by(with_reducible repeat(first|apply Kd.S_alloc|apply Kd.S_drewN|apply Kd.S_drew));exact(Kd.S_mono (Kd.S_far (p:=⟨gb1047,2,none⟩) (Kd.S_far (p:=⟨gb1047,1,none⟩) (Kd.S_far (p:=⟨gb1047,0,none⟩) (Kd.S_types HO_1013000.out BK1047.out (by decide)) (fun _ hk=>hk.2) (.slice Ao68 t1038.length co68)) (fun _ hk=>hk.2) (.slice Ao71 t1041.length co71)) (fun _ hk=>hk.2) (.slice Ao72 t1044.length co72)) (fun _ h_=>h_.1))) (Kd.R_base ho0) hb);replace HO_1013001:=Aside0.mk (Kd.S_elder' (by(with_reducible repeat(first|apply Kd.S_alloc|apply Kd.S_drewN|apply Kd.S_drew));exact(Kd.S_mono (Kd.S_far (p:=⟨gb1047,2,none⟩) (Kd.S_far (p:=⟨gb1047,1,none⟩) (Kd.S_far (p:=⟨gb1047,0,none⟩) (Kd.S_types HO_1013001.out BK1047.out (by decide)) (fun _ hk=>hk.2) (.slice Ao68 t1038.length co68)) (fun _ hk=>hk.2) (.slice Ao71 t1041.length co71)) (fun _ hk=>hk.2) (.slice Ao72 t1044.length co72)) (fun _ h_=>h_.1))) (Kd.R_base ho0) hb);replace HO_1013002:=Aside0.mk (Kd.R_elder' (by(with_reducible repeat(first|apply Kd.R_alloc|apply Kd.R_drewN|apply Kd.R_drew));exact(Kd.R_mono (Kd.R_far (p:=⟨gb1047,2,none⟩) (Kd.R_far (p:=⟨gb1047,1,none⟩) (Kd.R_far (p:=⟨gb1047,0,none⟩) (Kd.R_types HO_1013002.out BK1047.out (by decide)) (fun _ hk=>hk.2) (.slice Ao68 t1038.length co68)) (fun _ hk=>hk.2) (.slice Ao71 t1041.length co71)) (fun _ hk=>hk.2) (.slice Ao72 t1044.length co72)) (fun _ h_=>h_.1))) (Kd.R_base ho0) hb);replace HO1040:=Aside0.mk (Kd.S_elder' (by(with_reducible repeat(first|apply Kd.S_alloc|apply Kd.S_drewN|apply Kd.S_drew));exact(Kd.S_mono (Kd.S_far (p:=⟨gb1047,2,none⟩) (Kd.S_far (p:=⟨gb1047,1,none⟩) (Kd.S_far (p:=⟨gb1047,0,none⟩) (Kd.S_types HO1040.out BK1047.out (by decide)) (fun _ hk=>hk.2) (.slice Ao68 t1038.length co68)) (fun _ hk=>hk.2) (.slice Ao71 t1041.length co71)) (fun _ hk=>hk.2) (.slice Ao72 t1044.length co72)) (fun _ h_=>h_.1))) (Kd.R_base ho0) hb);replace HO1043:=Aside0.mk (Kd.S_elder' (by(with_reducible repeat(first|apply Kd.S_alloc|apply Kd.S_drewN|apply Kd.S_drew));exact(Kd.S_mono (Kd.S_far (p:=⟨gb1047,2,none⟩) (Kd.S_far (p:=⟨gb1047,1,none⟩) (Kd.S_far (p:=⟨gb1047,0,none⟩) (Kd.S_types HO1043.out BK1047.out (by decide)) (fun _ hk=>hk.2) (.slice Ao68 t1038.length co68)) (fun _ hk=>hk.2) (.slice Ao71 t1041.length co71)) (fun _ hk=>hk.2) (.slice Ao72 t1044.length co72)) (fun _ h_=>h_.1))) (Kd.R_base ho0) hb);replace HO1046:=Aside0.mk (Kd.R_elder' (by(with_reducible repeat(first|apply Kd.R_alloc|apply Kd.R_drewN|apply Kd.R_drew));exact(Kd.R_mono (Kd.R_far (p:=⟨gb1047,2,none⟩) (Kd.R_far (p:=⟨gb1047,1,none⟩) (Kd.R_far (p:=⟨gb1047,0,none⟩) (Kd.R_types HO1046.out BK1047.out (by decide)) (fun _ hk=>hk.2) (.slice Ao68 t1038.length co68)) (fun _ hk=>hk.2) (.slice Ao71 t1041.length co71)) (fun _ hk=>hk.2) (.slice Ao72 t1044.length co72)) (fun _ h_=>h_.1))) (Kd.R_base ho0) hb);replace BK1012:=Aside0.mk (blk_below (g:=gb1012) (o:= .cells #[.slice Ao10 t1000.length co10,.slice Ao12 t1003.length co12,.slice Ao13 t1006.length co13] 33 (0,0)) (by(with_reducible repeat(first|refine blk_drewN ?_ _|refine blk_drew ?_ |refine blk_alloc ?_ _));refine blk_far ?_ NB1012_1047.out _;(with_reducible repeat(first|refine blk_drewN ?_ _|refine blk_drew ?_ |refine blk_alloc ?_ _));refine blk_far ?_ NB1012_1047.out _;(with_reducible repeat(first|refine blk_drewN ?_ _|refine blk_drew ?_ |refine blk_alloc ?_ _));refine blk_far ?_ NB1012_1047.out _;(with_reducible repeat(first|refine blk_drewN ?_ _|refine blk_drew ?_ |refine blk_alloc ?_ _));exact BK1012.out) hb);replace BK1047:=Aside0.mk (blk_below (g:=gb1047) (o:= .cells #[.slice Ao68 t1038.length co68,.slice Ao71 t1041.length co71,.slice Ao72 t1044.length co72] 33 (0,0)) (by(with_reducible repeat(first|refine blk_drewN ?_ _|refine blk_drew ?_ |refine blk_alloc ?_ _));refine blk_put (cs:= #[.slice Ao68 t1038.length co68,.slice Ao71 t1041.length co71,.slice none 0 0]) ?_ 2 _ rfl;(with_reducible repeat(first|refine blk_drewN ?_ _|refine blk_drew ?_ |refine blk_alloc ?_ _));refine blk_put (cs:= #[.slice Ao68 t1038.length co68,.slice none 0 0,.slice none 0 0]) ?_ 1 _ rfl;(with_reducible repeat(first|refine blk_drewN ?_ _|refine blk_drew ?_ |refine blk_alloc ?_ _));refine blk_put (cs:= #[.slice none 0 0,.slice none 0 0,.slice none 0 0]) ?_ 0 _ rfl;(with_reducible repeat(first|refine blk_drewN ?_ _|refine blk_drew ?_ |refine blk_alloc ?_ _));exact BK1047.out) hb);replace HB:=Aside0.mk (below_step (by exact zk5 HB GE1012.out GE1047.out) hb);(try clear hb);(try clear hb2);(try clear hk);(try clear hi);(try clear ho0);have hcz74_0:=zcz BK1047 0 (.slice Ao68 t1038.length co68);have hcz74_1:=zcz BK1047 1 (.slice Ao71 t1041.length co71);have hcz74_2:=zcz BK1047 2 (.slice Ao72 t1044.length co72);have hfz74_0:=blk_frozen BK1047.out 0;have hfz74_1:=blk_frozen BK1047.out 1;have hfz74_2:=blk_frozen BK1047.out 2)|(go_at_call 35;(with_reducible refine(spec_MatchAll.calls kj25 _ _ t1038 _ _ t1041 _ _ t1044 t1052 t1055 _ ?side1 ?side2 ?side3 ?side4 ?side5 ?side6 A63.out).mono ?_);(case side1=>exact zcc ((Kd.S_reads' HO1040.out).2.2));(case side2=>exact(Kd.S_reads' HO1040.out).2.1);(case side3=>exact zcc ((Kd.S_reads' HO1043.out).2.2));(case side4=>exact(Kd.S_reads' HO1043.out).2.1);(case side5=>exact zcc ((Kd.R_reads' HO1046.out).2.2));(case side6=>exact(Kd.R_reads' HO1046.out).2.1);rintro e w75 ⟨v1053,rfl,ho0,hb⟩;have HO1054:=Aside0.mk (Kd.R_lower (Kd.R_new' (Kd.R_new' (Kd.R_new' ho0 (Kd.R_lt (zq4 HO_1013002))) (Kd.R_lt (zq4 HO1046))) (Kd.R_lt (zq4 HO1050))) (below_size (by exact zk5 HB GE1012.out GE1047.out)));replace HO_1013000:=Aside0.mk (Kd.S_elder' (by(with_reducible repeat(first|apply Kd.S_alloc|apply Kd.S_drewN|apply Kd.S_drew));exact HO_1013000.out) (Kd.R_base ho0) hb);replace HO_1013001:=Aside0.mk (Kd.S_elder' (by(with_reducible repeat(first|apply Kd.S_alloc|apply Kd.S_drewN|apply Kd.S_drew));exact HO_1013001.out) (Kd.R_base ho0) hb);replace HO_1013002:=Aside0.mk (Kd.R_elder' (zq4 HO_1013002) (Kd.R_base ho0) hb);replace HO1040:=Aside0.mk (Kd.S_elder' (by(with_reducible repeat(first|apply Kd.S_alloc|apply Kd.S_drewN|apply Kd.S_drew));exact HO1040.out) (Kd.R_base ho0) hb);replace HO1043:=Aside0.mk (Kd.S_elder' (by(with_reducible repeat(first|apply Kd.S_alloc|apply Kd.S_drewN|apply Kd.S_drew));exact HO1043.out) (Kd.R_base ho0) hb);replace HO1046:=Aside0.mk (Kd.R_elder' (zq4 HO1046) (Kd.R_base ho0) hb);replace HO1050:=Aside0.mk (Kd.R_elder' (zq4 HO1050) (Kd.R_base ho0) hb);replace BK1012:=Aside0.mk (blk_below (g:=gb1012) (o:= .cells #[.slice Ao10 t1000.length co10,.slice Ao12 t1003.length co12,.slice Ao13 t1006.length co13] 33 (0,0)) (zq3 BK1012) hb);replace BK1047:=Aside0.mk (blk_below (g:=gb1047) (o:= .cells #[.slice Ao68 t1038.length co68,.slice Ao71 t1041.length co71,.slice Ao72 t1044.length co72] 33 (0,0)) (zq3 BK1047) hb);replace HB:=Aside0.mk (below_step (by exact zk5 HB GE1012.out GE1047.out) hb);(try clear hb);(try clear hb2);(try clear hk);(try clear hi);(try clear ho0);obtain⟨Ao76,co76,eo76⟩:=Kd.R_slice HO1050.out;subst eo76;obtain⟨Ao77,co77,eo77⟩:=Kd.R_slice HO1054.out;subst eo77)|(go_at_call 38;(with_reducible refine(laws_sameInts.calls kj25 _ _ t1048 _ _ t1052 t1056 _ ?side1 ?side2 ?side3 ?side4 A65.out).mono ?_);(case side1=>exact zcc ((Kd.R_reads' HO1050.out).2.2));(case side2=>exact(Kd.R_reads' HO1050.out).2.1);(case side3=>exact zcc ((Kd.R_reads' HO1054.out).2.2));(case side4=>exact(Kd.R_reads' HO1054.out).2.1);rintro e w' ⟨rfl,⟨nd,rfl⟩⟩;(try first|exact⟨rfl,_,World.drewN_drewN _ _ _⟩|exact⟨rfl,_,Eq.trans (World.drewN_drewN _ _ _) (congrArg (World.drewN _) (Nat.add_assoc _ _ _))⟩))))
         go_ret
         exact⟨zer,by exact zk5 HB GE1012.out GE1047.out⟩
       ·rw [if_neg c64] at H
        have c64b0:(t1051==t1055)=false:=by simpa using c64
        (try(have c64b1:decide (t1051=t1055)=false:=by simpa using c64))
        (try(have c64b2:(t1051==t1055)=false:=by simpa using c64))
        (try(have c64b3:¬ (t1051=t1055):=by simpa using c64))
        clear c64
        exact absurd ((Option.some.inj H).trans HRT.out) (by decide)
/-- THE ONE PURE STATEMENT of laws_FnStable: yours. -/
def laws_FnStable.Pure:Prop:= ∀ (l0:List Int) (l1:List Int),l0.length≤maxLen→l0.length * 1≤140737488351232→ (∀ x ∈ l0,(Lit.int .u8 x).wf=true)→l1.length≤maxLen→l1.length * 1≤140737488351232→ (∀ x ∈ l1,(Lit.int .u8 x).wf=true)→ ∃ k,laws_FnStable.f k l0 l1=some true
theorem laws_FnStable.walk (P:laws_FnStable.Pure) (a0:Option Addr) (len0 cap0:Nat) (z0:List Int) (a1:Option Addr) (len1 cap1:Nat) (z1:List Int) (w:World) (w0:(a0=none∧len0=0∧cap0=0∧z0= [])∨ ∃ x,a0=some x∧len0≤cap0∧cap0≤maxLen∧z0.length=cap0∧ (∀ i,i<z0.length→w.cell? (x.add i)=some (.int .u8 (z0.getD i 0)))∧ ∀ n ∈ z0,(Lit.int .u8 n).wf=true) (y0:len0 * 1≤140737488351232) (w1:(a1=none∧len1=0∧cap1=0∧z1= [])∨ ∃ x,a1=some x∧len1≤cap1∧cap1≤maxLen∧z1.length=cap1∧ (∀ i,i<z1.length→w.cell? (x.add i)=some (.int .u8 (z1.getD i 0)))∧ ∀ n ∈ z1,(Lit.int .u8 n).wf=true) (y1:len1 * 1≤140737488351232):
  Calls Try.prog 12 #[.slice a0 len0 cap0,.slice a1 len1 cap1] w fun e w'=>e= .returned (.bool true)∧Below w.heap.size w w':=by
 obtain⟨l0,rfl,hr0,hm0,hw0,hc0⟩:=ReadsInt.ofRowC w0
 obtain⟨l1,rfl,hr1,hm1,hw1,hc1⟩:=ReadsInt.ofRowC w1
 obtain⟨k,h⟩:=P l0 l1 hm0 y0 hw0 hm1 y1 hw1
 refine(laws_FnStable.calls k _ _ l0 _ _ l1 true w (Kd.C_of_reads (d:=(0:Int)) (h1:=fun _=>rfl) hr0) hc0 (Kd.C_of_reads (d:=(0:Int)) (h1:=fun _=>rfl) hr1) hc1 h).mono ?_
 rintro e w' ⟨rfl,hd⟩
 exact⟨rfl,hd⟩
open Go.RowKit Go.Proofs.YtoipbblhmcpneaaW.PrintWords
theorem wrap_id {x:Int} (h0: -9223372036854775808≤x) (h1:x≤9223372036854775807):wrap64 x=x:=by unfold wrap64;omega
theorem Ev.succ {α :Type} {g:Nat→Option α} {r: α} (h:Ev (fun k=>g (k+1)) r):Ev g r:=Ev.step (fun _=>rfl) h
theorem Ev.some_ {α :Type} {r s: α} (h:r=s):Ev (fun _=>some r) s:=h ▸ Ev.now r
theorem getD_mid {α :Type} (d: α) (pre:List α) (x: α) (suf:List α):(pre++x::suf).getD ((pre.length:Int)).toNat d=x:=by simp
theorem app_one {α :Type} (pre:List α) (x: α) (suf:List α):pre++x::suf= (pre++ [x])++suf:=by simp
theorem len_mid {α :Type} (pre:List α) (x: α) (suf:List α):((pre++x::suf).length:Int)=pre.length+suf.length+1:=by simp;omega
theorem len_one {α :Type} (pre:List α) (x: α):((pre++ [x]).length:Int)=pre.length+1:=by simp
open Go.RowKit Go.Proofs.YtoipbblhmcpneaaW.PrintWords Go.Proofs.YtoipbblhmcpneaaW.PrintLast
theorem rd_mid (pre:List Int) (x:Int) (suf:List Int):rd (pre++x::suf) (pre.length:Int)=x:=getD_mid _ pre x suf
theorem rdSS_mid (pre:List (List Int)) (x:List Int) (suf:List (List Int)):rd_L1 (pre++x::suf) (pre.length:Int)=x:=getD_mid _ pre x suf
-- the place of a number in a list, both sides
def placeGo (x:Int):List Int→Int→Option Int
 | [],_=>none
 |y::r,i=>if y=x then some i else placeGo x r (i+1)
theorem has_l (x:Int) (suf:List Int):∀ (pre:List Int),((pre++suf).length:Int)≤1099511627776→Ev (fun k=>spec_l1Has.l0 k x (pre++suf) ((pre++suf).length:Int) pre.length) (placeGo x suf pre.length).isSome:=by
 induction suf with
 |nil=>
  intro pre h
  refine Ev.succ ?_
  simp only [spec_l1Has.l0,List.append_nil,Int.lt_irrefl,if_false,placeGo,Option.isSome_none]
  exact Ev.now _
 |cons y suf ih=>
  intro pre h
  refine Ev.succ ?_
  rw [len_mid] at h ⊢
  have:=ih (pre++ [y]) (by rw [← app_one,len_mid];exact h)
  rw [← app_one,len_mid,len_one] at this
  simp only [spec_l1Has.l0,placeGo]
  simp only [if_pos (show ((pre.length:Int)<pre.length+suf.length+1) by omega),if_pos (show (0:Int)≤pre.length by omega),len_mid,rd_mid,wrap_id (show (-9223372036854775808:Int)≤pre.length+1 by omega) (show ((pre.length:Int)+1≤9223372036854775807) by omega)]
  by_cases h1:y=x
  ·simp only [if_pos h1,Option.isSome_some]
   exact Ev.now _
  ·simp only [if_neg h1]
   exact this
theorem place_l (l:List Int) (x:Int) (suf:List Int):∀ (pre:List Int),((pre++suf).length:Int)≤1099511627776→Ev (fun k=>spec_l12Place.l0 k l x (pre++suf) ((pre++suf).length:Int) pre.length) ((placeGo x suf pre.length).getD (l.length:Int)):=by
 induction suf with
 |nil=>
  intro pre h
  refine Ev.succ ?_
  simp only [spec_l12Place.l0,List.append_nil,Int.lt_irrefl,if_false,placeGo,Option.getD_none]
  exact Ev.now _
 |cons y suf ih=>
  intro pre h
  refine Ev.succ ?_
  rw [len_mid] at h ⊢
  have:=ih (pre++ [y]) (by rw [← app_one,len_mid];exact h)
  rw [← app_one,len_mid,len_one] at this
  simp only [spec_l12Place.l0,placeGo]
  simp only [if_pos (show ((pre.length:Int)<pre.length+suf.length+1) by omega),if_pos (show (0:Int)≤pre.length by omega),len_mid,rd_mid,wrap_id (show (-9223372036854775808:Int)≤pre.length+1 by omega) (show ((pre.length:Int)+1≤9223372036854775807) by omega)]
  by_cases h1:y=x
  ·simp only [if_pos h1,Option.getD_some]
   exact Ev.now _
  ·simp only [if_neg h1]
   exact this
theorem index_l (x:Int) (suf:List Int):∀ (pre:List Int),((pre++suf).length:Int)≤1099511627776→Ev (fun k=>slices_Index_int.l0 k (pre++suf) x ((pre++suf).length:Int) pre.length) ((placeGo x suf pre.length).getD (-1)):=by
 induction suf with
 |nil=>
  intro pre h
  refine Ev.succ ?_
  simp only [slices_Index_int.l0,List.append_nil,Int.lt_irrefl,if_false,placeGo,Option.getD_none]
  exact Ev.now _
 |cons y suf ih=>
  intro pre h
  refine Ev.succ ?_
  rw [len_mid] at h ⊢
  have:=ih (pre++ [y]) (by rw [← app_one,len_mid];exact h)
  rw [← app_one,len_mid,len_one] at this
  simp only [slices_Index_int.l0,placeGo]
  simp only [if_pos (show ((pre.length:Int)<pre.length+suf.length+1) by omega),if_pos (show (0:Int)≤pre.length by omega),len_mid,rd_mid,wrap_id (show (-9223372036854775808:Int)≤pre.length+1 by omega) (show ((pre.length:Int)+1≤9223372036854775807) by omega)]
  by_cases h1:y=x
  ·simp only [if_pos h1,if_pos h1.symm,Option.getD_some]
   exact Ev.now _
  ·simp only [if_neg h1,if_neg (fun hc=>h1 (Eq.symm hc))]
   exact this
theorem placeGo_ge (x:Int):∀ (l:List Int) (i r:Int),placeGo x l i=some r→i≤r
 | [],_,_,h=>by cases h
 |y::l,i,r,h=>by
  rw [placeGo] at h
  split at h
  ·cases h
   omega
  ·have:=placeGo_ge x l (i+1) r h
   omega
theorem has_ev (x:Int) (l:List Int) (h:(l.length:Int)≤1099511627776):Ev (fun k=>spec_l1Has.f k l x) (placeGo x l 0).isSome:=by
 have:=has_l x l [] h
 exact this
theorem place_ev (x:Int) (l:List Int) (h:(l.length:Int)≤1099511627776):Ev (fun k=>spec_l12Place.f k l x) ((placeGo x l 0).getD (l.length:Int)):=by
 have:=place_l l x l [] h
 exact this
theorem index_ev (x:Int) (l:List Int) (h:(l.length:Int)≤1099511627776):Ev (fun k=>slices_Index_int.f k l x) ((placeGo x l 0).getD (-1)):=by
 have:=index_l x l [] h
 exact this
-- sweeps over a list of numbers, and a list taken over, both sides
theorem specIn (a b c:Int):spec_l1In.f a b c=some (decide (b≤a∧a≤c)):=by
 unfold spec_l1In.f
 by_cases h:a≥b
 ·rw [if_pos h]
  congr 1
  by_cases h2:a≤c
  ·rw [decide_eq_true h2,decide_eq_true ⟨h,h2⟩]
  ·rw [decide_eq_false h2,decide_eq_false (fun hc=>h2 hc.2)]
 ·rw [if_neg h,decide_eq_false (fun hc=>h hc.1)]
theorem implIn (a b c:Int):impl_in.f a b c=some (decide (b≤a∧a≤c)):=specIn a b c
def allIn (a b:Int) (l:List Int):Bool:=l.all fun x=>decide (a≤x∧x≤b)
theorem implAll_l (a b:Int) (suf:List Int):∀ (pre:List Int),((pre++suf).length:Int)≤1099511627776→Ev (fun k=>impl_allIn.l0 k a b (pre++suf) ((pre++suf).length:Int) pre.length) (allIn a b suf):=by
 induction suf with
 |nil=>
  intro pre h
  refine Ev.succ ?_
  simp only [impl_allIn.l0,List.append_nil,Int.lt_irrefl,if_false]
  exact Ev.now _
 |cons x suf ih=>
  intro pre h
  refine Ev.succ ?_
  rw [len_mid] at h ⊢
  simp only [impl_allIn.l0]
  simp only [if_pos (show ((pre.length:Int)<pre.length+suf.length+1) by omega),if_pos (show (0:Int)≤pre.length by omega),len_mid,rd_mid,implIn,Option.bind_some,wrap_id (show (-9223372036854775808:Int)≤pre.length+1 by omega) (show ((pre.length:Int)+1≤9223372036854775807) by omega)]
  by_cases hx:a≤x∧x≤b
  ·have:=ih (pre++ [x]) (by rw [← app_one,len_mid];exact h)
   rw [← app_one,len_mid,len_one] at this
   simp only [hx,and_self,decide_true,if_true]
   rw [show allIn a b (x::suf)=allIn a b suf by simp [allIn,hx]]
   exact this
  ·simp only [decide_eq_true_eq,if_neg hx]
   rw [show allIn a b (x::suf)=false by simp [allIn];intro h1 h2;exact absurd ⟨h1,h2⟩ hx]
   exact Ev.now _
theorem implAll_ev (a b:Int) (l:List Int) (h:(l.length:Int)≤1099511627776):Ev (fun k=>impl_allIn.f k l a b) (allIn a b l):=by
 have:=implAll_l a b l [] h
 exact this
-- the given sweep over a list of numbers
theorem specAll_l (a b:Int) (suf:List Int):∀ (pre:List Int),((pre++suf).length:Int)≤1099511627776→Ev (fun k=>spec_l1All.l0 k a b (pre++suf) ((pre++suf).length:Int) pre.length) (allIn a b suf):=by
 induction suf with
 |nil=>
  intro pre h
  refine Ev.succ ?_
  simp only [spec_l1All.l0,List.append_nil,Int.lt_irrefl,if_false]
  exact Ev.now _
 |cons x suf ih=>
  intro pre h
  refine Ev.succ ?_
  rw [len_mid] at h ⊢
  simp only [spec_l1All.l0]
  simp only [if_pos (show ((pre.length:Int)<pre.length+suf.length+1) by omega),if_pos (show (0:Int)≤pre.length by omega),len_mid,rd_mid,specIn,Option.bind_some,wrap_id (show (-9223372036854775808:Int)≤pre.length+1 by omega) (show ((pre.length:Int)+1≤9223372036854775807) by omega)]
  by_cases hx:a≤x∧x≤b
  ·have:=ih (pre++ [x]) (by rw [← app_one,len_mid];exact h)
   rw [← app_one,len_mid,len_one] at this
   simp only [hx,and_self,decide_true,if_true]
   rw [show allIn a b (x::suf)=allIn a b suf by simp [allIn,hx]]
   exact this
  ·simp only [decide_eq_true_eq,if_neg hx]
   rw [show allIn a b (x::suf)=false by simp [allIn];intro h1 h2;exact absurd ⟨h1,h2⟩ hx]
   exact Ev.now _
theorem specAll_ev (a b:Int) (l:List Int) (h:(l.length:Int)≤1099511627776):Ev (fun k=>spec_l1All.f k l a b) (allIn a b l):=by
 have:=specAll_l a b l [] h
 exact this
-- good wishes, both sides
structure okW (f0 f1:List (List Int)) (f2:List Int):Prop where
 a0:f0.length≤1048576
 a1:f1.length≤1048576
 a2:f2.length≤1048576
 b0:∀ x ∈ f0,x.length≤1048576
 b1:∀ x ∈ f1,x.length≤1048576
def dupGo:List Int→List Int→Bool
 |_,[]=>true
 |pre,x::r=> !(placeGo x pre 0).isSome && dupGo (pre++ [x]) r
def rowOk (m:Int) (l:List Int):Bool:=decide ((l.length:Int)=m) && (allIn 0 (m - 1) l && dupGo [] l)
theorem l12All_l (m:Int) (h0: 0≤m) (h1:m≤1048576) (suf:List Int):∀ (pre:List Int),((pre++suf).length:Int)≤1048576→
  Ev (fun k=>spec_l12All.l0 k (pre++suf) m (pre++suf) ((pre++suf).length:Int) pre.length) (decide (((pre++suf).length:Int)=m) && (allIn 0 (m - 1) suf && dupGo pre suf)):=by
 induction suf with
 |nil=>
  intro pre h
  refine Ev.succ ?_
  simp only [spec_l12All.l0,List.append_nil,Int.lt_irrefl,if_false]
  refine Ev.some_ ?_
  rw [show allIn 0 (m - 1) []=true from rfl,dupGo,Bool.and_true,Bool.and_true]
  rfl
 |cons x suf ih=>
  intro pre h
  refine Ev.succ ?_
  rw [len_mid] at h ⊢
  have:=ih (pre++ [x]) (by rw [← app_one,len_mid];exact h)
  rw [← app_one,len_mid,len_one] at this
  have ht:(pre++x::suf).take ((pre.length:Int)).toNat=pre:=by rw [Int.toNat_natCast];exact List.take_left ..
  rw [show allIn 0 (m - 1) (x::suf)= (decide (0≤x∧x≤m - 1) && allIn 0 (m - 1) suf) from rfl,dupGo]
  simp only [spec_l12All.l0]
  simp only [len_mid,if_pos (show ((pre.length:Int)<pre.length+suf.length+1) by omega),if_pos (show (0:Int)≤pre.length by omega),rd_mid,wrap_id (show (-9223372036854775808:Int)≤pre.length+1 by omega) (show ((pre.length:Int)+1≤9223372036854775807) by omega),wrap_id (show (-9223372036854775808:Int)≤m - 1 by omega) (show (m - 1≤9223372036854775807) by omega),specIn,Option.bind_some,decide_eq_true_eq,if_pos (show (pre.length:Int)≤pre.length+suf.length+1 by omega),ht]
  by_cases hx: 0≤x∧x≤m - 1
  ·simp only [if_pos hx]
   refine Ev.bind (has_ev x pre (by omega)) ?_
   rw [decide_eq_true hx,Bool.true_and]
   cases hp:(placeGo x pre 0).isSome with
   |true=>
    simp only [if_true,Bool.not_true,Bool.false_and,Bool.and_false]
    exact Ev.now _
   |false=>
    simp only [Bool.false_eq_true,if_false,Bool.not_false,Bool.true_and]
    exact this
  ·simp only [if_neg hx]
   rw [decide_eq_false hx,Bool.false_and,Bool.false_and,Bool.and_false]
   exact Ev.now _
theorem l12All_ev (l:List Int) (m:Int) (h0: 0≤m) (h1:m≤1048576) (hl:l.length≤1048576):Ev (fun k=>spec_l12All.f k l m) (rowOk m l):=by
 have:=l12All_l m h0 h1 l [] (by simp only [List.nil_append];omega)
 exact this
theorem orders_l1 (Z:List (List Int)) (m:Int) (R:Bool) (X:List (List Int)) (t i:Int) (suf:List Int):∀ (pre:List Int),((pre++suf).length:Int)≤1048576→
  Ev (fun k=>if dupGo pre suf=true then impl_orders.l0 k Z m X t (wrap64 (i+1)) else some false) R→
  Ev (fun k=>impl_orders.l1 k Z m (pre++suf) X t i (pre++suf) ((pre++suf).length:Int) pre.length) R:=by
 induction suf with
 |nil=>
  intro pre h hR
  refine Ev.succ ?_
  rw [dupGo] at hR
  simp only [if_true] at hR
  simp only [impl_orders.l1,List.append_nil,Int.lt_irrefl,if_false]
  exact hR
 |cons x suf ih=>
  intro pre h hR
  refine Ev.succ ?_
  rw [len_mid] at h ⊢
  have:=ih (pre++ [x]) (by rw [← app_one,len_mid];exact h)
  rw [← app_one,len_mid,len_one] at this
  have ht:(pre++x::suf).take ((pre.length:Int)).toNat=pre:=by rw [Int.toNat_natCast];exact List.take_left ..
  rw [dupGo] at hR
  simp only [impl_orders.l1]
  simp only [len_mid,if_pos (show ((pre.length:Int)<pre.length+suf.length+1) by omega),if_pos (show (0:Int)≤pre.length by omega),rd_mid,wrap_id (show (-9223372036854775808:Int)≤pre.length+1 by omega) (show ((pre.length:Int)+1≤9223372036854775807) by omega),if_pos (show (pre.length:Int)≤pre.length+suf.length+1 by omega),ht,slices_Contains_int.f]
  have hi:Ev (fun k=>(slices_Index_int.f k pre x).bind fun t170=>(some (decide (t170≥0)))) (placeGo x pre 0).isSome:=by
   refine Ev.bind (index_ev x pre (by omega)) ?_
   refine Ev.some_ ?_
   cases hp:placeGo x pre 0 with
   |none=>rfl
   |some r=>
    have:=placeGo_ge x pre 0 r hp
    exact decide_eq_true this
  refine Ev.bind hi ?_
  cases hp:(placeGo x pre 0).isSome with
  |true=>
   rw [hp] at hR
   simp only [Bool.not_true,Bool.false_and,Bool.false_eq_true,if_false] at hR
   simp only [if_true]
   exact hR
  |false=>
   rw [hp] at hR
   simp only [Bool.not_false,Bool.true_and] at hR
   simp only [Bool.false_eq_true,if_false]
   exact this hR
theorem orders_l0 (m:Int) (h0: 0≤m) (h1:m≤1048576) (suf:List (List Int)) (hs:∀ x ∈ suf,x.length≤1048576):∀ (pre:List (List Int)),((pre++suf).length:Int)≤1048576→
  Ev (fun k=>impl_orders.l0 k (pre++suf) m (pre++suf) ((pre++suf).length:Int) pre.length) (suf.all (rowOk m) && decide (1≤ ((pre++suf).length:Int)∧ ((pre++suf).length:Int)≤8)):=by
 induction suf with
 |nil=>
  intro pre h
  refine Ev.succ ?_
  simp only [impl_orders.l0,List.append_nil,Int.lt_irrefl,if_false,implIn,Option.bind_some,List.all_nil,Bool.true_and]
  exact Ev.now _
 |cons x suf ih=>
  intro pre h
  refine Ev.succ ?_
  rw [len_mid] at h ⊢
  have:=ih (fun y hy=>hs y (List.mem_cons_of_mem _ hy)) (pre++ [x]) (by rw [← app_one,len_mid];exact h)
  rw [← app_one,len_mid,len_one] at this
  have hx:=hs x (List.mem_cons_self ..)
  have bad:Ev (fun k=>impl_orders.j1 k (pre++x::suf) m x (pre++x::suf) ((pre.length:Int)+suf.length+1) pre.length true) false:=by
   refine Ev.succ ?_
   simp only [impl_orders.j1,if_true]
   exact Ev.now _
  rw [List.all_cons]
  simp only [impl_orders.l0]
  simp only [len_mid,if_pos (show ((pre.length:Int)<pre.length+suf.length+1) by omega),if_pos (show (0:Int)≤pre.length by omega),rdSS_mid,wrap_id (show (-9223372036854775808:Int)≤m - 1 by omega) (show (m - 1≤9223372036854775807) by omega)]
  rw [rowOk]
  by_cases hl:(x.length:Int)=m
  ·simp only [if_pos hl]
   rw [decide_eq_true hl,Bool.true_and]
   refine Ev.bind (implAll_ev _ _ x (by omega)) ?_
   cases ha:allIn 0 (m - 1) x with
   |true=>
    rw [Bool.true_and]
    refine Ev.succ ?_
    simp only [impl_orders.j1,Bool.not_true,Bool.false_eq_true,if_false]
    refine orders_l1 _ m _ _ _ _ x [] (by simp only [List.nil_append];omega) ?_
    cases hd:dupGo [] x with
    |true=>
     simp only [if_true,Bool.true_and,wrap_id (show (-9223372036854775808:Int)≤pre.length+1 by omega) (show ((pre.length:Int)+1≤9223372036854775807) by omega)]
     exact this
    |false=>
     simp only [Bool.false_eq_true,if_false,Bool.false_and]
     exact Ev.now _
   |false=>
    rw [Bool.false_and,Bool.false_and]
    exact bad
  ·simp only [if_neg hl]
   rw [decide_eq_false hl,Bool.false_and,Bool.false_and]
   exact bad
theorem orders_ev (l:List (List Int)) (m:Int) (h0: 0≤m) (h1:m≤1048576) (hl:l.length≤1048576) (hs:∀ x ∈ l,x.length≤1048576):Ev (fun k=>impl_orders.f k l m) (l.all (rowOk m) && decide (1≤ (l.length:Int)∧ (l.length:Int)≤8)):=by
 have:=orders_l0 m h0 h1 l hs [] (by simp only [List.nil_append];omega)
 exact this
def goodW (f0 f1:List (List Int)) (f2:List Int):Bool:=f0.all (rowOk f1.length) && (f1.all (rowOk f0.length) && (decide (1≤ (f0.length:Int)∧ (f0.length:Int)≤8) && (decide (1≤ (f1.length:Int)∧ (f1.length:Int)≤8) && (decide ((f2.length:Int)=f1.length) && allIn 0 8 f2))))
theorem implGoodW_ev {f0 f1:List (List Int)} {f2:List Int} (h:okW f0 f1 f2):Ev (fun k=>impl_GoodWishes.f k f0 f1 f2) (goodW f0 f1 f2):=by
 have a0:=h.a0
 have a1:=h.a1
 have a2:=h.a2
 unfold impl_GoodWishes.f goodW
 refine Ev.bind (orders_ev f0 f1.length (by omega) (by omega) a0 h.b0) ?_
 have e1:=orders_ev f1 f0.length (by omega) (by omega) a1 h.b1
 have e2:=implAll_ev 0 8 f2 (by omega)
 generalize f0.all (rowOk f1.length)=p0
 generalize f1.all (rowOk f0.length)=p1 at e1 ⊢
 generalize decide (1≤ (f0.length:Int)∧ (f0.length:Int)≤8)=q0
 generalize decide (1≤ (f1.length:Int)∧ (f1.length:Int)≤8)=q1 at e1 ⊢
 generalize allIn 0 8 f2=p2 at e2 ⊢
 cases p0
 ·simp only [Bool.false_and,Bool.false_eq_true,if_false]
  exact Ev.now _
 cases q0
 ·simp only [Bool.and_false,Bool.false_and,Bool.true_and,Bool.false_eq_true,if_false]
  exact Ev.now _
 simp only [Bool.true_and,if_true]
 refine Ev.bind e1 ?_
 cases p1
 ·simp only [Bool.false_and,Bool.false_eq_true,if_false]
  exact Ev.now _
 cases q1
 ·simp only [Bool.and_false,Bool.false_and,Bool.true_and,Bool.false_eq_true,if_false]
  exact Ev.now _
 simp only [Bool.true_and,if_true]
 by_cases hc:(f2.length:Int)=f1.length
 ·simp only [if_pos hc,decide_eq_true hc,Bool.true_and]
  exact Ev.bind e2 (Ev.now _)
 ·simp only [if_neg hc,decide_eq_false hc,Bool.false_and]
  exact Ev.now _
theorem specW_l1 (f0 f1:List (List Int)) (f2:List Int) (h:okW f0 f1 f2) (suf:List (List Int)):∀ (pre:List (List Int)),pre++suf=f1→
  Ev (fun k=>spec_GoodWishes.l1 k f0.length f1.length f1 f1.length pre.length f0 f1 f2) (suf.all (rowOk f0.length) && (decide (1≤ (f0.length:Int)∧ (f0.length:Int)≤8) && (decide (1≤ (f1.length:Int)∧ (f1.length:Int)≤8) && (decide ((f2.length:Int)=f1.length) && allIn 0 8 f2)))):=by
 have a0:=h.a0
 have a1:=h.a1
 have a2:=h.a2
 induction suf with
 |nil=>
  intro pre hp
  refine Ev.succ ?_
  rw [List.append_nil] at hp
  subst hp
  have e2:=specAll_ev 0 8 f2 (by omega)
  simp only [spec_GoodWishes.l1,Int.lt_irrefl,if_false,List.all_nil,Bool.true_and,specIn,Option.bind_some]
  generalize decide (1≤ (f0.length:Int)∧ (f0.length:Int)≤8)=q0
  generalize decide (1≤ (pre.length:Int)∧ (pre.length:Int)≤8)=q1
  generalize allIn 0 8 f2=p2 at e2 ⊢
  cases q0
  ·simp only [Bool.false_and,Bool.false_eq_true,if_false]
   exact Ev.now _
  cases q1
  ·simp only [Bool.false_and,Bool.true_and,Bool.false_eq_true,if_false,if_true]
   exact Ev.now _
  simp only [Bool.true_and,if_true]
  by_cases hc:(f2.length:Int)=pre.length
  ·simp only [if_pos hc,decide_eq_true hc,Bool.true_and]
   exact Ev.bind e2 (Ev.now _)
  ·simp only [if_neg hc,decide_eq_false hc,Bool.false_and]
   exact Ev.now _
 |cons x suf ih=>
  intro pre hp
  refine Ev.succ ?_
  have hn:(f1.length:Int)=pre.length+suf.length+1:=by rw [← hp,len_mid]
  have hx:rd_L1 f1 (pre.length:Int)=x:=by rw [← hp,rdSS_mid]
  have hm:x.length≤1048576:=h.b1 x (by rw [← hp];simp)
  have:=ih (pre++ [x]) (by rw [← app_one];exact hp)
  rw [len_one] at this
  simp only [spec_GoodWishes.l1,if_pos (show (pre.length:Int)<f1.length by omega),if_pos (show (0:Int)≤pre.length by omega),hx,wrap_id (show (-9223372036854775808:Int)≤pre.length+1 by omega) (show ((pre.length:Int)+1≤9223372036854775807) by omega)]
  refine Ev.bind (l12All_ev x f0.length (by omega) (by omega) hm) ?_
  rw [List.all_cons]
  cases hr:rowOk f0.length x with
  |true=>
   simp only [if_true,Bool.true_and]
   exact this
  |false=>
   simp only [Bool.false_eq_true,if_false,Bool.false_and]
   exact Ev.now _
theorem specW_l0 (f0 f1:List (List Int)) (f2:List Int) (h:okW f0 f1 f2) (suf:List (List Int)):∀ (pre:List (List Int)),pre++suf=f0→
  Ev (fun k=>spec_GoodWishes.l0 k f0.length f1.length f0 f0.length pre.length f0 f1 f2) (suf.all (rowOk f1.length) && (f1.all (rowOk f0.length) && (decide (1≤ (f0.length:Int)∧ (f0.length:Int)≤8) && (decide (1≤ (f1.length:Int)∧ (f1.length:Int)≤8) && (decide ((f2.length:Int)=f1.length) && allIn 0 8 f2))))):=by
 have a0:=h.a0
 have a1:=h.a1
 induction suf with
 |nil=>
  intro pre hp
  refine Ev.succ ?_
  rw [List.append_nil] at hp
  have:=specW_l1 f0 f1 f2 h f1 [] rfl
  subst hp
  simp only [spec_GoodWishes.l0,Int.lt_irrefl,if_false,List.all_nil,Bool.true_and]
  exact this
 |cons x suf ih=>
  intro pre hp
  refine Ev.succ ?_
  have hn:(f0.length:Int)=pre.length+suf.length+1:=by rw [← hp,len_mid]
  have hx:rd_L1 f0 (pre.length:Int)=x:=by rw [← hp,rdSS_mid]
  have hm:x.length≤1048576:=h.b0 x (by rw [← hp];simp)
  have:=ih (pre++ [x]) (by rw [← app_one];exact hp)
  rw [len_one] at this
  simp only [spec_GoodWishes.l0,if_pos (show (pre.length:Int)<f0.length by omega),if_pos (show (0:Int)≤pre.length by omega),hx,wrap_id (show (-9223372036854775808:Int)≤pre.length+1 by omega) (show ((pre.length:Int)+1≤9223372036854775807) by omega)]
  refine Ev.bind (l12All_ev x f1.length (by omega) (by omega) hm) ?_
  rw [List.all_cons]
  cases hr:rowOk f1.length x with
  |true=>
   simp only [if_true,Bool.true_and]
   exact this
  |false=>
   simp only [Bool.false_eq_true,if_false,Bool.false_and]
   exact Ev.now _
theorem specGoodW_ev {f0 f1:List (List Int)} {f2:List Int} (h:okW f0 f1 f2):Ev (fun k=>spec_GoodWishes.f k f0 f1 f2) (goodW f0 f1 f2):=specW_l0 f0 f1 f2 h f0 [] rfl
-- good matches, both sides
def cnt (l:List Int) (j:Int):Nat:=l.countP fun x=>decide (x=j)
def hasGo (j:Int):List Int→Int→List Int
 | [],_=> []
 |x::r,i=>if x=j then i::hasGo j r (i+1) else hasGo j r (i+1)
theorem hasGo_len (j:Int):∀ (l:List Int) (i:Int),(hasGo j l i).length=cnt l j
 | [],_=>rfl
 |x::r,i=>by
  unfold hasGo cnt
  rw [List.countP_cons]
  have:=hasGo_len j r (i+1)
  unfold cnt at this
  by_cases h:x=j
  ·rw [if_pos h,List.length_cons,this,decide_eq_true h,if_pos rfl]
  ·rw [if_neg h,this,decide_eq_false h,if_neg Bool.false_ne_true,Nat.add_zero]
theorem cnt_le (l:List Int) (j:Int):cnt l j≤l.length:=List.countP_le_length ..
theorem l12Has_l (j:Int) (suf:List Int):∀ (pre out:List Int),((pre++suf).length:Int)≤1048576→out.length≤pre.length→
  Ev (fun k=>spec_l12Has.l0 k j out (pre++suf) ((pre++suf).length:Int) pre.length) (out++hasGo j suf pre.length):=by
 induction suf with
 |nil=>
  intro pre out h ho
  refine Ev.succ ?_
  simp only [spec_l12Has.l0,List.append_nil,Int.lt_irrefl,if_false,hasGo]
  exact Ev.now _
 |cons x suf ih=>
  intro pre out h ho
  refine Ev.succ ?_
  rw [len_mid] at h ⊢
  have:=fun o ho=>ih (pre++ [x]) o (by rw [← app_one,len_mid];exact h) ho
  rw [← app_one,len_mid,len_one] at this
  simp only [spec_l12Has.l0]
  simp only [if_pos (show ((pre.length:Int)<pre.length+suf.length+1) by omega),if_pos (show (0:Int)≤pre.length by omega),len_mid,rd_mid,wrap_id (show (-9223372036854775808:Int)≤pre.length+1 by omega) (show ((pre.length:Int)+1≤9223372036854775807) by omega),hasGo]
  by_cases h1:x=j
  ·simp only [if_pos h1,if_pos (show out.length< 17592186044416 by omega)]
   rw [app_one out (pre.length:Int) (hasGo j suf (pre.length+1))]
   exact this (out++ [(pre.length:Int)]) (by simp only [List.length_append,List.length_singleton];omega)
  ·simp only [if_neg h1]
   exact this out (by rw [List.length_append];omega)
theorem l12Has_ev (l:List Int) (j:Int) (h:l.length≤1048576):Ev (fun k=>spec_l12Has.f k l j) (hasGo j l 0):=by
 have:=l12Has_l j l [] [] (by simp only [List.nil_append];omega) (by simp)
 exact this
theorem rd_set {acc:List Int} {x j:Int} (hx: 0≤x) (hx1:x<acc.length) (hj: 0≤j) (y:Int):rd (acc.set x.toNat y) j=if j=x then y else rd acc j:=by
 unfold rd
 rw [List.getD_eq_getElem?_getD,List.getD_eq_getElem?_getD,List.getElem?_set]
 by_cases h:j=x
 ·subst h
  rw [if_pos rfl,if_pos rfl,if_pos (by omega)]
  rfl
 ·rw [if_neg (by omega),if_neg h]
theorem loads_l (m:Nat) (hm:m≤1000) (suf:List Int) (hs:∀ x ∈ suf, -1≤x∧x<m):∀ (pre acc:List Int),((pre++suf).length:Int)≤1048576→acc.length=m→ (∀ j:Int,0≤j→rd acc j=cnt pre j)→
  ∃ r,Ev (fun k=>impl_loads.l0 k acc (pre++suf) ((pre++suf).length:Int) pre.length) r∧r.length=m∧ ∀ j:Int,0≤j→rd r j=cnt (pre++suf) j:=by
 induction suf with
 |nil=>
  intro pre acc h ha hr
  refine⟨acc,Ev.succ ?_,ha,by rw [List.append_nil];exact hr⟩
  simp only [impl_loads.l0,List.append_nil,Int.lt_irrefl,if_false]
  exact Ev.now _
 |cons x suf ih=>
  intro pre acc h ha hr
  rw [len_mid] at h
  have hx:=hs x (List.mem_cons_self ..)
  have hi:=ih (fun y hy=>hs y (List.mem_cons_of_mem _ hy)) (pre++ [x])
  rw [← app_one,len_mid,len_one] at hi
  have hc:∀ j,cnt (pre++ [x]) j=cnt pre j+if x=j then 1 else 0:=by
   intro j
   unfold cnt
   rw [List.countP_append,List.countP_cons,List.countP_nil,Nat.zero_add]
   by_cases e:x=j
   ·rw [decide_eq_true e,if_pos rfl,if_pos e]
   ·rw [decide_eq_false e,if_neg Bool.false_ne_true,if_neg e]
  by_cases h1:x≥0
  ·have hb:=cnt_le pre x
   obtain⟨r,er,e1,e2⟩:=hi (acc.set x.toNat (wrap64 ((rd acc x)+1))) h (by rw [List.length_set];exact ha) (by
    intro j hj
    rw [rd_set h1 (by omega) hj,hc,hr x h1,wrap_id (by omega) (by omega)]
    by_cases e:j=x
    ·rw [if_pos e,if_pos e.symm,e]
     omega
    ·rw [if_neg e,if_neg (fun c=>e c.symm),hr j hj]
     omega)
   refine⟨r,Ev.succ ?_,e1,e2⟩
   simp only [impl_loads.l0]
   simp only [len_mid,if_pos (show ((pre.length:Int)<pre.length+suf.length+1) by omega),if_pos (show (0:Int)≤pre.length by omega),rd_mid,wrap_id (show (-9223372036854775808:Int)≤pre.length+1 by omega) (show ((pre.length:Int)+1≤9223372036854775807) by omega),if_pos h1,if_pos (show 0≤x from h1),if_pos (show x< (acc.length:Int) by omega)]
   exact er
  ·obtain⟨r,er,e1,e2⟩:=hi acc h ha (by
    intro j hj
    rw [hc,if_neg (by omega),Nat.add_zero,hr j hj])
   refine⟨r,Ev.succ ?_,e1,e2⟩
   simp only [impl_loads.l0]
   simp only [len_mid,if_pos (show ((pre.length:Int)<pre.length+suf.length+1) by omega),if_pos (show (0:Int)≤pre.length by omega),rd_mid,wrap_id (show (-9223372036854775808:Int)≤pre.length+1 by omega) (show ((pre.length:Int)+1≤9223372036854775807) by omega),if_neg h1]
   exact er
theorem rd_zero (m:Nat) (j:Int):rd (List.replicate m (0:Int)) j=0:=by
 unfold rd
 rw [List.getD_eq_getElem?_getD,List.getElem?_replicate]
 split<;>rfl
theorem loads_ev (f0 f1:List (List Int)) (f2 l:List Int) (hl:l.length≤1048576) (hm:f1.length≤1000) (hs:∀ x ∈ l, -1≤x∧x<f1.length):
  ∃ r,Ev (fun k=>impl_loads.f k f0 f1 f2 l) r∧r.length=f1.length∧ ∀ j:Int,0≤j→rd r j=cnt l j:=by
 unfold impl_loads.f
 simp only [if_pos (show (0:Int)≤ (f1.length:Int) by omega),Int.toNat_natCast,if_pos (show f1.length≤35184372088832 by omega)]
 exact loads_l f1.length hm l hs [] (List.replicate f1.length 0) (by simp only [List.nil_append];omega) (by simp) (fun j hj=>by rw [rd_zero];rfl)
def capGo (l:List Int):List Int→Int→Bool
 | [],_=>true
 |c::r,j=>if (cnt l j:Int) > c then false else capGo l r (j+1)
theorem implCap_l (f0 f1:List (List Int)) (l t:List Int) (ht:∀ j:Int,0≤j→rd t j=cnt l j) (suf:List Int):∀ (pre:List Int),((pre++suf).length:Int)≤1048576→t.length= (pre++suf).length→
  Ev (fun k=>impl_GoodMatch.l0 k t ((pre++suf).length:Int) pre.length f0 f1 (pre++suf)) (capGo l suf pre.length):=by
 induction suf with
 |nil=>
  intro pre h he
  refine Ev.succ ?_
  simp only [impl_GoodMatch.l0,List.append_nil,Int.lt_irrefl,if_false,capGo]
  exact Ev.now _
 |cons x suf ih=>
  intro pre h he
  refine Ev.succ ?_
  have he':(t.length:Int)=pre.length+suf.length+1:=by rw [he,len_mid]
  rw [len_mid] at h ⊢
  have:=ih (pre++ [x]) (by rw [← app_one,len_mid];exact h) (by rw [← app_one];exact he)
  rw [← app_one,len_mid,len_one] at this
  simp only [impl_GoodMatch.l0,capGo]
  simp only [if_pos (show ((pre.length:Int)<pre.length+suf.length+1) by omega),if_pos (show (0:Int)≤pre.length by omega),len_mid,rd_mid,if_pos (show (pre.length:Int)< (t.length:Int) by omega),ht (pre.length:Int) (by omega),wrap_id (show (-9223372036854775808:Int)≤pre.length+1 by omega) (show ((pre.length:Int)+1≤9223372036854775807) by omega)]
  by_cases h1:(cnt l pre.length:Int) > x
  ·simp only [if_pos h1]
   exact Ev.now _
  ·simp only [if_neg h1]
   exact this
theorem goodW_len {f0 f1:List (List Int)} {f2:List Int} (h:goodW f0 f1 f2=true): 1≤f0.length∧f0.length≤8∧1≤f1.length∧f1.length≤8∧f2.length=f1.length:=by
 unfold goodW at h
 simp only [Bool.and_eq_true,decide_eq_true_eq] at h
 omega
def goodM (f0 f1:List (List Int)) (f2 l:List Int):Bool:=goodW f0 f1 f2 && (decide ((l.length:Int)=f0.length) && (allIn (-1) (wrap64 ((f1.length:Int) - 1)) l && capGo l f2 0))
theorem implGoodM_ev {f0 f1:List (List Int)} {f2:List Int} (h:okW f0 f1 f2) (l:List Int) (hl:l.length≤1048576):Ev (fun k=>impl_GoodMatch.f k f0 f1 f2 l) (goodM f0 f1 f2 l):=by
 unfold impl_GoodMatch.f goodM
 have bad:Ev (fun k=>impl_GoodMatch.j0 k l true f0 f1 f2) false:=by
  refine Ev.succ ?_
  simp only [impl_GoodMatch.j0,if_true]
  exact Ev.now _
 refine Ev.bind (implGoodW_ev h) ?_
 cases hw:goodW f0 f1 f2 with
 |false=>
  simp only [Bool.false_eq_true,if_false,Bool.false_and]
  exact bad
 |true=>
  have hn:=goodW_len hw
  simp only [if_true,Bool.true_and]
  by_cases h1:(l.length:Int)=f0.length
  ·simp only [if_pos h1]
   rw [decide_eq_true h1,Bool.true_and]
   refine Ev.bind (implAll_ev _ _ l (by omega)) ?_
   cases ha:allIn (-1) (wrap64 ((f1.length:Int) - 1)) l with
   |false=>
    rw [Bool.false_and]
    exact bad
   |true=>
    rw [Bool.true_and]
    rw [wrap_id (by omega) (by omega)] at ha
    refine Ev.succ ?_
    simp only [impl_GoodMatch.j0,Bool.not_true,Bool.false_eq_true,if_false]
    obtain⟨t,et,e1,e2⟩:=loads_ev f0 f1 f2 l hl (by omega) (fun x hx=>by
     have:=List.all_eq_true.1 ha x hx
     rw [decide_eq_true_eq] at this
     omega)
    refine Ev.bind et ?_
    have:=implCap_l f0 f1 l t e2 f2 [] (by have:=h.a2;simp only [List.nil_append];omega) (by simp only [List.nil_append];omega)
    rw [show (t.length:Int)= ((([] :List Int)++f2).length:Int) by simp only [List.nil_append];omega]
    exact this
  ·simp only [if_neg h1]
   rw [decide_eq_false h1,Bool.false_and]
   exact bad
theorem erase_len_le {α :Type} [DecidableEq α] {x: α} :∀ {M:List α},x ∈ M→ (M.erase x).length+1=M.length:=by
 intro M h
 have:=List.length_erase_of_mem h
 have h2: 0<M.length:=List.length_pos_of_mem h
 omega
theorem nodup_le {α :Type} [DecidableEq α] :∀ (L M:List α),L.Nodup→ (∀ x ∈ L,x ∈ M)→L.length≤M.length
 | [],_,_,_=>Nat.zero_le _
 |x::L,M,hn,hs=>by
  have hx:x ∈ M:=hs x (by simp)
  rw [List.nodup_cons] at hn
  have h:=nodup_le L (M.erase x) hn.2 (fun y hy=>by
   have:y≠x:=fun e=>hn.1 (e ▸ hy)
   exact(List.mem_erase_of_ne this).2 (hs y (by simp [hy])))
  have:=erase_len_le hx
  simp only [List.length_cons]
  omega
end Go.Proofs.Ytoipbblhmcpneaa.P
