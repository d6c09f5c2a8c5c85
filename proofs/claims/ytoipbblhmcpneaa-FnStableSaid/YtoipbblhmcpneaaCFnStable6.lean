/- Functions, walks and plain lemmas that the law FnStable reaches, part 6. -/
import Derived.Test.YtoipbblhmcpneaaCFnStable5
import Derived.Below
import Derived.Deep.Draws
import Derived.Deep.AppendLies
import Derived.Maps.AppendAt
import Derived.OwnWalk
import Derived.Laws.BytesArg
import Derived.Laws.MakeOwn
import Derived.Laws.OwnMore
import Derived.Deep.OwnRows
import Derived.Tactics
import Derived.Lib.ConvBytes
import Derived.Laws.Slices
import Derived.WalkKit
import Derived.KernelRfl
import Derived.RowKit3
import Derived.Deep.LoopGhost
import Derived.Deep.QuietTactic
import Derived.BigQuiet
import Derived.WideLaws
import Derived.Deep.DeepCutAuto
import Derived.Deep.CutBlock
import Derived.Deep.RegionHeld3
import Derived.Laws.Rows
import Derived.Lib.AppendStr
import Derived.ArgAppend
import Derived.Laws.IdiomCopy
import Derived.OrdersHeld
import Derived.Laws.BitsLemmas
import Derived.RowKit
import Derived.WalkSpells
import Derived.Lib.SliceRun
import Derived.Shelf.Abstract
import Derived.ProofKit
import Derived.OpenShut
import Derived.ShutString
import Derived.ChangeOld
import Derived.SizedLaws
namespace Go.Proofs.Ytoipbblhmcpneaa.P
open Go.RowKit Go.Proofs.YtoipbblhmcpneaaW.PrintWords Go.Proofs.YtoipbblhmcpneaaW.PrintLast Go.Proofs.YtoipbblhmcpneaaW.PrintMore
attribute [local go_sem] max2_int min2_int max_two min_two max_three min_three max_four min_four   -- for this text's walks alone
set_option linter.unusedVariables false
set_option linter.unusedSimpArgs false
mutual
def spec_DrawGoodMatch.j0:Nat→List Int→Bool→List Int→Int→Int→List (List Int)→List (List Int)→List Int→Option ((List (List Int)) × (List (List Int)) × List Int × List Int)
 | 0,_,_,_,_,_,_,_,_=>none
 |k+1,x6,x23,x838000,x838001,x838002,x850000,x850001,x850002=>if x23=true then(spec_DrawGoodMatch.l0 k ([] :List Int) (x850000.length:Int) 0 x838000 x838001 x838002 x850000 x850001 x850002) else(some (x850000,x850001,x850002,x6))
def spec_DrawGoodMatch.l0:Nat→List Int→Int→Int→List Int→Int→Int→List (List Int)→List (List Int)→List Int→Option ((List (List Int)) × (List (List Int)) × List Int × List Int)
 | 0,_,_,_,_,_,_,_,_,_=>none
 |k+1,x6,x26,x27,x838000,x838001,x838002,x850000,x850001,x850002=>if x27<x26 then((spec_l1Cur_pick.f x838000 x838001 x838002 (wrap64 ((x850001.length:Int)+1))).bind fun bt857=>(if x6.length< 17592186044416 then(spec_DrawGoodMatch.l0 k (x6++ [wrap64 (bt857.1 - 1)]) x26 (wrap64 (x27+1)) x838000 bt857.2.1 bt857.2.2 x850000 x850001 x850002) else(none))) else(some (x850000,x850001,x850002,x6))
end
def spec_DrawGoodMatch.f (k:Nat) (l0:List Int):Option ((List (List Int)) × (List (List Int)) × List Int × List Int):=(spec_l1Cur_serveWishes.f k l0 0 0).bind fun bt838=>((spec_MatchAll.f k bt838.1 bt838.2.1 bt838.2.2.1).bind fun bt850=>(if bt850.2=true then((spec_l1Cur_one.f l0 bt838.2.2.2.1 bt838.2.2.2.2 2).bind fun bt854=>(spec_DrawGoodMatch.j0 k bt850.1 bt854.1 l0 bt854.2.1 bt854.2.2 bt838.1 bt838.2.1 bt838.2.2.1)) else(spec_DrawGoodMatch.j0 k bt850.1 true l0 bt838.2.2.2.1 bt838.2.2.2.2 bt838.1 bt838.2.1 bt838.2.2.1)))
set_option maxHeartbeats 8000000 in
set_option maxRecDepth 100000 in
theorem spec_DrawGoodMatch.calls (k:Nat) (A0:Option Addr) (c0:Nat) (l0:List Int) (r1:List (List Int)) (r2:List (List Int)) (r3:List Int) (r4:List Int) (w:World) (hr0:Kd.C (Kd.int .u8) w A0 l0.length l0) (hc0:l0.length≤c0) (h:spec_DrawGoodMatch.f k l0=some (r1,r2,r3,r4)):
  Calls Try.prog 41 #[.slice A0 l0.length c0] w fun e w'=> ∃ v0_ v1_ v2_ v3_:Value,e= .returned (.tuple #[.agg #[v0_,v1_,v2_],v3_])∧Kd.S (Kd.slice 3 (Kd.int .i64)) 22 w' w.heap.size (fun k_=>some k_≠ (v1_:Value).ownBlock∧some k_≠ (v2_:Value).ownBlock∧some k_≠ (v3_:Value).ownBlock) v0_ r1∧Kd.S (Kd.slice 3 (Kd.int .i64)) 22 w' w.heap.size (fun k_=>some k_≠ (v0_:Value).ownBlock∧some k_≠ (v2_:Value).ownBlock∧some k_≠ (v3_:Value).ownBlock) v1_ r2∧Kd.R (Kd.int .i64) 3 w' w.heap.size (fun k_=>some k_≠ (v3_:Value).ownBlock) v2_ r3∧Kd.R (Kd.int .i64) 3 w' w.heap.size (fun k_=>some k_≠ (v2_:Value).ownBlock) v3_ r4∧Below w.heap.size w w':=by
 have hu33:=Try.underlying33
 have hu71:=Try.underlying71
 have HR0:=Aside0.mk hr0
 have HC0:=Aside0.mk hc0
 clear hr0 hc0
 have HB:=Aside0.mk (Below.refl w.heap.size w)
 have H:((spec_l1Cur_serveWishes.f k l0 0 0).bind fun bt838=>((spec_MatchAll.f k bt838.1 bt838.2.1 bt838.2.2.1).bind fun bt850=>(if bt850.2=true then((spec_l1Cur_one.f l0 bt838.2.2.2.1 bt838.2.2.2.2 2).bind fun bt854=>(spec_DrawGoodMatch.j0 k bt850.1 bt854.1 l0 bt854.2.1 bt854.2.2 bt838.1 bt838.2.1 bt838.2.2.1)) else(spec_DrawGoodMatch.j0 k bt850.1 true l0 bt838.2.2.2.1 bt838.2.2.2.2 bt838.1 bt838.2.1 bt838.2.2.1))))=some (r1,r2,r3,r4):=h
 clear h
 replace H:=Option.bind_eq_some_iff.mp H
 obtain⟨⟨t838,t841,t844,t847,t848⟩,A20,H⟩:=H
 replace H:((spec_MatchAll.f k t838 t841 t844).bind fun bt850=>(if bt850.2=true then((spec_l1Cur_one.f l0 t847 t848 2).bind fun bt854=>(spec_DrawGoodMatch.j0 k bt850.1 bt854.1 l0 bt854.2.1 bt854.2.2 t838 t841 t844)) else(spec_DrawGoodMatch.j0 k bt850.1 true l0 t847 t848 t838 t841 t844)))=some (r1,r2,r3,r4):=H
 have A2:=Aside0.mk A20
 clear A20
 replace H:=Option.bind_eq_some_iff.mp H
 obtain⟨⟨t850,t853⟩,A30,H⟩:=H
 replace H:(if t853=true then((spec_l1Cur_one.f l0 t847 t848 2).bind fun bt854=>(spec_DrawGoodMatch.j0 k t850 bt854.1 l0 bt854.2.1 bt854.2.2 t838 t841 t844)) else(spec_DrawGoodMatch.j0 k t850 true l0 t847 t848 t838 t841 t844))=some (r1,r2,r3,r4):=H
 have A3:=Aside0.mk A30
 clear A30
 have HC4:=Aside0.mk H
 clear H
 go_enter Try.func41,Try.ntmps41
 go_upto_region 4 with (first|((with_reducible refine gate_dst (N:=2) rfl ?_);refine box_event ?hg (N:=2) ?hd (cs:= #[.slice none 0 0,.slice none 0 0,.slice none 0 0]) (t:=33) ?hr ?_;(case hd=>rfl);(case hg=>rfl);(case hr=>first|(go_simp;done)|(go_simp;rfl));intro gb836 hg w5 hbox hb;have BK836:=Aside0.mk (hbox);have GW836:=Aside0.mk ((by rw [hg];exact(below_size (by exact zk1 HB)):w.heap.size≤gb836));have GE836:=GW836;replace HB:=Aside0.mk (below_step (by exact zk1 HB) hb);clear hb hbox hg)|((with_reducible refine gate_dst (N:=10) rfl ?_);refine box_event ?hg (N:=10) ?hd (cs:= #[.slice A0 l0.length c0,.int .i64 0,.int .u64 0]) (t:=71) ?hr ?_;(case hd=>rfl);(case hg=>rfl);(case hr=>first|(go_simp;done)|(go_simp;rfl));intro gb837 hg w6 hbox hb;have GW837:=Aside0.mk ((by rw [hg];exact(below_size (by exact zk2 HB GE836.out)):w.heap.size≤gb837));have GE837:=GW837;have NB836_837:=Aside0.mk ((by rw [hg];exact Nat.ne_of_lt (blk_lt (g:=gb836) (o:= .cells #[.slice none 0 0,.slice none 0 0,.slice none 0 0] 33 (0,0)) (zq3 BK836)):gb836≠gb837));have NB837_836:=Aside0.mk ((by rw [hg];exact Nat.ne_of_gt (blk_lt (g:=gb836) (o:= .cells #[.slice none 0 0,.slice none 0 0,.slice none 0 0] 33 (0,0)) (zq3 BK836)):gb837≠gb836));have HI837:=Aside0.mk ((show IsS71 w _ gb837 l0 0 0 from ⟨_,_,hbox,(by rw [hg];exact(below_size (by exact zk2 HB GE836.out)):w.heap.size≤gb837),HR0.out⟩));replace BK836:=Aside0.mk (blk_below (g:=gb836) (o:= .cells #[.slice none 0 0,.slice none 0 0,.slice none 0 0] 33 (0,0)) (zq3 BK836) hb);replace HB:=Aside0.mk (below_step (by exact zk2 HB GE836.out) hb);clear hb hbox hg)|((with_reducible refine gate_callee (f:=66) rfl ?_);refine goesL_ (some 12) rfl rfl Try.func66 (by kernel_rfl) rfl #[.pointer (some ⟨gb837,0,none⟩)] rfl zq2 ?_;(with_reducible refine(spec_l1Cur_serveWishes.calls k gb837 l0 0 0 t838 t841 t844 t847 t848 w _ ?side1 ?side2 A2.out).mono ?_);(case side1=>repeat(first|(with_reducible first|exact HI837.out|apply IsS71.alloc|apply IsS71.drewN|apply IsS71.drew|apply IsS71.set_1|apply IsS71.set_2|refine IsS71.far ?_ NB837_836.out _)|exact HI837.out));(case side2=>exact zk5 HB (IsS71.ge HI837.out) GE836.out);rintro e w7 ⟨v839,v842,v845,rfl,ho0,ho1,ho2,hi,hb,hk⟩;refine⟨_,rfl,?_⟩;have HO840:=Aside0.mk (Kd.S_lower ho0 (below_size (by exact zk5 HB (IsS71.ge HI837.out) GE836.out)));have HO843:=Aside0.mk (Kd.S_lower ho1 (below_size (by exact zk5 HB (IsS71.ge HI837.out) GE836.out)));have HO846:=Aside0.mk (Kd.R_lower ho2 (below_size (by exact zk5 HB (IsS71.ge HI837.out) GE836.out)));replace BK836:=Aside0.mk (KeepBut.blk hk (g':=gb836) (o:= .cells #[.slice none 0 0,.slice none 0 0,.slice none 0 0] 33 (0,0)) (zq3 BK836) NB836_837.out (by simp));replace HB:=Aside0.mk (hb);replace HI837:=Aside0.mk (hi);(try clear hb);(try clear hb2);(try clear hk);(try clear hi);(try clear ho0);(try clear ho1);(try clear ho2))|((with_reducible refine gate_dst (N:=5) rfl ?_);refine box_event ?hg (N:=5) ?hd (cs:= #[.slice none 0 0,.slice none 0 0,.slice none 0 0]) (t:=33) ?hr ?_;(case hd=>rfl);(case hg=>rfl);(case hr=>first|(go_simp;done)|(go_simp;rfl));intro gb849 hg w8 hbox hb;have BK849:=Aside0.mk (hbox);have GW849:=Aside0.mk ((by rw [hg];exact(below_size (by exact zk5 HB (IsS71.ge HI837.out) GE836.out)):w.heap.size≤gb849));have GE849:=GW849;have NB836_849:=Aside0.mk ((by rw [hg];exact Nat.ne_of_lt (blk_lt (g:=gb836) (o:= .cells #[.slice none 0 0,.slice none 0 0,.slice none 0 0] 33 (0,0)) (zq3 BK836)):gb836≠gb849));have NB849_836:=Aside0.mk ((by rw [hg];exact Nat.ne_of_gt (blk_lt (g:=gb836) (o:= .cells #[.slice none 0 0,.slice none 0 0,.slice none 0 0] 33 (0,0)) (zq3 BK836)):gb849≠gb836));have NB837_849:=Aside0.mk ((by rw [hg];exact Nat.ne_of_lt (IsS71.lt (show IsS71 w _ gb837 l0 t847 t848 from by repeat(first|(with_reducible first|exact HI837.out|apply IsS71.alloc|apply IsS71.drewN|apply IsS71.drew|apply IsS71.set_1|apply IsS71.set_2|refine IsS71.far ?_ NB837_836.out _)|exact HI837.out))):gb837≠gb849));have NB849_837:=Aside0.mk ((by rw [hg];exact Nat.ne_of_gt (IsS71.lt (show IsS71 w _ gb837 l0 t847 t848 from by repeat(first|(with_reducible first|exact HI837.out|apply IsS71.alloc|apply IsS71.drewN|apply IsS71.drew|apply IsS71.set_1|apply IsS71.set_2|refine IsS71.far ?_ NB837_836.out _)|exact HI837.out))):gb849≠gb837));replace HO840:=Aside0.mk (Kd.S_below (by(with_reducible repeat(first|apply Kd.S_alloc|apply Kd.S_drewN|apply Kd.S_drew));exact HO840.out) hb);replace HO843:=Aside0.mk (Kd.S_below (by(with_reducible repeat(first|apply Kd.S_alloc|apply Kd.S_drewN|apply Kd.S_drew));exact HO843.out) hb);replace HO846:=Aside0.mk (Kd.R_below (zq4 HO846) hb);replace BK836:=Aside0.mk (blk_below (g:=gb836) (o:= .cells #[.slice none 0 0,.slice none 0 0,.slice none 0 0] 33 (0,0)) (zq3 BK836) hb);replace HB:=Aside0.mk (below_step (by exact zk5 HB (IsS71.ge HI837.out) GE836.out) hb);replace HI837:=Aside0.mk (IsS71.below (by repeat(first|(with_reducible first|exact HI837.out|apply IsS71.alloc|apply IsS71.drewN|apply IsS71.drew|apply IsS71.set_1|apply IsS71.set_2|refine IsS71.far ?_ NB837_836.out _)|exact HI837.out)) hb);clear hb hbox hg;obtain⟨Ao9,co9,eo9⟩:=Kd.S_slice HO840.out;subst eo9;have hnb10:=NB849_836.out;have hnc10:=NB836_849.out;have hnb11:=NB849_837.out;have hnc11:=NB837_849.out;have hcz12_0:=zcz BK849 0 (.slice none 0 0);have hcz12_1:=zcz BK849 1 (.slice none 0 0);have hcz12_2:=zcz BK849 2 (.slice none 0 0);have hfz12_0:=blk_frozen BK849.out 0;have hfz12_1:=blk_frozen BK849.out 1;have hfz12_2:=blk_frozen BK849.out 2;obtain⟨Ao13,co13,eo13⟩:=Kd.S_slice HO843.out;subst eo13;obtain⟨Ao14,co14,eo14⟩:=Kd.R_slice HO846.out;subst eo14)|((with_reducible refine gate_callee (f:=35) rfl ?_);refine goesL_ (some 15) rfl rfl Try.func35 (by kernel_rfl) rfl #[.agg #[.slice Ao9 t838.length co9,.slice Ao13 t841.length co13,.slice Ao14 t844.length co14]] rfl zq2 ?_;(with_reducible refine(spec_MatchAll.calls k _ _ t838 _ _ t841 _ _ t844 t850 t853 _ ?side1 ?side2 ?side3 ?side4 ?side5 ?side6 A3.out).mono ?_);(case side1=>refine(Kd.S_reads' (e:=22) (base:=w.heap.size) (ok:=fun k_=>(some k_≠ (.slice Ao13 t841.length co13:Value).ownBlock∧some k_≠ (.slice Ao14 t844.length co14:Value).ownBlock)) (n:=t838.length) (c:=co9) ?_).2.2;exact(by(with_reducible repeat(first|apply Kd.S_alloc|apply Kd.S_drewN|apply Kd.S_drew));exact(Kd.S_mono (Kd.S_far (p:=⟨gb849,2,none⟩) (Kd.S_far (p:=⟨gb849,1,none⟩) (Kd.S_far (p:=⟨gb849,0,none⟩) (Kd.S_types HO840.out BK849.out (by decide)) (fun _ hk=>hk.2) (.slice Ao9 t838.length co9)) (fun _ hk=>hk.2) (.slice Ao13 t841.length co13)) (fun _ hk=>hk.2) (.slice Ao14 t844.length co14)) (fun _ h_=>h_.1))));(case side2=>exact(Kd.S_reads' HO840.out).2.1);(case side3=>refine(Kd.S_reads' (e:=22) (base:=w.heap.size) (ok:=fun k_=>(some k_≠ (.slice Ao9 t838.length co9:Value).ownBlock∧some k_≠ (.slice Ao14 t844.length co14:Value).ownBlock)) (n:=t841.length) (c:=co13) ?_).2.2;exact(by(with_reducible repeat(first|apply Kd.S_alloc|apply Kd.S_drewN|apply Kd.S_drew));exact(Kd.S_mono (Kd.S_far (p:=⟨gb849,2,none⟩) (Kd.S_far (p:=⟨gb849,1,none⟩) (Kd.S_far (p:=⟨gb849,0,none⟩) (Kd.S_types HO843.out BK849.out (by decide)) (fun _ hk=>hk.2) (.slice Ao9 t838.length co9)) (fun _ hk=>hk.2) (.slice Ao13 t841.length co13)) (fun _ hk=>hk.2) (.slice Ao14 t844.length co14)) (fun _ h_=>h_.1))));(case side4=>exact(Kd.S_reads' HO843.out).2.1);(case side5=>refine(Kd.R_reads' (e:=3) (base:=w.heap.size) (ok:=fun k_=>True) (n:=t844.length) (c:=co14) ?_).2.2;exact(by(with_reducible repeat(first|apply Kd.R_alloc|apply Kd.R_drewN|apply Kd.R_drew));exact(Kd.R_mono (Kd.R_far (p:=⟨gb849,2,none⟩) (Kd.R_far (p:=⟨gb849,1,none⟩) (Kd.R_far (p:=⟨gb849,0,none⟩) (Kd.R_types HO846.out BK849.out (by decide)) (fun _ hk=>hk.2) (.slice Ao9 t838.length co9)) (fun _ hk=>hk.2) (.slice Ao13 t841.length co13)) (fun _ hk=>hk.2) (.slice Ao14 t844.length co14)) (fun _ h_=>h_.1))));(case side6=>exact(Kd.R_reads' HO846.out).2.1);rintro e w15 ⟨v851,rfl,ho0,hb⟩;refine⟨_,rfl,?_⟩;have HO852:=Aside0.mk (Kd.R_lower (Kd.R_new' ho0 (Kd.R_lt (by(with_reducible repeat(first|apply Kd.R_alloc|apply Kd.R_drewN|apply Kd.R_drew));exact(Kd.R_mono (Kd.R_far (p:=⟨gb849,2,none⟩) (Kd.R_far (p:=⟨gb849,1,none⟩) (Kd.R_far (p:=⟨gb849,0,none⟩) (Kd.R_types HO846.out BK849.out (by decide)) (fun _ hk=>hk.2) (.slice Ao9 t838.length co9)) (fun _ hk=>hk.2) (.slice Ao13 t841.length co13)) (fun _ hk=>hk.2) (.slice Ao14 t844.length co14)) (fun _ h_=>h_.1))))) (below_size (by exact zk6 HB (IsS71.ge HI837.out) GE836.out GE849.out)));replace HO840:=Aside0.mk (Kd.S_elder' (by(with_reducible repeat(first|apply Kd.S_alloc|apply Kd.S_drewN|apply Kd.S_drew));exact(Kd.S_mono (Kd.S_far (p:=⟨gb849,2,none⟩) (Kd.S_far (p:=⟨gb849,1,none⟩) (Kd.S_far (p:=⟨gb849,0,none⟩) (Kd.S_types HO840.out BK849.out (by decide)) (fun _ hk=>hk.2) (.slice Ao9 t838.length co9)) (fun _ hk=>hk.2) (.slice Ao13 t841.length co13)) (fun _ hk=>hk.2) (.slice Ao14 t844.length co14)) (fun _ h_=>h_.1))) (Kd.R_base ho0) hb);replace HO843:=Aside0.mk (Kd.S_elder' (by(with_reducible repeat(first|apply Kd.S_alloc|apply Kd.S_drewN|apply Kd.S_drew));exact(Kd.S_mono (Kd.S_far (p:=⟨gb849,2,none⟩) (Kd.S_far (p:=⟨gb849,1,none⟩) (Kd.S_far (p:=⟨gb849,0,none⟩) (Kd.S_types HO843.out BK849.out (by decide)) (fun _ hk=>hk.2) (.slice Ao9 t838.length co9)) (fun _ hk=>hk.2) (.slice Ao13 t841.length co13)) (fun _ hk=>hk.2) (.slice Ao14 t844.length co14)) (fun _ h_=>h_.1))) (Kd.R_base ho0) hb);replace HO846:=Aside0.mk (Kd.R_elder' (by(with_reducible repeat(first|apply Kd.R_alloc|apply Kd.R_drewN|apply Kd.R_drew));exact(Kd.R_mono (Kd.R_far (p:=⟨gb849,2,none⟩) (Kd.R_far (p:=⟨gb849,1,none⟩) (Kd.R_far (p:=⟨gb849,0,none⟩) (Kd.R_types HO846.out BK849.out (by decide)) (fun _ hk=>hk.2) (.slice Ao9 t838.length co9)) (fun _ hk=>hk.2) (.slice Ao13 t841.length co13)) (fun _ hk=>hk.2) (.slice Ao14 t844.length co14)) (fun _ h_=>h_.1))) (Kd.R_base ho0) hb);replace BK836:=Aside0.mk (blk_below (g:=gb836) (o:= .cells #[.slice none 0 0,.slice none 0 0,.slice none 0 0] 33 (0,0)) (by(with_reducible repeat(first|refine blk_drewN ?_ _|refine blk_drew ?_ |refine blk_alloc ?_ _));refine blk_far ?_ NB836_849.out _;(with_reducible repeat(first|refine blk_drewN ?_ _|refine blk_drew ?_ |refine blk_alloc ?_ _));refine blk_far ?_ NB836_849.out _;(with_reducible repeat(first|refine blk_drewN ?_ _|refine blk_drew ?_ |refine blk_alloc ?_ _));refine blk_far ?_ NB836_849.out _;(with_reducible repeat(first|refine blk_drewN ?_ _|refine blk_drew ?_ |refine blk_alloc ?_ _));exact BK836.out) hb);replace BK849:=Aside0.mk (blk_below (g:=gb849) (o:= .cells #[.slice Ao9 t838.length co9,.slice Ao13 t841.length co13,.slice Ao14 t844.length co14] 33 (0,0)) (by(with_reducible repeat(first|refine blk_drewN ?_ _|refine blk_drew ?_ |refine blk_alloc ?_ _));refine blk_put (cs:= #[.slice Ao9 t838.length co9,.slice Ao13 t841.length co13,.slice none 0 0]) ?_ 2 _ rfl;(with_reducible repeat(first|refine blk_drewN ?_ _|refine blk_drew ?_ |refine blk_alloc ?_ _));refine blk_put (cs:= #[.slice Ao9 t838.length co9,.slice none 0 0,.slice none 0 0]) ?_ 1 _ rfl;(with_reducible repeat(first|refine blk_drewN ?_ _|refine blk_drew ?_ |refine blk_alloc ?_ _));refine blk_put (cs:= #[.slice none 0 0,.slice none 0 0,.slice none 0 0]) ?_ 0 _ rfl;(with_reducible repeat(first|refine blk_drewN ?_ _|refine blk_drew ?_ |refine blk_alloc ?_ _));exact BK849.out) hb);replace HB:=Aside0.mk (below_step (by exact zk6 HB (IsS71.ge HI837.out) GE836.out GE849.out) hb);replace HI837:=Aside0.mk (IsS71.below (show IsS71 w (((w8.setCell ⟨gb849,0,none⟩ (.slice Ao9 t838.length co9)).setCell ⟨gb849,1,none⟩ (.slice Ao13 t841.length co13)).setCell ⟨gb849,2,none⟩ (.slice Ao14 t844.length co14)) gb837 l0 t847 t848 from by repeat(first|(with_reducible first|exact HI837.out|apply IsS71.alloc|apply IsS71.drewN|apply IsS71.drew|apply IsS71.set_1|apply IsS71.set_2|refine IsS71.far ?_ NB837_836.out _|refine IsS71.far ?_ NB837_849.out _)|exact HI837.out)) hb);(try clear hb);(try clear hb2);(try clear hk);(try clear hi);(try clear ho0)))
 (try simp only [Act.put,List.setIfInBounds_toArray,List.set_cons_zero,List.set_cons_succ])
 go_cut [23] (fun v23 wc=> ∃ (kq:Nat) (x23_3:Bool) (x838001_3:Int) (x838002_3:Int),v23= .bool x23_3∧Aside0 (spec_DrawGoodMatch.j0 kq t850 x23_3 l0 x838001_3 x838002_3 t838 t841 t844=some (r1,r2,r3,r4))∧Aside0 (kq≤k)∧Aside0 (Kd.R (Kd.int .i64) 3 wc w.heap.size (fun k_=>some k_≠ ((.slice Ao14 t844.length co14):Value).ownBlock) v851 t850)∧Aside0 (Kd.S (Kd.slice 3 (Kd.int .i64)) 22 wc w.heap.size (fun k_=>some k_≠ (v851:Value).ownBlock∧some k_≠ ((.slice Ao13 t841.length co13):Value).ownBlock∧some k_≠ ((.slice Ao14 t844.length co14):Value).ownBlock) (.slice Ao9 t838.length co9) t838)∧Aside0 (Kd.S (Kd.slice 3 (Kd.int .i64)) 22 wc w.heap.size (fun k_=>some k_≠ (v851:Value).ownBlock∧some k_≠ ((.slice Ao9 t838.length co9):Value).ownBlock∧some k_≠ ((.slice Ao14 t844.length co14):Value).ownBlock) (.slice Ao13 t841.length co13) t841)∧Aside0 (Kd.R (Kd.int .i64) 3 wc w.heap.size (fun k_=>some k_≠ (v851:Value).ownBlock) (.slice Ao14 t844.length co14) t844)∧Aside0 (wc.heap[gb836]?=some (.cells #[(.slice none 0 0),(.slice none 0 0),(.slice none 0 0)] 33 (0,0)))∧Aside0 (wc.heap[gb849]?=some (.cells #[(.slice Ao9 t838.length co9),(.slice Ao13 t841.length co13),(.slice Ao14 t844.length co14)] 33 (0,0)))∧Aside0 (IsS71 w wc gb837 l0 x838001_3 x838002_3)∧Aside0 (Below w.heap.size w wc))
 case first=>
  have H:=HC4.out
  clear HC4
  by_cases c16:t853=true
  ·subst c16
   have H1:((spec_l1Cur_one.f l0 t847 t848 2).bind fun bt854=>(spec_DrawGoodMatch.j0 k t850 bt854.1 l0 bt854.2.1 bt854.2.2 t838 t841 t844))=some (r1,r2,r3,r4):=by rw [if_pos rfl] at H;exact H
   clear H
   have H:=H1
   clear H1
   replace H:=Option.bind_eq_some_iff.mp H
   obtain⟨⟨t854,t855,t856⟩,A170,H⟩:=H
   replace H:(spec_DrawGoodMatch.j0 k t850 t854 l0 t855 t856 t838 t841 t844)=some (r1,r2,r3,r4):=H
   have A17:=Aside0.mk A170
   clear A170
   have H':=Aside0.mk H
   clear H
   go_wp2_with (first|(go_at_call 67;(with_reducible refine(spec_l1Cur_one.calls gb837 l0 t847 t848 2 t854 t855 t856 w _ ?side1 ?side2 A17.out).mono ?_);(case side1=>repeat(first|(with_reducible first|exact HI837.out|apply IsS71.alloc|apply IsS71.drewN|apply IsS71.drew|apply IsS71.set_1|apply IsS71.set_2|refine IsS71.far ?_ NB837_836.out _|refine IsS71.far ?_ NB837_849.out _)|exact HI837.out));(case side2=>exact zk6 HB (IsS71.ge HI837.out) GE836.out GE849.out);rintro e w18 ⟨rfl,hi,hb,hk⟩;replace BK836:=Aside0.mk (KeepBut.blk hk (g':=gb836) (o:= .cells #[.slice none 0 0,.slice none 0 0,.slice none 0 0] 33 (0,0)) (zq3 BK836) NB836_837.out (by simp));replace HO840:=Aside0.mk (Kd.S_mono (Kd.S_keep (IsS71.apartS (show IsS71 w _ gb837 l0 t847 t848 from by repeat(first|(with_reducible first|exact HI837.out|apply IsS71.alloc|apply IsS71.drewN|apply IsS71.drew|apply IsS71.set_1|apply IsS71.set_2|refine IsS71.far ?_ NB837_836.out _|refine IsS71.far ?_ NB837_849.out _)|exact HI837.out)) (by(with_reducible repeat(first|apply Kd.S_alloc|apply Kd.S_drewN|apply Kd.S_drew));exact HO840.out) (by decide)) hk (fun _ h=>h.2)) (fun _ h=>h.1));replace HO843:=Aside0.mk (Kd.S_mono (Kd.S_keep (IsS71.apartS (show IsS71 w _ gb837 l0 t847 t848 from by repeat(first|(with_reducible first|exact HI837.out|apply IsS71.alloc|apply IsS71.drewN|apply IsS71.drew|apply IsS71.set_1|apply IsS71.set_2|refine IsS71.far ?_ NB837_836.out _|refine IsS71.far ?_ NB837_849.out _)|exact HI837.out)) (by(with_reducible repeat(first|apply Kd.S_alloc|apply Kd.S_drewN|apply Kd.S_drew));exact HO843.out) (by decide)) hk (fun _ h=>h.2)) (fun _ h=>h.1));replace HO846:=Aside0.mk (Kd.R_mono (Kd.R_keep (IsS71.apart (show IsS71 w _ gb837 l0 t847 t848 from by repeat(first|(with_reducible first|exact HI837.out|apply IsS71.alloc|apply IsS71.drewN|apply IsS71.drew|apply IsS71.set_1|apply IsS71.set_2|refine IsS71.far ?_ NB837_836.out _|refine IsS71.far ?_ NB837_849.out _)|exact HI837.out)) (zq4 HO846) (by decide)) hk (fun _ h=>h.2)) (fun _ h=>h.1));replace BK849:=Aside0.mk (KeepBut.blk hk (g':=gb849) (o:= .cells #[.slice Ao9 t838.length co9,.slice Ao13 t841.length co13,.slice Ao14 t844.length co14] 33 (0,0)) (zq3 BK849) NB849_837.out (by simp));replace HO852:=Aside0.mk (Kd.R_mono (Kd.R_keep (IsS71.apart (show IsS71 w _ gb837 l0 t847 t848 from by repeat(first|(with_reducible first|exact HI837.out|apply IsS71.alloc|apply IsS71.drewN|apply IsS71.drew|apply IsS71.set_1|apply IsS71.set_2|refine IsS71.far ?_ NB837_836.out _|refine IsS71.far ?_ NB837_849.out _)|exact HI837.out)) (zq4 HO852) (by decide)) hk (fun _ h=>h.2)) (fun _ h=>h.1));replace HB:=Aside0.mk (hb);replace HI837:=Aside0.mk (hi);(try clear hb);(try clear hb2);(try clear hk);(try clear hi)))
   go_meet
   case rel=>exact⟨_,(t854),(t855),(t856),zrs,H',⟨by first|omega|exact Nat.le_refl _⟩,⟨by(with_reducible repeat(first|apply Kd.R_alloc|apply Kd.R_drewN|apply Kd.R_drew));exact Kd.R_mono HO852.out (fun _ hk=>hk.2)⟩,⟨by(with_reducible repeat(first|apply Kd.S_alloc|apply Kd.S_drewN|apply Kd.S_drew));exact Kd.S_mono HO840.out (fun _ hk=>⟨hk.2,⟨hk.1.1,hk.1.2⟩⟩)⟩,⟨by(with_reducible repeat(first|apply Kd.S_alloc|apply Kd.S_drewN|apply Kd.S_drew));exact Kd.S_mono HO843.out (fun _ hk=>⟨hk.2,⟨hk.1.1,hk.1.2⟩⟩)⟩,⟨by(with_reducible repeat(first|apply Kd.R_alloc|apply Kd.R_drewN|apply Kd.R_drew));exact Kd.R_mono HO846.out (fun _ hk=>hk.2)⟩,⟨by(with_reducible repeat(first|refine blk_drewN ?_ _|refine blk_drew ?_ |refine blk_alloc ?_ _));exact BK836.out⟩,⟨by(with_reducible repeat(first|refine blk_drewN ?_ _|refine blk_drew ?_ |refine blk_alloc ?_ _));exact BK849.out⟩,⟨by repeat(first|(with_reducible first|exact HI837.out|apply IsS71.alloc|apply IsS71.drewN|apply IsS71.drew|apply IsS71.set_1|apply IsS71.set_2|refine IsS71.far ?_ NB837_836.out _|refine IsS71.far ?_ NB837_849.out _)|exact HI837.out)⟩,⟨by exact zk6 HB (IsS71.ge HI837.out) GE836.out GE849.out⟩⟩
  ·replace c16:=Bool.eq_false_iff.mpr c16
   subst c16
   have H1:(spec_DrawGoodMatch.j0 k t850 true l0 t847 t848 t838 t841 t844)=some (r1,r2,r3,r4):=by rw [if_neg (show ¬ (false=true) by decide)] at H;exact H
   clear H
   have H:=H1
   clear H1
   have H':=Aside0.mk H
   clear H
   go_wp2
   go_meet
   case rel=>exact⟨_,(true),(t847),(t848),zrs,H',⟨by first|omega|exact Nat.le_refl _⟩,⟨by(with_reducible repeat(first|apply Kd.R_alloc|apply Kd.R_drewN|apply Kd.R_drew));exact Kd.R_mono HO852.out (fun _ hk=>hk.2)⟩,⟨by(with_reducible repeat(first|apply Kd.S_alloc|apply Kd.S_drewN|apply Kd.S_drew));exact Kd.S_mono HO840.out (fun _ hk=>⟨hk.2,⟨hk.1.1,hk.1.2⟩⟩)⟩,⟨by(with_reducible repeat(first|apply Kd.S_alloc|apply Kd.S_drewN|apply Kd.S_drew));exact Kd.S_mono HO843.out (fun _ hk=>⟨hk.2,⟨hk.1.1,hk.1.2⟩⟩)⟩,⟨by(with_reducible repeat(first|apply Kd.R_alloc|apply Kd.R_drewN|apply Kd.R_drew));exact Kd.R_mono HO846.out (fun _ hk=>hk.2)⟩,⟨by(with_reducible repeat(first|refine blk_drewN ?_ _|refine blk_drew ?_ |refine blk_alloc ?_ _));exact BK836.out⟩,⟨by(with_reducible repeat(first|refine blk_drewN ?_ _|refine blk_drew ?_ |refine blk_alloc ?_ _));exact BK849.out⟩,⟨by repeat(first|(with_reducible first|exact HI837.out|apply IsS71.alloc|apply IsS71.drewN|apply IsS71.drew|apply IsS71.set_1|apply IsS71.set_2|refine IsS71.far ?_ NB837_836.out _|refine IsS71.far ?_ NB837_849.out _)|exact HI837.out)⟩,⟨by exact zk6 HB (IsS71.ge HI837.out) GE836.out GE849.out⟩⟩
 case rest=>
  clear HC4
  try clear c1
  try clear p2
  try clear c3
  try clear c4
  try clear c6
  try clear c10
  try clear c11
  try clear c16
  try clear hcz12_0
  try clear hcz12_1
  try clear hcz12_2
  try clear hfz12_0
  try clear hfz12_1
  try clear hfz12_2
  obtain⟨kq,x23_3,x838001_3,x838002_3,rfl,HA,HJ3,HO_6,HO_850000,HO_850001,HO_850002,BK836,BK849,HI837,HB⟩:=hcut
  cases kq with
  |zero=>exact absurd HA.out (by simp [spec_DrawGoodMatch.j0])
  |succ kj3=>
   have H:=HA.out
   clear HA
   simp only [spec_DrawGoodMatch.j0] at H
   by_cases c19:x23_3=true
   ·subst c19
    have H1:(spec_DrawGoodMatch.l0 kj3 ([] :List Int) (t838.length:Int) 0 l0 x838001_3 x838002_3 t838 t841 t844)=some (r1,r2,r3,r4):=by rw [if_pos rfl] at H;exact H
    clear H
    have H:=H1
    clear H1
    have H':=Aside0.mk H
    clear H
    have hnb20:=NB849_836.out
    have hnc20:=NB836_849.out
    have hnb21:=NB849_837.out
    have hnc21:=NB837_849.out
    have hcz22_0:wc.cell? ⟨gb849,0,none⟩=some (.slice Ao9 t838.length co9):=(blk_cell BK849.out 0).trans rfl
    have hcz22_1:wc.cell? ⟨gb849,1,none⟩=some (.slice Ao13 t841.length co13):=(blk_cell BK849.out 1).trans rfl
    have hcz22_2:wc.cell? ⟨gb849,2,none⟩=some (.slice Ao14 t844.length co14):=(blk_cell BK849.out 2).trans rfl
    have hfz22_0:=blk_frozen BK849.out 0
    have hfz22_1:=blk_frozen BK849.out 1
    have hfz22_2:=blk_frozen BK849.out 2
    go_wp2
    go_loopg [6,27] kj3 (fun kq v6 v27 w'=> ∃ (x6_2:List Int) (x27_2:Int) (x838001_2:Int) (x838002_2:Int),v27= .int .i64 x27_2∧Aside0 (spec_DrawGoodMatch.l0 kq x6_2 (t838.length:Int) x27_2 l0 x838001_2 x838002_2 t838 t841 t844=some (r1,r2,r3,r4))∧Aside0 (kq≤kj3)∧Aside0 (Kd.R (Kd.int .i64) 3 w' w.heap.size (fun k_=>some k_≠ ((.slice Ao14 t844.length co14):Value).ownBlock) v6 x6_2)∧Aside0 (Kd.S (Kd.slice 3 (Kd.int .i64)) 22 w' w.heap.size (fun k_=>some k_≠ (v6:Value).ownBlock∧some k_≠ ((.slice Ao13 t841.length co13):Value).ownBlock∧some k_≠ ((.slice Ao14 t844.length co14):Value).ownBlock) (.slice Ao9 t838.length co9) t838)∧Aside0 (Kd.S (Kd.slice 3 (Kd.int .i64)) 22 w' w.heap.size (fun k_=>some k_≠ (v6:Value).ownBlock∧some k_≠ ((.slice Ao9 t838.length co9):Value).ownBlock∧some k_≠ ((.slice Ao14 t844.length co14):Value).ownBlock) (.slice Ao13 t841.length co13) t841)∧Aside0 (Kd.R (Kd.int .i64) 3 w' w.heap.size (fun k_=>some k_≠ (v6:Value).ownBlock) (.slice Ao14 t844.length co14) t844)∧Aside0 (w'.heap[gb836]?=some (.cells #[(.slice none 0 0),(.slice none 0 0),(.slice none 0 0)] 33 (0,0)))∧Aside0 (w'.heap[gb849]?=some (.cells #[(.slice Ao9 t838.length co9),(.slice Ao13 t841.length co13),(.slice Ao14 t844.length co14)] 33 (0,0)))∧Aside0 (IsS71 w w' gb837 l0 x838001_2 x838002_2)∧Aside0 (Below w.heap.size w w'))
    case atStart=>exact⟨(([] :List Int)),(0),(x838001_3),(x838002_3),zrs,H',⟨Nat.le_refl _⟩,⟨by first|exact Kd.R_nil _ _ _ _ _|exact Kd.N_nil _ _ _ _ _|exact Kd.V_nil _ _ _ _ _|exact Kd.Q_nil _ _ _ _ _|exact Kd.S_nil _ _ _ _ _⟩,⟨by(with_reducible repeat(first|apply Kd.S_alloc|apply Kd.S_drewN|apply Kd.S_drew));exact Kd.S_mono HO_850000.out (fun _ hk=>⟨(by simp [Value.ownBlock]),⟨hk.2.1,hk.2.2⟩⟩)⟩,⟨by(with_reducible repeat(first|apply Kd.S_alloc|apply Kd.S_drewN|apply Kd.S_drew));exact Kd.S_mono HO_850001.out (fun _ hk=>⟨(by simp [Value.ownBlock]),⟨hk.2.1,hk.2.2⟩⟩)⟩,⟨by(with_reducible repeat(first|apply Kd.R_alloc|apply Kd.R_drewN|apply Kd.R_drew));exact Kd.R_mono HO_850002.out (fun _ hk=>(by simp [Value.ownBlock]))⟩,⟨by(with_reducible repeat(first|refine blk_drewN ?_ _|refine blk_drew ?_ |refine blk_alloc ?_ _));exact BK836.out⟩,⟨by(with_reducible repeat(first|refine blk_drewN ?_ _|refine blk_drew ?_ |refine blk_alloc ?_ _));exact BK849.out⟩,⟨by repeat(first|(with_reducible first|exact HI837.out|apply IsS71.alloc|apply IsS71.drewN|apply IsS71.drew|apply IsS71.set_1|apply IsS71.set_2|refine IsS71.far ?_ NB837_836.out _|refine IsS71.far ?_ NB837_849.out _)|exact HI837.out)⟩,⟨by exact zk6 HB (IsS71.ge HI837.out) GE836.out GE849.out⟩⟩
    case round=>
     clear H'
     try clear c1
     try clear c2
     try clear p2
     try clear c3
     try clear c4
     try clear c6
     try clear c10
     try clear c11
     try clear c16
     try clear c19
     try clear c20
     try clear c21
     try clear hcz12_0
     try clear hcz12_1
     try clear hcz12_2
     try clear hcz22_0
     try clear hcz22_1
     try clear hcz22_2
     try clear hfz12_0
     try clear hfz12_1
     try clear hfz12_2
     try clear hfz22_0
     try clear hfz22_1
     try clear hfz22_2
     try clear p2
     obtain⟨x6_2,x27_2,x838001_2,x838002_2,rfl,HA,HK2,HO_6,HO_850000,HO_850001,HO_850002,BK836,BK849,HI837,HB⟩:=hrel
     cases gk with
     |zero=>exact absurd HA.out (by simp [spec_DrawGoodMatch.l0])
     |succ k2=>
      have H:=HA.out
      clear HA
      simp only [spec_DrawGoodMatch.l0] at H
      by_cases c23:x27_2< (t838.length:Int)
      ·rw [if_pos c23] at H
       have c23b0:decide (x27_2< (t838.length:Int))=true:=decide_eq_true c23
       clear c23
       replace H:=Option.bind_eq_some_iff.mp H
       obtain⟨⟨t857,t858,t859⟩,A240,H⟩:=H
       replace H:(if x6_2.length< 17592186044416 then(spec_DrawGoodMatch.l0 k2 (x6_2++ [wrap64 (t857 - 1)]) (t838.length:Int) (wrap64 (x27_2+1)) l0 t858 t859 t838 t841 t844) else(none))=some (r1,r2,r3,r4):=H
       have A24:=Aside0.mk A240
       clear A240
       by_cases c25:x6_2.length< 17592186044416
       case neg=>exact znn c25 H
       rw [if_pos c25] at H
       have LMc25:=Aside0.mk c25
       clear c25
       obtain⟨y860,hy860⟩ :∃ y_:List Int,y_= (x6_2++ [wrap64 (t857 - 1)]):=⟨_,rfl⟩
       replace H:(spec_DrawGoodMatch.l0 k2 y860 (t838.length:Int) (wrap64 (x27_2+1)) l0 t858 t859 t838 t841 t844)=some (r1,r2,r3,r4):=zfh hy860 H
       have Ny860:=Aside0.mk hy860
       clear hy860
       have H':=Aside0.mk H
       clear H
       have hnb26:=NB849_836.out
       have hnc26:=NB836_849.out
       have hnb27:=NB849_837.out
       have hnc27:=NB837_849.out
       have hcz28_0:wr.cell? ⟨gb849,0,none⟩=some (.slice Ao9 t838.length co9):=(blk_cell BK849.out 0).trans rfl
       have hcz28_1:wr.cell? ⟨gb849,1,none⟩=some (.slice Ao13 t841.length co13):=(blk_cell BK849.out 1).trans rfl
       have hcz28_2:wr.cell? ⟨gb849,2,none⟩=some (.slice Ao14 t844.length co14):=(blk_cell BK849.out 2).trans rfl
       have hfz28_0:=blk_frozen BK849.out 0
       have hfz28_1:=blk_frozen BK849.out 1
       have hfz28_2:=blk_frozen BK849.out 2
       go_wp2_with (first|((with_reducible refine gate_callee (f:=65) rfl ?_);refine goesL_ (some 35) rfl rfl Try.func65 (by kernel_rfl) rfl #[.pointer (some ⟨gb837,0,none⟩),.int .i64 (wrap64 ((t841.length:Int)+1))] rfl zq2 ?_;(with_reducible refine(spec_l1Cur_pick.calls gb837 l0 x838001_2 x838002_2 (wrap64 ((t841.length:Int)+1)) t857 t858 t859 w _ ?side1 ?side2 A24.out).mono ?_);(case side1=>repeat(first|(with_reducible first|exact HI837.out|apply IsS71.alloc|apply IsS71.drewN|apply IsS71.drew|apply IsS71.set_1|apply IsS71.set_2|refine IsS71.far ?_ NB837_836.out _|refine IsS71.far ?_ NB837_849.out _)|exact HI837.out));(case side2=>exact zk6 HB (IsS71.ge HI837.out) GE836.out GE849.out);rintro e w29 ⟨rfl,hi,hb,hk⟩;refine⟨_,rfl,?_⟩;replace HO_6:=Aside0.mk (Kd.R_mono (Kd.R_keep (IsS71.apart (show IsS71 w _ gb837 l0 x838001_2 x838002_2 from by repeat(first|(with_reducible first|exact HI837.out|apply IsS71.alloc|apply IsS71.drewN|apply IsS71.drew|apply IsS71.set_1|apply IsS71.set_2|refine IsS71.far ?_ NB837_836.out _|refine IsS71.far ?_ NB837_849.out _)|exact HI837.out)) (zq4 HO_6) (by decide)) hk (fun _ h=>h.2)) (fun _ h=>h.1));replace HO_850000:=Aside0.mk (Kd.S_mono (Kd.S_keep (IsS71.apartS (show IsS71 w _ gb837 l0 x838001_2 x838002_2 from by repeat(first|(with_reducible first|exact HI837.out|apply IsS71.alloc|apply IsS71.drewN|apply IsS71.drew|apply IsS71.set_1|apply IsS71.set_2|refine IsS71.far ?_ NB837_836.out _|refine IsS71.far ?_ NB837_849.out _)|exact HI837.out)) (by(with_reducible repeat(first|apply Kd.S_alloc|apply Kd.S_drewN|apply Kd.S_drew));exact HO_850000.out) (by decide)) hk (fun _ h=>h.2)) (fun _ h=>h.1));replace HO_850001:=Aside0.mk (Kd.S_mono (Kd.S_keep (IsS71.apartS (show IsS71 w _ gb837 l0 x838001_2 x838002_2 from by repeat(first|(with_reducible first|exact HI837.out|apply IsS71.alloc|apply IsS71.drewN|apply IsS71.drew|apply IsS71.set_1|apply IsS71.set_2|refine IsS71.far ?_ NB837_836.out _|refine IsS71.far ?_ NB837_849.out _)|exact HI837.out)) (by(with_reducible repeat(first|apply Kd.S_alloc|apply Kd.S_drewN|apply Kd.S_drew));exact HO_850001.out) (by decide)) hk (fun _ h=>h.2)) (fun _ h=>h.1));replace HO_850002:=Aside0.mk (Kd.R_mono (Kd.R_keep (IsS71.apart (show IsS71 w _ gb837 l0 x838001_2 x838002_2 from by repeat(first|(with_reducible first|exact HI837.out|apply IsS71.alloc|apply IsS71.drewN|apply IsS71.drew|apply IsS71.set_1|apply IsS71.set_2|refine IsS71.far ?_ NB837_836.out _|refine IsS71.far ?_ NB837_849.out _)|exact HI837.out)) (zq4 HO_850002) (by decide)) hk (fun _ h=>h.2)) (fun _ h=>h.1));replace BK836:=Aside0.mk (KeepBut.blk hk (g':=gb836) (o:= .cells #[.slice none 0 0,.slice none 0 0,.slice none 0 0] 33 (0,0)) (zq3 BK836) NB836_837.out (by simp));replace BK849:=Aside0.mk (KeepBut.blk hk (g':=gb849) (o:= .cells #[.slice Ao9 t838.length co9,.slice Ao13 t841.length co13,.slice Ao14 t844.length co14] 33 (0,0)) (zq3 BK849) NB849_837.out (by simp));replace HB:=Aside0.mk (hb);replace HI837:=Aside0.mk (hi);(try clear hb);(try clear hb2);(try clear hk);(try clear hi))|((with_reducible refine gate_builtin (b:= .append) (xs:= #[.tmp 29,.tmp 37]) rfl ?_);at_builtin;refine Kd.R_append (Kd.int .i64) (w0:=w) w.heap.size rfl (.tmp 29) (.tmp 37) 22 3 (.int .i64 0) 8 rfl Try.underlying22 info3 rfl (by decide) (by omega) u6 x6_2 (wrap64 (t857 - 1)) [.int .i64 (wrap64 (t857 - 1))] (fun k_=>some k_≠ (.slice Ao14 t844.length co14:Value).ownBlock) (fun _=>False) rfl rfl ?aP (fun _ hk=>hk.elim) ?aF ?aO ?aB ?aS ?aL ?_;(case aP=>exact rfl);(case aB=>exact(by exact zk6 HB (IsS71.ge HI837.out) GE836.out GE849.out));(case aF=>exact(fun k_ hk=>Kd.fresh' (Kd.R_lt (zq4 HO_850002)) k_ hk));(case aO=>exact(zq4 HO_6));(case aS=>exact(below_size (by exact zk6 HB (IsS71.ge HI837.out) GE836.out GE849.out)));(case aL=>have:=LMc25.out;omega);intro v861 w30 ho hb hg hat;rw [← Ny860.out] at ho;have HO862:=Aside0.mk (ho);replace HO_850000:=Aside0.mk (Kd.S_after (ok:=(fun k_=>some k_≠ (.slice Ao13 t841.length co13:Value).ownBlock∧some k_≠ (.slice Ao14 t844.length co14:Value).ownBlock)) (by(with_reducible repeat(first|apply Kd.S_alloc|apply Kd.S_drewN|apply Kd.S_drew));exact Kd.S_mono HO_850000.out (fun _ hk=>⟨⟨hk.2.1,hk.2.2⟩,hk.1⟩)) hg hat);replace HO_850001:=Aside0.mk (Kd.S_after (ok:=(fun k_=>some k_≠ (.slice Ao9 t838.length co9:Value).ownBlock∧some k_≠ (.slice Ao14 t844.length co14:Value).ownBlock)) (by(with_reducible repeat(first|apply Kd.S_alloc|apply Kd.S_drewN|apply Kd.S_drew));exact Kd.S_mono HO_850001.out (fun _ hk=>⟨⟨hk.2.1,hk.2.2⟩,hk.1⟩)) hg hat);replace HO_850002:=Aside0.mk (Kd.R_after (ok:=(fun _=>True)) (by(with_reducible repeat(first|apply Kd.R_alloc|apply Kd.R_drewN|apply Kd.R_drew));exact Kd.R_mono HO_850002.out (fun _ hk=>⟨trivial,hk⟩)) hg hat);replace BK836:=Aside0.mk (blk_grown (g:=gb836) (o:= .cells #[.slice none 0 0,.slice none 0 0,.slice none 0 0] 33 (0,0)) (zq3 BK836) hg (Kd.R_ne HO_6.out BK836.out (by decide)));replace BK849:=Aside0.mk (blk_grown (g:=gb849) (o:= .cells #[.slice Ao9 t838.length co9,.slice Ao13 t841.length co13,.slice Ao14 t844.length co14] 33 (0,0)) (zq3 BK849) hg (Kd.R_ne HO_6.out BK849.out (by decide)));replace HI837:=Aside0.mk (IsS71.grown (by repeat(first|(with_reducible first|exact HI837.out|apply IsS71.alloc|apply IsS71.drewN|apply IsS71.drew|apply IsS71.set_1|apply IsS71.set_2|refine IsS71.far ?_ NB837_836.out _|refine IsS71.far ?_ NB837_849.out _)|exact HI837.out)) hg (IsS71.own_ne HI837.out HO_6.out (by decide)));replace HB:=Aside0.mk (hb);clear HO_6;clear ho hb hg hat))
       go_roundg k2
       case measure=>have:=HJ3.out;have:=HK2.out;omega
       case rel=>exact⟨(y860),(wrap64 (x27_2+1)),(t858),(t859),zrs,H',⟨by have:=HJ3.out;have:=HK2.out;omega⟩,⟨zdr HO862⟩,⟨by(with_reducible repeat(first|apply Kd.S_alloc|apply Kd.S_drewN|apply Kd.S_drew));exact Kd.S_mono HO_850000.out (fun _ hk=>⟨hk.2,⟨hk.1.1,hk.1.2⟩⟩)⟩,⟨by(with_reducible repeat(first|apply Kd.S_alloc|apply Kd.S_drewN|apply Kd.S_drew));exact Kd.S_mono HO_850001.out (fun _ hk=>⟨hk.2,⟨hk.1.1,hk.1.2⟩⟩)⟩,⟨by(with_reducible repeat(first|apply Kd.R_alloc|apply Kd.R_drewN|apply Kd.R_drew));exact Kd.R_mono HO_850002.out (fun _ hk=>hk.2)⟩,⟨by(with_reducible repeat(first|refine blk_drewN ?_ _|refine blk_drew ?_ |refine blk_alloc ?_ _));exact BK836.out⟩,⟨by(with_reducible repeat(first|refine blk_drewN ?_ _|refine blk_drew ?_ |refine blk_alloc ?_ _));exact BK849.out⟩,⟨by repeat(first|(with_reducible first|exact HI837.out|apply IsS71.alloc|apply IsS71.drewN|apply IsS71.drew|apply IsS71.set_1|apply IsS71.set_2|refine IsS71.far ?_ NB837_836.out _|refine IsS71.far ?_ NB837_849.out _)|exact HI837.out)⟩,⟨by exact zk6 HB (IsS71.ge HI837.out) GE836.out GE849.out⟩⟩
      ·rw [if_neg c23] at H
       have c23b0:decide (x27_2< (t838.length:Int))=false:=decide_eq_false c23
       clear c23
       simp only [Option.some.injEq,Prod.mk.injEq] at H
       obtain⟨rfl,rfl,rfl,rfl⟩:=H
       have hnb31:=NB849_836.out
       have hnc31:=NB836_849.out
       have hnb32:=NB849_837.out
       have hnc32:=NB837_849.out
       have hcz33_0:wr.cell? ⟨gb849,0,none⟩=some (.slice Ao9 t838.length co9):=(blk_cell BK849.out 0).trans rfl
       have hcz33_1:wr.cell? ⟨gb849,1,none⟩=some (.slice Ao13 t841.length co13):=(blk_cell BK849.out 1).trans rfl
       have hcz33_2:wr.cell? ⟨gb849,2,none⟩=some (.slice Ao14 t844.length co14):=(blk_cell BK849.out 2).trans rfl
       have hfz33_0:=blk_frozen BK849.out 0
       have hfz33_1:=blk_frozen BK849.out 1
       have hfz33_2:=blk_frozen BK849.out 2
       have hnb34:=NB836_837.out
       have hnc34:=NB837_836.out
       have hcz35_0:wr.cell? ⟨gb836,0,none⟩=some (.slice none 0 0):=(blk_cell BK836.out 0).trans rfl
       have hcz35_1:wr.cell? ⟨gb836,1,none⟩=some (.slice none 0 0):=(blk_cell BK836.out 1).trans rfl
       have hcz35_2:wr.cell? ⟨gb836,2,none⟩=some (.slice none 0 0):=(blk_cell BK836.out 2).trans rfl
       have hfz35_0:=blk_frozen BK836.out 0
       have hfz35_1:=blk_frozen BK836.out 1
       have hfz35_2:=blk_frozen BK836.out 2
       go_wp2
       refine bodyPost_ret (results_ct rfl _ _ gb836 33 #[.slice Ao9 t838.length co9,.slice Ao13 t841.length co13,.slice Ao14 t844.length co14] (0,0) _ rfl (by(with_reducible repeat(first|refine blk_drewN ?_ _|refine blk_drew ?_ |refine blk_alloc ?_ _));refine blk_put (cs:= #[.slice Ao9 t838.length co9,.slice Ao13 t841.length co13,.slice none 0 0]) ?_ 2 _ rfl;(with_reducible repeat(first|refine blk_drewN ?_ _|refine blk_drew ?_ |refine blk_alloc ?_ _));refine blk_put (cs:= #[.slice Ao9 t838.length co9,.slice none 0 0,.slice none 0 0]) ?_ 1 _ rfl;(with_reducible repeat(first|refine blk_drewN ?_ _|refine blk_drew ?_ |refine blk_alloc ?_ _));refine blk_put (cs:= #[.slice none 0 0,.slice none 0 0,.slice none 0 0]) ?_ 0 _ rfl;(with_reducible repeat(first|refine blk_drewN ?_ _|refine blk_drew ?_ |refine blk_alloc ?_ _));exact BK836.out) Try.underlying33 rfl (by kernel_rfl)) rfl ?_
       exact⟨_,_,_,_,zer,by(with_reducible repeat(first|apply Kd.S_alloc|apply Kd.S_drewN|apply Kd.S_drew));exact Kd.S_mono (Kd.S_far (p:=⟨gb836,2,none⟩) (Kd.S_far (p:=⟨gb836,1,none⟩) (Kd.S_far (p:=⟨gb836,0,none⟩) (Kd.S_types HO_850000.out BK836.out (by decide)) (fun _ hk=>hk.2) (.slice Ao9 t838.length co9)) (fun _ hk=>hk.2) (.slice Ao13 t841.length co13)) (fun _ hk=>hk.2) (.slice Ao14 t844.length co14)) (fun _ hk=>⟨hk.1.2.1,⟨hk.1.2.2,hk.1.1⟩⟩),by(with_reducible repeat(first|apply Kd.S_alloc|apply Kd.S_drewN|apply Kd.S_drew));exact Kd.S_mono (Kd.S_far (p:=⟨gb836,2,none⟩) (Kd.S_far (p:=⟨gb836,1,none⟩) (Kd.S_far (p:=⟨gb836,0,none⟩) (Kd.S_types HO_850001.out BK836.out (by decide)) (fun _ hk=>hk.2) (.slice Ao9 t838.length co9)) (fun _ hk=>hk.2) (.slice Ao13 t841.length co13)) (fun _ hk=>hk.2) (.slice Ao14 t844.length co14)) (fun _ hk=>⟨hk.1.2.1,⟨hk.1.2.2,hk.1.1⟩⟩),by(with_reducible repeat(first|apply Kd.R_alloc|apply Kd.R_drewN|apply Kd.R_drew));exact Kd.R_mono (Kd.R_far (p:=⟨gb836,2,none⟩) (Kd.R_far (p:=⟨gb836,1,none⟩) (Kd.R_far (p:=⟨gb836,0,none⟩) (Kd.R_types HO_850002.out BK836.out (by decide)) (fun _ hk=>hk.2) (.slice Ao9 t838.length co9)) (fun _ hk=>hk.2) (.slice Ao13 t841.length co13)) (fun _ hk=>hk.2) (.slice Ao14 t844.length co14)) (fun _ hk=>hk.1),by(with_reducible repeat(first|apply Kd.R_alloc|apply Kd.R_drewN|apply Kd.R_drew));exact Kd.R_mono (Kd.R_far (p:=⟨gb836,2,none⟩) (Kd.R_far (p:=⟨gb836,1,none⟩) (Kd.R_far (p:=⟨gb836,0,none⟩) (Kd.R_types HO_6.out BK836.out (by decide)) (fun _ hk=>hk.2) (.slice Ao9 t838.length co9)) (fun _ hk=>hk.2) (.slice Ao13 t841.length co13)) (fun _ hk=>hk.2) (.slice Ao14 t844.length co14)) (fun _ hk=>hk.1),by exact zk6 HB (IsS71.ge HI837.out) GE836.out GE849.out⟩
   ·replace c19:=Bool.eq_false_iff.mpr c19
    subst c19
    have H1:(some (t838,t841,t844,t850))=some (r1,r2,r3,r4):=by rw [if_neg (show ¬ (false=true) by decide)] at H;exact H
    clear H
    have H:=H1
    clear H1
    simp only [Option.some.injEq,Prod.mk.injEq] at H
    obtain⟨rfl,rfl,rfl,rfl⟩:=H
    have hnb36:=NB849_836.out
    have hnc36:=NB836_849.out
    have hnb37:=NB849_837.out
    have hnc37:=NB837_849.out
    have hcz38_0:wc.cell? ⟨gb849,0,none⟩=some (.slice Ao9 t838.length co9):=(blk_cell BK849.out 0).trans rfl
    have hcz38_1:wc.cell? ⟨gb849,1,none⟩=some (.slice Ao13 t841.length co13):=(blk_cell BK849.out 1).trans rfl
    have hcz38_2:wc.cell? ⟨gb849,2,none⟩=some (.slice Ao14 t844.length co14):=(blk_cell BK849.out 2).trans rfl
    have hfz38_0:=blk_frozen BK849.out 0
    have hfz38_1:=blk_frozen BK849.out 1
    have hfz38_2:=blk_frozen BK849.out 2
    have hnb39:=NB836_837.out
    have hnc39:=NB837_836.out
    have hcz40_0:wc.cell? ⟨gb836,0,none⟩=some (.slice none 0 0):=(blk_cell BK836.out 0).trans rfl
    have hcz40_1:wc.cell? ⟨gb836,1,none⟩=some (.slice none 0 0):=(blk_cell BK836.out 1).trans rfl
    have hcz40_2:wc.cell? ⟨gb836,2,none⟩=some (.slice none 0 0):=(blk_cell BK836.out 2).trans rfl
    have hfz40_0:=blk_frozen BK836.out 0
    have hfz40_1:=blk_frozen BK836.out 1
    have hfz40_2:=blk_frozen BK836.out 2
    go_wp2
    refine bodyPost_ret (results_ct rfl _ _ gb836 33 #[.slice Ao9 t838.length co9,.slice Ao13 t841.length co13,.slice Ao14 t844.length co14] (0,0) _ rfl (by(with_reducible repeat(first|refine blk_drewN ?_ _|refine blk_drew ?_ |refine blk_alloc ?_ _));refine blk_put (cs:= #[.slice Ao9 t838.length co9,.slice Ao13 t841.length co13,.slice none 0 0]) ?_ 2 _ rfl;(with_reducible repeat(first|refine blk_drewN ?_ _|refine blk_drew ?_ |refine blk_alloc ?_ _));refine blk_put (cs:= #[.slice Ao9 t838.length co9,.slice none 0 0,.slice none 0 0]) ?_ 1 _ rfl;(with_reducible repeat(first|refine blk_drewN ?_ _|refine blk_drew ?_ |refine blk_alloc ?_ _));refine blk_put (cs:= #[.slice none 0 0,.slice none 0 0,.slice none 0 0]) ?_ 0 _ rfl;(with_reducible repeat(first|refine blk_drewN ?_ _|refine blk_drew ?_ |refine blk_alloc ?_ _));exact BK836.out) Try.underlying33 rfl (by kernel_rfl)) rfl ?_
    exact⟨_,_,_,_,zer,by(with_reducible repeat(first|apply Kd.S_alloc|apply Kd.S_drewN|apply Kd.S_drew));exact Kd.S_mono (Kd.S_far (p:=⟨gb836,2,none⟩) (Kd.S_far (p:=⟨gb836,1,none⟩) (Kd.S_far (p:=⟨gb836,0,none⟩) (Kd.S_types HO_850000.out BK836.out (by decide)) (fun _ hk=>hk.2) (.slice Ao9 t838.length co9)) (fun _ hk=>hk.2) (.slice Ao13 t841.length co13)) (fun _ hk=>hk.2) (.slice Ao14 t844.length co14)) (fun _ hk=>⟨hk.1.2.1,⟨hk.1.2.2,hk.1.1⟩⟩),by(with_reducible repeat(first|apply Kd.S_alloc|apply Kd.S_drewN|apply Kd.S_drew));exact Kd.S_mono (Kd.S_far (p:=⟨gb836,2,none⟩) (Kd.S_far (p:=⟨gb836,1,none⟩) (Kd.S_far (p:=⟨gb836,0,none⟩) (Kd.S_types HO_850001.out BK836.out (by decide)) (fun _ hk=>hk.2) (.slice Ao9 t838.length co9)) (fun _ hk=>hk.2) (.slice Ao13 t841.length co13)) (fun _ hk=>hk.2) (.slice Ao14 t844.length co14)) (fun _ hk=>⟨hk.1.2.1,⟨hk.1.2.2,hk.1.1⟩⟩),by(with_reducible repeat(first|apply Kd.R_alloc|apply Kd.R_drewN|apply Kd.R_drew));exact Kd.R_mono (Kd.R_far (p:=⟨gb836,2,none⟩) (Kd.R_far (p:=⟨gb836,1,none⟩) (Kd.R_far (p:=⟨gb836,0,none⟩) (Kd.R_types HO_850002.out BK836.out (by decide)) (fun _ hk=>hk.2) (.slice Ao9 t838.length co9)) (fun _ hk=>hk.2) (.slice Ao13 t841.length co13)) (fun _ hk=>hk.2) (.slice Ao14 t844.length co14)) (fun _ hk=>hk.1),by(with_reducible repeat(first|apply Kd.R_alloc|apply Kd.R_drewN|apply Kd.R_drew));exact Kd.R_mono (Kd.R_far (p:=⟨gb836,2,none⟩) (Kd.R_far (p:=⟨gb836,1,none⟩) (Kd.R_far (p:=⟨gb836,0,none⟩) (Kd.R_types HO_6.out BK836.out (by decide)) (fun _ hk=>hk.2) (.slice Ao9 t838.length co9)) (fun _ hk=>hk.2) (.slice Ao13 t841.length co13)) (fun _ hk=>hk.2) (.slice Ao14 t844.length co14)) (fun _ hk=>hk.1),by exact zk6 HB (IsS71.ge HI837.out) GE836.out GE849.out⟩
def laws_sameInts.l0:Nat→List Int→List Int→Int→Int→Option (Bool)
 | 0,_,_,_,_=>none
 |k+1,x0,x1,x12,x13=>if x13<x12 then(if 0≤x13 then(if x13< (x0.length:Int) then(if x13< (x1.length:Int) then(if (rd x0 x13)= (rd x1 x13) then(laws_sameInts.l0 k x0 x1 x12 (wrap64 (x13+1))) else(some false)) else(none)) else(none)) else(none)) else(some true)
def laws_sameInts.f (k:Nat) (l0:List Int) (l1:List Int):Option (Bool):=if (l0.length:Int)= (l1.length:Int) then(laws_sameInts.l0 k l0 l1 (l0.length:Int) 0) else(some false)
set_option maxHeartbeats 8000000 in
set_option maxRecDepth 100000 in
theorem laws_sameInts.calls (k:Nat) (A0:Option Addr) (c0:Nat) (l0:List Int) (A1:Option Addr) (c1:Nat) (l1:List Int) (r:Bool) (w:World) (hr0:Kd.C (Kd.int .i64) w A0 l0.length l0) (hc0:l0.length≤c0) (hr1:Kd.C (Kd.int .i64) w A1 l1.length l1) (hc1:l1.length≤c1) (h:laws_sameInts.f k l0 l1=some r):
  Calls Try.prog 38 #[.slice A0 l0.length c0,.slice A1 l1.length c1] w fun e w'=>e= .returned (.bool r)∧Drawn0 w w':=by
 have HR0:=Aside0.mk hr0
 have HC0:=Aside0.mk hc0
 clear hr0 hc0
 have HR1:=Aside0.mk hr1
 have HC1:=Aside0.mk hc1
 clear hr1 hc1
 have H:(if (l0.length:Int)= (l1.length:Int) then(laws_sameInts.l0 k l0 l1 (l0.length:Int) 0) else(some false))=some r:=h
 clear h
 by_cases c3:(l0.length:Int)= (l1.length:Int)
 ·rw [if_pos c3] at H
  have c3b0:((l0.length:Int)== (l1.length:Int))=true:=beq_iff_eq.mpr c3
  have c3b1:((l0.length:Int) != (l1.length:Int))=false:=bne_eq_false_iff_eq.mpr c3
  have c3b2:(l0.length==l1.length)=true:=by first|simpa using c3|(simp at c3 ⊢;omega)
  clear c3
  have H':=Aside0.mk H
  clear H
  go_enter Try.func38,Try.ntmps38
  go_wp2
  repeat(go_quiet (fail);try go_wp2)
  go_loopg [13] k (fun kq v13 w'=> ∃ (x13_1:Int),v13= .int .i64 x13_1∧Aside0 (laws_sameInts.l0 kq l0 l1 (l0.length:Int) x13_1=some r)∧Aside0 (kq≤k)∧Drawn0 w w')
  case atStart=>exact⟨(0),zrs,H',⟨Nat.le_refl _⟩,by repeat(first|exact Drawn0.refl _|apply Drawn0.step)⟩
  case round=>
   clear H'
   try clear c1
   try clear p2
   try clear c3
   try clear c3b0
   try clear c3b1
   try clear c3b2
   obtain⟨x13_1,rfl,HA,HK1,⟨m1,rfl⟩⟩:=hrel
   cases gk with
   |zero=>exact absurd HA.out (by simp [laws_sameInts.l0])
   |succ k1=>
    have H:=HA.out
    clear HA
    simp only [laws_sameInts.l0] at H
    by_cases c4:x13_1< (l0.length:Int)
    ·rw [if_pos c4] at H
     have c4b0:decide (x13_1< (l0.length:Int))=true:=decide_eq_true c4
     clear c4
     by_cases c5: 0≤x13_1
     case neg=>exact znn c5 H
     rw [if_pos c5] at H
     have c5b0:decide (0≤x13_1)=true:=decide_eq_true c5
     clear c5
     by_cases c6:x13_1< (l0.length:Int)
     case neg=>exact znn c6 H
     rw [if_pos c6] at H
     have c6b0:decide (x13_1< (l0.length:Int))=true:=decide_eq_true c6
     clear c6
     by_cases c7:x13_1< (l1.length:Int)
     case neg=>exact znn c7 H
     rw [if_pos c7] at H
     have c7b0:decide (x13_1< (l1.length:Int))=true:=decide_eq_true c7
     clear c7
     by_cases c8:(rd l0 x13_1)= (rd l1 x13_1)
     ·rw [if_pos c8] at H
      have c8b0:((rd l0 x13_1)== (rd l1 x13_1))=true:=beq_iff_eq.mpr c8
      have c8b1:((rd l0 x13_1) != (rd l1 x13_1))=false:=bne_eq_false_iff_eq.mpr c8
      clear c8
      have H':=Aside0.mk H
      clear H
      have p876: 0≤ (x13_1:Int):=of_decide_eq_true zq1
      have q876:x13_1< (l0.length:Int):=of_decide_eq_true zq1
      obtain⟨ad876,e876,hx876_0⟩:=Kd.at_int HR0.out x13_1 p876 q876
      cases e876
      replace p876:=eq_true p876
      replace q876:=eq_true q876
      have p877: 0≤ (x13_1:Int):=of_decide_eq_true zq1
      have q877:x13_1< (l1.length:Int):=of_decide_eq_true zq1
      obtain⟨ad877,e877,hx877_0⟩:=Kd.at_int HR1.out x13_1 p877 q877
      cases e877
      replace p877:=eq_true p877
      replace q877:=eq_true q877
      go_wp2
      repeat(go_quiet (fail);try go_wp2)
      go_roundg k1
      case measure=>have:=HK1.out;omega
      case rel=>exact⟨(wrap64 (x13_1+1)),zrs,H',⟨by have:=HK1.out;omega⟩,by repeat(first|exact Drawn0.refl _|apply Drawn0.step)⟩
     ·rw [if_neg c8] at H
      have c8b0:((rd l0 x13_1)== (rd l1 x13_1))=false:=beq_eq_false_iff_ne.mpr c8
      have c8b1:((rd l0 x13_1) != (rd l1 x13_1))=true:=bne_iff_ne.mpr c8
      obtain rfl:=Option.some.inj H
      have p876: 0≤ (x13_1:Int):=of_decide_eq_true zq1
      have q876:x13_1< (l0.length:Int):=of_decide_eq_true zq1
      obtain⟨ad876,e876,hx876_0⟩:=Kd.at_int HR0.out x13_1 p876 q876
      cases e876
      replace p876:=eq_true p876
      replace q876:=eq_true q876
      have p877: 0≤ (x13_1:Int):=of_decide_eq_true zq1
      have q877:x13_1< (l1.length:Int):=of_decide_eq_true zq1
      obtain⟨ad877,e877,hx877_0⟩:=Kd.at_int HR1.out x13_1 p877 q877
      cases e877
      replace p877:=eq_true p877
      replace q877:=eq_true q877
      go_wp2
      repeat(go_quiet (fail);try go_wp2)
      go_ret
      exact⟨by first|rfl|(simp;done)|(simp [*];done),by repeat(first|exact Drawn0.refl _|apply Drawn0.step)⟩
    ·rw [if_neg c4] at H
     have c4b0:decide (x13_1< (l0.length:Int))=false:=decide_eq_false c4
     clear c4
     obtain rfl:=Option.some.inj H
     go_wp2
     repeat(go_quiet (fail);try go_wp2)
     go_ret
     exact⟨by first|rfl|(simp;done)|(simp [*];done),by repeat(first|exact Drawn0.refl _|apply Drawn0.step)⟩
 ·rw [if_neg c3] at H
  have c3b0:((l0.length:Int)== (l1.length:Int))=false:=beq_eq_false_iff_ne.mpr c3
  have c3b1:((l0.length:Int) != (l1.length:Int))=true:=bne_iff_ne.mpr c3
  have c3b2:(l0.length==l1.length)=false:=by first|simpa using c3|(simp at c3 ⊢;omega)
  obtain rfl:=Option.some.inj H
  go_enter Try.func38,Try.ntmps38
  go_wp2
  repeat(go_quiet (fail);try go_wp2)
  go_ret
  exact⟨by first|rfl|(simp;done)|(simp [*];done),by repeat(first|exact Drawn0.refl _|apply Drawn0.step)⟩
def spec_DrawGoodWishes.f (k:Nat) (l0:List Int):Option ((List (List Int)) × (List (List Int)) × List Int):=(spec_l1Cur_serveWishes.f k l0 0 0).bind fun bt979=>(some (bt979.1,bt979.2.1,bt979.2.2.1))
set_option maxHeartbeats 8000000 in
set_option maxRecDepth 100000 in
theorem spec_DrawGoodWishes.calls (k:Nat) (A0:Option Addr) (c0:Nat) (l0:List Int) (r1:List (List Int)) (r2:List (List Int)) (r3:List Int) (w:World) (hr0:Kd.C (Kd.int .u8) w A0 l0.length l0) (hc0:l0.length≤c0) (h:spec_DrawGoodWishes.f k l0=some (r1,r2,r3)):
  Calls Try.prog 68 #[.slice A0 l0.length c0] w fun e w'=> ∃ v0_ v1_ v2_:Value,e= .returned (.agg #[v0_,v1_,v2_])∧Kd.S (Kd.slice 3 (Kd.int .i64)) 22 w' w.heap.size (fun k_=>some k_≠ (v1_:Value).ownBlock∧some k_≠ (v2_:Value).ownBlock) v0_ r1∧Kd.S (Kd.slice 3 (Kd.int .i64)) 22 w' w.heap.size (fun k_=>some k_≠ (v0_:Value).ownBlock∧some k_≠ (v2_:Value).ownBlock) v1_ r2∧Kd.R (Kd.int .i64) 3 w' w.heap.size (fun _=>True) v2_ r3∧Below w.heap.size w w':=by
 have hu33:=Try.underlying33
 have hu71:=Try.underlying71
 have HR0:=Aside0.mk hr0
 have HC0:=Aside0.mk hc0
 clear hr0 hc0
 have HB:=Aside0.mk (Below.refl w.heap.size w)
 have H:((spec_l1Cur_serveWishes.f k l0 0 0).bind fun bt979=>(some (bt979.1,bt979.2.1,bt979.2.2.1)))=some (r1,r2,r3):=h
 clear h
 replace H:=Option.bind_eq_some_iff.mp H
 obtain⟨⟨t979,t982,t985,t988,t989⟩,A20,H⟩:=H
 replace H:(some (t979,t982,t985))=some (r1,r2,r3):=H
 have A2:=Aside0.mk A20
 clear A20
 simp only [Option.some.injEq,Prod.mk.injEq] at H
 obtain⟨rfl,rfl,rfl⟩:=H
 go_enter Try.func68,Try.ntmps68
 go_wp2_with (first|((with_reducible refine gate_dst (N:=2) rfl ?_);refine box_event ?hg (N:=2) ?hd (cs:= #[.slice none 0 0,.slice none 0 0,.slice none 0 0]) (t:=33) ?hr ?_;(case hd=>rfl);(case hg=>rfl);(case hr=>first|(go_simp;done)|(go_simp;rfl));intro gb977 hg w3 hbox hb;have BK977:=Aside0.mk (hbox);have GW977:=Aside0.mk ((by rw [hg];exact(below_size (by exact zk1 HB)):w.heap.size≤gb977));have GE977:=GW977;replace HB:=Aside0.mk (below_step (by exact zk1 HB) hb);clear hb hbox hg)|((with_reducible refine gate_dst (N:=6) rfl ?_);refine box_event ?hg (N:=6) ?hd (cs:= #[.slice A0 l0.length c0,.int .i64 0,.int .u64 0]) (t:=71) ?hr ?_;(case hd=>rfl);(case hg=>rfl);(case hr=>first|(go_simp;done)|(go_simp;rfl));intro gb978 hg w4 hbox hb;have GW978:=Aside0.mk ((by rw [hg];exact(below_size (by exact zk2 HB GE977.out)):w.heap.size≤gb978));have GE978:=GW978;have NB977_978:=Aside0.mk ((by rw [hg];exact Nat.ne_of_lt (blk_lt (g:=gb977) (o:= .cells #[.slice none 0 0,.slice none 0 0,.slice none 0 0] 33 (0,0)) (zq3 BK977)):gb977≠gb978));have NB978_977:=Aside0.mk ((by rw [hg];exact Nat.ne_of_gt (blk_lt (g:=gb977) (o:= .cells #[.slice none 0 0,.slice none 0 0,.slice none 0 0] 33 (0,0)) (zq3 BK977)):gb978≠gb977));have HI978:=Aside0.mk ((show IsS71 w _ gb978 l0 0 0 from ⟨_,_,hbox,(by rw [hg];exact(below_size (by exact zk2 HB GE977.out)):w.heap.size≤gb978),HR0.out⟩));replace BK977:=Aside0.mk (blk_below (g:=gb977) (o:= .cells #[.slice none 0 0,.slice none 0 0,.slice none 0 0] 33 (0,0)) (zq3 BK977) hb);replace HB:=Aside0.mk (below_step (by exact zk2 HB GE977.out) hb);clear hb hbox hg)|((with_reducible refine gate_callee (f:=66) rfl ?_);refine goesL_ (some 8) rfl rfl Try.func66 (by kernel_rfl) rfl #[.pointer (some ⟨gb978,0,none⟩)] rfl zq2 ?_;(with_reducible refine(spec_l1Cur_serveWishes.calls k gb978 l0 0 0 t979 t982 t985 t988 t989 w _ ?side1 ?side2 A2.out).mono ?_);(case side1=>repeat(first|(with_reducible first|exact HI978.out|apply IsS71.alloc|apply IsS71.drewN|apply IsS71.drew|apply IsS71.set_1|apply IsS71.set_2|refine IsS71.far ?_ NB978_977.out _)|exact HI978.out));(case side2=>exact zk5 HB (IsS71.ge HI978.out) GE977.out);rintro e w5 ⟨v980,v983,v986,rfl,ho0,ho1,ho2,hi,hb,hk⟩;refine⟨_,rfl,?_⟩;have HO981:=Aside0.mk (Kd.S_lower ho0 (below_size (by exact zk5 HB (IsS71.ge HI978.out) GE977.out)));have HO984:=Aside0.mk (Kd.S_lower ho1 (below_size (by exact zk5 HB (IsS71.ge HI978.out) GE977.out)));have HO987:=Aside0.mk (Kd.R_lower ho2 (below_size (by exact zk5 HB (IsS71.ge HI978.out) GE977.out)));replace BK977:=Aside0.mk (KeepBut.blk hk (g':=gb977) (o:= .cells #[.slice none 0 0,.slice none 0 0,.slice none 0 0] 33 (0,0)) (zq3 BK977) NB977_978.out (by simp));replace HB:=Aside0.mk (hb);replace HI978:=Aside0.mk (hi);(try clear hb);(try clear hb2);(try clear hk);(try clear hi);(try clear ho0);(try clear ho1);(try clear ho2);obtain⟨Ao6,co6,eo6⟩:=Kd.S_slice HO981.out;subst eo6;have hnb7:=NB977_978.out;have hnc7:=NB978_977.out;have hcz8_0:=zcz BK977 0 (.slice none 0 0);have hcz8_1:=zcz BK977 1 (.slice none 0 0);have hcz8_2:=zcz BK977 2 (.slice none 0 0);have hfz8_0:=blk_frozen BK977.out 0;have hfz8_1:=blk_frozen BK977.out 1;have hfz8_2:=blk_frozen BK977.out 2;obtain⟨Ao9,co9,eo9⟩:=Kd.S_slice HO984.out;subst eo9;obtain⟨Ao10,co10,eo10⟩:=Kd.R_slice HO987.out;subst eo10))
 refine bodyPost_ret (results_cell_row rfl _ _ gb977 33 #[.slice Ao6 t979.length co6,.slice Ao9 t982.length co9,.slice Ao10 t985.length co10] (0,0) _ rfl (by(with_reducible repeat(first|refine blk_drewN ?_ _|refine blk_drew ?_ |refine blk_alloc ?_ _));refine blk_put (cs:= #[.slice Ao6 t979.length co6,.slice Ao9 t982.length co9,.slice none 0 0]) ?_ 2 _ rfl;(with_reducible repeat(first|refine blk_drewN ?_ _|refine blk_drew ?_ |refine blk_alloc ?_ _));refine blk_put (cs:= #[.slice Ao6 t979.length co6,.slice none 0 0,.slice none 0 0]) ?_ 1 _ rfl;(with_reducible repeat(first|refine blk_drewN ?_ _|refine blk_drew ?_ |refine blk_alloc ?_ _));refine blk_put (cs:= #[.slice none 0 0,.slice none 0 0,.slice none 0 0]) ?_ 0 _ rfl;(with_reducible repeat(first|refine blk_drewN ?_ _|refine blk_drew ?_ |refine blk_alloc ?_ _));exact BK977.out) Try.underlying33 rfl (by kernel_rfl)) rfl ?_
 exact⟨_,_,_,zer,by(with_reducible repeat(first|apply Kd.S_alloc|apply Kd.S_drewN|apply Kd.S_drew));exact Kd.S_mono (Kd.S_far (p:=⟨gb977,2,none⟩) (Kd.S_far (p:=⟨gb977,1,none⟩) (Kd.S_far (p:=⟨gb977,0,none⟩) (Kd.S_types HO981.out BK977.out (by decide)) (fun _ hk=>hk.2) (.slice Ao6 t979.length co6)) (fun _ hk=>hk.2) (.slice Ao9 t982.length co9)) (fun _ hk=>hk.2) (.slice Ao10 t985.length co10)) (fun _ hk=>⟨hk.1.1,hk.1.2⟩),by(with_reducible repeat(first|apply Kd.S_alloc|apply Kd.S_drewN|apply Kd.S_drew));exact Kd.S_mono (Kd.S_far (p:=⟨gb977,2,none⟩) (Kd.S_far (p:=⟨gb977,1,none⟩) (Kd.S_far (p:=⟨gb977,0,none⟩) (Kd.S_types HO984.out BK977.out (by decide)) (fun _ hk=>hk.2) (.slice Ao6 t979.length co6)) (fun _ hk=>hk.2) (.slice Ao9 t982.length co9)) (fun _ hk=>hk.2) (.slice Ao10 t985.length co10)) (fun _ hk=>⟨hk.1.1,hk.1.2⟩),by(with_reducible repeat(first|apply Kd.R_alloc|apply Kd.R_drewN|apply Kd.R_drew));exact Kd.R_mono (Kd.R_far (p:=⟨gb977,2,none⟩) (Kd.R_far (p:=⟨gb977,1,none⟩) (Kd.R_far (p:=⟨gb977,0,none⟩) (Kd.R_types HO987.out BK977.out (by decide)) (fun _ hk=>hk.2) (.slice Ao6 t979.length co6)) (fun _ hk=>hk.2) (.slice Ao9 t982.length co9)) (fun _ hk=>hk.2) (.slice Ao10 t985.length co10)) (fun _ hk=>trivial),by exact zk5 HB (IsS71.ge HI978.out) GE977.out⟩
def spec_DrawMatchAll.f (k:Nat) (l0:List Int):Option ((List (List Int)) × (List (List Int)) × List Int):=(spec_DrawGoodWishes.f k l0).bind fun bt991=>(some (bt991.1,bt991.2.1,bt991.2.2))
set_option maxHeartbeats 8000000 in
set_option maxRecDepth 100000 in
theorem spec_DrawMatchAll.calls (k:Nat) (A0:Option Addr) (c0:Nat) (l0:List Int) (r1:List (List Int)) (r2:List (List Int)) (r3:List Int) (w:World) (hr0:Kd.C (Kd.int .u8) w A0 l0.length l0) (hc0:l0.length≤c0) (h:spec_DrawMatchAll.f k l0=some (r1,r2,r3)):
  Calls Try.prog 42 #[.slice A0 l0.length c0] w fun e w'=> ∃ v0_ v1_ v2_:Value,e= .returned (.agg #[v0_,v1_,v2_])∧Kd.S (Kd.slice 3 (Kd.int .i64)) 22 w' w.heap.size (fun k_=>some k_≠ (v1_:Value).ownBlock∧some k_≠ (v2_:Value).ownBlock) v0_ r1∧Kd.S (Kd.slice 3 (Kd.int .i64)) 22 w' w.heap.size (fun k_=>some k_≠ (v0_:Value).ownBlock∧some k_≠ (v2_:Value).ownBlock) v1_ r2∧Kd.R (Kd.int .i64) 3 w' w.heap.size (fun _=>True) v2_ r3∧Below w.heap.size w w':=by
 have hu33:=Try.underlying33
 have HR0:=Aside0.mk hr0
 have HC0:=Aside0.mk hc0
 clear hr0 hc0
 have HB:=Aside0.mk (Below.refl w.heap.size w)
 have H:((spec_DrawGoodWishes.f k l0).bind fun bt991=>(some (bt991.1,bt991.2.1,bt991.2.2)))=some (r1,r2,r3):=h
 clear h
 replace H:=Option.bind_eq_some_iff.mp H
 obtain⟨⟨t991,t994,t997⟩,A20,H⟩:=H
 replace H:(some (t991,t994,t997))=some (r1,r2,r3):=H
 have A2:=Aside0.mk A20
 clear A20
 simp only [Option.some.injEq,Prod.mk.injEq] at H
 obtain⟨rfl,rfl,rfl⟩:=H
 go_enter Try.func42,Try.ntmps42
 go_wp2_with (first|((with_reducible refine gate_dst (N:=2) rfl ?_);refine box_event ?hg (N:=2) ?hd (cs:= #[.slice none 0 0,.slice none 0 0,.slice none 0 0]) (t:=33) ?hr ?_;(case hd=>rfl);(case hg=>rfl);(case hr=>first|(go_simp;done)|(go_simp;rfl));intro gb990 hg w3 hbox hb;have BK990:=Aside0.mk (hbox);have GW990:=Aside0.mk ((by rw [hg];exact(below_size (by exact zk1 HB)):w.heap.size≤gb990));have GE990:=GW990;replace HB:=Aside0.mk (below_step (by exact zk1 HB) hb);clear hb hbox hg)|((with_reducible refine gate_callee (f:=68) rfl ?_);refine goesL_ (some 4) rfl rfl Try.func68 (by kernel_rfl) rfl #[.slice A0 l0.length c0] rfl zq2 ?_;(with_reducible refine(spec_DrawGoodWishes.calls k _ _ l0 t991 t994 t997 _ ?side1 ?side2 A2.out).mono ?_);(case side1=>exact zcc ((Kd.C_below HR0.out HB.out)));(case side2=>exact HC0.out);rintro e w4 ⟨v992,v995,v998,rfl,ho0,ho1,ho2,hb⟩;refine⟨_,rfl,?_⟩;have HO993:=Aside0.mk (Kd.S_lower ho0 (below_size (by exact zk2 HB GE990.out)));have HO996:=Aside0.mk (Kd.S_lower ho1 (below_size (by exact zk2 HB GE990.out)));have HO999:=Aside0.mk (Kd.R_lower ho2 (below_size (by exact zk2 HB GE990.out)));replace BK990:=Aside0.mk (blk_below (g:=gb990) (o:= .cells #[.slice none 0 0,.slice none 0 0,.slice none 0 0] 33 (0,0)) (zq3 BK990) hb);replace HB:=Aside0.mk (below_step (by exact zk2 HB GE990.out) hb);(try clear hb);(try clear hb2);(try clear hk);(try clear hi);(try clear ho0);(try clear ho1);(try clear ho2);obtain⟨Ao5,co5,eo5⟩:=Kd.S_slice HO993.out;subst eo5;have hcz6_0:=zcz BK990 0 (.slice none 0 0);have hcz6_1:=zcz BK990 1 (.slice none 0 0);have hcz6_2:=zcz BK990 2 (.slice none 0 0);have hfz6_0:=blk_frozen BK990.out 0;have hfz6_1:=blk_frozen BK990.out 1;have hfz6_2:=blk_frozen BK990.out 2;obtain⟨Ao7,co7,eo7⟩:=Kd.S_slice HO996.out;subst eo7;obtain⟨Ao8,co8,eo8⟩:=Kd.R_slice HO999.out;subst eo8))
 refine bodyPost_ret (results_cell_row rfl _ _ gb990 33 #[.slice Ao5 t991.length co5,.slice Ao7 t994.length co7,.slice Ao8 t997.length co8] (0,0) _ rfl (by(with_reducible repeat(first|refine blk_drewN ?_ _|refine blk_drew ?_ |refine blk_alloc ?_ _));refine blk_put (cs:= #[.slice Ao5 t991.length co5,.slice Ao7 t994.length co7,.slice none 0 0]) ?_ 2 _ rfl;(with_reducible repeat(first|refine blk_drewN ?_ _|refine blk_drew ?_ |refine blk_alloc ?_ _));refine blk_put (cs:= #[.slice Ao5 t991.length co5,.slice none 0 0,.slice none 0 0]) ?_ 1 _ rfl;(with_reducible repeat(first|refine blk_drewN ?_ _|refine blk_drew ?_ |refine blk_alloc ?_ _));refine blk_put (cs:= #[.slice none 0 0,.slice none 0 0,.slice none 0 0]) ?_ 0 _ rfl;(with_reducible repeat(first|refine blk_drewN ?_ _|refine blk_drew ?_ |refine blk_alloc ?_ _));exact BK990.out) Try.underlying33 rfl (by kernel_rfl)) rfl ?_
 exact⟨_,_,_,zer,by(with_reducible repeat(first|apply Kd.S_alloc|apply Kd.S_drewN|apply Kd.S_drew));exact Kd.S_mono (Kd.S_far (p:=⟨gb990,2,none⟩) (Kd.S_far (p:=⟨gb990,1,none⟩) (Kd.S_far (p:=⟨gb990,0,none⟩) (Kd.S_types HO993.out BK990.out (by decide)) (fun _ hk=>hk.2) (.slice Ao5 t991.length co5)) (fun _ hk=>hk.2) (.slice Ao7 t994.length co7)) (fun _ hk=>hk.2) (.slice Ao8 t997.length co8)) (fun _ hk=>⟨hk.1.1,hk.1.2⟩),by(with_reducible repeat(first|apply Kd.S_alloc|apply Kd.S_drewN|apply Kd.S_drew));exact Kd.S_mono (Kd.S_far (p:=⟨gb990,2,none⟩) (Kd.S_far (p:=⟨gb990,1,none⟩) (Kd.S_far (p:=⟨gb990,0,none⟩) (Kd.S_types HO996.out BK990.out (by decide)) (fun _ hk=>hk.2) (.slice Ao5 t991.length co5)) (fun _ hk=>hk.2) (.slice Ao7 t994.length co7)) (fun _ hk=>hk.2) (.slice Ao8 t997.length co8)) (fun _ hk=>⟨hk.1.1,hk.1.2⟩),by(with_reducible repeat(first|apply Kd.R_alloc|apply Kd.R_drewN|apply Kd.R_drew));exact Kd.R_mono (Kd.R_far (p:=⟨gb990,2,none⟩) (Kd.R_far (p:=⟨gb990,1,none⟩) (Kd.R_far (p:=⟨gb990,0,none⟩) (Kd.R_types HO999.out BK990.out (by decide)) (fun _ hk=>hk.2) (.slice Ao5 t991.length co5)) (fun _ hk=>hk.2) (.slice Ao7 t994.length co7)) (fun _ hk=>hk.2) (.slice Ao8 t997.length co8)) (fun _ hk=>trivial),by exact zk2 HB GE990.out⟩
end Go.Proofs.Ytoipbblhmcpneaa.P
