/- Functions, walks and plain lemmas that the law FnMatches reaches, part 6. -/
import Derived.Test.YtoipbblhmcpneaaCFnMatches5
import Derived.Below
import Derived.Deep.Draws
import Derived.Deep.AppendLies
import Derived.Maps.AppendAt
import Derived.OwnWalk
import Derived.Laws.BytesArg
import Derived.Laws.MakeOwn
import Derived.Laws.OwnMore
import Derived.Deep.OwnRows
import Derived.Tactics
import Derived.Lib.ConvBytes
import Derived.Laws.Slices
import Derived.WalkKit
import Derived.KernelRfl
import Derived.RowKit3
import Derived.Deep.LoopGhost
import Derived.Deep.QuietTactic
import Derived.BigQuiet
import Derived.WideLaws
import Derived.Deep.DeepCutAuto
import Derived.Deep.CutBlock
import Derived.Deep.RegionHeld3
import Derived.Laws.Rows
import Derived.Lib.AppendStr
import Derived.ArgAppend
import Derived.Laws.IdiomCopy
import Derived.OrdersHeld
import Derived.Laws.BitsLemmas
import Derived.RowKit
import Derived.WalkSpells
import Derived.Lib.SliceRun
import Derived.Shelf.Abstract
import Derived.ProofKit
import Derived.OpenShut
import Derived.ShutString
import Derived.ChangeOld
import Derived.SizedLaws
namespace Go.Proofs.Ytoipbblhmcpneaa.P
open Go.RowKit Go.Proofs.YtoipbblhmcpneaaW.PrintWords Go.Proofs.YtoipbblhmcpneaaW.PrintLast Go.Proofs.YtoipbblhmcpneaaW.PrintMore
attribute [local go_sem] max2_int min2_int max_two min_two max_three min_three max_four min_four   -- for this text's walks alone
set_option linter.unusedVariables false
set_option linter.unusedSimpArgs false
mutual
def spec_DrawGoodMatch.j0:Nat→List Int→Bool→List Int→Int→Int→List (List Int)→List (List Int)→List Int→Option ((List (List Int)) × (List (List Int)) × List Int × List Int)
 | 0,_,_,_,_,_,_,_,_=>none
 |k+1,x6,x23,x838000,x838001,x838002,x850000,x850001,x850002=>if x23=true then(spec_DrawGoodMatch.l0 k ([] :List Int) (x850000.length:Int) 0 x838000 x838001 x838002 x850000 x850001 x850002) else(some (x850000,x850001,x850002,x6))
def spec_DrawGoodMatch.l0:Nat→List Int→Int→Int→List Int→Int→Int→List (List Int)→List (List Int)→List Int→Option ((List (List Int)) × (List (List Int)) × List Int × List Int)
 | 0,_,_,_,_,_,_,_,_,_=>none
 |k+1,x6,x26,x27,x838000,x838001,x838002,x850000,x850001,x850002=>if x27<x26 then((spec_l1Cur_pick.f x838000 x838001 x838002 (wrap64 ((x850001.length:Int)+1))).bind fun bt857=>(if x6.length< 17592186044416 then(spec_DrawGoodMatch.l0 k (x6++ [wrap64 (bt857.1 - 1)]) x26 (wrap64 (x27+1)) x838000 bt857.2.1 bt857.2.2 x850000 x850001 x850002) else(none))) else(some (x850000,x850001,x850002,x6))
end
def spec_DrawGoodMatch.f (k:Nat) (l0:List Int):Option ((List (List Int)) × (List (List Int)) × List Int × List Int):=(spec_l1Cur_serveWishes.f k l0 0 0).bind fun bt838=>((spec_MatchAll.f k bt838.1 bt838.2.1 bt838.2.2.1).bind fun bt850=>(if bt850.2=true then((spec_l1Cur_one.f l0 bt838.2.2.2.1 bt838.2.2.2.2 2).bind fun bt854=>(spec_DrawGoodMatch.j0 k bt850.1 bt854.1 l0 bt854.2.1 bt854.2.2 bt838.1 bt838.2.1 bt838.2.2.1)) else(spec_DrawGoodMatch.j0 k bt850.1 true l0 bt838.2.2.2.1 bt838.2.2.2.2 bt838.1 bt838.2.1 bt838.2.2.1)))
set_option maxHeartbeats 8000000 in
set_option maxRecDepth 100000 in
theorem spec_DrawGoodMatch.calls (k:Nat) (A0:Option Addr) (c0:Nat) (l0:List Int) (r1:List (List Int)) (r2:List (List Int)) (r3:List Int) (r4:List Int) (w:World) (hr0:Kd.C (Kd.int .u8) w A0 l0.length l0) (hc0:l0.length≤c0) (h:spec_DrawGoodMatch.f k l0=some (r1,r2,r3,r4)):
  Calls Try.prog 41 #[.slice A0 l0.length c0] w fun e w'=> ∃ v0_ v1_ v2_ v3_:Value,e= .returned (.tuple #[.agg #[v0_,v1_,v2_],v3_])∧Kd.S (Kd.slice 3 (Kd.int .i64)) 22 w' w.heap.size (fun k_=>some k_≠ (v1_:Value).ownBlock∧some k_≠ (v2_:Value).ownBlock∧some k_≠ (v3_:Value).ownBlock) v0_ r1∧Kd.S (Kd.slice 3 (Kd.int .i64)) 22 w' w.heap.size (fun k_=>some k_≠ (v0_:Value).ownBlock∧some k_≠ (v2_:Value).ownBlock∧some k_≠ (v3_:Value).ownBlock) v1_ r2∧Kd.R (Kd.int .i64) 3 w' w.heap.size (fun k_=>some k_≠ (v3_:Value).ownBlock) v2_ r3∧Kd.R (Kd.int .i64) 3 w' w.heap.size (fun k_=>some k_≠ (v2_:Value).ownBlock) v3_ r4∧Below w.heap.size w w':=by
 have hu33:=Try.underlying33
 have hu71:=Try.underlying71
 have HR0:=Aside0.mk hr0
 have HC0:=Aside0.mk hc0
 clear hr0 hc0
 have HB:=Aside0.mk (Below.refl w.heap.size w)
 have H:((spec_l1Cur_serveWishes.f k l0 0 0).bind fun bt838=>((spec_MatchAll.f k bt838.1 bt838.2.1 bt838.2.2.1).bind fun bt850=>(if bt850.2=true then((spec_l1Cur_one.f l0 bt838.2.2.2.1 bt838.2.2.2.2 2).bind fun bt854=>(spec_DrawGoodMatch.j0 k bt850.1 bt854.1 l0 bt854.2.1 bt854.2.2 bt838.1 bt838.2.1 bt838.2.2.1)) else(spec_DrawGoodMatch.j0 k bt850.1 true l0 bt838.2.2.2.1 bt838.2.2.2.2 bt838.1 bt838.2.1 bt838.2.2.1))))=some (r1,r2,r3,r4):=h
 clear h
 replace H:=Option.bind_eq_some_iff.mp H
 obtain⟨⟨t838,t841,t844,t847,t848⟩,A20,H⟩:=H
 replace H:((spec_MatchAll.f k t838 t841 t844).bind fun bt850=>(if bt850.2=true then((spec_l1Cur_one.f l0 t847 t848 2).bind fun bt854=>(spec_DrawGoodMatch.j0 k bt850.1 bt854.1 l0 bt854.2.1 bt854.2.2 t838 t841 t844)) else(spec_DrawGoodMatch.j0 k bt850.1 true l0 t847 t848 t838 t841 t844)))=some (r1,r2,r3,r4):=H
 have A2:=Aside0.mk A20
 clear A20
 replace H:=Option.bind_eq_some_iff.mp H
 obtain⟨⟨t850,t853⟩,A30,H⟩:=H
 replace H:(if t853=true then((spec_l1Cur_one.f l0 t847 t848 2).bind fun bt854=>(spec_DrawGoodMatch.j0 k t850 bt854.1 l0 bt854.2.1 bt854.2.2 t838 t841 t844)) else(spec_DrawGoodMatch.j0 k t850 true l0 t847 t848 t838 t841 t844))=some (r1,r2,r3,r4):=H
 have A3:=Aside0.mk A30
 clear A30
 have HC4:=Aside0.mk H
 clear H
 go_enter Try.func41,Try.ntmps41
 go_upto_region 4 with (first|((with_reducible refine gate_dst (N:=2) rfl ?_);refine box_event ?hg (N:=2) ?hd (cs:= #[.slice none 0 0,.slice none 0 0,.slice none 0 0]) (t:=33) ?hr ?_;(case hd=>rfl);(case hg=>rfl);(case hr=>first|(go_simp;done)|(go_simp;rfl));intro gb836 hg w5 hbox hb;have BK836:=Aside0.mk (hbox);have GW836:=Aside0.mk ((by rw [hg];exact(below_size (by exact zk1 HB)):w.heap.size≤gb836));have GE836:=GW836;replace HB:=Aside0.mk (below_step (by exact zk1 HB) hb);clear hb hbox hg)|((with_reducible refine gate_dst (N:=10) rfl ?_);refine box_event ?hg (N:=10) ?hd (cs:= #[.slice A0 l0.length c0,.int .i64 0,.int .u64 0]) (t:=71) ?hr ?_;(case hd=>rfl);(case hg=>rfl);(case hr=>first|(go_simp;done)|(go_simp;rfl));intro gb837 hg w6 hbox hb;have GW837:=Aside0.mk ((by rw [hg];exact(below_size (by exact zk2 HB GE836.out)):w.heap.size≤gb837));have GE837:=GW837;have NB836_837:=Aside0.mk ((by rw [hg];exact Nat.ne_of_lt (blk_lt (g:=gb836) (o:= .cells #[.slice none 0 0,.slice none 0 0,.slice none 0 0] 33 (0,0)) (zq3 BK836)):gb836≠gb837));have NB837_836:=Aside0.mk ((by rw [hg];exact Nat.ne_of_gt (blk_lt (g:=gb836) (o:= .cells #[.slice none 0 0,.slice none 0 0,.slice none 0 0] 33 (0,0)) (zq3 BK836)):gb837≠gb836));have HI837:=Aside0.mk ((show IsS71 w _ gb837 l0 0 0 from ⟨_,_,hbox,(by rw [hg];exact(below_size (by exact zk2 HB GE836.out)):w.heap.size≤gb837),HR0.out⟩));replace BK836:=Aside0.mk (blk_below (g:=gb836) (o:= .cells #[.slice none 0 0,.slice none 0 0,.slice none 0 0] 33 (0,0)) (zq3 BK836) hb);replace HB:=Aside0.mk (below_step (by exact zk2 HB GE836.out) hb);clear hb hbox hg)|((with_reducible refine gate_callee (f:=66) rfl ?_);refine goesL_ (some 12) rfl rfl Try.func66 (by kernel_rfl) rfl #[.pointer (some ⟨gb837,0,none⟩)] rfl zq2 ?_;(with_reducible refine(spec_l1Cur_serveWishes.calls k gb837 l0 0 0 t838 t841 t844 t847 t848 w _ ?side1 ?side2 A2.out).mono ?_);(case side1=>repeat(first|(with_reducible first|exact HI837.out|apply IsS71.alloc|apply IsS71.drewN|apply IsS71.drew|apply IsS71.set_1|apply IsS71.set_2|refine IsS71.far ?_ NB837_836.out _)|exact HI837.out));(case side2=>exact zk5 HB (IsS71.ge HI837.out) GE836.out);rintro e w7 ⟨v839,v842,v845,rfl,ho0,ho1,ho2,hi,hb,hk⟩;refine⟨_,rfl,?_⟩;have HO840:=Aside0.mk (Kd.S_lower ho0 (below_size (by exact zk5 HB (IsS71.ge HI837.out) GE836.out)));have HO843:=Aside0.mk (Kd.S_lower ho1 (below_size (by exact zk5 HB (IsS71.ge HI837.out) GE836.out)));have HO846:=Aside0.mk (Kd.R_lower ho2 (below_size (by exact zk5 HB (IsS71.ge HI837.out) GE836.out)));replace BK836:=Aside0.mk (KeepBut.blk hk (g':=gb836) (o:= .cells #[.slice none 0 0,.slice none 0 0,.slice none 0 0] 33 (0,0)) (zq3 BK836) NB836_837.out (by simp));replace HB:=Aside0.mk (hb);replace HI837:=Aside0.mk (hi);(try clear hb);(try clear hb2);(try clear hk);(try clear hi);(try clear ho0);(try clear ho1);(try clear ho2))|((with_reducible refine gate_dst (N:=5) rfl ?_);refine box_event ?hg (N:=5) ?hd (cs:= #[.slice none 0 0,.slice none 0 0,.slice none 0 0]) (t:=33) ?hr ?_;(case hd=>rfl);(case hg=>rfl);(case hr=>first|(go_simp;done)|(go_simp;rfl));intro gb849 hg w8 hbox hb;have BK849:=Aside0.mk (hbox);have GW849:=Aside0.mk ((by rw [hg];exact(below_size (by exact zk5 HB (IsS71.ge HI837.out) GE836.out)):w.heap.size≤gb849));have GE849:=GW849;have NB836_849:=Aside0.mk ((by rw [hg];exact Nat.ne_of_lt (blk_lt (g:=gb836) (o:= .cells #[.slice none 0 0,.slice none 0 0,.slice none 0 0] 33 (0,0)) (zq3 BK836)):gb836≠gb849));have NB849_836:=Aside0.mk ((by rw [hg];exact Nat.ne_of_gt (blk_lt (g:=gb836) (o:= .cells #[.slice none 0 0,.slice none 0 0,.slice none 0 0] 33 (0,0)) (zq3 BK836)):gb849≠gb836));have NB837_849:=Aside0.mk ((by rw [hg];exact Nat.ne_of_lt (IsS71.lt (show IsS71 w _ gb837 l0 t847 t848 from by repeat(first|(with_reducible first|exact HI837.out|apply IsS71.alloc|apply IsS71.drewN|apply IsS71.drew|apply IsS71.set_1|apply IsS71.set_2|refine IsS71.far ?_ NB837_836.out _)|exact HI837.out))):gb837≠gb849));have NB849_837:=Aside0.mk ((by rw [hg];exact Nat.ne_of_gt (IsS71.lt (show IsS71 w _ gb837 l0 t847 t848 from by repeat(first|(with_reducible first|exact HI837.out|apply IsS71.alloc|apply IsS71.drewN|apply IsS71.drew|apply IsS71.set_1|apply IsS71.set_2|refine IsS71.far ?_ NB837_836.out _)|exact HI837.out))):gb849≠gb837));replace HO840:=Aside0.mk (Kd.S_below (by(with_reducible repeat(first|apply Kd.S_alloc|apply Kd.S_drewN|apply Kd.S_drew));exact HO840.out) hb);replace HO843:=Aside0.mk (Kd.S_below (by(with_reducible repeat(first|apply Kd.S_alloc|apply Kd.S_drewN|apply Kd.S_drew));exact HO843.out) hb);replace HO846:=Aside0.mk (Kd.R_below (zq4 HO846) hb);replace BK836:=Aside0.mk (blk_below (g:=gb836) (o:= .cells #[.slice none 0 0,.slice none 0 0,.slice none 0 0] 33 (0,0)) (zq3 BK836) hb);replace HB:=Aside0.mk (below_step (by exact zk5 HB (IsS71.ge HI837.out) GE836.out) hb);replace HI837:=Aside0.mk (IsS71.below (by repeat(first|(with_reducible first|exact HI837.out|apply IsS71.alloc|apply IsS71.drewN|apply IsS71.drew|apply IsS71.set_1|apply IsS71.set_2|refine IsS71.far ?_ NB837_836.out _)|exact HI837.out)) hb);clear hb hbox hg;obtain⟨Ao9,co9,eo9⟩:=Kd.S_slice HO840.out;subst eo9;have hnb10:=NB849_836.out;have hnc10:=NB836_849.out;have hnb11:=NB849_837.out;have hnc11:=NB837_849.out;have hcz12_0:=zcz BK849 0 (.slice none 0 0);have hcz12_1:=zcz BK849 1 (.slice none 0 0);have hcz12_2:=zcz BK849 2 (.slice none 0 0);have hfz12_0:=blk_frozen BK849.out 0;have hfz12_1:=blk_frozen BK849.out 1;have hfz12_2:=blk_frozen BK849.out 2;obtain⟨Ao13,co13,eo13⟩:=Kd.S_slice HO843.out;subst eo13;obtain⟨Ao14,co14,eo14⟩:=Kd.R_slice HO846.out;subst eo14)|((with_reducible refine gate_callee (f:=35) rfl ?_);refine goesL_ (some 15) rfl rfl Try.func35 (by kernel_rfl) rfl #[.agg #[.slice Ao9 t838.length co9,.slice Ao13 t841.length co13,.slice Ao14 t844.length co14]] rfl zq2 ?_;(with_reducible refine(spec_MatchAll.calls k _ _ t838 _ _ t841 _ _ t844 t850 t853 _ ?side1 ?side2 ?side3 ?side4 ?side5 ?side6 A3.out).mono ?_);(case side1=>refine(Kd.S_reads' (e:=22) (base:=w.heap.size) (ok:=fun k_=>(some k_≠ (.slice Ao13 t841.length co13:Value).ownBlock∧some k_≠ (.slice Ao14 t844.length co14:Value).ownBlock)) (n:=t838.length) (c:=co9) ?_).2.2;exact(by(with_reducible repeat(first|apply Kd.S_alloc|apply Kd.S_drewN|apply Kd.S_drew));exact(Kd.S_mono (Kd.S_far (p:=⟨gb849,2,none⟩) (Kd.S_far (p:=⟨gb849,1,none⟩) (Kd.S_far (p:=⟨gb849,0,none⟩) (Kd.S_types HO840.out BK849.out (by decide)) (fun _ hk=>hk.2) (.slice Ao9 t838.length co9)) (fun _ hk=>hk.2) (.slice Ao13 t841.length co13)) (fun _ hk=>hk.2) (.slice Ao14 t844.length co14)) (fun _ h_=>h_.1))));(case side2=>exact(Kd.S_reads' HO840.out).2.1);(case side3=>refine(Kd.S_reads' (e:=22) (base:=w.heap.size) (ok:=fun k_=>(some k_≠ (.slice Ao9 t838.length co9:Value).ownBlock∧some k_≠ (.slice Ao14 t844.length co14:Value).ownBlock)) (n:=t841.length) (c:=co13) ?_).2.2;exact(by(with_reducible repeat(first|apply Kd.S_alloc|apply Kd.S_drewN|apply Kd.S_drew));exact(Kd.S_mono (Kd.S_far (p:=⟨gb849,2,none⟩) (Kd.S_far (p:=⟨gb849,1,none⟩) (Kd.S_far (p:=⟨gb849,0,none⟩) (Kd.S_types HO843.out BK849.out (by decide)) (fun _ hk=>hk.2) (.slice Ao9 t838.length co9)) (fun _ hk=>hk.2) (.slice Ao13 t841.length co13)) (fun _ hk=>hk.2) (.slice Ao14 t844.length co14)) (fun _ h_=>h_.1))));(case side4=>exact(Kd.S_reads' HO843.out).2.1);(case side5=>refine(Kd.R_reads' (e:=3) (base:=w.heap.size) (ok:=fun k_=>True) (n:=t844.length) (c:=co14) ?_).2.2;exact(by(with_reducible repeat(first|apply Kd.R_alloc|apply Kd.R_drewN|apply Kd.R_drew));exact(Kd.R_mono (Kd.R_far (p:=⟨gb849,2,none⟩) (Kd.R_far (p:=⟨gb849,1,none⟩) (Kd.R_far (p:=⟨gb849,0,none⟩) (Kd.R_types HO846.out BK849.out (by decide)) (fun _ hk=>hk.2) (.slice Ao9 t838.length co9)) (fun _ hk=>hk.2) (.slice Ao13 t841.length co13)) (fun _ hk=>hk.2) (.slice Ao14 t844.length co14)) (fun _ h_=>h_.1))));(case side6=>exact(Kd.R_reads' HO846.out).2.1);rintro e w15 ⟨v851,rfl,ho0,hb⟩;refine⟨_,rfl,?_⟩;have HO852:=Aside0.mk (Kd.R_lower (Kd.R_new' ho0 (Kd.R_lt (by(with_reducible repeat(first|apply Kd.R_alloc|apply Kd.R_drewN|apply Kd.R_drew));exact(Kd.R_mono (Kd.R_far (p:=⟨gb849,2,none⟩) (Kd.R_far (p:=⟨gb849,1,none⟩) (Kd.R_far (p:=⟨gb849,0,none⟩) (Kd.R_types HO846.out BK849.out (by decide)) (fun _ hk=>hk.2) (.slice Ao9 t838.length co9)) (fun _ hk=>hk.2) (.slice Ao13 t841.length co13)) (fun _ hk=>hk.2) (.slice Ao14 t844.length co14)) (fun _ h_=>h_.1))))) (below_size (by exact zk6 HB (IsS71.ge HI837.out) GE836.out GE849.out)));replace HO840:=Aside0.mk (Kd.S_elder' (by(with_reducible repeat(first|apply Kd.S_alloc|apply Kd.S_drewN|apply Kd.S_drew));exact(Kd.S_mono (Kd.S_far (p:=⟨gb849,2,none⟩) (Kd.S_far (p:=⟨gb849,1,none⟩) (Kd.S_far (p:=⟨gb849,0,none⟩) (Kd.S_types HO840.out BK849.out (by decide)) (fun _ hk=>hk.2) (.slice Ao9 t838.length co9)) (fun _ hk=>hk.2) (.slice Ao13 t841.length co13)) (fun _ hk=>hk.2) (.slice Ao14 t844.length co14)) (fun _ h_=>h_.1))) (Kd.R_base ho0) hb);replace HO843:=Aside0.mk (Kd.S_elder' (by(with_reducible repeat(first|apply Kd.S_alloc|apply Kd.S_drewN|apply Kd.S_drew));exact(Kd.S_mono (Kd.S_far (p:=⟨gb849,2,none⟩) (Kd.S_far (p:=⟨gb849,1,none⟩) (Kd.S_far (p:=⟨gb849,0,none⟩) (Kd.S_types HO843.out BK849.out (by decide)) (fun _ hk=>hk.2) (.slice Ao9 t838.length co9)) (fun _ hk=>hk.2) (.slice Ao13 t841.length co13)) (fun _ hk=>hk.2) (.slice Ao14 t844.length co14)) (fun _ h_=>h_.1))) (Kd.R_base ho0) hb);replace HO846:=Aside0.mk (Kd.R_elder' (by(with_reducible repeat(first|apply Kd.R_alloc|apply Kd.R_drewN|apply Kd.R_drew));exact(Kd.R_mono (Kd.R_far (p:=⟨gb849,2,none⟩) (Kd.R_far (p:=⟨gb849,1,none⟩) (Kd.R_far (p:=⟨gb849,0,none⟩) (Kd.R_types HO846.out BK849.out (by decide)) (fun _ hk=>hk.2) (.slice Ao9 t838.length co9)) (fun _ hk=>hk.2) (.slice Ao13 t841.length co13)) (fun _ hk=>hk.2) (.slice Ao14 t844.length co14)) (fun _ h_=>h_.1))) (Kd.R_base ho0) hb);replace BK836:=Aside0.mk (blk_below (g:=gb836) (o:= .cells #[.slice none 0 0,.slice none 0 0,.slice none 0 0] 33 (0,0)) (by(with_reducible repeat(first|refine blk_drewN ?_ _|refine blk_drew ?_ |refine blk_alloc ?_ _));refine blk_far ?_ NB836_849.out _;(with_reducible repeat(first|refine blk_drewN ?_ _|refine blk_drew ?_ |refine blk_alloc ?_ _));refine blk_far ?_ NB836_849.out _;(with_reducible repeat(first|refine blk_drewN ?_ _|refine blk_drew ?_ |refine blk_alloc ?_ _));refine blk_far ?_ NB836_849.out _;(with_reducible repeat(first|refine blk_drewN ?_ _|refine blk_drew ?_ |refine blk_alloc ?_ _));exact BK836.out) hb);replace BK849:=Aside0.mk (blk_below (g:=gb849) (o:= .cells #[.slice Ao9 t838.length co9,.slice Ao13 t841.length co13,.slice Ao14 t844.length co14] 33 (0,0)) (by(with_reducible repeat(first|refine blk_drewN ?_ _|refine blk_drew ?_ |refine blk_alloc ?_ _));refine blk_put (cs:= #[.slice Ao9 t838.length co9,.slice Ao13 t841.length co13,.slice none 0 0]) ?_ 2 _ rfl;(with_reducible repeat(first|refine blk_drewN ?_ _|refine blk_drew ?_ |refine blk_alloc ?_ _));refine blk_put (cs:= #[.slice Ao9 t838.length co9,.slice none 0 0,.slice none 0 0]) ?_ 1 _ rfl;(with_reducible repeat(first|refine blk_drewN ?_ _|refine blk_drew ?_ |refine blk_alloc ?_ _));refine blk_put (cs:= #[.slice none 0 0,.slice none 0 0,.slice none 0 0]) ?_ 0 _ rfl;(with_reducible repeat(first|refine blk_drewN ?_ _|refine blk_drew ?_ |refine blk_alloc ?_ _));exact BK849.out) hb);replace HB:=Aside0.mk (below_step (by exact zk6 HB (IsS71.ge HI837.out) GE836.out GE849.out) hb);replace HI837:=Aside0.mk (IsS71.below (show IsS71 w (((w8.setCell ⟨gb849,0,none⟩ (.slice Ao9 t838.length co9)).setCell ⟨gb849,1,none⟩ (.slice Ao13 t841.length co13)).setCell ⟨gb849,2,none⟩ (.slice Ao14 t844.length co14)) gb837 l0 t847 t848 from by repeat(first|(with_reducible first|exact HI837.out|apply IsS71.alloc|apply IsS71.drewN|apply IsS71.drew|apply IsS71.set_1|apply IsS71.set_2|refine IsS71.far ?_ NB837_836.out _|refine IsS71.far ?_ NB837_849.out _)|exact HI837.out)) hb);(try clear hb);(try clear hb2);(try clear hk);(try clear hi);(try clear ho0)))
 (try simp only [Act.put,List.setIfInBounds_toArray,List.set_cons_zero,List.set_cons_succ])
 go_cut [23] (fun v23 wc=> ∃ (kq:Nat) (x23_3:Bool) (x838001_3:Int) (x838002_3:Int),v23= .bool x23_3∧Aside0 (spec_DrawGoodMatch.j0 kq t850 x23_3 l0 x838001_3 x838002_3 t838 t841 t844=some (r1,r2,r3,r4))∧Aside0 (kq≤k)∧Aside0 (Kd.R (Kd.int .i64) 3 wc w.heap.size (fun k_=>some k_≠ ((.slice Ao14 t844.length co14):Value).ownBlock) v851 t850)∧Aside0 (Kd.S (Kd.slice 3 (Kd.int .i64)) 22 wc w.heap.size (fun k_=>some k_≠ (v851:Value).ownBlock∧some k_≠ ((.slice Ao13 t841.length co13):Value).ownBlock∧some k_≠ ((.slice Ao14 t844.length co14):Value).ownBlock) (.slice Ao9 t838.length co9) t838)∧Aside0 (Kd.S (Kd.slice 3 (Kd.int .i64)) 22 wc w.heap.size (fun k_=>some k_≠ (v851:Value).ownBlock∧some k_≠ ((.slice Ao9 t838.length co9):Value).ownBlock∧some k_≠ ((.slice Ao14 t844.length co14):Value).ownBlock) (.slice Ao13 t841.length co13) t841)∧Aside0 (Kd.R (Kd.int .i64) 3 wc w.heap.size (fun k_=>some k_≠ (v851:Value).ownBlock) (.slice Ao14 t844.length co14) t844)∧Aside0 (wc.heap[gb836]?=some (.cells #[(.slice none 0 0),(.slice none 0 0),(.slice none 0 0)] 33 (0,0)))∧Aside0 (wc.heap[gb849]?=some (.cells #[(.slice Ao9 t838.length co9),(.slice Ao13 t841.length co13),(.slice Ao14 t844.length co14)] 33 (0,0)))∧Aside0 (IsS71 w wc gb837 l0 x838001_3 x838002_3)∧Aside0 (Below w.heap.size w wc))
 case first=>
  have H:=HC4.out
  clear HC4
  by_cases c16:t853=true
  ·subst c16
   have H1:((spec_l1Cur_one.f l0 t847 t848 2).bind fun bt854=>(spec_DrawGoodMatch.j0 k t850 bt854.1 l0 bt854.2.1 bt854.2.2 t838 t841 t844))=some (r1,r2,r3,r4):=by rw [if_pos rfl] at H;exact H
   clear H
   have H:=H1
   clear H1
   replace H:=Option.bind_eq_some_iff.mp H
   obtain⟨⟨t854,t855,t856⟩,A170,H⟩:=H
   replace H:(spec_DrawGoodMatch.j0 k t850 t854 l0 t855 t856 t838 t841 t844)=some (r1,r2,r3,r4):=H
   have A17:=Aside0.mk A170
   clear A170
   have H':=Aside0.mk H
   clear H
   go_wp2_with (first|(go_at_call 67;(with_reducible refine(spec_l1Cur_one.calls gb837 l0 t847 t848 2 t854 t855 t856 w _ ?side1 ?side2 A17.out).mono ?_);(case side1=>repeat(first|(with_reducible first|exact HI837.out|apply IsS71.alloc|apply IsS71.drewN|apply IsS71.drew|apply IsS71.set_1|apply IsS71.set_2|refine IsS71.far ?_ NB837_836.out _|refine IsS71.far ?_ NB837_849.out _)|exact HI837.out));(case side2=>exact zk6 HB (IsS71.ge HI837.out) GE836.out GE849.out);rintro e w18 ⟨rfl,hi,hb,hk⟩;replace BK836:=Aside0.mk (KeepBut.blk hk (g':=gb836) (o:= .cells #[.slice none 0 0,.slice none 0 0,.slice none 0 0] 33 (0,0)) (zq3 BK836) NB836_837.out (by simp));replace HO840:=Aside0.mk (Kd.S_mono (Kd.S_keep (IsS71.apartS (show IsS71 w _ gb837 l0 t847 t848 from by repeat(first|(with_reducible first|exact HI837.out|apply IsS71.alloc|apply IsS71.drewN|apply IsS71.drew|apply IsS71.set_1|apply IsS71.set_2|refine IsS71.far ?_ NB837_836.out _|refine IsS71.far ?_ NB837_849.out _)|exact HI837.out)) (by(with_reducible repeat(first|apply Kd.S_alloc|apply Kd.S_drewN|apply Kd.S_drew));exact HO840.out) (by decide)) hk (fun _ h=>h.2)) (fun _ h=>h.1));replace HO843:=Aside0.mk (Kd.S_mono (Kd.S_keep (IsS71.apartS (show IsS71 w _ gb837 l0 t847 t848 from by repeat(first|(with_reducible first|exact HI837.out|apply IsS71.alloc|apply IsS71.drewN|apply IsS71.drew|apply IsS71.set_1|apply IsS71.set_2|refine IsS71.far ?_ NB837_836.out _|refine IsS71.far ?_ NB837_849.out _)|exact HI837.out)) (by(with_reducible repeat(first|apply Kd.S_alloc|apply Kd.S_drewN|apply Kd.S_drew));exact HO843.out) (by decide)) hk (fun _ h=>h.2)) (fun _ h=>h.1));replace HO846:=Aside0.mk (Kd.R_mono (Kd.R_keep (IsS71.apart (show IsS71 w _ gb837 l0 t847 t848 from by repeat(first|(with_reducible first|exact HI837.out|apply IsS71.alloc|apply IsS71.drewN|apply IsS71.drew|apply IsS71.set_1|apply IsS71.set_2|refine IsS71.far ?_ NB837_836.out _|refine IsS71.far ?_ NB837_849.out _)|exact HI837.out)) (zq4 HO846) (by decide)) hk (fun _ h=>h.2)) (fun _ h=>h.1));replace BK849:=Aside0.mk (KeepBut.blk hk (g':=gb849) (o:= .cells #[.slice Ao9 t838.length co9,.slice Ao13 t841.length co13,.slice Ao14 t844.length co14] 33 (0,0)) (zq3 BK849) NB849_837.out (by simp));replace HO852:=Aside0.mk (Kd.R_mono (Kd.R_keep (IsS71.apart (show IsS71 w _ gb837 l0 t847 t848 from by repeat(first|(with_reducible first|exact HI837.out|apply IsS71.alloc|apply IsS71.drewN|apply IsS71.drew|apply IsS71.set_1|apply IsS71.set_2|refine IsS71.far ?_ NB837_836.out _|refine IsS71.far ?_ NB837_849.out _)|exact HI837.out)) (zq4 HO852) (by decide)) hk (fun _ h=>h.2)) (fun _ h=>h.1));replace HB:=Aside0.mk (hb);replace HI837:=Aside0.mk (hi);(try clear hb);(try clear hb2);(try clear hk);(try clear hi)))
   go_meet
   case rel=>exact⟨_,(t854),(t855),(t856),zrs,H',⟨by first|omega|exact Nat.le_refl _⟩,⟨by(with_reducible repeat(first|apply Kd.R_alloc|apply Kd.R_drewN|apply Kd.R_drew));exact Kd.R_mono HO852.out (fun _ hk=>hk.2)⟩,⟨by(with_reducible repeat(first|apply Kd.S_alloc|apply Kd.S_drewN|apply Kd.S_drew));exact Kd.S_mono HO840.out (fun _ hk=>⟨hk.2,⟨hk.1.1,hk.1.2⟩⟩)⟩,⟨by(with_reducible repeat(first|apply Kd.S_alloc|apply Kd.S_drewN|apply Kd.S_drew));exact Kd.S_mono HO843.out (fun _ hk=>⟨hk.2,⟨hk.1.1,hk.1.2⟩⟩)⟩,⟨by(with_reducible repeat(first|apply Kd.R_alloc|apply Kd.R_drewN|apply Kd.R_drew));exact Kd.R_mono HO846.out (fun _ hk=>hk.2)⟩,⟨by(with_reducible repeat(first|refine blk_drewN ?_ _|refine blk_drew ?_ |refine blk_alloc ?_ _));exact BK836.out⟩,⟨by(with_reducible repeat(first|refine blk_drewN ?_ _|refine blk_drew ?_ |refine blk_alloc ?_ _));exact BK849.out⟩,⟨by repeat(first|(with_reducible first|exact HI837.out|apply IsS71.alloc|apply IsS71.drewN|apply IsS71.drew|apply IsS71.set_1|apply IsS71.set_2|refine IsS71.far ?_ NB837_836.out _|refine IsS71.far ?_ NB837_849.out _)|exact HI837.out)⟩,⟨by exact zk6 HB (IsS71.ge HI837.out) GE836.out GE849.out⟩⟩
  ·replace c16:=Bool.eq_false_iff.mpr c16
   subst c16
   have H1:(spec_DrawGoodMatch.j0 k t850 true l0 t847 t848 t838 t841 t844)=some (r1,r2,r3,r4):=by rw [if_neg (show ¬ (false=true) by decide)] at H;exact H
   clear H
   have H:=H1
   clear H1
   have H':=Aside0.mk H
   clear H
   go_wp2
   go_meet
   case rel=>exact⟨_,(true),(t847),(t848),zrs,H',⟨by first|omega|exact Nat.le_refl _⟩,⟨by(with_reducible repeat(first|apply Kd.R_alloc|apply Kd.R_drewN|apply Kd.R_drew));exact Kd.R_mono HO852.out (fun _ hk=>hk.2)⟩,⟨by(with_reducible repeat(first|apply Kd.S_alloc|apply Kd.S_drewN|apply Kd.S_drew));exact Kd.S_mono HO840.out (fun _ hk=>⟨hk.2,⟨hk.1.1,hk.1.2⟩⟩)⟩,⟨by(with_reducible repeat(first|apply Kd.S_alloc|apply Kd.S_drewN|apply Kd.S_drew));exact Kd.S_mono HO843.out (fun _ hk=>⟨hk.2,⟨hk.1.1,hk.1.2⟩⟩)⟩,⟨by(with_reducible repeat(first|apply Kd.R_alloc|apply Kd.R_drewN|apply Kd.R_drew));exact Kd.R_mono HO846.out (fun _ hk=>hk.2)⟩,⟨by(with_reducible repeat(first|refine blk_drewN ?_ _|refine blk_drew ?_ |refine blk_alloc ?_ _));exact BK836.out⟩,⟨by(with_reducible repeat(first|refine blk_drewN ?_ _|refine blk_drew ?_ |refine blk_alloc ?_ _));exact BK849.out⟩,⟨by repeat(first|(with_reducible first|exact HI837.out|apply IsS71.alloc|apply IsS71.drewN|apply IsS71.drew|apply IsS71.set_1|apply IsS71.set_2|refine IsS71.far ?_ NB837_836.out _|refine IsS71.far ?_ NB837_849.out _)|exact HI837.out)⟩,⟨by exact zk6 HB (IsS71.ge HI837.out) GE836.out GE849.out⟩⟩
 case rest=>
  clear HC4
  try clear c1
  try clear p2
  try clear c3
  try clear c4
  try clear c6
  try clear c10
  try clear c11
  try clear c16
  try clear hcz12_0
  try clear hcz12_1
  try clear hcz12_2
  try clear hfz12_0
  try clear hfz12_1
  try clear hfz12_2
  obtain⟨kq,x23_3,x838001_3,x838002_3,rfl,HA,HJ3,HO_6,HO_850000,HO_850001,HO_850002,BK836,BK849,HI837,HB⟩:=hcut
  cases kq with
  |zero=>exact absurd HA.out (by simp [spec_DrawGoodMatch.j0])
  |succ kj3=>
   have H:=HA.out
   clear HA
   simp only [spec_DrawGoodMatch.j0] at H
   by_cases c19:x23_3=true
   ·subst c19
    have H1:(spec_DrawGoodMatch.l0 kj3 ([] :List Int) (t838.length:Int) 0 l0 x838001_3 x838002_3 t838 t841 t844)=some (r1,r2,r3,r4):=by rw [if_pos rfl] at H;exact H
    clear H
    have H:=H1
    clear H1
    have H':=Aside0.mk H
    clear H
    have hnb20:=NB849_836.out
    have hnc20:=NB836_849.out
    have hnb21:=NB849_837.out
    have hnc21:=NB837_849.out
    have hcz22_0:wc.cell? ⟨gb849,0,none⟩=some (.slice Ao9 t838.length co9):=(blk_cell BK849.out 0).trans rfl
    have hcz22_1:wc.cell? ⟨gb849,1,none⟩=some (.slice Ao13 t841.length co13):=(blk_cell BK849.out 1).trans rfl
    have hcz22_2:wc.cell? ⟨gb849,2,none⟩=some (.slice Ao14 t844.length co14):=(blk_cell BK849.out 2).trans rfl
    have hfz22_0:=blk_frozen BK849.out 0
    have hfz22_1:=blk_frozen BK849.out 1
    have hfz22_2:=blk_frozen BK849.out 2
    go_wp2
    go_loopg [6,27] kj3 (fun kq v6 v27 w'=> ∃ (x6_2:List Int) (x27_2:Int) (x838001_2:Int) (x838002_2:Int),v27= .int .i64 x27_2∧Aside0 (spec_DrawGoodMatch.l0 kq x6_2 (t838.length:Int) x27_2 l0 x838001_2 x838002_2 t838 t841 t844=some (r1,r2,r3,r4))∧Aside0 (kq≤kj3)∧Aside0 (Kd.R (Kd.int .i64) 3 w' w.heap.size (fun k_=>some k_≠ ((.slice Ao14 t844.length co14):Value).ownBlock) v6 x6_2)∧Aside0 (Kd.S (Kd.slice 3 (Kd.int .i64)) 22 w' w.heap.size (fun k_=>some k_≠ (v6:Value).ownBlock∧some k_≠ ((.slice Ao13 t841.length co13):Value).ownBlock∧some k_≠ ((.slice Ao14 t844.length co14):Value).ownBlock) (.slice Ao9 t838.length co9) t838)∧Aside0 (Kd.S (Kd.slice 3 (Kd.int .i64)) 22 w' w.heap.size (fun k_=>some k_≠ (v6:Value).ownBlock∧some k_≠ ((.slice Ao9 t838.length co9):Value).ownBlock∧some k_≠ ((.slice Ao14 t844.length co14):Value).ownBlock) (.slice Ao13 t841.length co13) t841)∧Aside0 (Kd.R (Kd.int .i64) 3 w' w.heap.size (fun k_=>some k_≠ (v6:Value).ownBlock) (.slice Ao14 t844.length co14) t844)∧Aside0 (w'.heap[gb836]?=some (.cells #[(.slice none 0 0),(.slice none 0 0),(.slice none 0 0)] 33 (0,0)))∧Aside0 (w'.heap[gb849]?=some (.cells #[(.slice Ao9 t838.length co9),(.slice Ao13 t841.length co13),(.slice Ao14 t844.length co14)] 33 (0,0)))∧Aside0 (IsS71 w w' gb837 l0 x838001_2 x838002_2)∧Aside0 (Below w.heap.size w w'))
    case atStart=>exact⟨(([] :List Int)),(0),(x838001_3),(x838002_3),zrs,H',⟨Nat.le_refl _⟩,⟨by first|exact Kd.R_nil _ _ _ _ _|exact Kd.N_nil _ _ _ _ _|exact Kd.V_nil _ _ _ _ _|exact Kd.Q_nil _ _ _ _ _|exact Kd.S_nil _ _ _ _ _⟩,⟨by(with_reducible repeat(first|apply Kd.S_alloc|apply Kd.S_drewN|apply Kd.S_drew));exact Kd.S_mono HO_850000.out (fun _ hk=>⟨(by simp [Value.ownBlock]),⟨hk.2.1,hk.2.2⟩⟩)⟩,⟨by(with_reducible repeat(first|apply Kd.S_alloc|apply Kd.S_drewN|apply Kd.S_drew));exact Kd.S_mono HO_850001.out (fun _ hk=>⟨(by simp [Value.ownBlock]),⟨hk.2.1,hk.2.2⟩⟩)⟩,⟨by(with_reducible repeat(first|apply Kd.R_alloc|apply Kd.R_drewN|apply Kd.R_drew));exact Kd.R_mono HO_850002.out (fun _ hk=>(by simp [Value.ownBlock]))⟩,⟨by(with_reducible repeat(first|refine blk_drewN ?_ _|refine blk_drew ?_ |refine blk_alloc ?_ _));exact BK836.out⟩,⟨by(with_reducible repeat(first|refine blk_drewN ?_ _|refine blk_drew ?_ |refine blk_alloc ?_ _));exact BK849.out⟩,⟨by repeat(first|(with_reducible first|exact HI837.out|apply IsS71.alloc|apply IsS71.drewN|apply IsS71.drew|apply IsS71.set_1|apply IsS71.set_2|refine IsS71.far ?_ NB837_836.out _|refine IsS71.far ?_ NB837_849.out _)|exact HI837.out)⟩,⟨by exact zk6 HB (IsS71.ge HI837.out) GE836.out GE849.out⟩⟩
    case round=>
     clear H'
     try clear c1
     try clear c2
     try clear p2
     try clear c3
     try clear c4
     try clear c6
     try clear c10
     try clear c11
     try clear c16
     try clear c19
     try clear c20
     try clear c21
     try clear hcz12_0
     try clear hcz12_1
     try clear hcz12_2
     try clear hcz22_0
     try clear hcz22_1
     try clear hcz22_2
     try clear hfz12_0
     try clear hfz12_1
     try clear hfz12_2
     try clear hfz22_0
     try clear hfz22_1
     try clear hfz22_2
     try clear p2
     obtain⟨x6_2,x27_2,x838001_2,x838002_2,rfl,HA,HK2,HO_6,HO_850000,HO_850001,HO_850002,BK836,BK849,HI837,HB⟩:=hrel
     cases gk with
     |zero=>exact absurd HA.out (by simp [spec_DrawGoodMatch.l0])
     |succ k2=>
      have H:=HA.out
      clear HA
      simp only [spec_DrawGoodMatch.l0] at H
      by_cases c23:x27_2< (t838.length:Int)
      ·rw [if_pos c23] at H
       have c23b0:decide (x27_2< (t838.length:Int))=true:=decide_eq_true c23
       clear c23
       replace H:=Option.bind_eq_some_iff.mp H
       obtain⟨⟨t857,t858,t859⟩,A240,H⟩:=H
       replace H:(if x6_2.length< 17592186044416 then(spec_DrawGoodMatch.l0 k2 (x6_2++ [wrap64 (t857 - 1)]) (t838.length:Int) (wrap64 (x27_2+1)) l0 t858 t859 t838 t841 t844) else(none))=some (r1,r2,r3,r4):=H
       have A24:=Aside0.mk A240
       clear A240
       by_cases c25:x6_2.length< 17592186044416
       case neg=>exact znn c25 H
       rw [if_pos c25] at H
       have LMc25:=Aside0.mk c25
       clear c25
       obtain⟨y860,hy860⟩ :∃ y_:List Int,y_= (x6_2++ [wrap64 (t857 - 1)]):=⟨_,rfl⟩
       replace H:(spec_DrawGoodMatch.l0 k2 y860 (t838.length:Int) (wrap64 (x27_2+1)) l0 t858 t859 t838 t841 t844)=some (r1,r2,r3,r4):=zfh hy860 H
       have Ny860:=Aside0.mk hy860
       clear hy860
       have H':=Aside0.mk H
       clear H
       have hnb26:=NB849_836.out
       have hnc26:=NB836_849.out
       have hnb27:=NB849_837.out
       have hnc27:=NB837_849.out
       have hcz28_0:wr.cell? ⟨gb849,0,none⟩=some (.slice Ao9 t838.length co9):=(blk_cell BK849.out 0).trans rfl
       have hcz28_1:wr.cell? ⟨gb849,1,none⟩=some (.slice Ao13 t841.length co13):=(blk_cell BK849.out 1).trans rfl
       have hcz28_2:wr.cell? ⟨gb849,2,none⟩=some (.slice Ao14 t844.length co14):=(blk_cell BK849.out 2).trans rfl
       have hfz28_0:=blk_frozen BK849.out 0
       have hfz28_1:=blk_frozen BK849.out 1
       have hfz28_2:=blk_frozen BK849.out 2
       go_wp2_with (first|((with_reducible refine gate_callee (f:=65) rfl ?_);refine goesL_ (some 35) rfl rfl Try.func65 (by kernel_rfl) rfl #[.pointer (some ⟨gb837,0,none⟩),.int .i64 (wrap64 ((t841.length:Int)+1))] rfl zq2 ?_;(with_reducible refine(spec_l1Cur_pick.calls gb837 l0 x838001_2 x838002_2 (wrap64 ((t841.length:Int)+1)) t857 t858 t859 w _ ?side1 ?side2 A24.out).mono ?_);(case side1=>repeat(first|(with_reducible first|exact HI837.out|apply IsS71.alloc|apply IsS71.drewN|apply IsS71.drew|apply IsS71.set_1|apply IsS71.set_2|refine IsS71.far ?_ NB837_836.out _|refine IsS71.far ?_ NB837_849.out _)|exact HI837.out));(case side2=>exact zk6 HB (IsS71.ge HI837.out) GE836.out GE849.out);rintro e w29 ⟨rfl,hi,hb,hk⟩;refine⟨_,rfl,?_⟩;replace HO_6:=Aside0.mk (Kd.R_mono (Kd.R_keep (IsS71.apart (show IsS71 w _ gb837 l0 x838001_2 x838002_2 from by repeat(first|(with_reducible first|exact HI837.out|apply IsS71.alloc|apply IsS71.drewN|apply IsS71.drew|apply IsS71.set_1|apply IsS71.set_2|refine IsS71.far ?_ NB837_836.out _|refine IsS71.far ?_ NB837_849.out _)|exact HI837.out)) (zq4 HO_6) (by decide)) hk (fun _ h=>h.2)) (fun _ h=>h.1));replace HO_850000:=Aside0.mk (Kd.S_mono (Kd.S_keep (IsS71.apartS (show IsS71 w _ gb837 l0 x838001_2 x838002_2 from by repeat(first|(with_reducible first|exact HI837.out|apply IsS71.alloc|apply IsS71.drewN|apply IsS71.drew|apply IsS71.set_1|apply IsS71.set_2|refine IsS71.far ?_ NB837_836.out _|refine IsS71.far ?_ NB837_849.out _)|exact HI837.out)) (by(with_reducible repeat(first|apply Kd.S_alloc|apply Kd.S_drewN|apply Kd.S_drew));exact HO_850000.out) (by decide)) hk (fun _ h=>h.2)) (fun _ h=>h.1));replace HO_850001:=Aside0.mk (Kd.S_mono (Kd.S_keep (IsS71.apartS (show IsS71 w _ gb837 l0 x838001_2 x838002_2 from by repeat(first|(with_reducible first|exact HI837.out|apply IsS71.alloc|apply IsS71.drewN|apply IsS71.drew|apply IsS71.set_1|apply IsS71.set_2|refine IsS71.far ?_ NB837_836.out _|refine IsS71.far ?_ NB837_849.out _)|exact HI837.out)) (by(with_reducible repeat(first|apply Kd.S_alloc|apply Kd.S_drewN|apply Kd.S_drew));exact HO_850001.out) (by decide)) hk (fun _ h=>h.2)) (fun _ h=>h.1));replace HO_850002:=Aside0.mk (Kd.R_mono (Kd.R_keep (IsS71.apart (show IsS71 w _ gb837 l0 x838001_2 x838002_2 from by repeat(first|(with_reducible first|exact HI837.out|apply IsS71.alloc|apply IsS71.drewN|apply IsS71.drew|apply IsS71.set_1|apply IsS71.set_2|refine IsS71.far ?_ NB837_836.out _|refine IsS71.far ?_ NB837_849.out _)|exact HI837.out)) (zq4 HO_850002) (by decide)) hk (fun _ h=>h.2)) (fun _ h=>h.1));replace BK836:=Aside0.mk (KeepBut.blk hk (g':=gb836) (o:= .cells #[.slice none 0 0,.slice none 0 0,.slice none 0 0] 33 (0,0)) (zq3 BK836) NB836_837.out (by simp));replace BK849:=Aside0.mk (KeepBut.blk hk (g':=gb849) (o:= .cells #[.slice Ao9 t838.length co9,.slice Ao13 t841.length co13,.slice Ao14 t844.length co14] 33 (0,0)) (zq3 BK849) NB849_837.out (by simp));replace HB:=Aside0.mk (hb);replace HI837:=Aside0.mk (hi);(try clear hb);(try clear hb2);(try clear hk);(try clear hi))|((with_reducible refine gate_builtin (b:= .append) (xs:= #[.tmp 29,.tmp 37]) rfl ?_);at_builtin;refine Kd.R_append (Kd.int .i64) (w0:=w) w.heap.size rfl (.tmp 29) (.tmp 37) 22 3 (.int .i64 0) 8 rfl Try.underlying22 info3 rfl (by decide) (by omega) u6 x6_2 (wrap64 (t857 - 1)) [.int .i64 (wrap64 (t857 - 1))] (fun k_=>some k_≠ (.slice Ao14 t844.length co14:Value).ownBlock) (fun _=>False) rfl rfl ?aP (fun _ hk=>hk.elim) ?aF ?aO ?aB ?aS ?aL ?_;(case aP=>exact rfl);(case aB=>exact(by exact zk6 HB (IsS71.ge HI837.out) GE836.out GE849.out));(case aF=>exact(fun k_ hk=>Kd.fresh' (Kd.R_lt (zq4 HO_850002)) k_ hk));(case aO=>exact(zq4 HO_6));(case aS=>exact(below_size (by exact zk6 HB (IsS71.ge HI837.out) GE836.out GE849.out)));(case aL=>have:=LMc25.out;omega);intro v861 w30 ho hb hg hat;rw [← Ny860.out] at ho;have HO862:=Aside0.mk (ho);replace HO_850000:=Aside0.mk (Kd.S_after (ok:=(fun k_=>some k_≠ (.slice Ao13 t841.length co13:Value).ownBlock∧some k_≠ (.slice Ao14 t844.length co14:Value).ownBlock)) (by(with_reducible repeat(first|apply Kd.S_alloc|apply Kd.S_drewN|apply Kd.S_drew));exact Kd.S_mono HO_850000.out (fun _ hk=>⟨⟨hk.2.1,hk.2.2⟩,hk.1⟩)) hg hat);replace HO_850001:=Aside0.mk (Kd.S_after (ok:=(fun k_=>some k_≠ (.slice Ao9 t838.length co9:Value).ownBlock∧some k_≠ (.slice Ao14 t844.length co14:Value).ownBlock)) (by(with_reducible repeat(first|apply Kd.S_alloc|apply Kd.S_drewN|apply Kd.S_drew));exact Kd.S_mono HO_850001.out (fun _ hk=>⟨⟨hk.2.1,hk.2.2⟩,hk.1⟩)) hg hat);replace HO_850002:=Aside0.mk (Kd.R_after (ok:=(fun _=>True)) (by(with_reducible repeat(first|apply Kd.R_alloc|apply Kd.R_drewN|apply Kd.R_drew));exact Kd.R_mono HO_850002.out (fun _ hk=>⟨trivial,hk⟩)) hg hat);replace BK836:=Aside0.mk (blk_grown (g:=gb836) (o:= .cells #[.slice none 0 0,.slice none 0 0,.slice none 0 0] 33 (0,0)) (zq3 BK836) hg (Kd.R_ne HO_6.out BK836.out (by decide)));replace BK849:=Aside0.mk (blk_grown (g:=gb849) (o:= .cells #[.slice Ao9 t838.length co9,.slice Ao13 t841.length co13,.slice Ao14 t844.length co14] 33 (0,0)) (zq3 BK849) hg (Kd.R_ne HO_6.out BK849.out (by decide)));replace HI837:=Aside0.mk (IsS71.grown (by repeat(first|(with_reducible first|exact HI837.out|apply IsS71.alloc|apply IsS71.drewN|apply IsS71.drew|apply IsS71.set_1|apply IsS71.set_2|refine IsS71.far ?_ NB837_836.out _|refine IsS71.far ?_ NB837_849.out _)|exact HI837.out)) hg (IsS71.own_ne HI837.out HO_6.out (by decide)));replace HB:=Aside0.mk (hb);clear HO_6;clear ho hb hg hat))
       go_roundg k2
       case measure=>have:=HJ3.out;have:=HK2.out;omega
       case rel=>exact⟨(y860),(wrap64 (x27_2+1)),(t858),(t859),zrs,H',⟨by have:=HJ3.out;have:=HK2.out;omega⟩,⟨zdr HO862⟩,⟨by(with_reducible repeat(first|apply Kd.S_alloc|apply Kd.S_drewN|apply Kd.S_drew));exact Kd.S_mono HO_850000.out (fun _ hk=>⟨hk.2,⟨hk.1.1,hk.1.2⟩⟩)⟩,⟨by(with_reducible repeat(first|apply Kd.S_alloc|apply Kd.S_drewN|apply Kd.S_drew));exact Kd.S_mono HO_850001.out (fun _ hk=>⟨hk.2,⟨hk.1.1,hk.1.2⟩⟩)⟩,⟨by(with_reducible repeat(first|apply Kd.R_alloc|apply Kd.R_drewN|apply Kd.R_drew));exact Kd.R_mono HO_850002.out (fun _ hk=>hk.2)⟩,⟨by(with_reducible repeat(first|refine blk_drewN ?_ _|refine blk_drew ?_ |refine blk_alloc ?_ _));exact BK836.out⟩,⟨by(with_reducible repeat(first|refine blk_drewN ?_ _|refine blk_drew ?_ |refine blk_alloc ?_ _));exact BK849.out⟩,⟨by repeat(first|(with_reducible first|exact HI837.out|apply IsS71.alloc|apply IsS71.drewN|apply IsS71.drew|apply IsS71.set_1|apply IsS71.set_2|refine IsS71.far ?_ NB837_836.out _|refine IsS71.far ?_ NB837_849.out _)|exact HI837.out)⟩,⟨by exact zk6 HB (IsS71.ge HI837.out) GE836.out GE849.out⟩⟩
      ·rw [if_neg c23] at H
       have c23b0:decide (x27_2< (t838.length:Int))=false:=decide_eq_false c23
       clear c23
       simp only [Option.some.injEq,Prod.mk.injEq] at H
       obtain⟨rfl,rfl,rfl,rfl⟩:=H
       have hnb31:=NB849_836.out
       have hnc31:=NB836_849.out
       have hnb32:=NB849_837.out
       have hnc32:=NB837_849.out
       have hcz33_0:wr.cell? ⟨gb849,0,none⟩=some (.slice Ao9 t838.length co9):=(blk_cell BK849.out 0).trans rfl
       have hcz33_1:wr.cell? ⟨gb849,1,none⟩=some (.slice Ao13 t841.length co13):=(blk_cell BK849.out 1).trans rfl
       have hcz33_2:wr.cell? ⟨gb849,2,none⟩=some (.slice Ao14 t844.length co14):=(blk_cell BK849.out 2).trans rfl
       have hfz33_0:=blk_frozen BK849.out 0
       have hfz33_1:=blk_frozen BK849.out 1
       have hfz33_2:=blk_frozen BK849.out 2
       have hnb34:=NB836_837.out
       have hnc34:=NB837_836.out
       have hcz35_0:wr.cell? ⟨gb836,0,none⟩=some (.slice none 0 0):=(blk_cell BK836.out 0).trans rfl
       have hcz35_1:wr.cell? ⟨gb836,1,none⟩=some (.slice none 0 0):=(blk_cell BK836.out 1).trans rfl
       have hcz35_2:wr.cell? ⟨gb836,2,none⟩=some (.slice none 0 0):=(blk_cell BK836.out 2).trans rfl
       have hfz35_0:=blk_frozen BK836.out 0
       have hfz35_1:=blk_frozen BK836.out 1
       have hfz35_2:=blk_frozen BK836.out 2
       go_wp2
       refine bodyPost_ret (results_ct rfl _ _ gb836 33 #[.slice Ao9 t838.length co9,.slice Ao13 t841.length co13,.slice Ao14 t844.length co14] (0,0) _ rfl (by(with_reducible repeat(first|refine blk_drewN ?_ _|refine blk_drew ?_ |refine blk_alloc ?_ _));refine blk_put (cs:= #[.slice Ao9 t838.length co9,.slice Ao13 t841.length co13,.slice none 0 0]) ?_ 2 _ rfl;(with_reducible repeat(first|refine blk_drewN ?_ _|refine blk_drew ?_ |refine blk_alloc ?_ _));refine blk_put (cs:= #[.slice Ao9 t838.length co9,.slice none 0 0,.slice none 0 0]) ?_ 1 _ rfl;(with_reducible repeat(first|refine blk_drewN ?_ _|refine blk_drew ?_ |refine blk_alloc ?_ _));refine blk_put (cs:= #[.slice none 0 0,.slice none 0 0,.slice none 0 0]) ?_ 0 _ rfl;(with_reducible repeat(first|refine blk_drewN ?_ _|refine blk_drew ?_ |refine blk_alloc ?_ _));exact BK836.out) Try.underlying33 rfl (by kernel_rfl)) rfl ?_
       exact⟨_,_,_,_,zer,by(with_reducible repeat(first|apply Kd.S_alloc|apply Kd.S_drewN|apply Kd.S_drew));exact Kd.S_mono (Kd.S_far (p:=⟨gb836,2,none⟩) (Kd.S_far (p:=⟨gb836,1,none⟩) (Kd.S_far (p:=⟨gb836,0,none⟩) (Kd.S_types HO_850000.out BK836.out (by decide)) (fun _ hk=>hk.2) (.slice Ao9 t838.length co9)) (fun _ hk=>hk.2) (.slice Ao13 t841.length co13)) (fun _ hk=>hk.2) (.slice Ao14 t844.length co14)) (fun _ hk=>⟨hk.1.2.1,⟨hk.1.2.2,hk.1.1⟩⟩),by(with_reducible repeat(first|apply Kd.S_alloc|apply Kd.S_drewN|apply Kd.S_drew));exact Kd.S_mono (Kd.S_far (p:=⟨gb836,2,none⟩) (Kd.S_far (p:=⟨gb836,1,none⟩) (Kd.S_far (p:=⟨gb836,0,none⟩) (Kd.S_types HO_850001.out BK836.out (by decide)) (fun _ hk=>hk.2) (.slice Ao9 t838.length co9)) (fun _ hk=>hk.2) (.slice Ao13 t841.length co13)) (fun _ hk=>hk.2) (.slice Ao14 t844.length co14)) (fun _ hk=>⟨hk.1.2.1,⟨hk.1.2.2,hk.1.1⟩⟩),by(with_reducible repeat(first|apply Kd.R_alloc|apply Kd.R_drewN|apply Kd.R_drew));exact Kd.R_mono (Kd.R_far (p:=⟨gb836,2,none⟩) (Kd.R_far (p:=⟨gb836,1,none⟩) (Kd.R_far (p:=⟨gb836,0,none⟩) (Kd.R_types HO_850002.out BK836.out (by decide)) (fun _ hk=>hk.2) (.slice Ao9 t838.length co9)) (fun _ hk=>hk.2) (.slice Ao13 t841.length co13)) (fun _ hk=>hk.2) (.slice Ao14 t844.length co14)) (fun _ hk=>hk.1),by(with_reducible repeat(first|apply Kd.R_alloc|apply Kd.R_drewN|apply Kd.R_drew));exact Kd.R_mono (Kd.R_far (p:=⟨gb836,2,none⟩) (Kd.R_far (p:=⟨gb836,1,none⟩) (Kd.R_far (p:=⟨gb836,0,none⟩) (Kd.R_types HO_6.out BK836.out (by decide)) (fun _ hk=>hk.2) (.slice Ao9 t838.length co9)) (fun _ hk=>hk.2) (.slice Ao13 t841.length co13)) (fun _ hk=>hk.2) (.slice Ao14 t844.length co14)) (fun _ hk=>hk.1),by exact zk6 HB (IsS71.ge HI837.out) GE836.out GE849.out⟩
   ·replace c19:=Bool.eq_false_iff.mpr c19
    subst c19
    have H1:(some (t838,t841,t844,t850))=some (r1,r2,r3,r4):=by rw [if_neg (show ¬ (false=true) by decide)] at H;exact H
    clear H
    have H:=H1
    clear H1
    simp only [Option.some.injEq,Prod.mk.injEq] at H
    obtain⟨rfl,rfl,rfl,rfl⟩:=H
    have hnb36:=NB849_836.out
    have hnc36:=NB836_849.out
    have hnb37:=NB849_837.out
    have hnc37:=NB837_849.out
    have hcz38_0:wc.cell? ⟨gb849,0,none⟩=some (.slice Ao9 t838.length co9):=(blk_cell BK849.out 0).trans rfl
    have hcz38_1:wc.cell? ⟨gb849,1,none⟩=some (.slice Ao13 t841.length co13):=(blk_cell BK849.out 1).trans rfl
    have hcz38_2:wc.cell? ⟨gb849,2,none⟩=some (.slice Ao14 t844.length co14):=(blk_cell BK849.out 2).trans rfl
    have hfz38_0:=blk_frozen BK849.out 0
    have hfz38_1:=blk_frozen BK849.out 1
    have hfz38_2:=blk_frozen BK849.out 2
    have hnb39:=NB836_837.out
    have hnc39:=NB837_836.out
    have hcz40_0:wc.cell? ⟨gb836,0,none⟩=some (.slice none 0 0):=(blk_cell BK836.out 0).trans rfl
    have hcz40_1:wc.cell? ⟨gb836,1,none⟩=some (.slice none 0 0):=(blk_cell BK836.out 1).trans rfl
    have hcz40_2:wc.cell? ⟨gb836,2,none⟩=some (.slice none 0 0):=(blk_cell BK836.out 2).trans rfl
    have hfz40_0:=blk_frozen BK836.out 0
    have hfz40_1:=blk_frozen BK836.out 1
    have hfz40_2:=blk_frozen BK836.out 2
    go_wp2
    refine bodyPost_ret (results_ct rfl _ _ gb836 33 #[.slice Ao9 t838.length co9,.slice Ao13 t841.length co13,.slice Ao14 t844.length co14] (0,0) _ rfl (by(with_reducible repeat(first|refine blk_drewN ?_ _|refine blk_drew ?_ |refine blk_alloc ?_ _));refine blk_put (cs:= #[.slice Ao9 t838.length co9,.slice Ao13 t841.length co13,.slice none 0 0]) ?_ 2 _ rfl;(with_reducible repeat(first|refine blk_drewN ?_ _|refine blk_drew ?_ |refine blk_alloc ?_ _));refine blk_put (cs:= #[.slice Ao9 t838.length co9,.slice none 0 0,.slice none 0 0]) ?_ 1 _ rfl;(with_reducible repeat(first|refine blk_drewN ?_ _|refine blk_drew ?_ |refine blk_alloc ?_ _));refine blk_put (cs:= #[.slice none 0 0,.slice none 0 0,.slice none 0 0]) ?_ 0 _ rfl;(with_reducible repeat(first|refine blk_drewN ?_ _|refine blk_drew ?_ |refine blk_alloc ?_ _));exact BK836.out) Try.underlying33 rfl (by kernel_rfl)) rfl ?_
    exact⟨_,_,_,_,zer,by(with_reducible repeat(first|apply Kd.S_alloc|apply Kd.S_drewN|apply Kd.S_drew));exact Kd.S_mono (Kd.S_far (p:=⟨gb836,2,none⟩) (Kd.S_far (p:=⟨gb836,1,none⟩) (Kd.S_far (p:=⟨gb836,0,none⟩) (Kd.S_types HO_850000.out BK836.out (by decide)) (fun _ hk=>hk.2) (.slice Ao9 t838.length co9)) (fun _ hk=>hk.2) (.slice Ao13 t841.length co13)) (fun _ hk=>hk.2) (.slice Ao14 t844.length co14)) (fun _ hk=>⟨hk.1.2.1,⟨hk.1.2.2,hk.1.1⟩⟩),by(with_reducible repeat(first|apply Kd.S_alloc|apply Kd.S_drewN|apply Kd.S_drew));exact Kd.S_mono (Kd.S_far (p:=⟨gb836,2,none⟩) (Kd.S_far (p:=⟨gb836,1,none⟩) (Kd.S_far (p:=⟨gb836,0,none⟩) (Kd.S_types HO_850001.out BK836.out (by decide)) (fun _ hk=>hk.2) (.slice Ao9 t838.length co9)) (fun _ hk=>hk.2) (.slice Ao13 t841.length co13)) (fun _ hk=>hk.2) (.slice Ao14 t844.length co14)) (fun _ hk=>⟨hk.1.2.1,⟨hk.1.2.2,hk.1.1⟩⟩),by(with_reducible repeat(first|apply Kd.R_alloc|apply Kd.R_drewN|apply Kd.R_drew));exact Kd.R_mono (Kd.R_far (p:=⟨gb836,2,none⟩) (Kd.R_far (p:=⟨gb836,1,none⟩) (Kd.R_far (p:=⟨gb836,0,none⟩) (Kd.R_types HO_850002.out BK836.out (by decide)) (fun _ hk=>hk.2) (.slice Ao9 t838.length co9)) (fun _ hk=>hk.2) (.slice Ao13 t841.length co13)) (fun _ hk=>hk.2) (.slice Ao14 t844.length co14)) (fun _ hk=>hk.1),by(with_reducible repeat(first|apply Kd.R_alloc|apply Kd.R_drewN|apply Kd.R_drew));exact Kd.R_mono (Kd.R_far (p:=⟨gb836,2,none⟩) (Kd.R_far (p:=⟨gb836,1,none⟩) (Kd.R_far (p:=⟨gb836,0,none⟩) (Kd.R_types HO_6.out BK836.out (by decide)) (fun _ hk=>hk.2) (.slice Ao9 t838.length co9)) (fun _ hk=>hk.2) (.slice Ao13 t841.length co13)) (fun _ hk=>hk.2) (.slice Ao14 t844.length co14)) (fun _ hk=>hk.1),by exact zk6 HB (IsS71.ge HI837.out) GE836.out GE849.out⟩
def spec_DrawBlockingIn.f (k:Nat) (l0:List Int):Option ((List (List Int)) × (List (List Int)) × List Int × List Int):=(spec_DrawGoodMatch.f k l0).bind fun bt864=>(some (bt864.1,bt864.2.1,bt864.2.2.1,bt864.2.2.2))
set_option maxHeartbeats 8000000 in
set_option maxRecDepth 100000 in
theorem spec_DrawBlockingIn.calls (k:Nat) (A0:Option Addr) (c0:Nat) (l0:List Int) (r1:List (List Int)) (r2:List (List Int)) (r3:List Int) (r4:List Int) (w:World) (hr0:Kd.C (Kd.int .u8) w A0 l0.length l0) (hc0:l0.length≤c0) (h:spec_DrawBlockingIn.f k l0=some (r1,r2,r3,r4)):
  Calls Try.prog 37 #[.slice A0 l0.length c0] w fun e w'=> ∃ v0_ v1_ v2_ v3_:Value,e= .returned (.tuple #[.agg #[v0_,v1_,v2_],v3_])∧Kd.S (Kd.slice 3 (Kd.int .i64)) 22 w' w.heap.size (fun k_=>some k_≠ (v1_:Value).ownBlock∧some k_≠ (v2_:Value).ownBlock∧some k_≠ (v3_:Value).ownBlock) v0_ r1∧Kd.S (Kd.slice 3 (Kd.int .i64)) 22 w' w.heap.size (fun k_=>some k_≠ (v0_:Value).ownBlock∧some k_≠ (v2_:Value).ownBlock∧some k_≠ (v3_:Value).ownBlock) v1_ r2∧Kd.R (Kd.int .i64) 3 w' w.heap.size (fun k_=>some k_≠ (v3_:Value).ownBlock) v2_ r3∧Kd.R (Kd.int .i64) 3 w' w.heap.size (fun k_=>some k_≠ (v2_:Value).ownBlock) v3_ r4∧Below w.heap.size w w':=by
 have hu33:=Try.underlying33
 have HR0:=Aside0.mk hr0
 have HC0:=Aside0.mk hc0
 clear hr0 hc0
 have HB:=Aside0.mk (Below.refl w.heap.size w)
 have H:((spec_DrawGoodMatch.f k l0).bind fun bt864=>(some (bt864.1,bt864.2.1,bt864.2.2.1,bt864.2.2.2)))=some (r1,r2,r3,r4):=h
 clear h
 replace H:=Option.bind_eq_some_iff.mp H
 obtain⟨⟨t864,t867,t870,t873⟩,A20,H⟩:=H
 replace H:(some (t864,t867,t870,t873))=some (r1,r2,r3,r4):=H
 have A2:=Aside0.mk A20
 clear A20
 simp only [Option.some.injEq,Prod.mk.injEq] at H
 obtain⟨rfl,rfl,rfl,rfl⟩:=H
 go_enter Try.func37,Try.ntmps37
 go_wp2_with (first|((with_reducible refine gate_dst (N:=2) rfl ?_);refine box_event ?hg (N:=2) ?hd (cs:= #[.slice none 0 0,.slice none 0 0,.slice none 0 0]) (t:=33) ?hr ?_;(case hd=>rfl);(case hg=>rfl);(case hr=>first|(go_simp;done)|(go_simp;rfl));intro gb863 hg w3 hbox hb;have BK863:=Aside0.mk (hbox);have GW863:=Aside0.mk ((by rw [hg];exact(below_size (by exact zk1 HB)):w.heap.size≤gb863));have GE863:=GW863;replace HB:=Aside0.mk (below_step (by exact zk1 HB) hb);clear hb hbox hg)|((with_reducible refine gate_callee (f:=41) rfl ?_);refine goesL_ (some 5) rfl rfl Try.func41 (by kernel_rfl) rfl #[.slice A0 l0.length c0] rfl zq2 ?_;(with_reducible refine(spec_DrawGoodMatch.calls k _ _ l0 t864 t867 t870 t873 _ ?side1 ?side2 A2.out).mono ?_);(case side1=>exact zcc ((Kd.C_below HR0.out HB.out)));(case side2=>exact HC0.out);rintro e w4 ⟨v865,v868,v871,v874,rfl,ho0,ho1,ho2,ho3,hb⟩;refine⟨_,rfl,?_⟩;have HO866:=Aside0.mk (Kd.S_lower ho0 (below_size (by exact zk2 HB GE863.out)));have HO869:=Aside0.mk (Kd.S_lower ho1 (below_size (by exact zk2 HB GE863.out)));have HO872:=Aside0.mk (Kd.R_lower ho2 (below_size (by exact zk2 HB GE863.out)));have HO875:=Aside0.mk (Kd.R_lower ho3 (below_size (by exact zk2 HB GE863.out)));replace BK863:=Aside0.mk (blk_below (g:=gb863) (o:= .cells #[.slice none 0 0,.slice none 0 0,.slice none 0 0] 33 (0,0)) (zq3 BK863) hb);replace HB:=Aside0.mk (below_step (by exact zk2 HB GE863.out) hb);(try clear hb);(try clear hb2);(try clear hk);(try clear hi);(try clear ho0);(try clear ho1);(try clear ho2);(try clear ho3);obtain⟨Ao5,co5,eo5⟩:=Kd.S_slice HO866.out;subst eo5;have hcz6_0:=zcz BK863 0 (.slice none 0 0);have hcz6_1:=zcz BK863 1 (.slice none 0 0);have hcz6_2:=zcz BK863 2 (.slice none 0 0);have hfz6_0:=blk_frozen BK863.out 0;have hfz6_1:=blk_frozen BK863.out 1;have hfz6_2:=blk_frozen BK863.out 2;obtain⟨Ao7,co7,eo7⟩:=Kd.S_slice HO869.out;subst eo7;obtain⟨Ao8,co8,eo8⟩:=Kd.R_slice HO872.out;subst eo8))
 refine bodyPost_ret (results_ct rfl _ _ gb863 33 #[.slice Ao5 t864.length co5,.slice Ao7 t867.length co7,.slice Ao8 t870.length co8] (0,0) _ rfl (by(with_reducible repeat(first|refine blk_drewN ?_ _|refine blk_drew ?_ |refine blk_alloc ?_ _));refine blk_put (cs:= #[.slice Ao5 t864.length co5,.slice Ao7 t867.length co7,.slice none 0 0]) ?_ 2 _ rfl;(with_reducible repeat(first|refine blk_drewN ?_ _|refine blk_drew ?_ |refine blk_alloc ?_ _));refine blk_put (cs:= #[.slice Ao5 t864.length co5,.slice none 0 0,.slice none 0 0]) ?_ 1 _ rfl;(with_reducible repeat(first|refine blk_drewN ?_ _|refine blk_drew ?_ |refine blk_alloc ?_ _));refine blk_put (cs:= #[.slice none 0 0,.slice none 0 0,.slice none 0 0]) ?_ 0 _ rfl;(with_reducible repeat(first|refine blk_drewN ?_ _|refine blk_drew ?_ |refine blk_alloc ?_ _));exact BK863.out) Try.underlying33 rfl (by kernel_rfl)) rfl ?_
 exact⟨_,_,_,_,zer,by(with_reducible repeat(first|apply Kd.S_alloc|apply Kd.S_drewN|apply Kd.S_drew));exact Kd.S_mono (Kd.S_far (p:=⟨gb863,2,none⟩) (Kd.S_far (p:=⟨gb863,1,none⟩) (Kd.S_far (p:=⟨gb863,0,none⟩) (Kd.S_types HO866.out BK863.out (by decide)) (fun _ hk=>hk.2) (.slice Ao5 t864.length co5)) (fun _ hk=>hk.2) (.slice Ao7 t867.length co7)) (fun _ hk=>hk.2) (.slice Ao8 t870.length co8)) (fun _ hk=>⟨hk.1.1,⟨hk.1.2.1,hk.1.2.2⟩⟩),by(with_reducible repeat(first|apply Kd.S_alloc|apply Kd.S_drewN|apply Kd.S_drew));exact Kd.S_mono (Kd.S_far (p:=⟨gb863,2,none⟩) (Kd.S_far (p:=⟨gb863,1,none⟩) (Kd.S_far (p:=⟨gb863,0,none⟩) (Kd.S_types HO869.out BK863.out (by decide)) (fun _ hk=>hk.2) (.slice Ao5 t864.length co5)) (fun _ hk=>hk.2) (.slice Ao7 t867.length co7)) (fun _ hk=>hk.2) (.slice Ao8 t870.length co8)) (fun _ hk=>⟨hk.1.1,⟨hk.1.2.1,hk.1.2.2⟩⟩),by(with_reducible repeat(first|apply Kd.R_alloc|apply Kd.R_drewN|apply Kd.R_drew));exact Kd.R_mono (Kd.R_far (p:=⟨gb863,2,none⟩) (Kd.R_far (p:=⟨gb863,1,none⟩) (Kd.R_far (p:=⟨gb863,0,none⟩) (Kd.R_types HO872.out BK863.out (by decide)) (fun _ hk=>hk.2) (.slice Ao5 t864.length co5)) (fun _ hk=>hk.2) (.slice Ao7 t867.length co7)) (fun _ hk=>hk.2) (.slice Ao8 t870.length co8)) (fun _ hk=>hk.1),by(with_reducible repeat(first|apply Kd.R_alloc|apply Kd.R_drewN|apply Kd.R_drew));exact Kd.R_mono (Kd.R_far (p:=⟨gb863,2,none⟩) (Kd.R_far (p:=⟨gb863,1,none⟩) (Kd.R_far (p:=⟨gb863,0,none⟩) (Kd.R_types HO875.out BK863.out (by decide)) (fun _ hk=>hk.2) (.slice Ao5 t864.length co5)) (fun _ hk=>hk.2) (.slice Ao7 t867.length co7)) (fun _ hk=>hk.2) (.slice Ao8 t870.length co8)) (fun _ hk=>hk.1),by exact zk2 HB GE863.out⟩
def laws_sameInts.l0:Nat→List Int→List Int→Int→Int→Option (Bool)
 | 0,_,_,_,_=>none
 |k+1,x0,x1,x12,x13=>if x13<x12 then(if 0≤x13 then(if x13< (x0.length:Int) then(if x13< (x1.length:Int) then(if (rd x0 x13)= (rd x1 x13) then(laws_sameInts.l0 k x0 x1 x12 (wrap64 (x13+1))) else(some false)) else(none)) else(none)) else(none)) else(some true)
def laws_sameInts.f (k:Nat) (l0:List Int) (l1:List Int):Option (Bool):=if (l0.length:Int)= (l1.length:Int) then(laws_sameInts.l0 k l0 l1 (l0.length:Int) 0) else(some false)
set_option maxHeartbeats 8000000 in
set_option maxRecDepth 100000 in
theorem laws_sameInts.calls (k:Nat) (A0:Option Addr) (c0:Nat) (l0:List Int) (A1:Option Addr) (c1:Nat) (l1:List Int) (r:Bool) (w:World) (hr0:Kd.C (Kd.int .i64) w A0 l0.length l0) (hc0:l0.length≤c0) (hr1:Kd.C (Kd.int .i64) w A1 l1.length l1) (hc1:l1.length≤c1) (h:laws_sameInts.f k l0 l1=some r):
  Calls Try.prog 38 #[.slice A0 l0.length c0,.slice A1 l1.length c1] w fun e w'=>e= .returned (.bool r)∧Drawn0 w w':=by
 have HR0:=Aside0.mk hr0
 have HC0:=Aside0.mk hc0
 clear hr0 hc0
 have HR1:=Aside0.mk hr1
 have HC1:=Aside0.mk hc1
 clear hr1 hc1
 have H:(if (l0.length:Int)= (l1.length:Int) then(laws_sameInts.l0 k l0 l1 (l0.length:Int) 0) else(some false))=some r:=h
 clear h
 by_cases c3:(l0.length:Int)= (l1.length:Int)
 ·rw [if_pos c3] at H
  have c3b0:((l0.length:Int)== (l1.length:Int))=true:=beq_iff_eq.mpr c3
  have c3b1:((l0.length:Int) != (l1.length:Int))=false:=bne_eq_false_iff_eq.mpr c3
  have c3b2:(l0.length==l1.length)=true:=by first|simpa using c3|(simp at c3 ⊢;omega)
  clear c3
  have H':=Aside0.mk H
  clear H
  go_enter Try.func38,Try.ntmps38
  go_wp2
  repeat(go_quiet (fail);try go_wp2)
  go_loopg [13] k (fun kq v13 w'=> ∃ (x13_1:Int),v13= .int .i64 x13_1∧Aside0 (laws_sameInts.l0 kq l0 l1 (l0.length:Int) x13_1=some r)∧Aside0 (kq≤k)∧Drawn0 w w')
  case atStart=>exact⟨(0),zrs,H',⟨Nat.le_refl _⟩,by repeat(first|exact Drawn0.refl _|apply Drawn0.step)⟩
  case round=>
   clear H'
   try clear c1
   try clear p2
   try clear c3
   try clear c3b0
   try clear c3b1
   try clear c3b2
   obtain⟨x13_1,rfl,HA,HK1,⟨m1,rfl⟩⟩:=hrel
   cases gk with
   |zero=>exact absurd HA.out (by simp [laws_sameInts.l0])
   |succ k1=>
    have H:=HA.out
    clear HA
    simp only [laws_sameInts.l0] at H
    by_cases c4:x13_1< (l0.length:Int)
    ·rw [if_pos c4] at H
     have c4b0:decide (x13_1< (l0.length:Int))=true:=decide_eq_true c4
     clear c4
     by_cases c5: 0≤x13_1
     case neg=>exact znn c5 H
     rw [if_pos c5] at H
     have c5b0:decide (0≤x13_1)=true:=decide_eq_true c5
     clear c5
     by_cases c6:x13_1< (l0.length:Int)
     case neg=>exact znn c6 H
     rw [if_pos c6] at H
     have c6b0:decide (x13_1< (l0.length:Int))=true:=decide_eq_true c6
     clear c6
     by_cases c7:x13_1< (l1.length:Int)
     case neg=>exact znn c7 H
     rw [if_pos c7] at H
     have c7b0:decide (x13_1< (l1.length:Int))=true:=decide_eq_true c7
     clear c7
     by_cases c8:(rd l0 x13_1)= (rd l1 x13_1)
     ·rw [if_pos c8] at H
      have c8b0:((rd l0 x13_1)== (rd l1 x13_1))=true:=beq_iff_eq.mpr c8
      have c8b1:((rd l0 x13_1) != (rd l1 x13_1))=false:=bne_eq_false_iff_eq.mpr c8
      clear c8
      have H':=Aside0.mk H
      clear H
      have p876: 0≤ (x13_1:Int):=of_decide_eq_true zq1
      have q876:x13_1< (l0.length:Int):=of_decide_eq_true zq1
      obtain⟨ad876,e876,hx876_0⟩:=Kd.at_int HR0.out x13_1 p876 q876
      cases e876
      replace p876:=eq_true p876
      replace q876:=eq_true q876
      have p877: 0≤ (x13_1:Int):=of_decide_eq_true zq1
      have q877:x13_1< (l1.length:Int):=of_decide_eq_true zq1
      obtain⟨ad877,e877,hx877_0⟩:=Kd.at_int HR1.out x13_1 p877 q877
      cases e877
      replace p877:=eq_true p877
      replace q877:=eq_true q877
      go_wp2
      repeat(go_quiet (fail);try go_wp2)
      go_roundg k1
      case measure=>have:=HK1.out;omega
      case rel=>exact⟨(wrap64 (x13_1+1)),zrs,H',⟨by have:=HK1.out;omega⟩,by repeat(first|exact Drawn0.refl _|apply Drawn0.step)⟩
     ·rw [if_neg c8] at H
      have c8b0:((rd l0 x13_1)== (rd l1 x13_1))=false:=beq_eq_false_iff_ne.mpr c8
      have c8b1:((rd l0 x13_1) != (rd l1 x13_1))=true:=bne_iff_ne.mpr c8
      obtain rfl:=Option.some.inj H
      have p876: 0≤ (x13_1:Int):=of_decide_eq_true zq1
      have q876:x13_1< (l0.length:Int):=of_decide_eq_true zq1
      obtain⟨ad876,e876,hx876_0⟩:=Kd.at_int HR0.out x13_1 p876 q876
      cases e876
      replace p876:=eq_true p876
      replace q876:=eq_true q876
      have p877: 0≤ (x13_1:Int):=of_decide_eq_true zq1
      have q877:x13_1< (l1.length:Int):=of_decide_eq_true zq1
      obtain⟨ad877,e877,hx877_0⟩:=Kd.at_int HR1.out x13_1 p877 q877
      cases e877
      replace p877:=eq_true p877
      replace q877:=eq_true q877
      go_wp2
      repeat(go_quiet (fail);try go_wp2)
      go_ret
      exact⟨by first|rfl|(simp;done)|(simp [*];done),by repeat(first|exact Drawn0.refl _|apply Drawn0.step)⟩
    ·rw [if_neg c4] at H
     have c4b0:decide (x13_1< (l0.length:Int))=false:=decide_eq_false c4
     clear c4
     obtain rfl:=Option.some.inj H
     go_wp2
     repeat(go_quiet (fail);try go_wp2)
     go_ret
     exact⟨by first|rfl|(simp;done)|(simp [*];done),by repeat(first|exact Drawn0.refl _|apply Drawn0.step)⟩
 ·rw [if_neg c3] at H
  have c3b0:((l0.length:Int)== (l1.length:Int))=false:=beq_eq_false_iff_ne.mpr c3
  have c3b1:((l0.length:Int) != (l1.length:Int))=true:=bne_iff_ne.mpr c3
  have c3b2:(l0.length==l1.length)=false:=by first|simpa using c3|(simp at c3 ⊢;omega)
  obtain rfl:=Option.some.inj H
  go_enter Try.func38,Try.ntmps38
  go_wp2
  repeat(go_quiet (fail);try go_wp2)
  go_ret
  exact⟨by first|rfl|(simp;done)|(simp [*];done),by repeat(first|exact Drawn0.refl _|apply Drawn0.step)⟩
def spec_DrawPlaceOf.f (k:Nat) (l0:List Int):Option (List Int × Int):=(spec_l1Cur_pick.f l0 0 0 8).bind fun bt879=>((spec_l1Cur_mixed.f k l0 bt879.2.1 bt879.2.2 bt879.1).bind fun bt882=>((spec_l1Cur_pick.f l0 bt882.2.1 bt882.2.2 8).bind fun bt887=>(some (bt882.1,bt887.1))))
set_option maxHeartbeats 8000000 in
set_option maxRecDepth 100000 in
theorem spec_DrawPlaceOf.calls (k:Nat) (A0:Option Addr) (c0:Nat) (l0:List Int) (r1:List Int) (r2:Int) (w:World) (hr0:Kd.C (Kd.int .u8) w A0 l0.length l0) (hc0:l0.length≤c0) (h:spec_DrawPlaceOf.f k l0=some (r1,r2)):
  Calls Try.prog 39 #[.slice A0 l0.length c0] w fun e w'=> ∃ v0_:Value,e= .returned (.tuple #[v0_,.int .i64 r2])∧Kd.R (Kd.int .i64) 3 w' w.heap.size (fun _=>True) v0_ r1∧Below w.heap.size w w':=by
 have hu71:=Try.underlying71
 have HR0:=Aside0.mk hr0
 have HC0:=Aside0.mk hc0
 clear hr0 hc0
 have HB:=Aside0.mk (Below.refl w.heap.size w)
 have H:((spec_l1Cur_pick.f l0 0 0 8).bind fun bt879=>((spec_l1Cur_mixed.f k l0 bt879.2.1 bt879.2.2 bt879.1).bind fun bt882=>((spec_l1Cur_pick.f l0 bt882.2.1 bt882.2.2 8).bind fun bt887=>(some (bt882.1,bt887.1)))))=some (r1,r2):=h
 clear h
 replace H:=Option.bind_eq_some_iff.mp H
 obtain⟨⟨t879,t880,t881⟩,A20,H⟩:=H
 replace H:((spec_l1Cur_mixed.f k l0 t880 t881 t879).bind fun bt882=>((spec_l1Cur_pick.f l0 bt882.2.1 bt882.2.2 8).bind fun bt887=>(some (bt882.1,bt887.1))))=some (r1,r2):=H
 have A2:=Aside0.mk A20
 clear A20
 replace H:=Option.bind_eq_some_iff.mp H
 obtain⟨⟨t882,t885,t886⟩,A30,H⟩:=H
 replace H:((spec_l1Cur_pick.f l0 t885 t886 8).bind fun bt887=>(some (t882,bt887.1)))=some (r1,r2):=H
 have A3:=Aside0.mk A30
 clear A30
 replace H:=Option.bind_eq_some_iff.mp H
 obtain⟨⟨t887,t888,t889⟩,A40,H⟩:=H
 replace H:(some (t882,t887))=some (r1,r2):=H
 have A4:=Aside0.mk A40
 clear A40
 simp only [Option.some.injEq,Prod.mk.injEq] at H
 obtain⟨rfl,rfl⟩:=H
 go_enter Try.func39,Try.ntmps39
 go_wp2_with (first|((with_reducible refine gate_dst (N:=7) rfl ?_);refine box_event ?hg (N:=7) ?hd (cs:= #[.slice A0 l0.length c0,.int .i64 0,.int .u64 0]) (t:=71) ?hr ?_;(case hd=>rfl);(case hg=>rfl);(case hr=>first|(go_simp;done)|(go_simp;rfl));intro gb878 hg w5 hbox hb;have GW878:=Aside0.mk ((by rw [hg];exact(below_size (by exact zk1 HB)):w.heap.size≤gb878));have GE878:=GW878;have HI878:=Aside0.mk ((show IsS71 w _ gb878 l0 0 0 from ⟨_,_,hbox,(by rw [hg];exact(below_size (by exact zk1 HB)):w.heap.size≤gb878),HR0.out⟩));replace HB:=Aside0.mk (below_step (by exact zk1 HB) hb);clear hb hbox hg)|((with_reducible refine gate_callee (f:=65) rfl ?_);refine goesL_ (some 10) rfl rfl Try.func65 (by kernel_rfl) rfl #[.pointer (some ⟨gb878,0,none⟩),.int .i64 8] rfl zq2 ?_;(with_reducible refine(spec_l1Cur_pick.calls gb878 l0 0 0 8 t879 t880 t881 w _ ?side1 ?side2 A2.out).mono ?_);(case side1=>exact zk3 HI878);(case side2=>exact zk2 HB (IsS71.ge HI878.out));rintro e w6 ⟨rfl,hi,hb,hk⟩;refine⟨_,rfl,?_⟩;replace HB:=Aside0.mk (hb);replace HI878:=Aside0.mk (hi);(try clear hb);(try clear hb2);(try clear hk);(try clear hi))|((with_reducible refine gate_callee (f:=64) rfl ?_);refine goesL_ (some 11) rfl rfl Try.func64 (by kernel_rfl) rfl #[.pointer (some ⟨gb878,0,none⟩),.int .i64 t879] rfl zq2 ?_;(with_reducible refine(spec_l1Cur_mixed.calls k gb878 l0 t880 t881 t879 t882 t885 t886 w _ ?side1 ?side2 A3.out).mono ?_);(case side1=>exact zk3 HI878);(case side2=>exact zk2 HB (IsS71.ge HI878.out));rintro e w7 ⟨v883,rfl,ho0,hi,hb,hk⟩;refine⟨_,rfl,?_⟩;have HO884:=Aside0.mk (Kd.R_lower ho0 (below_size (by exact zk2 HB (IsS71.ge HI878.out))));replace HB:=Aside0.mk (hb);replace HI878:=Aside0.mk (hi);(try clear hb);(try clear hb2);(try clear hk);(try clear hi);(try clear ho0))|((with_reducible refine gate_callee (f:=65) rfl ?_);refine goesL_ (some 13) rfl rfl Try.func65 (by kernel_rfl) rfl #[.pointer (some ⟨gb878,0,none⟩),.int .i64 8] rfl zq2 ?_;(with_reducible refine(spec_l1Cur_pick.calls gb878 l0 t885 t886 8 t887 t888 t889 w _ ?side1 ?side2 A4.out).mono ?_);(case side1=>exact zk3 HI878);(case side2=>exact zk2 HB (IsS71.ge HI878.out));rintro e w8 ⟨rfl,hi,hb,hk⟩;refine⟨_,rfl,?_⟩;replace HO884:=Aside0.mk (Kd.R_mono (Kd.R_keep (IsS71.apart (show IsS71 w _ gb878 l0 t885 t886 from by exact zk3 HI878) (zq4 HO884) (by decide)) hk (fun _ h=>h.2)) (fun _ h=>h.1));replace HB:=Aside0.mk (hb);replace HI878:=Aside0.mk (hi);(try clear hb);(try clear hb2);(try clear hk);(try clear hi)))
 go_ret2
 exact⟨_,zer,zdr HO884,by exact zk2 HB (IsS71.ge HI878.out)⟩
def spec_DrawRanksOf.f (k:Nat) (l0:List Int):Option ((List (List Int)) × (List (List Int)) × List Int × List Int):=(spec_DrawGoodMatch.f k l0).bind fun bt891=>(some (bt891.1,bt891.2.1,bt891.2.2.1,bt891.2.2.2))
set_option maxHeartbeats 8000000 in
set_option maxRecDepth 100000 in
theorem spec_DrawRanksOf.calls (k:Nat) (A0:Option Addr) (c0:Nat) (l0:List Int) (r1:List (List Int)) (r2:List (List Int)) (r3:List Int) (r4:List Int) (w:World) (hr0:Kd.C (Kd.int .u8) w A0 l0.length l0) (hc0:l0.length≤c0) (h:spec_DrawRanksOf.f k l0=some (r1,r2,r3,r4)):
  Calls Try.prog 40 #[.slice A0 l0.length c0] w fun e w'=> ∃ v0_ v1_ v2_ v3_:Value,e= .returned (.tuple #[.agg #[v0_,v1_,v2_],v3_])∧Kd.S (Kd.slice 3 (Kd.int .i64)) 22 w' w.heap.size (fun k_=>some k_≠ (v1_:Value).ownBlock∧some k_≠ (v2_:Value).ownBlock∧some k_≠ (v3_:Value).ownBlock) v0_ r1∧Kd.S (Kd.slice 3 (Kd.int .i64)) 22 w' w.heap.size (fun k_=>some k_≠ (v0_:Value).ownBlock∧some k_≠ (v2_:Value).ownBlock∧some k_≠ (v3_:Value).ownBlock) v1_ r2∧Kd.R (Kd.int .i64) 3 w' w.heap.size (fun k_=>some k_≠ (v3_:Value).ownBlock) v2_ r3∧Kd.R (Kd.int .i64) 3 w' w.heap.size (fun k_=>some k_≠ (v2_:Value).ownBlock) v3_ r4∧Below w.heap.size w w':=by
 have hu33:=Try.underlying33
 have HR0:=Aside0.mk hr0
 have HC0:=Aside0.mk hc0
 clear hr0 hc0
 have HB:=Aside0.mk (Below.refl w.heap.size w)
 have H:((spec_DrawGoodMatch.f k l0).bind fun bt891=>(some (bt891.1,bt891.2.1,bt891.2.2.1,bt891.2.2.2)))=some (r1,r2,r3,r4):=h
 clear h
 replace H:=Option.bind_eq_some_iff.mp H
 obtain⟨⟨t891,t894,t897,t900⟩,A20,H⟩:=H
 replace H:(some (t891,t894,t897,t900))=some (r1,r2,r3,r4):=H
 have A2:=Aside0.mk A20
 clear A20
 simp only [Option.some.injEq,Prod.mk.injEq] at H
 obtain⟨rfl,rfl,rfl,rfl⟩:=H
 go_enter Try.func40,Try.ntmps40
 go_wp2_with (first|((with_reducible refine gate_dst (N:=2) rfl ?_);refine box_event ?hg (N:=2) ?hd (cs:= #[.slice none 0 0,.slice none 0 0,.slice none 0 0]) (t:=33) ?hr ?_;(case hd=>rfl);(case hg=>rfl);(case hr=>first|(go_simp;done)|(go_simp;rfl));intro gb890 hg w3 hbox hb;have BK890:=Aside0.mk (hbox);have GW890:=Aside0.mk ((by rw [hg];exact(below_size (by exact zk1 HB)):w.heap.size≤gb890));have GE890:=GW890;replace HB:=Aside0.mk (below_step (by exact zk1 HB) hb);clear hb hbox hg)|((with_reducible refine gate_callee (f:=41) rfl ?_);refine goesL_ (some 5) rfl rfl Try.func41 (by kernel_rfl) rfl #[.slice A0 l0.length c0] rfl zq2 ?_;(with_reducible refine(spec_DrawGoodMatch.calls k _ _ l0 t891 t894 t897 t900 _ ?side1 ?side2 A2.out).mono ?_);(case side1=>exact zcc ((Kd.C_below HR0.out HB.out)));(case side2=>exact HC0.out);rintro e w4 ⟨v892,v895,v898,v901,rfl,ho0,ho1,ho2,ho3,hb⟩;refine⟨_,rfl,?_⟩;have HO893:=Aside0.mk (Kd.S_lower ho0 (below_size (by exact zk2 HB GE890.out)));have HO896:=Aside0.mk (Kd.S_lower ho1 (below_size (by exact zk2 HB GE890.out)));have HO899:=Aside0.mk (Kd.R_lower ho2 (below_size (by exact zk2 HB GE890.out)));have HO902:=Aside0.mk (Kd.R_lower ho3 (below_size (by exact zk2 HB GE890.out)));replace BK890:=Aside0.mk (blk_below (g:=gb890) (o:= .cells #[.slice none 0 0,.slice none 0 0,.slice none 0 0] 33 (0,0)) (zq3 BK890) hb);replace HB:=Aside0.mk (below_step (by exact zk2 HB GE890.out) hb);(try clear hb);(try clear hb2);(try clear hk);(try clear hi);(try clear ho0);(try clear ho1);(try clear ho2);(try clear ho3);obtain⟨Ao5,co5,eo5⟩:=Kd.S_slice HO893.out;subst eo5;have hcz6_0:=zcz BK890 0 (.slice none 0 0);have hcz6_1:=zcz BK890 1 (.slice none 0 0);have hcz6_2:=zcz BK890 2 (.slice none 0 0);have hfz6_0:=blk_frozen BK890.out 0;have hfz6_1:=blk_frozen BK890.out 1;have hfz6_2:=blk_frozen BK890.out 2;obtain⟨Ao7,co7,eo7⟩:=Kd.S_slice HO896.out;subst eo7;obtain⟨Ao8,co8,eo8⟩:=Kd.R_slice HO899.out;subst eo8))
 refine bodyPost_ret (results_ct rfl _ _ gb890 33 #[.slice Ao5 t891.length co5,.slice Ao7 t894.length co7,.slice Ao8 t897.length co8] (0,0) _ rfl (by(with_reducible repeat(first|refine blk_drewN ?_ _|refine blk_drew ?_ |refine blk_alloc ?_ _));refine blk_put (cs:= #[.slice Ao5 t891.length co5,.slice Ao7 t894.length co7,.slice none 0 0]) ?_ 2 _ rfl;(with_reducible repeat(first|refine blk_drewN ?_ _|refine blk_drew ?_ |refine blk_alloc ?_ _));refine blk_put (cs:= #[.slice Ao5 t891.length co5,.slice none 0 0,.slice none 0 0]) ?_ 1 _ rfl;(with_reducible repeat(first|refine blk_drewN ?_ _|refine blk_drew ?_ |refine blk_alloc ?_ _));refine blk_put (cs:= #[.slice none 0 0,.slice none 0 0,.slice none 0 0]) ?_ 0 _ rfl;(with_reducible repeat(first|refine blk_drewN ?_ _|refine blk_drew ?_ |refine blk_alloc ?_ _));exact BK890.out) Try.underlying33 rfl (by kernel_rfl)) rfl ?_
 exact⟨_,_,_,_,zer,by(with_reducible repeat(first|apply Kd.S_alloc|apply Kd.S_drewN|apply Kd.S_drew));exact Kd.S_mono (Kd.S_far (p:=⟨gb890,2,none⟩) (Kd.S_far (p:=⟨gb890,1,none⟩) (Kd.S_far (p:=⟨gb890,0,none⟩) (Kd.S_types HO893.out BK890.out (by decide)) (fun _ hk=>hk.2) (.slice Ao5 t891.length co5)) (fun _ hk=>hk.2) (.slice Ao7 t894.length co7)) (fun _ hk=>hk.2) (.slice Ao8 t897.length co8)) (fun _ hk=>⟨hk.1.1,⟨hk.1.2.1,hk.1.2.2⟩⟩),by(with_reducible repeat(first|apply Kd.S_alloc|apply Kd.S_drewN|apply Kd.S_drew));exact Kd.S_mono (Kd.S_far (p:=⟨gb890,2,none⟩) (Kd.S_far (p:=⟨gb890,1,none⟩) (Kd.S_far (p:=⟨gb890,0,none⟩) (Kd.S_types HO896.out BK890.out (by decide)) (fun _ hk=>hk.2) (.slice Ao5 t891.length co5)) (fun _ hk=>hk.2) (.slice Ao7 t894.length co7)) (fun _ hk=>hk.2) (.slice Ao8 t897.length co8)) (fun _ hk=>⟨hk.1.1,⟨hk.1.2.1,hk.1.2.2⟩⟩),by(with_reducible repeat(first|apply Kd.R_alloc|apply Kd.R_drewN|apply Kd.R_drew));exact Kd.R_mono (Kd.R_far (p:=⟨gb890,2,none⟩) (Kd.R_far (p:=⟨gb890,1,none⟩) (Kd.R_far (p:=⟨gb890,0,none⟩) (Kd.R_types HO899.out BK890.out (by decide)) (fun _ hk=>hk.2) (.slice Ao5 t891.length co5)) (fun _ hk=>hk.2) (.slice Ao7 t894.length co7)) (fun _ hk=>hk.2) (.slice Ao8 t897.length co8)) (fun _ hk=>hk.1),by(with_reducible repeat(first|apply Kd.R_alloc|apply Kd.R_drewN|apply Kd.R_drew));exact Kd.R_mono (Kd.R_far (p:=⟨gb890,2,none⟩) (Kd.R_far (p:=⟨gb890,1,none⟩) (Kd.R_far (p:=⟨gb890,0,none⟩) (Kd.R_types HO902.out BK890.out (by decide)) (fun _ hk=>hk.2) (.slice Ao5 t891.length co5)) (fun _ hk=>hk.2) (.slice Ao7 t894.length co7)) (fun _ hk=>hk.2) (.slice Ao8 t897.length co8)) (fun _ hk=>hk.1),by exact zk2 HB GE890.out⟩
mutual
def laws_FnMatches.j0:Nat→List Int→List Int→Int→Int→Bool→Bool→Bool→List Int→Bool→Bool→List (List Int)→List (List Int)→List Int→Option (Bool)
 | 0,_,_,_,_,_,_,_,_,_,_,_,_,_=>none
 |k+1,x1,x6,x7,x8,x9,x13,x14,x17,x18,x131,x916000,x916001,x916002=>if x131=true then(some false) else(if x14=true then(laws_FnMatches.j1 k x1 x6 x7 x8 x9 x17 x18 (x13==x9) x916000 x916001 x916002) else(laws_FnMatches.j1 k x1 x6 x7 x8 x9 x17 x18 false x916000 x916001 x916002))
def laws_FnMatches.j1:Nat→List Int→List Int→Int→Int→Bool→List Int→Bool→Bool→List (List Int)→List (List Int)→List Int→Option (Bool)
 | 0,_,_,_,_,_,_,_,_,_,_,_=>none
 |k+1,x1,x6,x7,x8,x9,x17,x18,x137,x916000,x916001,x916002=>if x137=true then(some false) else(if x18=true then(laws_FnMatches.l0 k x1 x6 x7 x8 x9 0 x17 (x17.length:Int) 0 x916000 x916001 x916002) else(laws_FnMatches.j4 k x1 x6 x7 x8 x9 x916000 x916001 x916002))
def laws_FnMatches.j4:Nat→List Int→List Int→Int→Int→Bool→List (List Int)→List (List Int)→List Int→Option (Bool)
 | 0,_,_,_,_,_,_,_,_=>none
 |k+1,x1,x6,x7,x8,x9,x916000,x916001,x916002=>if x9=true then(if 0≤x7 then(if x7< (x916000.length:Int) then((impl_PlaceOf.f k (rd_L1 x916000 x7) x8).bind fun bt940=>((impl_RanksOf.f k x916000 x916001 x916002 x6).bind fun bt942=>(if bt940.2=true then(if bt942.2=true then(if x7< (bt942.1.length:Int) then(if bt940.1≥ (rd bt942.1 x7) then(some false) else(laws_FnMatches.j5 k x1)) else(none)) else(some false)) else(some false)))) else(none)) else(none)) else(laws_FnMatches.j5 k x1)
def laws_FnMatches.j5:Nat→List Int→Option (Bool)
 | 0,_=>none
 |k+1,x1=>(spec_DrawPlaceOf.f k x1).bind fun bt947=>((impl_PlaceOf.f k bt947.1 bt947.2).bind fun bt951=>((spec_PlaceOf.f k bt947.1 bt947.2).bind fun bt953=>((spec_DrawRanksOf.f k x1).bind fun bt955=>((impl_RanksOf.f k bt955.1 bt955.2.1 bt955.2.2.1 bt955.2.2.2).bind fun bt968=>((spec_RanksOf.f k bt955.1 bt955.2.1 bt955.2.2.1 bt955.2.2.2).bind fun bt972=>(if (bt951.2==bt953.2)=true then(if bt951.1=bt953.1 then(if (bt968.2==bt972.2)=true then((laws_sameInts.f k bt968.1 bt972.1).bind fun t976=>(some t976)) else(some false)) else(some false)) else(some false)))))))
def laws_FnMatches.l0:Nat→List Int→List Int→Int→Int→Bool→Int→List Int→Int→Int→List (List Int)→List (List Int)→List Int→Option (Bool)
 | 0,_,_,_,_,_,_,_,_,_,_,_,_=>none
 |k+1,x1,x6,x7,x8,x9,x21,x139,x140,x141,x916000,x916001,x916002=>if x141<x140 then(if 0≤x141 then(if x141< (x139.length:Int) then(if x141< (x916002.length:Int) then(if (rd x139 x141) > (rd x916002 x141) then(some false) else(laws_FnMatches.l0 k x1 x6 x7 x8 x9 (wrap64 (x21+ (rd x139 x141))) x139 x140 (wrap64 (x141+1)) x916000 x916001 x916002)) else(none)) else(none)) else(none)) else(laws_FnMatches.l1 k x1 x6 x7 x8 x9 x21 x6 (x6.length:Int) 0 x916000 x916001 x916002)
def laws_FnMatches.l1:Nat→List Int→List Int→Int→Int→Bool→Int→List Int→Int→Int→List (List Int)→List (List Int)→List Int→Option (Bool)
 | 0,_,_,_,_,_,_,_,_,_,_,_,_=>none
 |k+1,x1,x6,x7,x8,x9,x21,x157,x158,x159,x916000,x916001,x916002=>if x159<x158 then(if 0≤x159 then(if x159< (x157.length:Int) then(if (rd x157 x159)≥0 then(laws_FnMatches.l1 k x1 x6 x7 x8 x9 (wrap64 (x21 - 1)) x157 x158 (wrap64 (x159+1)) x916000 x916001 x916002) else(laws_FnMatches.l1 k x1 x6 x7 x8 x9 x21 x157 x158 (wrap64 (x159+1)) x916000 x916001 x916002)) else(none)) else(none)) else(if x21=0 then(laws_FnMatches.j4 k x1 x6 x7 x8 x9 x916000 x916001 x916002) else(some false))
end
def laws_FnMatches.f (k:Nat) (l0:List Int) (l1:List Int):Option (Bool):=if (wrap64 ((l0.length:Int)+ (l1.length:Int))) > 1048576 then(some true) else((spec_DrawBlockingIn.f k l0).bind fun bt903=>((impl_BlockingIn.f k bt903.1 bt903.2.1 bt903.2.2.1 bt903.2.2.2).bind fun bt916=>((spec_BlockingIn.f k bt903.1 bt903.2.1 bt903.2.2.1 bt903.2.2.2).bind fun bt919=>((impl_IsStable.f k bt903.1 bt903.2.1 bt903.2.2.1 bt903.2.2.2).bind fun bt922=>((spec_IsStable.f k bt903.1 bt903.2.1 bt903.2.2.1 bt903.2.2.2).bind fun bt924=>((impl_LoadOf.f k bt903.1 bt903.2.1 bt903.2.2.1 bt903.2.2.2).bind fun bt926=>((spec_LoadOf.f k bt903.1 bt903.2.1 bt903.2.2.1 bt903.2.2.2).bind fun bt930=>(if (bt916.2.2 !=bt919.2.2)=true then(laws_FnMatches.j0 k l1 bt903.2.2.2 bt916.1 bt916.2.1 bt916.2.2 bt922.1 bt922.2 bt926.1 bt926.2 true bt903.1 bt903.2.1 bt903.2.2.1) else(if bt916.1=bt919.1 then(if bt916.2.1=bt919.2.1 then(if (bt922.2 !=bt924.2)=true then(laws_FnMatches.j0 k l1 bt903.2.2.2 bt916.1 bt916.2.1 bt916.2.2 bt922.1 bt922.2 bt926.1 bt926.2 true bt903.1 bt903.2.1 bt903.2.2.1) else(if (bt922.1 !=bt924.1)=true then(laws_FnMatches.j0 k l1 bt903.2.2.2 bt916.1 bt916.2.1 bt916.2.2 bt922.1 bt922.2 bt926.1 bt926.2 true bt903.1 bt903.2.1 bt903.2.2.1) else(if (bt926.2 !=bt930.2)=true then(laws_FnMatches.j0 k l1 bt903.2.2.2 bt916.1 bt916.2.1 bt916.2.2 bt922.1 bt922.2 bt926.1 bt926.2 true bt903.1 bt903.2.1 bt903.2.2.1) else((laws_sameInts.f k bt926.1 bt930.1).bind fun t934=>(if t934=true then((impl_GoodMatch.f k bt903.1 bt903.2.1 bt903.2.2.1 bt903.2.2.2).bind fun t935=>(laws_FnMatches.j0 k l1 bt903.2.2.2 bt916.1 bt916.2.1 bt916.2.2 bt922.1 bt922.2 bt926.1 bt926.2 (t935 !=bt922.2) bt903.1 bt903.2.1 bt903.2.2.1)) else(laws_FnMatches.j0 k l1 bt903.2.2.2 bt916.1 bt916.2.1 bt916.2.2 bt922.1 bt922.2 bt926.1 bt926.2 true bt903.1 bt903.2.1 bt903.2.2.1)))))) else(laws_FnMatches.j0 k l1 bt903.2.2.2 bt916.1 bt916.2.1 bt916.2.2 bt922.1 bt922.2 bt926.1 bt926.2 true bt903.1 bt903.2.1 bt903.2.2.1)) else(laws_FnMatches.j0 k l1 bt903.2.2.2 bt916.1 bt916.2.1 bt916.2.2 bt922.1 bt922.2 bt926.1 bt926.2 true bt903.1 bt903.2.1 bt903.2.2.1))))))))))
set_option maxHeartbeats 8000000 in
set_option maxRecDepth 100000 in
theorem laws_FnMatches.calls (k:Nat) (A0:Option Addr) (c0:Nat) (l0:List Int) (A1:Option Addr) (c1:Nat) (l1:List Int) (r:Bool) (w:World) (hr0:Kd.C (Kd.int .u8) w A0 l0.length l0) (hc0:l0.length≤c0) (hr1:Kd.C (Kd.int .u8) w A1 l1.length l1) (hc1:l1.length≤c1) (h:laws_FnMatches.f k l0 l1=some r) (hrt:r=true:=by rfl):
  Calls Try.prog 11 #[.slice A0 l0.length c0,.slice A1 l1.length c1] w fun e w'=>e= .returned (.bool r)∧Below w.heap.size w w':=by
 have HRT:=Aside0.mk hrt
 clear hrt
 have hu33:=Try.underlying33
 have HR0:=Aside0.mk hr0
 have HC0:=Aside0.mk hc0
 clear hr0 hc0
 have HR1:=Aside0.mk hr1
 have HC1:=Aside0.mk hc1
 clear hr1 hc1
 have HB:=Aside0.mk (Below.refl w.heap.size w)
 have H:(if (wrap64 ((l0.length:Int)+ (l1.length:Int))) > 1048576 then(some true) else((spec_DrawBlockingIn.f k l0).bind fun bt903=>((impl_BlockingIn.f k bt903.1 bt903.2.1 bt903.2.2.1 bt903.2.2.2).bind fun bt916=>((spec_BlockingIn.f k bt903.1 bt903.2.1 bt903.2.2.1 bt903.2.2.2).bind fun bt919=>((impl_IsStable.f k bt903.1 bt903.2.1 bt903.2.2.1 bt903.2.2.2).bind fun bt922=>((spec_IsStable.f k bt903.1 bt903.2.1 bt903.2.2.1 bt903.2.2.2).bind fun bt924=>((impl_LoadOf.f k bt903.1 bt903.2.1 bt903.2.2.1 bt903.2.2.2).bind fun bt926=>((spec_LoadOf.f k bt903.1 bt903.2.1 bt903.2.2.1 bt903.2.2.2).bind fun bt930=>(if (bt916.2.2 !=bt919.2.2)=true then(laws_FnMatches.j0 k l1 bt903.2.2.2 bt916.1 bt916.2.1 bt916.2.2 bt922.1 bt922.2 bt926.1 bt926.2 true bt903.1 bt903.2.1 bt903.2.2.1) else(if bt916.1=bt919.1 then(if bt916.2.1=bt919.2.1 then(if (bt922.2 !=bt924.2)=true then(laws_FnMatches.j0 k l1 bt903.2.2.2 bt916.1 bt916.2.1 bt916.2.2 bt922.1 bt922.2 bt926.1 bt926.2 true bt903.1 bt903.2.1 bt903.2.2.1) else(if (bt922.1 !=bt924.1)=true then(laws_FnMatches.j0 k l1 bt903.2.2.2 bt916.1 bt916.2.1 bt916.2.2 bt922.1 bt922.2 bt926.1 bt926.2 true bt903.1 bt903.2.1 bt903.2.2.1) else(if (bt926.2 !=bt930.2)=true then(laws_FnMatches.j0 k l1 bt903.2.2.2 bt916.1 bt916.2.1 bt916.2.2 bt922.1 bt922.2 bt926.1 bt926.2 true bt903.1 bt903.2.1 bt903.2.2.1) else((laws_sameInts.f k bt926.1 bt930.1).bind fun t934=>(if t934=true then((impl_GoodMatch.f k bt903.1 bt903.2.1 bt903.2.2.1 bt903.2.2.2).bind fun t935=>(laws_FnMatches.j0 k l1 bt903.2.2.2 bt916.1 bt916.2.1 bt916.2.2 bt922.1 bt922.2 bt926.1 bt926.2 (t935 !=bt922.2) bt903.1 bt903.2.1 bt903.2.2.1)) else(laws_FnMatches.j0 k l1 bt903.2.2.2 bt916.1 bt916.2.1 bt916.2.2 bt922.1 bt922.2 bt926.1 bt926.2 true bt903.1 bt903.2.1 bt903.2.2.1)))))) else(laws_FnMatches.j0 k l1 bt903.2.2.2 bt916.1 bt916.2.1 bt916.2.2 bt922.1 bt922.2 bt926.1 bt926.2 true bt903.1 bt903.2.1 bt903.2.2.1)) else(laws_FnMatches.j0 k l1 bt903.2.2.2 bt916.1 bt916.2.1 bt916.2.2 bt922.1 bt922.2 bt926.1 bt926.2 true bt903.1 bt903.2.1 bt903.2.2.1)))))))))))=some r:=h
 clear h
 by_cases c3:(wrap64 ((l0.length:Int)+ (l1.length:Int))) > 1048576
 ·rw [if_pos c3] at H
  have c3b0:decide (1048576< (wrap64 ((l0.length:Int)+ (l1.length:Int))))=true:=decide_eq_true c3
  clear c3
  as_aux_lemma=>
   obtain rfl:=Option.some.inj H
   go_enter Try.func11,Try.ntmps11
   go_wp2
   go_ret
   exact⟨zer,by exact zk1 HB⟩
 ·rw [if_neg c3] at H
  have c3b0:decide (1048576< (wrap64 ((l0.length:Int)+ (l1.length:Int))))=false:=decide_eq_false c3
  clear c3
  replace H:=Option.bind_eq_some_iff.mp H
  obtain⟨⟨t903,t906,t909,t912⟩,A40,H⟩:=H
  replace H:((impl_BlockingIn.f k t903 t906 t909 t912).bind fun bt916=>((spec_BlockingIn.f k t903 t906 t909 t912).bind fun bt919=>((impl_IsStable.f k t903 t906 t909 t912).bind fun bt922=>((spec_IsStable.f k t903 t906 t909 t912).bind fun bt924=>((impl_LoadOf.f k t903 t906 t909 t912).bind fun bt926=>((spec_LoadOf.f k t903 t906 t909 t912).bind fun bt930=>(if (bt916.2.2 !=bt919.2.2)=true then(laws_FnMatches.j0 k l1 t912 bt916.1 bt916.2.1 bt916.2.2 bt922.1 bt922.2 bt926.1 bt926.2 true t903 t906 t909) else(if bt916.1=bt919.1 then(if bt916.2.1=bt919.2.1 then(if (bt922.2 !=bt924.2)=true then(laws_FnMatches.j0 k l1 t912 bt916.1 bt916.2.1 bt916.2.2 bt922.1 bt922.2 bt926.1 bt926.2 true t903 t906 t909) else(if (bt922.1 !=bt924.1)=true then(laws_FnMatches.j0 k l1 t912 bt916.1 bt916.2.1 bt916.2.2 bt922.1 bt922.2 bt926.1 bt926.2 true t903 t906 t909) else(if (bt926.2 !=bt930.2)=true then(laws_FnMatches.j0 k l1 t912 bt916.1 bt916.2.1 bt916.2.2 bt922.1 bt922.2 bt926.1 bt926.2 true t903 t906 t909) else((laws_sameInts.f k bt926.1 bt930.1).bind fun t934=>(if t934=true then((impl_GoodMatch.f k t903 t906 t909 t912).bind fun t935=>(laws_FnMatches.j0 k l1 t912 bt916.1 bt916.2.1 bt916.2.2 bt922.1 bt922.2 bt926.1 bt926.2 (t935 !=bt922.2) t903 t906 t909)) else(laws_FnMatches.j0 k l1 t912 bt916.1 bt916.2.1 bt916.2.2 bt922.1 bt922.2 bt926.1 bt926.2 true t903 t906 t909)))))) else(laws_FnMatches.j0 k l1 t912 bt916.1 bt916.2.1 bt916.2.2 bt922.1 bt922.2 bt926.1 bt926.2 true t903 t906 t909)) else(laws_FnMatches.j0 k l1 t912 bt916.1 bt916.2.1 bt916.2.2 bt922.1 bt922.2 bt926.1 bt926.2 true t903 t906 t909)))))))))=some r:=H
  have A4:=Aside0.mk A40
  clear A40
  replace H:=Option.bind_eq_some_iff.mp H
  obtain⟨⟨t916,t917,t918⟩,A50,H⟩:=H
  replace H:((spec_BlockingIn.f k t903 t906 t909 t912).bind fun bt919=>((impl_IsStable.f k t903 t906 t909 t912).bind fun bt922=>((spec_IsStable.f k t903 t906 t909 t912).bind fun bt924=>((impl_LoadOf.f k t903 t906 t909 t912).bind fun bt926=>((spec_LoadOf.f k t903 t906 t909 t912).bind fun bt930=>(if (t918 !=bt919.2.2)=true then(laws_FnMatches.j0 k l1 t912 t916 t917 t918 bt922.1 bt922.2 bt926.1 bt926.2 true t903 t906 t909) else(if t916=bt919.1 then(if t917=bt919.2.1 then(if (bt922.2 !=bt924.2)=true then(laws_FnMatches.j0 k l1 t912 t916 t917 t918 bt922.1 bt922.2 bt926.1 bt926.2 true t903 t906 t909) else(if (bt922.1 !=bt924.1)=true then(laws_FnMatches.j0 k l1 t912 t916 t917 t918 bt922.1 bt922.2 bt926.1 bt926.2 true t903 t906 t909) else(if (bt926.2 !=bt930.2)=true then(laws_FnMatches.j0 k l1 t912 t916 t917 t918 bt922.1 bt922.2 bt926.1 bt926.2 true t903 t906 t909) else((laws_sameInts.f k bt926.1 bt930.1).bind fun t934=>(if t934=true then((impl_GoodMatch.f k t903 t906 t909 t912).bind fun t935=>(laws_FnMatches.j0 k l1 t912 t916 t917 t918 bt922.1 bt922.2 bt926.1 bt926.2 (t935 !=bt922.2) t903 t906 t909)) else(laws_FnMatches.j0 k l1 t912 t916 t917 t918 bt922.1 bt922.2 bt926.1 bt926.2 true t903 t906 t909)))))) else(laws_FnMatches.j0 k l1 t912 t916 t917 t918 bt922.1 bt922.2 bt926.1 bt926.2 true t903 t906 t909)) else(laws_FnMatches.j0 k l1 t912 t916 t917 t918 bt922.1 bt922.2 bt926.1 bt926.2 true t903 t906 t909))))))))=some r:=H
  have A5:=Aside0.mk A50
  clear A50
  replace H:=Option.bind_eq_some_iff.mp H
  obtain⟨⟨t919,t920,t921⟩,A60,H⟩:=H
  replace H:((impl_IsStable.f k t903 t906 t909 t912).bind fun bt922=>((spec_IsStable.f k t903 t906 t909 t912).bind fun bt924=>((impl_LoadOf.f k t903 t906 t909 t912).bind fun bt926=>((spec_LoadOf.f k t903 t906 t909 t912).bind fun bt930=>(if (t918 !=t921)=true then(laws_FnMatches.j0 k l1 t912 t916 t917 t918 bt922.1 bt922.2 bt926.1 bt926.2 true t903 t906 t909) else(if t916=t919 then(if t917=t920 then(if (bt922.2 !=bt924.2)=true then(laws_FnMatches.j0 k l1 t912 t916 t917 t918 bt922.1 bt922.2 bt926.1 bt926.2 true t903 t906 t909) else(if (bt922.1 !=bt924.1)=true then(laws_FnMatches.j0 k l1 t912 t916 t917 t918 bt922.1 bt922.2 bt926.1 bt926.2 true t903 t906 t909) else(if (bt926.2 !=bt930.2)=true then(laws_FnMatches.j0 k l1 t912 t916 t917 t918 bt922.1 bt922.2 bt926.1 bt926.2 true t903 t906 t909) else((laws_sameInts.f k bt926.1 bt930.1).bind fun t934=>(if t934=true then((impl_GoodMatch.f k t903 t906 t909 t912).bind fun t935=>(laws_FnMatches.j0 k l1 t912 t916 t917 t918 bt922.1 bt922.2 bt926.1 bt926.2 (t935 !=bt922.2) t903 t906 t909)) else(laws_FnMatches.j0 k l1 t912 t916 t917 t918 bt922.1 bt922.2 bt926.1 bt926.2 true t903 t906 t909)))))) else(laws_FnMatches.j0 k l1 t912 t916 t917 t918 bt922.1 bt922.2 bt926.1 bt926.2 true t903 t906 t909)) else(laws_FnMatches.j0 k l1 t912 t916 t917 t918 bt922.1 bt922.2 bt926.1 bt926.2 true t903 t906 t909)))))))=some r:=H
  have A6:=Aside0.mk A60
  clear A60
  replace H:=Option.bind_eq_some_iff.mp H
  obtain⟨⟨t922,t923⟩,A70,H⟩:=H
  replace H:((spec_IsStable.f k t903 t906 t909 t912).bind fun bt924=>((impl_LoadOf.f k t903 t906 t909 t912).bind fun bt926=>((spec_LoadOf.f k t903 t906 t909 t912).bind fun bt930=>(if (t918 !=t921)=true then(laws_FnMatches.j0 k l1 t912 t916 t917 t918 t922 t923 bt926.1 bt926.2 true t903 t906 t909) else(if t916=t919 then(if t917=t920 then(if (t923 !=bt924.2)=true then(laws_FnMatches.j0 k l1 t912 t916 t917 t918 t922 t923 bt926.1 bt926.2 true t903 t906 t909) else(if (t922 !=bt924.1)=true then(laws_FnMatches.j0 k l1 t912 t916 t917 t918 t922 t923 bt926.1 bt926.2 true t903 t906 t909) else(if (bt926.2 !=bt930.2)=true then(laws_FnMatches.j0 k l1 t912 t916 t917 t918 t922 t923 bt926.1 bt926.2 true t903 t906 t909) else((laws_sameInts.f k bt926.1 bt930.1).bind fun t934=>(if t934=true then((impl_GoodMatch.f k t903 t906 t909 t912).bind fun t935=>(laws_FnMatches.j0 k l1 t912 t916 t917 t918 t922 t923 bt926.1 bt926.2 (t935 !=t923) t903 t906 t909)) else(laws_FnMatches.j0 k l1 t912 t916 t917 t918 t922 t923 bt926.1 bt926.2 true t903 t906 t909)))))) else(laws_FnMatches.j0 k l1 t912 t916 t917 t918 t922 t923 bt926.1 bt926.2 true t903 t906 t909)) else(laws_FnMatches.j0 k l1 t912 t916 t917 t918 t922 t923 bt926.1 bt926.2 true t903 t906 t909))))))=some r:=H
  have A7:=Aside0.mk A70
  clear A70
  replace H:=Option.bind_eq_some_iff.mp H
  obtain⟨⟨t924,t925⟩,A80,H⟩:=H
  replace H:((impl_LoadOf.f k t903 t906 t909 t912).bind fun bt926=>((spec_LoadOf.f k t903 t906 t909 t912).bind fun bt930=>(if (t918 !=t921)=true then(laws_FnMatches.j0 k l1 t912 t916 t917 t918 t922 t923 bt926.1 bt926.2 true t903 t906 t909) else(if t916=t919 then(if t917=t920 then(if (t923 !=t925)=true then(laws_FnMatches.j0 k l1 t912 t916 t917 t918 t922 t923 bt926.1 bt926.2 true t903 t906 t909) else(if (t922 !=t924)=true then(laws_FnMatches.j0 k l1 t912 t916 t917 t918 t922 t923 bt926.1 bt926.2 true t903 t906 t909) else(if (bt926.2 !=bt930.2)=true then(laws_FnMatches.j0 k l1 t912 t916 t917 t918 t922 t923 bt926.1 bt926.2 true t903 t906 t909) else((laws_sameInts.f k bt926.1 bt930.1).bind fun t934=>(if t934=true then((impl_GoodMatch.f k t903 t906 t909 t912).bind fun t935=>(laws_FnMatches.j0 k l1 t912 t916 t917 t918 t922 t923 bt926.1 bt926.2 (t935 !=t923) t903 t906 t909)) else(laws_FnMatches.j0 k l1 t912 t916 t917 t918 t922 t923 bt926.1 bt926.2 true t903 t906 t909)))))) else(laws_FnMatches.j0 k l1 t912 t916 t917 t918 t922 t923 bt926.1 bt926.2 true t903 t906 t909)) else(laws_FnMatches.j0 k l1 t912 t916 t917 t918 t922 t923 bt926.1 bt926.2 true t903 t906 t909)))))=some r:=H
  have A8:=Aside0.mk A80
  clear A80
  replace H:=Option.bind_eq_some_iff.mp H
  obtain⟨⟨t926,t929⟩,A90,H⟩:=H
  replace H:((spec_LoadOf.f k t903 t906 t909 t912).bind fun bt930=>(if (t918 !=t921)=true then(laws_FnMatches.j0 k l1 t912 t916 t917 t918 t922 t923 t926 t929 true t903 t906 t909) else(if t916=t919 then(if t917=t920 then(if (t923 !=t925)=true then(laws_FnMatches.j0 k l1 t912 t916 t917 t918 t922 t923 t926 t929 true t903 t906 t909) else(if (t922 !=t924)=true then(laws_FnMatches.j0 k l1 t912 t916 t917 t918 t922 t923 t926 t929 true t903 t906 t909) else(if (t929 !=bt930.2)=true then(laws_FnMatches.j0 k l1 t912 t916 t917 t918 t922 t923 t926 t929 true t903 t906 t909) else((laws_sameInts.f k t926 bt930.1).bind fun t934=>(if t934=true then((impl_GoodMatch.f k t903 t906 t909 t912).bind fun t935=>(laws_FnMatches.j0 k l1 t912 t916 t917 t918 t922 t923 t926 t929 (t935 !=t923) t903 t906 t909)) else(laws_FnMatches.j0 k l1 t912 t916 t917 t918 t922 t923 t926 t929 true t903 t906 t909)))))) else(laws_FnMatches.j0 k l1 t912 t916 t917 t918 t922 t923 t926 t929 true t903 t906 t909)) else(laws_FnMatches.j0 k l1 t912 t916 t917 t918 t922 t923 t926 t929 true t903 t906 t909))))=some r:=H
  have A9:=Aside0.mk A90
  clear A90
  replace H:=Option.bind_eq_some_iff.mp H
  obtain⟨⟨t930,t933⟩,A100,H⟩:=H
  replace H:(if (t918 !=t921)=true then(laws_FnMatches.j0 k l1 t912 t916 t917 t918 t922 t923 t926 t929 true t903 t906 t909) else(if t916=t919 then(if t917=t920 then(if (t923 !=t925)=true then(laws_FnMatches.j0 k l1 t912 t916 t917 t918 t922 t923 t926 t929 true t903 t906 t909) else(if (t922 !=t924)=true then(laws_FnMatches.j0 k l1 t912 t916 t917 t918 t922 t923 t926 t929 true t903 t906 t909) else(if (t929 !=t933)=true then(laws_FnMatches.j0 k l1 t912 t916 t917 t918 t922 t923 t926 t929 true t903 t906 t909) else((laws_sameInts.f k t926 t930).bind fun t934=>(if t934=true then((impl_GoodMatch.f k t903 t906 t909 t912).bind fun t935=>(laws_FnMatches.j0 k l1 t912 t916 t917 t918 t922 t923 t926 t929 (t935 !=t923) t903 t906 t909)) else(laws_FnMatches.j0 k l1 t912 t916 t917 t918 t922 t923 t926 t929 true t903 t906 t909)))))) else(laws_FnMatches.j0 k l1 t912 t916 t917 t918 t922 t923 t926 t929 true t903 t906 t909)) else(laws_FnMatches.j0 k l1 t912 t916 t917 t918 t922 t923 t926 t929 true t903 t906 t909)))=some r:=H
  have A10:=Aside0.mk A100
  clear A100
  have HC11:=Aside0.mk H
  clear H
  go_enter Try.func11,Try.ntmps11
  go_upto_region 10 with (first|((with_reducible refine gate_callee (f:=37) rfl ?_);refine goesL_ (some 50) rfl rfl Try.func37 (by kernel_rfl) rfl #[.slice A0 l0.length c0] rfl zq2 ?_;(with_reducible refine(spec_DrawBlockingIn.calls k _ _ l0 t903 t906 t909 t912 _ ?side1 ?side2 A4.out).mono ?_);(case side1=>exact zcc (HR0.out));(case side2=>exact HC0.out);rintro e w12 ⟨v904,v907,v910,v913,rfl,ho0,ho1,ho2,ho3,hb⟩;refine⟨_,rfl,?_⟩;have HO905:=Aside0.mk (Kd.S_lower ho0 (below_size (by exact zk1 HB)));have HO908:=Aside0.mk (Kd.S_lower ho1 (below_size (by exact zk1 HB)));have HO911:=Aside0.mk (Kd.R_lower ho2 (below_size (by exact zk1 HB)));have HO914:=Aside0.mk (Kd.R_lower ho3 (below_size (by exact zk1 HB)));replace HB:=Aside0.mk (below_step (by exact zk1 HB) hb);(try clear hb);(try clear hb2);(try clear hk);(try clear hi);(try clear ho0);(try clear ho1);(try clear ho2);(try clear ho3))|((with_reducible refine gate_dst (N:=5) rfl ?_);refine box_event ?hg (N:=5) ?hd (cs:= #[.slice none 0 0,.slice none 0 0,.slice none 0 0]) (t:=33) ?hr ?_;(case hd=>rfl);(case hg=>rfl);(case hr=>first|(go_simp;done)|(go_simp;rfl));intro gb915 hg w13 hbox hb;have BK915:=Aside0.mk (hbox);have GW915:=Aside0.mk ((by rw [hg];exact(below_size (by exact zk1 HB)):w.heap.size≤gb915));have GE915:=GW915;replace HO905:=Aside0.mk (Kd.S_below (by(with_reducible repeat(first|apply Kd.S_alloc|apply Kd.S_drewN|apply Kd.S_drew));exact HO905.out) hb);replace HO908:=Aside0.mk (Kd.S_below (by(with_reducible repeat(first|apply Kd.S_alloc|apply Kd.S_drewN|apply Kd.S_drew));exact HO908.out) hb);replace HO911:=Aside0.mk (Kd.R_below (zq4 HO911) hb);replace HO914:=Aside0.mk (Kd.R_below (zq4 HO914) hb);replace HB:=Aside0.mk (below_step (by exact zk1 HB) hb);clear hb hbox hg;obtain⟨Ao14,co14,eo14⟩:=Kd.S_slice HO905.out;subst eo14;have hcz15_0:=zcz BK915 0 (.slice none 0 0);have hcz15_1:=zcz BK915 1 (.slice none 0 0);have hcz15_2:=zcz BK915 2 (.slice none 0 0);have hfz15_0:=blk_frozen BK915.out 0;have hfz15_1:=blk_frozen BK915.out 1;have hfz15_2:=blk_frozen BK915.out 2;obtain⟨Ao16,co16,eo16⟩:=Kd.S_slice HO908.out;subst eo16;obtain⟨Ao17,co17,eo17⟩:=Kd.R_slice HO911.out;subst eo17;obtain⟨Ao18,co18,eo18⟩:=Kd.R_slice HO914.out;subst eo18)|((with_reducible refine gate_callee (f:=34) rfl ?_);refine goesL_ (some 56) rfl rfl Try.func34 (by kernel_rfl) rfl #[.agg #[.slice Ao14 t903.length co14,.slice Ao16 t906.length co16,.slice Ao17 t909.length co17],.slice Ao18 t912.length co18] rfl zq2 ?_;(with_reducible refine(impl_BlockingIn.calls k _ _ t903 _ _ t906 _ _ t909 _ _ t912 t916 t917 t918 _ ?side1 ?side2 ?side3 ?side4 ?side5 ?side6 ?side7 ?side8 A5.out).mono ?_);(case side1=>refine(Kd.S_reads' (e:=22) (base:=w.heap.size) (ok:=fun k_=>(some k_≠ (.slice Ao16 t906.length co16:Value).ownBlock∧ (some k_≠ (.slice Ao17 t909.length co17:Value).ownBlock∧some k_≠ (.slice Ao18 t912.length co18:Value).ownBlock))) (n:=t903.length) (c:=co14) ?_).2.2;exact(by(with_reducible repeat(first|apply Kd.S_alloc|apply Kd.S_drewN|apply Kd.S_drew));exact(Kd.S_mono (Kd.S_far (p:=⟨gb915,2,none⟩) (Kd.S_far (p:=⟨gb915,1,none⟩) (Kd.S_far (p:=⟨gb915,0,none⟩) (Kd.S_types HO905.out BK915.out (by decide)) (fun _ hk=>hk.2) (.slice Ao14 t903.length co14)) (fun _ hk=>hk.2) (.slice Ao16 t906.length co16)) (fun _ hk=>hk.2) (.slice Ao17 t909.length co17)) (fun _ h_=>h_.1))));(case side2=>exact(Kd.S_reads' HO905.out).2.1);(case side3=>refine(Kd.S_reads' (e:=22) (base:=w.heap.size) (ok:=fun k_=>(some k_≠ (.slice Ao14 t903.length co14:Value).ownBlock∧ (some k_≠ (.slice Ao17 t909.length co17:Value).ownBlock∧some k_≠ (.slice Ao18 t912.length co18:Value).ownBlock))) (n:=t906.length) (c:=co16) ?_).2.2;exact(by(with_reducible repeat(first|apply Kd.S_alloc|apply Kd.S_drewN|apply Kd.S_drew));exact(Kd.S_mono (Kd.S_far (p:=⟨gb915,2,none⟩) (Kd.S_far (p:=⟨gb915,1,none⟩) (Kd.S_far (p:=⟨gb915,0,none⟩) (Kd.S_types HO908.out BK915.out (by decide)) (fun _ hk=>hk.2) (.slice Ao14 t903.length co14)) (fun _ hk=>hk.2) (.slice Ao16 t906.length co16)) (fun _ hk=>hk.2) (.slice Ao17 t909.length co17)) (fun _ h_=>h_.1))));(case side4=>exact(Kd.S_reads' HO908.out).2.1);(case side5=>refine(Kd.R_reads' (e:=3) (base:=w.heap.size) (ok:=fun k_=>some k_≠ (.slice Ao18 t912.length co18:Value).ownBlock) (n:=t909.length) (c:=co17) ?_).2.2;exact(by(with_reducible repeat(first|apply Kd.R_alloc|apply Kd.R_drewN|apply Kd.R_drew));exact(Kd.R_mono (Kd.R_far (p:=⟨gb915,2,none⟩) (Kd.R_far (p:=⟨gb915,1,none⟩) (Kd.R_far (p:=⟨gb915,0,none⟩) (Kd.R_types HO911.out BK915.out (by decide)) (fun _ hk=>hk.2) (.slice Ao14 t903.length co14)) (fun _ hk=>hk.2) (.slice Ao16 t906.length co16)) (fun _ hk=>hk.2) (.slice Ao17 t909.length co17)) (fun _ h_=>h_.1))));(case side6=>exact(Kd.R_reads' HO911.out).2.1);(case side7=>refine(Kd.R_reads' (e:=3) (base:=w.heap.size) (ok:=fun k_=>some k_≠ (.slice Ao17 t909.length co17:Value).ownBlock) (n:=t912.length) (c:=co18) ?_).2.2;exact(by(with_reducible repeat(first|apply Kd.R_alloc|apply Kd.R_drewN|apply Kd.R_drew));exact(Kd.R_mono (Kd.R_far (p:=⟨gb915,2,none⟩) (Kd.R_far (p:=⟨gb915,1,none⟩) (Kd.R_far (p:=⟨gb915,0,none⟩) (Kd.R_types HO914.out BK915.out (by decide)) (fun _ hk=>hk.2) (.slice Ao14 t903.length co14)) (fun _ hk=>hk.2) (.slice Ao16 t906.length co16)) (fun _ hk=>hk.2) (.slice Ao17 t909.length co17)) (fun _ h_=>h_.1))));(case side8=>exact(Kd.R_reads' HO914.out).2.1);rintro e w19 ⟨rfl,hb⟩;refine⟨_,rfl,?_⟩;replace HO905:=Aside0.mk (Kd.S_below (by(with_reducible repeat(first|apply Kd.S_alloc|apply Kd.S_drewN|apply Kd.S_drew));exact(Kd.S_mono (Kd.S_far (p:=⟨gb915,2,none⟩) (Kd.S_far (p:=⟨gb915,1,none⟩) (Kd.S_far (p:=⟨gb915,0,none⟩) (Kd.S_types HO905.out BK915.out (by decide)) (fun _ hk=>hk.2) (.slice Ao14 t903.length co14)) (fun _ hk=>hk.2) (.slice Ao16 t906.length co16)) (fun _ hk=>hk.2) (.slice Ao17 t909.length co17)) (fun _ h_=>h_.1))) hb);replace HO908:=Aside0.mk (Kd.S_below (by(with_reducible repeat(first|apply Kd.S_alloc|apply Kd.S_drewN|apply Kd.S_drew));exact(Kd.S_mono (Kd.S_far (p:=⟨gb915,2,none⟩) (Kd.S_far (p:=⟨gb915,1,none⟩) (Kd.S_far (p:=⟨gb915,0,none⟩) (Kd.S_types HO908.out BK915.out (by decide)) (fun _ hk=>hk.2) (.slice Ao14 t903.length co14)) (fun _ hk=>hk.2) (.slice Ao16 t906.length co16)) (fun _ hk=>hk.2) (.slice Ao17 t909.length co17)) (fun _ h_=>h_.1))) hb);replace HO911:=Aside0.mk (Kd.R_below (by(with_reducible repeat(first|apply Kd.R_alloc|apply Kd.R_drewN|apply Kd.R_drew));exact(Kd.R_mono (Kd.R_far (p:=⟨gb915,2,none⟩) (Kd.R_far (p:=⟨gb915,1,none⟩) (Kd.R_far (p:=⟨gb915,0,none⟩) (Kd.R_types HO911.out BK915.out (by decide)) (fun _ hk=>hk.2) (.slice Ao14 t903.length co14)) (fun _ hk=>hk.2) (.slice Ao16 t906.length co16)) (fun _ hk=>hk.2) (.slice Ao17 t909.length co17)) (fun _ h_=>h_.1))) hb);replace HO914:=Aside0.mk (Kd.R_below (by(with_reducible repeat(first|apply Kd.R_alloc|apply Kd.R_drewN|apply Kd.R_drew));exact(Kd.R_mono (Kd.R_far (p:=⟨gb915,2,none⟩) (Kd.R_far (p:=⟨gb915,1,none⟩) (Kd.R_far (p:=⟨gb915,0,none⟩) (Kd.R_types HO914.out BK915.out (by decide)) (fun _ hk=>hk.2) (.slice Ao14 t903.length co14)) (fun _ hk=>hk.2) (.slice Ao16 t906.length co16)) (fun _ hk=>hk.2) (.slice Ao17 t909.length co17)) (fun _ h_=>h_.1))) hb);replace BK915:=Aside0.mk (blk_below (g:=gb915) (o:= .cells #[.slice Ao14 t903.length co14,.slice Ao16 t906.length co16,.slice Ao17 t909.length co17] 33 (0,0)) (by(with_reducible repeat(first|refine blk_drewN ?_ _|refine blk_drew ?_ |refine blk_alloc ?_ _));refine blk_put (cs:= #[.slice Ao14 t903.length co14,.slice Ao16 t906.length co16,.slice none 0 0]) ?_ 2 _ rfl;(with_reducible repeat(first|refine blk_drewN ?_ _|refine blk_drew ?_ |refine blk_alloc ?_ _));refine blk_put (cs:= #[.slice Ao14 t903.length co14,.slice none 0 0,.slice none 0 0]) ?_ 1 _ rfl;(with_reducible repeat(first|refine blk_drewN ?_ _|refine blk_drew ?_ |refine blk_alloc ?_ _));refine blk_put (cs:= #[.slice none 0 0,.slice none 0 0,.slice none 0 0]) ?_ 0 _ rfl;(with_reducible repeat(first|refine blk_drewN ?_ _|refine blk_drew ?_ |refine blk_alloc ?_ _));exact BK915.out) hb);replace HB:=Aside0.mk (below_step (by exact zk2 HB GE915.out) hb);(try clear hb);(try clear hb2);(try clear hk);(try clear hi);have hcz20_0:=zcz BK915 0 (.slice Ao14 t903.length co14);have hcz20_1:=zcz BK915 1 (.slice Ao16 t906.length co16);have hcz20_2:=zcz BK915 2 (.slice Ao17 t909.length co17);have hfz20_0:=blk_frozen BK915.out 0;have hfz20_1:=blk_frozen BK915.out 1;have hfz20_2:=blk_frozen BK915.out 2)|((with_reducible refine gate_callee (f:=33) rfl ?_);refine goesL_ (some 63) rfl rfl Try.func33 (by kernel_rfl) rfl #[.agg #[.slice Ao14 t903.length co14,.slice Ao16 t906.length co16,.slice Ao17 t909.length co17],.slice Ao18 t912.length co18] rfl zq2 ?_;(with_reducible refine(spec_BlockingIn.calls k _ _ t903 _ _ t906 _ _ t909 _ _ t912 t919 t920 t921 _ ?side1 ?side2 ?side3 ?side4 ?side5 ?side6 ?side7 ?side8 A6.out).mono ?_);(case side1=>exact zcc ((Kd.S_reads' HO905.out).2.2));(case side2=>exact(Kd.S_reads' HO905.out).2.1);(case side3=>exact zcc ((Kd.S_reads' HO908.out).2.2));(case side4=>exact(Kd.S_reads' HO908.out).2.1);(case side5=>exact zcc ((Kd.R_reads' HO911.out).2.2));(case side6=>exact(Kd.R_reads' HO911.out).2.1);(case side7=>exact zcc ((Kd.R_reads' HO914.out).2.2));(case side8=>exact(Kd.R_reads' HO914.out).2.1);rintro e w21 ⟨rfl,hb⟩;refine⟨_,rfl,?_⟩;replace HO905:=Aside0.mk (Kd.S_below (by(with_reducible repeat(first|apply Kd.S_alloc|apply Kd.S_drewN|apply Kd.S_drew));exact HO905.out) hb);replace HO908:=Aside0.mk (Kd.S_below (by(with_reducible repeat(first|apply Kd.S_alloc|apply Kd.S_drewN|apply Kd.S_drew));exact HO908.out) hb);replace HO911:=Aside0.mk (Kd.R_below (zq4 HO911) hb);replace HO914:=Aside0.mk (Kd.R_below (zq4 HO914) hb);replace BK915:=Aside0.mk (blk_below (g:=gb915) (o:= .cells #[.slice Ao14 t903.length co14,.slice Ao16 t906.length co16,.slice Ao17 t909.length co17] 33 (0,0)) (zq3 BK915) hb);replace HB:=Aside0.mk (below_step (by exact zk2 HB GE915.out) hb);(try clear hb);(try clear hb2);(try clear hk);(try clear hi);have hcz22_0:=zcz BK915 0 (.slice Ao14 t903.length co14);have hcz22_1:=zcz BK915 1 (.slice Ao16 t906.length co16);have hcz22_2:=zcz BK915 2 (.slice Ao17 t909.length co17);have hfz22_0:=blk_frozen BK915.out 0;have hfz22_1:=blk_frozen BK915.out 1;have hfz22_2:=blk_frozen BK915.out 2)|((with_reducible refine gate_callee (f:=32) rfl ?_);refine goesL_ (some 70) rfl rfl Try.func32 (by kernel_rfl) rfl #[.agg #[.slice Ao14 t903.length co14,.slice Ao16 t906.length co16,.slice Ao17 t909.length co17],.slice Ao18 t912.length co18] rfl zq2 ?_;(with_reducible refine(impl_IsStable.calls k _ _ t903 _ _ t906 _ _ t909 _ _ t912 t922 t923 _ ?side1 ?side2 ?side3 ?side4 ?side5 ?side6 ?side7 ?side8 A7.out).mono ?_);(case side1=>exact zcc ((Kd.S_reads' HO905.out).2.2));(case side2=>exact(Kd.S_reads' HO905.out).2.1);(case side3=>exact zcc ((Kd.S_reads' HO908.out).2.2));(case side4=>exact(Kd.S_reads' HO908.out).2.1);(case side5=>exact zcc ((Kd.R_reads' HO911.out).2.2));(case side6=>exact(Kd.R_reads' HO911.out).2.1);(case side7=>exact zcc ((Kd.R_reads' HO914.out).2.2));(case side8=>exact(Kd.R_reads' HO914.out).2.1);rintro e w23 ⟨rfl,hb⟩;refine⟨_,rfl,?_⟩;replace HO905:=Aside0.mk (Kd.S_below (by(with_reducible repeat(first|apply Kd.S_alloc|apply Kd.S_drewN|apply Kd.S_drew));exact HO905.out) hb);replace HO908:=Aside0.mk (Kd.S_below (by(with_reducible repeat(first|apply Kd.S_alloc|apply Kd.S_drewN|apply Kd.S_drew));exact HO908.out) hb);replace HO911:=Aside0.mk (Kd.R_below (zq4 HO911) hb);replace HO914:=Aside0.mk (Kd.R_below (zq4 HO914) hb);replace BK915:=Aside0.mk (blk_below (g:=gb915) (o:= .cells #[.slice Ao14 t903.length co14,.slice Ao16 t906.length co16,.slice Ao17 t909.length co17] 33 (0,0)) (zq3 BK915) hb);replace HB:=Aside0.mk (below_step (by exact zk2 HB GE915.out) hb);(try clear hb);(try clear hb2);(try clear hk);(try clear hi);have hcz24_0:=zcz BK915 0 (.slice Ao14 t903.length co14);have hcz24_1:=zcz BK915 1 (.slice Ao16 t906.length co16);have hcz24_2:=zcz BK915 2 (.slice Ao17 t909.length co17);have hfz24_0:=blk_frozen BK915.out 0;have hfz24_1:=blk_frozen BK915.out 1;have hfz24_2:=blk_frozen BK915.out 2)|((with_reducible refine gate_callee (f:=31) rfl ?_);refine goesL_ (some 76) rfl rfl Try.func31 (by kernel_rfl) rfl #[.agg #[.slice Ao14 t903.length co14,.slice Ao16 t906.length co16,.slice Ao17 t909.length co17],.slice Ao18 t912.length co18] rfl zq2 ?_;(with_reducible refine(spec_IsStable.calls k _ _ t903 _ _ t906 _ _ t909 _ _ t912 t924 t925 _ ?side1 ?side2 ?side3 ?side4 ?side5 ?side6 ?side7 ?side8 A8.out).mono ?_);(case side1=>exact zcc ((Kd.S_reads' HO905.out).2.2));(case side2=>exact(Kd.S_reads' HO905.out).2.1);(case side3=>exact zcc ((Kd.S_reads' HO908.out).2.2));(case side4=>exact(Kd.S_reads' HO908.out).2.1);(case side5=>exact zcc ((Kd.R_reads' HO911.out).2.2));(case side6=>exact(Kd.R_reads' HO911.out).2.1);(case side7=>exact zcc ((Kd.R_reads' HO914.out).2.2));(case side8=>exact(Kd.R_reads' HO914.out).2.1);rintro e w25 ⟨rfl,hb⟩;refine⟨_,rfl,?_⟩;replace HO905:=Aside0.mk (Kd.S_below (by(with_reducible repeat(first|apply Kd.S_alloc|apply Kd.S_drewN|apply Kd.S_drew));exact HO905.out) hb);replace HO908:=Aside0.mk (Kd.S_below (by(with_reducible repeat(first|apply Kd.S_alloc|apply Kd.S_drewN|apply Kd.S_drew));exact HO908.out) hb);replace HO911:=Aside0.mk (Kd.R_below (zq4 HO911) hb);replace HO914:=Aside0.mk (Kd.R_below (zq4 HO914) hb);replace BK915:=Aside0.mk (blk_below (g:=gb915) (o:= .cells #[.slice Ao14 t903.length co14,.slice Ao16 t906.length co16,.slice Ao17 t909.length co17] 33 (0,0)) (zq3 BK915) hb);replace HB:=Aside0.mk (below_step (by exact zk2 HB GE915.out) hb);(try clear hb);(try clear hb2);(try clear hk);(try clear hi);have hcz26_0:=zcz BK915 0 (.slice Ao14 t903.length co14);have hcz26_1:=zcz BK915 1 (.slice Ao16 t906.length co16);have hcz26_2:=zcz BK915 2 (.slice Ao17 t909.length co17);have hfz26_0:=blk_frozen BK915.out 0;have hfz26_1:=blk_frozen BK915.out 1;have hfz26_2:=blk_frozen BK915.out 2)|((with_reducible refine gate_callee (f:=25) rfl ?_);refine goesL_ (some 82) rfl rfl Try.func25 (by kernel_rfl) rfl #[.agg #[.slice Ao14 t903.length co14,.slice Ao16 t906.length co16,.slice Ao17 t909.length co17],.slice Ao18 t912.length co18] rfl zq2 ?_;(with_reducible refine(impl_LoadOf.calls k _ _ t903 _ _ t906 _ _ t909 _ _ t912 t926 t929 _ ?side1 ?side2 ?side3 ?side4 ?side5 ?side6 ?side7 ?side8 A9.out).mono ?_);(case side1=>exact zcc ((Kd.S_reads' HO905.out).2.2));(case side2=>exact(Kd.S_reads' HO905.out).2.1);(case side3=>exact zcc ((Kd.S_reads' HO908.out).2.2));(case side4=>exact(Kd.S_reads' HO908.out).2.1);(case side5=>exact zcc ((Kd.R_reads' HO911.out).2.2));(case side6=>exact(Kd.R_reads' HO911.out).2.1);(case side7=>exact zcc ((Kd.R_reads' HO914.out).2.2));(case side8=>exact(Kd.R_reads' HO914.out).2.1);rintro e w27 ⟨v927,rfl,ho0,hb⟩;refine⟨_,rfl,?_⟩;have HO928:=Aside0.mk (Kd.R_lower (Kd.R_new' (Kd.R_new' ho0 (Kd.R_lt (zq4 HO911))) (Kd.R_lt (zq4 HO914))) (below_size (by exact zk2 HB GE915.out)));replace HO905:=Aside0.mk (Kd.S_elder' (by(with_reducible repeat(first|apply Kd.S_alloc|apply Kd.S_drewN|apply Kd.S_drew));exact HO905.out) (Kd.R_base ho0) hb);replace HO908:=Aside0.mk (Kd.S_elder' (by(with_reducible repeat(first|apply Kd.S_alloc|apply Kd.S_drewN|apply Kd.S_drew));exact HO908.out) (Kd.R_base ho0) hb);replace HO911:=Aside0.mk (Kd.R_elder' (zq4 HO911) (Kd.R_base ho0) hb);replace HO914:=Aside0.mk (Kd.R_elder' (zq4 HO914) (Kd.R_base ho0) hb);replace BK915:=Aside0.mk (blk_below (g:=gb915) (o:= .cells #[.slice Ao14 t903.length co14,.slice Ao16 t906.length co16,.slice Ao17 t909.length co17] 33 (0,0)) (zq3 BK915) hb);replace HB:=Aside0.mk (below_step (by exact zk2 HB GE915.out) hb);(try clear hb);(try clear hb2);(try clear hk);(try clear hi);(try clear ho0);have hcz28_0:=zcz BK915 0 (.slice Ao14 t903.length co14);have hcz28_1:=zcz BK915 1 (.slice Ao16 t906.length co16);have hcz28_2:=zcz BK915 2 (.slice Ao17 t909.length co17);have hfz28_0:=blk_frozen BK915.out 0;have hfz28_1:=blk_frozen BK915.out 1;have hfz28_2:=blk_frozen BK915.out 2)|((with_reducible refine gate_callee (f:=24) rfl ?_);refine goesL_ (some 88) rfl rfl Try.func24 (by kernel_rfl) rfl #[.agg #[.slice Ao14 t903.length co14,.slice Ao16 t906.length co16,.slice Ao17 t909.length co17],.slice Ao18 t912.length co18] rfl zq2 ?_;(with_reducible refine(spec_LoadOf.calls k _ _ t903 _ _ t906 _ _ t909 _ _ t912 t930 t933 _ ?side1 ?side2 ?side3 ?side4 ?side5 ?side6 ?side7 ?side8 A10.out).mono ?_);(case side1=>exact zcc ((Kd.S_reads' HO905.out).2.2));(case side2=>exact(Kd.S_reads' HO905.out).2.1);(case side3=>exact zcc ((Kd.S_reads' HO908.out).2.2));(case side4=>exact(Kd.S_reads' HO908.out).2.1);(case side5=>exact zcc ((Kd.R_reads' HO911.out).2.2));(case side6=>exact(Kd.R_reads' HO911.out).2.1);(case side7=>exact zcc ((Kd.R_reads' HO914.out).2.2));(case side8=>exact(Kd.R_reads' HO914.out).2.1);rintro e w29 ⟨v931,rfl,ho0,hb⟩;refine⟨_,rfl,?_⟩;have HO932:=Aside0.mk (Kd.R_lower (Kd.R_new' (Kd.R_new' (Kd.R_new' ho0 (Kd.R_lt (zq4 HO911))) (Kd.R_lt (zq4 HO914))) (Kd.R_lt (zq4 HO928))) (below_size (by exact zk2 HB GE915.out)));replace HO905:=Aside0.mk (Kd.S_elder' (by(with_reducible repeat(first|apply Kd.S_alloc|apply Kd.S_drewN|apply Kd.S_drew));exact HO905.out) (Kd.R_base ho0) hb);replace HO908:=Aside0.mk (Kd.S_elder' (by(with_reducible repeat(first|apply Kd.S_alloc|apply Kd.S_drewN|apply Kd.S_drew));exact HO908.out) (Kd.R_base ho0) hb);replace HO911:=Aside0.mk (Kd.R_elder' (zq4 HO911) (Kd.R_base ho0) hb);replace HO914:=Aside0.mk (Kd.R_elder' (zq4 HO914) (Kd.R_base ho0) hb);replace HO928:=Aside0.mk (Kd.R_elder' (zq4 HO928) (Kd.R_base ho0) hb);replace BK915:=Aside0.mk (blk_below (g:=gb915) (o:= .cells #[.slice Ao14 t903.length co14,.slice Ao16 t906.length co16,.slice Ao17 t909.length co17] 33 (0,0)) (zq3 BK915) hb);replace HB:=Aside0.mk (below_step (by exact zk2 HB GE915.out) hb);(try clear hb);(try clear hb2);(try clear hk);(try clear hi);(try clear ho0)))
  (try simp only [Act.put,List.setIfInBounds_toArray,List.set_cons_zero,List.set_cons_succ])
  go_cut [131] (fun v131 wc=> ∃ (kq:Nat) (x131_10:Bool),v131= .bool x131_10∧Aside0 (laws_FnMatches.j0 kq l1 t912 t916 t917 t918 t922 t923 t926 t929 x131_10 t903 t906 t909=some r)∧Aside0 (kq≤k)∧Aside0 (Kd.R (Kd.int .i64) 3 wc w.heap.size (fun k_=>some k_≠ (v927:Value).ownBlock∧some k_≠ ((.slice Ao17 t909.length co17):Value).ownBlock) (.slice Ao18 t912.length co18) t912)∧Aside0 (Kd.R (Kd.int .i64) 3 wc w.heap.size (fun k_=>some k_≠ ((.slice Ao18 t912.length co18):Value).ownBlock∧some k_≠ ((.slice Ao17 t909.length co17):Value).ownBlock) v927 t926)∧Aside0 (Kd.S (Kd.slice 3 (Kd.int .i64)) 22 wc w.heap.size (fun k_=>some k_≠ ((.slice Ao18 t912.length co18):Value).ownBlock∧some k_≠ (v927:Value).ownBlock∧some k_≠ ((.slice Ao16 t906.length co16):Value).ownBlock∧some k_≠ ((.slice Ao17 t909.length co17):Value).ownBlock) (.slice Ao14 t903.length co14) t903)∧Aside0 (Kd.S (Kd.slice 3 (Kd.int .i64)) 22 wc w.heap.size (fun k_=>some k_≠ ((.slice Ao18 t912.length co18):Value).ownBlock∧some k_≠ (v927:Value).ownBlock∧some k_≠ ((.slice Ao14 t903.length co14):Value).ownBlock∧some k_≠ ((.slice Ao17 t909.length co17):Value).ownBlock) (.slice Ao16 t906.length co16) t906)∧Aside0 (Kd.R (Kd.int .i64) 3 wc w.heap.size (fun k_=>some k_≠ ((.slice Ao18 t912.length co18):Value).ownBlock∧some k_≠ (v927:Value).ownBlock) (.slice Ao17 t909.length co17) t909)∧Aside0 (wc.heap[gb915]?=some (.cells #[(.slice Ao14 t903.length co14),(.slice Ao16 t906.length co16),(.slice Ao17 t909.length co17)] 33 (0,0)))∧Aside0 (Below w.heap.size w wc))
  case first=>
   have H:=HC11.out
   clear HC11
   by_cases c30:(t918 !=t921)=true
   ·rw [if_pos c30] at H
    have c30b0:(t918 !=t921)=true:=c30
    (try(have c30b1:decide (t918=t921)=false:=by simpa using c30))
    (try(have c30b2:(t918==t921)=false:=by simpa using c30))
    (try(have c30b3:¬ (t918=t921):=by simpa using c30))
    clear c30
    (first|rw [c30b0]|(simp only [i64_w,i32_w];rw [c30b0])|skip)
    exact absurd (H.trans (congrArg some HRT.out)) (by cases k<;>simp [laws_FnMatches.j0])
   ·rw [if_neg c30] at H
    have c30b0:(t918 !=t921)=false:=by simpa using c30
    (try(have c30b1:decide (t918=t921)=true:=by simpa using c30))
    (try(have c30b2:(t918==t921)=true:=by simpa using c30))
    clear c30
    (first|rw [c30b0]|(simp only [i64_w,i32_w];rw [c30b0])|skip)
    by_cases c31:t916=t919
    ·rw [if_pos c31] at H
     have c31b0:(t916==t919)=true:=beq_iff_eq.mpr c31
     have c31b1:(t916 !=t919)=false:=bne_eq_false_iff_eq.mpr c31
     clear c31
     by_cases c32:t917=t920
     ·rw [if_pos c32] at H
      have c32b0:(t917==t920)=true:=beq_iff_eq.mpr c32
      have c32b1:(t917 !=t920)=false:=bne_eq_false_iff_eq.mpr c32
      clear c32
      by_cases c33:(t923 !=t925)=true
      ·rw [if_pos c33] at H
       have c33b0:(t923 !=t925)=true:=c33
       (try(have c33b1:decide (t923=t925)=false:=by simpa using c33))
       (try(have c33b2:(t923==t925)=false:=by simpa using c33))
       (try(have c33b3:¬ (t923=t925):=by simpa using c33))
       clear c33
       exact absurd (H.trans (congrArg some HRT.out)) (by cases k<;>simp [laws_FnMatches.j0])
      ·rw [if_neg c33] at H
       have c33b0:(t923 !=t925)=false:=by simpa using c33
       (try(have c33b1:decide (t923=t925)=true:=by simpa using c33))
       (try(have c33b2:(t923==t925)=true:=by simpa using c33))
       clear c33
       by_cases c34:(t922 !=t924)=true
       ·rw [if_pos c34] at H
        have c34b0:(t922 !=t924)=true:=c34
        (try(have c34b1:decide (t922=t924)=false:=by simpa using c34))
        (try(have c34b2:(t922==t924)=false:=by simpa using c34))
        (try(have c34b3:¬ (t922=t924):=by simpa using c34))
        clear c34
        exact absurd (H.trans (congrArg some HRT.out)) (by cases k<;>simp [laws_FnMatches.j0])
       ·rw [if_neg c34] at H
        have c34b0:(t922 !=t924)=false:=by simpa using c34
        (try(have c34b1:decide (t922=t924)=true:=by simpa using c34))
        (try(have c34b2:(t922==t924)=true:=by simpa using c34))
        clear c34
        by_cases c35:(t929 !=t933)=true
        ·rw [if_pos c35] at H
         have c35b0:(t929 !=t933)=true:=c35
         (try(have c35b1:decide (t929=t933)=false:=by simpa using c35))
         (try(have c35b2:(t929==t933)=false:=by simpa using c35))
         (try(have c35b3:¬ (t929=t933):=by simpa using c35))
         clear c35
         exact absurd (H.trans (congrArg some HRT.out)) (by cases k<;>simp [laws_FnMatches.j0])
        ·rw [if_neg c35] at H
         have c35b0:(t929 !=t933)=false:=by simpa using c35
         (try(have c35b1:decide (t929=t933)=true:=by simpa using c35))
         (try(have c35b2:(t929==t933)=true:=by simpa using c35))
         clear c35
         replace H:=Option.bind_eq_some_iff.mp H
         obtain⟨t934,A360,H⟩:=H
         replace H:(if t934=true then((impl_GoodMatch.f k t903 t906 t909 t912).bind fun t935=>(laws_FnMatches.j0 k l1 t912 t916 t917 t918 t922 t923 t926 t929 (t935 !=t923) t903 t906 t909)) else(laws_FnMatches.j0 k l1 t912 t916 t917 t918 t922 t923 t926 t929 true t903 t906 t909))=some r:=H
         have A36:=Aside0.mk A360
         clear A360
         by_cases c37:t934=true
         ·subst c37
          have H1:((impl_GoodMatch.f k t903 t906 t909 t912).bind fun t935=>(laws_FnMatches.j0 k l1 t912 t916 t917 t918 t922 t923 t926 t929 (t935 !=t923) t903 t906 t909))=some r:=by rw [if_pos rfl] at H;exact H
          clear H
          have H:=H1
          clear H1
          replace H:=Option.bind_eq_some_iff.mp H
          obtain⟨t935,A380,H⟩:=H
          replace H:(laws_FnMatches.j0 k l1 t912 t916 t917 t918 t922 t923 t926 t929 (t935 !=t923) t903 t906 t909)=some r:=H
          have A38:=Aside0.mk A380
          clear A380
          as_aux_lemma=>
           have H':=Aside0.mk H
           clear H
           obtain⟨Ao39,co39,eo39⟩:=Kd.R_slice HO928.out
           subst eo39
           obtain⟨Ao40,co40,eo40⟩:=Kd.R_slice HO932.out
           subst eo40
           go_wp2_with (first|(go_at_call 38;(with_reducible refine(laws_sameInts.calls k _ _ t926 _ _ t930 true _ ?side1 ?side2 ?side3 ?side4 A36.out).mono ?_);(case side1=>exact zcc ((Kd.R_reads' HO928.out).2.2));(case side2=>exact(Kd.R_reads' HO928.out).2.1);(case side3=>exact zcc ((Kd.R_reads' HO932.out).2.2));(case side4=>exact(Kd.R_reads' HO932.out).2.1);rintro e w' ⟨rfl,⟨nd,rfl⟩⟩;have hcz41_0:=zcz BK915 0 (.slice Ao14 t903.length co14);have hcz41_1:=zcz BK915 1 (.slice Ao16 t906.length co16);have hcz41_2:=zcz BK915 2 (.slice Ao17 t909.length co17);have hfz41_0:=blk_frozen BK915.out 0;have hfz41_1:=blk_frozen BK915.out 1;have hfz41_2:=blk_frozen BK915.out 2)|(go_at_call 23;(with_reducible refine(impl_GoodMatch.calls k _ _ t903 _ _ t906 _ _ t909 _ _ t912 t935 _ ?side1 ?side2 ?side3 ?side4 ?side5 ?side6 ?side7 ?side8 A38.out).mono ?_);(case side1=>exact zcc ((Kd.S_reads' HO905.out).2.2));(case side2=>exact(Kd.S_reads' HO905.out).2.1);(case side3=>exact zcc ((Kd.S_reads' HO908.out).2.2));(case side4=>exact(Kd.S_reads' HO908.out).2.1);(case side5=>exact zcc ((Kd.R_reads' HO911.out).2.2));(case side6=>exact(Kd.R_reads' HO911.out).2.1);(case side7=>exact zcc ((Kd.R_reads' HO914.out).2.2));(case side8=>exact(Kd.R_reads' HO914.out).2.1);rintro e w42 ⟨rfl,hb⟩;replace HO905:=Aside0.mk (Kd.S_below (by(with_reducible repeat(first|apply Kd.S_alloc|apply Kd.S_drewN|apply Kd.S_drew));exact HO905.out) hb);replace HO908:=Aside0.mk (Kd.S_below (by(with_reducible repeat(first|apply Kd.S_alloc|apply Kd.S_drewN|apply Kd.S_drew));exact HO908.out) hb);replace HO911:=Aside0.mk (Kd.R_below (zq4 HO911) hb);replace HO914:=Aside0.mk (Kd.R_below (zq4 HO914) hb);replace HO928:=Aside0.mk (Kd.R_below (zq4 HO928) hb);replace HO932:=Aside0.mk (Kd.R_below (zq4 HO932) hb);replace BK915:=Aside0.mk (blk_below (g:=gb915) (o:= .cells #[.slice Ao14 t903.length co14,.slice Ao16 t906.length co16,.slice Ao17 t909.length co17] 33 (0,0)) (zq3 BK915) hb);replace HB:=Aside0.mk (below_step (by exact zk2 HB GE915.out) hb);(try clear hb);(try clear hb2);(try clear hk);(try clear hi)))
           go_meet
           case rel=>exact⟨_,((t935 !=t923)),zrs,H',⟨by first|omega|exact Nat.le_refl _⟩,⟨by(with_reducible repeat(first|apply Kd.R_alloc|apply Kd.R_drewN|apply Kd.R_drew));exact Kd.R_mono HO914.out (fun _ hk=>⟨hk.1.2,hk.1.1⟩)⟩,⟨by(with_reducible repeat(first|apply Kd.R_alloc|apply Kd.R_drewN|apply Kd.R_drew));exact Kd.R_mono HO928.out (fun _ hk=>⟨hk.1.2,hk.1.1.2⟩)⟩,⟨by(with_reducible repeat(first|apply Kd.S_alloc|apply Kd.S_drewN|apply Kd.S_drew));exact Kd.S_mono HO905.out (fun _ hk=>⟨hk.1.1.2.2,⟨hk.1.2,⟨hk.1.1.1,hk.1.1.2.1⟩⟩⟩)⟩,⟨by(with_reducible repeat(first|apply Kd.S_alloc|apply Kd.S_drewN|apply Kd.S_drew));exact Kd.S_mono HO908.out (fun _ hk=>⟨hk.1.1.2.2,⟨hk.1.2,⟨hk.1.1.1,hk.1.1.2.1⟩⟩⟩)⟩,⟨by(with_reducible repeat(first|apply Kd.R_alloc|apply Kd.R_drewN|apply Kd.R_drew));exact Kd.R_mono HO911.out (fun _ hk=>⟨hk.1.1,hk.1.2⟩)⟩,⟨by(with_reducible repeat(first|refine blk_drewN ?_ _|refine blk_drew ?_ |refine blk_alloc ?_ _));exact BK915.out⟩,⟨by exact zk2 HB GE915.out⟩⟩
         ·replace c37:=Bool.eq_false_iff.mpr c37
          subst c37
          have H1:(laws_FnMatches.j0 k l1 t912 t916 t917 t918 t922 t923 t926 t929 true t903 t906 t909)=some r:=by rw [if_neg (show ¬ (false=true) by decide)] at H;exact H
          clear H
          have H:=H1
          clear H1
          exact absurd (H.trans (congrArg some HRT.out)) (by cases k<;>simp [laws_FnMatches.j0])
     ·rw [if_neg c32] at H
      have c32b0:(t917==t920)=false:=beq_eq_false_iff_ne.mpr c32
      have c32b1:(t917 !=t920)=true:=bne_iff_ne.mpr c32
      exact absurd (H.trans (congrArg some HRT.out)) (by cases k<;>simp [laws_FnMatches.j0])
    ·rw [if_neg c31] at H
     have c31b0:(t916==t919)=false:=beq_eq_false_iff_ne.mpr c31
     have c31b1:(t916 !=t919)=true:=bne_iff_ne.mpr c31
     exact absurd (H.trans (congrArg some HRT.out)) (by cases k<;>simp [laws_FnMatches.j0])
  case rest=>
   clear HC11
   try clear c1
   try clear c2
   try clear p2
   try clear c3
   try clear c3b0
   try clear p6
   try clear c11
   try clear c24
   try clear c25
   try clear c30
   try clear c30b0
   try clear c30b1
   try clear c30b2
   try clear c31
   try clear c31b0
   try clear c31b1
   try clear c32
   try clear c32b0
   try clear c32b1
   try clear c33
   try clear c33b0
   try clear c33b1
   try clear c33b2
   try clear c34
   try clear c34b0
   try clear c34b1
   try clear c34b2
   try clear c35
   try clear c35b0
   try clear c35b1
   try clear c35b2
   try clear c37
   try clear hcz15_0
   try clear hcz15_1
   try clear hcz15_2
   try clear hcz20_0
   try clear hcz20_1
   try clear hcz20_2
   try clear hcz22_0
   try clear hcz22_1
   try clear hcz22_2
   try clear hcz24_0
   try clear hcz24_1
   try clear hcz24_2
   try clear hcz26_0
   try clear hcz26_1
   try clear hcz26_2
   try clear hcz28_0
   try clear hcz28_1
   try clear hcz28_2
   try clear hcz41_0
   try clear hcz41_1
   try clear hcz41_2
   try clear hfz15_0
   try clear hfz15_1
   try clear hfz15_2
   try clear hfz20_0
   try clear hfz20_1
   try clear hfz20_2
   try clear hfz22_0
   try clear hfz22_1
   try clear hfz22_2
   try clear hfz24_0
   try clear hfz24_1
   try clear hfz24_2
   try clear hfz26_0
   try clear hfz26_1
   try clear hfz26_2
   try clear hfz28_0
   try clear hfz28_1
   try clear hfz28_2
   try clear hfz41_0
   try clear hfz41_1
   try clear hfz41_2
   obtain⟨kq,x131_10,rfl,HA,HJ10,HO_6,HO_17,HO_916000,HO_916001,HO_916002,BK915,HB⟩:=hcut
   cases kq with
   |zero=>exact absurd HA.out (by simp [laws_FnMatches.j0])
   |succ kj10=>
    have H:=HA.out
    clear HA
    simp only [laws_FnMatches.j0] at H
    by_cases c43:x131_10=true
    ·subst c43
     have H1:(some false)=some r:=by rw [if_pos rfl] at H;exact H
     clear H
     have H:=H1
     clear H1
     exact absurd ((Option.some.inj H).trans HRT.out) (by decide)
    ·replace c43:=Bool.eq_false_iff.mpr c43
     subst c43
     have H1:(if t923=true then(laws_FnMatches.j1 kj10 l1 t912 t916 t917 t918 t926 t929 (t922==t918) t903 t906 t909) else(laws_FnMatches.j1 kj10 l1 t912 t916 t917 t918 t926 t929 false t903 t906 t909))=some r:=by rw [if_neg (show ¬ (false=true) by decide)] at H;exact H
     clear H
     have H:=H1
     clear H1
     have HC44:=Aside0.mk H
     clear H
     go_upto_region 12 with (fail)
     go_cut [137] (fun v137 wc=> ∃ (kq:Nat) (x137_43:Bool),v137= .bool x137_43∧Aside0 (laws_FnMatches.j1 kq l1 t912 t916 t917 t918 t926 t929 x137_43 t903 t906 t909=some r)∧Aside0 (kq≤kj10)∧Aside0 (Kd.R (Kd.int .i64) 3 wc w.heap.size (fun k_=>some k_≠ (v927:Value).ownBlock∧some k_≠ ((.slice Ao17 t909.length co17):Value).ownBlock) (.slice Ao18 t912.length co18) t912)∧Aside0 (Kd.R (Kd.int .i64) 3 wc w.heap.size (fun k_=>some k_≠ ((.slice Ao18 t912.length co18):Value).ownBlock∧some k_≠ ((.slice Ao17 t909.length co17):Value).ownBlock) v927 t926)∧Aside0 (Kd.S (Kd.slice 3 (Kd.int .i64)) 22 wc w.heap.size (fun k_=>some k_≠ ((.slice Ao18 t912.length co18):Value).ownBlock∧some k_≠ (v927:Value).ownBlock∧some k_≠ ((.slice Ao16 t906.length co16):Value).ownBlock∧some k_≠ ((.slice Ao17 t909.length co17):Value).ownBlock) (.slice Ao14 t903.length co14) t903)∧Aside0 (Kd.S (Kd.slice 3 (Kd.int .i64)) 22 wc w.heap.size (fun k_=>some k_≠ ((.slice Ao18 t912.length co18):Value).ownBlock∧some k_≠ (v927:Value).ownBlock∧some k_≠ ((.slice Ao14 t903.length co14):Value).ownBlock∧some k_≠ ((.slice Ao17 t909.length co17):Value).ownBlock) (.slice Ao16 t906.length co16) t906)∧Aside0 (Kd.R (Kd.int .i64) 3 wc w.heap.size (fun k_=>some k_≠ ((.slice Ao18 t912.length co18):Value).ownBlock∧some k_≠ (v927:Value).ownBlock) (.slice Ao17 t909.length co17) t909)∧Aside0 (wc.heap[gb915]?=some (.cells #[(.slice Ao14 t903.length co14),(.slice Ao16 t906.length co16),(.slice Ao17 t909.length co17)] 33 (0,0)))∧Aside0 (Below w.heap.size w wc))
     case first=>
      have H:=HC44.out
      clear HC44
      by_cases c45:t923=true
      ·subst c45
       have H1:(laws_FnMatches.j1 kj10 l1 t912 t916 t917 t918 t926 t929 (t922==t918) t903 t906 t909)=some r:=by rw [if_pos rfl] at H;exact H
       clear H
       have H:=H1
       clear H1
       as_aux_lemma=>
        have H':=Aside0.mk H
        clear H
        go_wp2
        go_meet
        case rel=>exact⟨_,((t922==t918)),zrs,H',⟨by have:=HJ10.out;first|omega|exact Nat.le_refl _⟩,⟨zdr HO_6⟩,⟨zdr HO_17⟩,⟨by(with_reducible repeat(first|apply Kd.S_alloc|apply Kd.S_drewN|apply Kd.S_drew));exact HO_916000.out⟩,⟨by(with_reducible repeat(first|apply Kd.S_alloc|apply Kd.S_drewN|apply Kd.S_drew));exact HO_916001.out⟩,⟨zdr HO_916002⟩,⟨by(with_reducible repeat(first|refine blk_drewN ?_ _|refine blk_drew ?_ |refine blk_alloc ?_ _));exact BK915.out⟩,⟨by exact zk2 HB GE915.out⟩⟩
      ·replace c45:=Bool.eq_false_iff.mpr c45
       subst c45
       have H1:(laws_FnMatches.j1 kj10 l1 t912 t916 t917 t918 t926 t929 false t903 t906 t909)=some r:=by rw [if_neg (show ¬ (false=true) by decide)] at H;exact H
       clear H
       have H:=H1
       clear H1
       as_aux_lemma=>
        have H':=Aside0.mk H
        clear H
        go_wp2
        go_meet
        case rel=>exact⟨_,(false),zrs,H',⟨by have:=HJ10.out;first|omega|exact Nat.le_refl _⟩,⟨zdr HO_6⟩,⟨zdr HO_17⟩,⟨by(with_reducible repeat(first|apply Kd.S_alloc|apply Kd.S_drewN|apply Kd.S_drew));exact HO_916000.out⟩,⟨by(with_reducible repeat(first|apply Kd.S_alloc|apply Kd.S_drewN|apply Kd.S_drew));exact HO_916001.out⟩,⟨zdr HO_916002⟩,⟨by(with_reducible repeat(first|refine blk_drewN ?_ _|refine blk_drew ?_ |refine blk_alloc ?_ _));exact BK915.out⟩,⟨by exact zk2 HB GE915.out⟩⟩
     case rest=>
      clear HC44
      try clear c1
      try clear c2
      try clear p2
      try clear c3
      try clear c3b0
      try clear c4
      try clear p6
      try clear c11
      try clear c24
      try clear c25
      try clear c30
      try clear c30b0
      try clear c30b1
      try clear c30b2
      try clear c31
      try clear c31b0
      try clear c31b1
      try clear c32
      try clear c32b0
      try clear c32b1
      try clear c33
      try clear c33b0
      try clear c33b1
      try clear c33b2
      try clear c34
      try clear c34b0
      try clear c34b1
      try clear c34b2
      try clear c35
      try clear c35b0
      try clear c35b1
      try clear c35b2
      try clear c37
      try clear c43
      try clear c45
      try clear hcz15_0
      try clear hcz15_1
      try clear hcz15_2
      try clear hcz20_0
      try clear hcz20_1
      try clear hcz20_2
      try clear hcz22_0
      try clear hcz22_1
      try clear hcz22_2
      try clear hcz24_0
      try clear hcz24_1
      try clear hcz24_2
      try clear hcz26_0
      try clear hcz26_1
      try clear hcz26_2
      try clear hcz28_0
      try clear hcz28_1
      try clear hcz28_2
      try clear hcz41_0
      try clear hcz41_1
      try clear hcz41_2
      try clear hfz15_0
      try clear hfz15_1
      try clear hfz15_2
      try clear hfz20_0
      try clear hfz20_1
      try clear hfz20_2
      try clear hfz22_0
      try clear hfz22_1
      try clear hfz22_2
      try clear hfz24_0
      try clear hfz24_1
      try clear hfz24_2
      try clear hfz26_0
      try clear hfz26_1
      try clear hfz26_2
      try clear hfz28_0
      try clear hfz28_1
      try clear hfz28_2
      try clear hfz41_0
      try clear hfz41_1
      try clear hfz41_2
      try clear p2
      try clear p6
      obtain⟨kq,x137_43,rfl,HA,HJ43,HO_6,HO_17,HO_916000,HO_916001,HO_916002,BK915,HB⟩:=hcut
      cases kq with
      |zero=>exact absurd HA.out (by simp [laws_FnMatches.j1])
      |succ kj43=>
       have H:=HA.out
       clear HA
       simp only [laws_FnMatches.j1] at H
       by_cases c46:x137_43=true
       ·subst c46
        have H1:(some false)=some r:=by rw [if_pos rfl] at H;exact H
        clear H
        have H:=H1
        clear H1
        exact absurd ((Option.some.inj H).trans HRT.out) (by decide)
       ·replace c46:=Bool.eq_false_iff.mpr c46
        subst c46
        have H1:(if t929=true then(laws_FnMatches.l0 kj43 l1 t912 t916 t917 t918 0 t926 (t926.length:Int) 0 t903 t906 t909) else(laws_FnMatches.j4 kj43 l1 t912 t916 t917 t918 t903 t906 t909))=some r:=by rw [if_neg (show ¬ (false=true) by decide)] at H;exact H
        clear H
        have H:=H1
        clear H1
        have HC47:=Aside0.mk H
        clear H
        go_upto_if 138 with (fail)
        go_cut [] (fun wc=> ∃ (kq:Nat),Aside0 (laws_FnMatches.j4 kq l1 t912 t916 t917 t918 t903 t906 t909=some r)∧Aside0 (kq≤kj43)∧Aside0 (Kd.R (Kd.int .i64) 3 wc w.heap.size (fun k_=>some k_≠ ((.slice Ao17 t909.length co17):Value).ownBlock) (.slice Ao18 t912.length co18) t912)∧Aside0 (Kd.S (Kd.slice 3 (Kd.int .i64)) 22 wc w.heap.size (fun k_=>some k_≠ ((.slice Ao18 t912.length co18):Value).ownBlock∧some k_≠ ((.slice Ao16 t906.length co16):Value).ownBlock∧some k_≠ ((.slice Ao17 t909.length co17):Value).ownBlock) (.slice Ao14 t903.length co14) t903)∧Aside0 (Kd.S (Kd.slice 3 (Kd.int .i64)) 22 wc w.heap.size (fun k_=>some k_≠ ((.slice Ao18 t912.length co18):Value).ownBlock∧some k_≠ ((.slice Ao14 t903.length co14):Value).ownBlock∧some k_≠ ((.slice Ao17 t909.length co17):Value).ownBlock) (.slice Ao16 t906.length co16) t906)∧Aside0 (Kd.R (Kd.int .i64) 3 wc w.heap.size (fun k_=>some k_≠ ((.slice Ao18 t912.length co18):Value).ownBlock) (.slice Ao17 t909.length co17) t909)∧Aside0 (wc.heap[gb915]?=some (.cells #[(.slice Ao14 t903.length co14),(.slice Ao16 t906.length co16),(.slice Ao17 t909.length co17)] 33 (0,0)))∧Aside0 (Below w.heap.size w wc))
        case first=>
         have H:=HC47.out
         clear HC47
         by_cases c48:t929=true
         ·subst c48
          have H1:(laws_FnMatches.l0 kj43 l1 t912 t916 t917 t918 0 t926 (t926.length:Int) 0 t903 t906 t909)=some r:=by rw [if_pos rfl] at H;exact H
          clear H
          have H:=H1
          clear H1
          have H':=Aside0.mk H
          clear H
          obtain⟨Ao49,co49,eo49⟩:=Kd.R_slice HO_17.out
          subst eo49
          go_wp2
          go_loopg [21,141] kj43 (fun kq v21 v141 w'=> ∃ (x21_3:Int) (x141_3:Int),v21= .int .i64 x21_3∧v141= .int .i64 x141_3∧Aside0 (laws_FnMatches.l0 kq l1 t912 t916 t917 t918 x21_3 t926 (t926.length:Int) x141_3 t903 t906 t909=some r)∧Aside0 (kq≤kj43)∧Aside0 (Kd.R (Kd.int .i64) 3 w' w.heap.size (fun k_=>some k_≠ ((.slice Ao49 t926.length co49):Value).ownBlock∧some k_≠ ((.slice Ao17 t909.length co17):Value).ownBlock) (.slice Ao18 t912.length co18) t912)∧Aside0 (Kd.R (Kd.int .i64) 3 w' w.heap.size (fun k_=>some k_≠ ((.slice Ao18 t912.length co18):Value).ownBlock∧some k_≠ ((.slice Ao17 t909.length co17):Value).ownBlock) (.slice Ao49 t926.length co49) t926)∧Aside0 (Kd.S (Kd.slice 3 (Kd.int .i64)) 22 w' w.heap.size (fun k_=>some k_≠ ((.slice Ao18 t912.length co18):Value).ownBlock∧some k_≠ ((.slice Ao49 t926.length co49):Value).ownBlock∧some k_≠ ((.slice Ao16 t906.length co16):Value).ownBlock∧some k_≠ ((.slice Ao17 t909.length co17):Value).ownBlock) (.slice Ao14 t903.length co14) t903)∧Aside0 (Kd.S (Kd.slice 3 (Kd.int .i64)) 22 w' w.heap.size (fun k_=>some k_≠ ((.slice Ao18 t912.length co18):Value).ownBlock∧some k_≠ ((.slice Ao49 t926.length co49):Value).ownBlock∧some k_≠ ((.slice Ao14 t903.length co14):Value).ownBlock∧some k_≠ ((.slice Ao17 t909.length co17):Value).ownBlock) (.slice Ao16 t906.length co16) t906)∧Aside0 (Kd.R (Kd.int .i64) 3 w' w.heap.size (fun k_=>some k_≠ ((.slice Ao18 t912.length co18):Value).ownBlock∧some k_≠ ((.slice Ao49 t926.length co49):Value).ownBlock) (.slice Ao17 t909.length co17) t909)∧Aside0 (w'.heap[gb915]?=some (.cells #[(.slice Ao14 t903.length co14),(.slice Ao16 t906.length co16),(.slice Ao17 t909.length co17)] 33 (0,0)))∧Aside0 (Below w.heap.size w w'))
          case atStart=>exact⟨(0),(0),zrs,zrs,H',⟨Nat.le_refl _⟩,⟨zdr HO_6⟩,⟨zdr HO_17⟩,⟨by(with_reducible repeat(first|apply Kd.S_alloc|apply Kd.S_drewN|apply Kd.S_drew));exact HO_916000.out⟩,⟨by(with_reducible repeat(first|apply Kd.S_alloc|apply Kd.S_drewN|apply Kd.S_drew));exact HO_916001.out⟩,⟨zdr HO_916002⟩,⟨by(with_reducible repeat(first|refine blk_drewN ?_ _|refine blk_drew ?_ |refine blk_alloc ?_ _));exact BK915.out⟩,⟨by exact zk2 HB GE915.out⟩⟩
          case round=>
           clear H'
           try clear c1
           try clear c2
           try clear p2
           try clear c3
           try clear c3b0
           try clear c4
           try clear p6
           try clear c11
           try clear c24
           try clear c25
           try clear c30
           try clear c30b0
           try clear c30b1
           try clear c30b2
           try clear c31
           try clear c31b0
           try clear c31b1
           try clear c32
           try clear c32b0
           try clear c32b1
           try clear c33
           try clear c33b0
           try clear c33b1
           try clear c33b2
           try clear c34
           try clear c34b0
           try clear c34b1
           try clear c34b2
           try clear c35
           try clear c35b0
           try clear c35b1
           try clear c35b2
           try clear c37
           try clear c43
           try clear c45
           try clear c46
           try clear c48
           try clear hcz15_0
           try clear hcz15_1
           try clear hcz15_2
           try clear hcz20_0
           try clear hcz20_1
           try clear hcz20_2
           try clear hcz22_0
           try clear hcz22_1
           try clear hcz22_2
           try clear hcz24_0
           try clear hcz24_1
           try clear hcz24_2
           try clear hcz26_0
           try clear hcz26_1
           try clear hcz26_2
           try clear hcz28_0
           try clear hcz28_1
           try clear hcz28_2
           try clear hcz41_0
           try clear hcz41_1
           try clear hcz41_2
           try clear hfz15_0
           try clear hfz15_1
           try clear hfz15_2
           try clear hfz20_0
           try clear hfz20_1
           try clear hfz20_2
           try clear hfz22_0
           try clear hfz22_1
           try clear hfz22_2
           try clear hfz24_0
           try clear hfz24_1
           try clear hfz24_2
           try clear hfz26_0
           try clear hfz26_1
           try clear hfz26_2
           try clear hfz28_0
           try clear hfz28_1
           try clear hfz28_2
           try clear hfz41_0
           try clear hfz41_1
           try clear hfz41_2
           try clear p2
           try clear p6
           obtain⟨x21_3,x141_3,rfl,rfl,HA,HK3,HO_6,HO_139,HO_916000,HO_916001,HO_916002,BK915,HB⟩:=hrel
           cases gk with
           |zero=>exact absurd HA.out (by simp [laws_FnMatches.l0])
           |succ k3=>
            have H:=HA.out
            clear HA
            simp only [laws_FnMatches.l0] at H
            by_cases c50:x141_3< (t926.length:Int)
            ·rw [if_pos c50] at H
             have c50b0:decide (x141_3< (t926.length:Int))=true:=decide_eq_true c50
             clear c50
             (first|rw [c50b0]|(simp only [i64_w,i32_w];rw [c50b0])|skip)
             by_cases c51: 0≤x141_3
             case neg=>exact znn c51 H
             rw [if_pos c51] at H
             have c51b0:decide (0≤x141_3)=true:=decide_eq_true c51
             clear c51
             by_cases c52:x141_3< (t926.length:Int)
             case neg=>exact znn c52 H
             rw [if_pos c52] at H
             have c52b0:decide (x141_3< (t926.length:Int))=true:=decide_eq_true c52
             clear c52
             by_cases c53:x141_3< (t909.length:Int)
             case neg=>exact znn c53 H
             rw [if_pos c53] at H
             have c53b0:decide (x141_3< (t909.length:Int))=true:=decide_eq_true c53
             clear c53
             by_cases c54:(rd t926 x141_3) > (rd t909 x141_3)
             ·rw [if_pos c54] at H
              have c54b0:decide ((rd t909 x141_3)< (rd t926 x141_3))=true:=decide_eq_true c54
              clear c54
              exact absurd ((Option.some.inj H).trans HRT.out) (by decide)
             ·rw [if_neg c54] at H
              have c54b0:decide ((rd t909 x141_3)< (rd t926 x141_3))=false:=decide_eq_false c54
              clear c54
              as_aux_lemma=>
               have H':=Aside0.mk H
               clear H
               have p936: 0≤ (x141_3:Int):=of_decide_eq_true zq1
               have q936:x141_3< (t926.length:Int):=of_decide_eq_true zq1
               obtain⟨ad936,e936,hx936_0⟩:=Kd.at_int (Kd.R_reads' HO_139.out).2.2 x141_3 p936 q936
               cases e936
               replace p936:=eq_true p936
               replace q936:=eq_true q936
               have hcz55_0:wr.cell? ⟨gb915,0,none⟩=some (.slice Ao14 t903.length co14):=(blk_cell BK915.out 0).trans rfl
               have hcz55_1:wr.cell? ⟨gb915,1,none⟩=some (.slice Ao16 t906.length co16):=(blk_cell BK915.out 1).trans rfl
               have hcz55_2:wr.cell? ⟨gb915,2,none⟩=some (.slice Ao17 t909.length co17):=(blk_cell BK915.out 2).trans rfl
               have hfz55_0:=blk_frozen BK915.out 0
               have hfz55_1:=blk_frozen BK915.out 1
               have hfz55_2:=blk_frozen BK915.out 2
               have p937: 0≤ (x141_3:Int):=of_decide_eq_true zq1
               have q937:x141_3< (t909.length:Int):=of_decide_eq_true zq1
               obtain⟨ad937,e937,hx937_0⟩:=Kd.at_int (Kd.R_reads' HO_916002.out).2.2 x141_3 p937 q937
               cases e937
               replace p937:=eq_true p937
               replace q937:=eq_true q937
               go_wp2
               go_roundg k3
               case measure=>have:=HJ10.out;have:=HJ43.out;have:=HK3.out;omega
               case rel=>exact⟨(wrap64 (x21_3+ (rd t926 x141_3))),(wrap64 (x141_3+1)),zrs,zrs,H',⟨by have:=HJ10.out;have:=HJ43.out;have:=HK3.out;omega⟩,⟨zdr HO_6⟩,⟨zdr HO_139⟩,⟨by(with_reducible repeat(first|apply Kd.S_alloc|apply Kd.S_drewN|apply Kd.S_drew));exact HO_916000.out⟩,⟨by(with_reducible repeat(first|apply Kd.S_alloc|apply Kd.S_drewN|apply Kd.S_drew));exact HO_916001.out⟩,⟨zdr HO_916002⟩,⟨by(with_reducible repeat(first|refine blk_drewN ?_ _|refine blk_drew ?_ |refine blk_alloc ?_ _));exact BK915.out⟩,⟨by exact zk2 HB GE915.out⟩⟩
            ·rw [if_neg c50] at H
             have c50b0:decide (x141_3< (t926.length:Int))=false:=decide_eq_false c50
             clear c50
             (first|rw [c50b0]|(simp only [i64_w,i32_w];rw [c50b0])|skip)
             have H':=Aside0.mk H
             clear H
             go_wp2
             go_loopg [21,159] k3 (fun kq v21 v159 w'=> ∃ (x21_4:Int) (x159_4:Int),v21= .int .i64 x21_4∧v159= .int .i64 x159_4∧Aside0 (laws_FnMatches.l1 kq l1 t912 t916 t917 t918 x21_4 t912 (t912.length:Int) x159_4 t903 t906 t909=some r)∧Aside0 (kq≤k3)∧Aside0 (Kd.R (Kd.int .i64) 3 w' w.heap.size (fun k_=>some k_≠ ((.slice Ao17 t909.length co17):Value).ownBlock) (.slice Ao18 t912.length co18) t912)∧Aside0 (Kd.R (Kd.int .i64) 3 w' w.heap.size (fun k_=>some k_≠ ((.slice Ao17 t909.length co17):Value).ownBlock) (.slice Ao18 t912.length co18) t912)∧Aside0 (Kd.S (Kd.slice 3 (Kd.int .i64)) 22 w' w.heap.size (fun k_=>some k_≠ ((.slice Ao18 t912.length co18):Value).ownBlock∧some k_≠ ((.slice Ao18 t912.length co18):Value).ownBlock∧some k_≠ ((.slice Ao16 t906.length co16):Value).ownBlock∧some k_≠ ((.slice Ao17 t909.length co17):Value).ownBlock) (.slice Ao14 t903.length co14) t903)∧Aside0 (Kd.S (Kd.slice 3 (Kd.int .i64)) 22 w' w.heap.size (fun k_=>some k_≠ ((.slice Ao18 t912.length co18):Value).ownBlock∧some k_≠ ((.slice Ao18 t912.length co18):Value).ownBlock∧some k_≠ ((.slice Ao14 t903.length co14):Value).ownBlock∧some k_≠ ((.slice Ao17 t909.length co17):Value).ownBlock) (.slice Ao16 t906.length co16) t906)∧Aside0 (Kd.R (Kd.int .i64) 3 w' w.heap.size (fun k_=>some k_≠ ((.slice Ao18 t912.length co18):Value).ownBlock∧some k_≠ ((.slice Ao18 t912.length co18):Value).ownBlock) (.slice Ao17 t909.length co17) t909)∧Aside0 (w'.heap[gb915]?=some (.cells #[(.slice Ao14 t903.length co14),(.slice Ao16 t906.length co16),(.slice Ao17 t909.length co17)] 33 (0,0)))∧Aside0 (Below w.heap.size w w'))
             case atStart=>exact⟨(x21_3),(0),zrs,zrs,H',⟨Nat.le_refl _⟩,⟨by(with_reducible repeat(first|apply Kd.R_alloc|apply Kd.R_drewN|apply Kd.R_drew));exact Kd.R_mono HO_6.out (fun _ hk=>hk.2)⟩,⟨by(with_reducible repeat(first|apply Kd.R_alloc|apply Kd.R_drewN|apply Kd.R_drew));exact Kd.R_mono HO_6.out (fun _ hk=>hk.2)⟩,⟨by(with_reducible repeat(first|apply Kd.S_alloc|apply Kd.S_drewN|apply Kd.S_drew));exact Kd.S_mono HO_916000.out (fun _ hk=>⟨hk.1,⟨hk.1,⟨hk.2.2.1,hk.2.2.2⟩⟩⟩)⟩,⟨by(with_reducible repeat(first|apply Kd.S_alloc|apply Kd.S_drewN|apply Kd.S_drew));exact Kd.S_mono HO_916001.out (fun _ hk=>⟨hk.1,⟨hk.1,⟨hk.2.2.1,hk.2.2.2⟩⟩⟩)⟩,⟨by(with_reducible repeat(first|apply Kd.R_alloc|apply Kd.R_drewN|apply Kd.R_drew));exact Kd.R_mono HO_916002.out (fun _ hk=>⟨hk.1,hk.1⟩)⟩,⟨by(with_reducible repeat(first|refine blk_drewN ?_ _|refine blk_drew ?_ |refine blk_alloc ?_ _));exact BK915.out⟩,⟨by exact zk2 HB GE915.out⟩⟩
             case round=>
              clear H'
              try clear c1
              try clear c2
              try clear p2
              try clear c3
              try clear c3b0
              try clear c4
              try clear c5
              try clear p6
              try clear p9
              try clear q9
              try clear hx9
              try clear c11
              try clear c24
              try clear c25
              try clear c30
              try clear c30b0
              try clear c30b1
              try clear c30b2
              try clear c31
              try clear c31b0
              try clear c31b1
              try clear c32
              try clear c32b0
              try clear c32b1
              try clear c33
              try clear c33b0
              try clear c33b1
              try clear c33b2
              try clear c34
              try clear c34b0
              try clear c34b1
              try clear c34b2
              try clear c35
              try clear c35b0
              try clear c35b1
              try clear c35b2
              try clear c37
              try clear c43
              try clear c45
              try clear c46
              try clear c48
              try clear c50
              try clear c50b0
              try clear c51
              try clear c51b0
              try clear c52
              try clear c52b0
              try clear c53
              try clear c53b0
              try clear c54
              try clear c54b0
              try clear hcz15_0
              try clear hcz15_1
              try clear hcz15_2
              try clear hcz20_0
              try clear hcz20_1
              try clear hcz20_2
              try clear hcz22_0
              try clear hcz22_1
              try clear hcz22_2
              try clear hcz24_0
              try clear hcz24_1
              try clear hcz24_2
              try clear hcz26_0
              try clear hcz26_1
              try clear hcz26_2
              try clear hcz28_0
              try clear hcz28_1
              try clear hcz28_2
              try clear hcz41_0
              try clear hcz41_1
              try clear hcz41_2
              try clear hcz55_0
              try clear hcz55_1
              try clear hcz55_2
              try clear hfz15_0
              try clear hfz15_1
              try clear hfz15_2
              try clear hfz20_0
              try clear hfz20_1
              try clear hfz20_2
              try clear hfz22_0
              try clear hfz22_1
              try clear hfz22_2
              try clear hfz24_0
              try clear hfz24_1
              try clear hfz24_2
              try clear hfz26_0
              try clear hfz26_1
              try clear hfz26_2
              try clear hfz28_0
              try clear hfz28_1
              try clear hfz28_2
              try clear hfz41_0
              try clear hfz41_1
              try clear hfz41_2
              try clear hfz55_0
              try clear hfz55_1
              try clear hfz55_2
              try clear hx936_0
              try clear hx937_0
              try clear p2
              try clear p6
              try clear p936
              try clear p937
              try clear q936
              try clear q937
              obtain⟨x21_4,x159_4,rfl,rfl,HA,HK4,HO_6,HO_157,HO_916000,HO_916001,HO_916002,BK915,HB⟩:=hrel
              cases gk with
              |zero=>exact absurd HA.out (by simp [laws_FnMatches.l1])
              |succ k4=>
               have H:=HA.out
               clear HA
               simp only [laws_FnMatches.l1] at H
               by_cases c56:x159_4< (t912.length:Int)
               ·rw [if_pos c56] at H
                have c56b0:decide (x159_4< (t912.length:Int))=true:=decide_eq_true c56
                clear c56
                by_cases c57: 0≤x159_4
                case neg=>exact znn c57 H
                rw [if_pos c57] at H
                have c57b0:decide (0≤x159_4)=true:=decide_eq_true c57
                clear c57
                by_cases c58:x159_4< (t912.length:Int)
                case neg=>exact znn c58 H
                rw [if_pos c58] at H
                have c58b0:decide (x159_4< (t912.length:Int))=true:=decide_eq_true c58
                clear c58
                by_cases c59:(rd t912 x159_4)≥0
                ·rw [if_pos c59] at H
                 have c59b0:decide (0≤ (rd t912 x159_4))=true:=decide_eq_true c59
                 clear c59
                 as_aux_lemma=>
                  have H':=Aside0.mk H
                  clear H
                  have p938: 0≤ (x159_4:Int):=of_decide_eq_true zq1
                  have q938:x159_4< (t912.length:Int):=of_decide_eq_true zq1
                  obtain⟨ad938,e938,hx938_0⟩:=Kd.at_int (Kd.R_reads' HO_157.out).2.2 x159_4 p938 q938
                  cases e938
                  replace p938:=eq_true p938
                  replace q938:=eq_true q938
                  go_wp2
                  go_roundg k4
                  case measure=>have:=HJ10.out;have:=HJ43.out;have:=HK3.out;have:=HK4.out;omega
                  case rel=>exact⟨(wrap64 (x21_4 - 1)),(wrap64 (x159_4+1)),zrs,zrs,H',⟨by have:=HJ10.out;have:=HJ43.out;have:=HK3.out;have:=HK4.out;omega⟩,⟨zdr HO_6⟩,⟨zdr HO_157⟩,⟨by(with_reducible repeat(first|apply Kd.S_alloc|apply Kd.S_drewN|apply Kd.S_drew));exact HO_916000.out⟩,⟨by(with_reducible repeat(first|apply Kd.S_alloc|apply Kd.S_drewN|apply Kd.S_drew));exact HO_916001.out⟩,⟨zdr HO_916002⟩,⟨by(with_reducible repeat(first|refine blk_drewN ?_ _|refine blk_drew ?_ |refine blk_alloc ?_ _));exact BK915.out⟩,⟨by exact zk2 HB GE915.out⟩⟩
                ·rw [if_neg c59] at H
                 have c59b0:decide (0≤ (rd t912 x159_4))=false:=decide_eq_false c59
                 clear c59
                 as_aux_lemma=>
                  have H':=Aside0.mk H
                  clear H
                  have p938: 0≤ (x159_4:Int):=of_decide_eq_true zq1
                  have q938:x159_4< (t912.length:Int):=of_decide_eq_true zq1
                  obtain⟨ad938,e938,hx938_0⟩:=Kd.at_int (Kd.R_reads' HO_157.out).2.2 x159_4 p938 q938
                  cases e938
                  replace p938:=eq_true p938
                  replace q938:=eq_true q938
                  go_wp2
                  go_roundg k4
                  case measure=>have:=HJ10.out;have:=HJ43.out;have:=HK3.out;have:=HK4.out;omega
                  case rel=>exact⟨(x21_4),(wrap64 (x159_4+1)),zrs,zrs,H',⟨by have:=HJ10.out;have:=HJ43.out;have:=HK3.out;have:=HK4.out;omega⟩,⟨zdr HO_6⟩,⟨zdr HO_157⟩,⟨by(with_reducible repeat(first|apply Kd.S_alloc|apply Kd.S_drewN|apply Kd.S_drew));exact HO_916000.out⟩,⟨by(with_reducible repeat(first|apply Kd.S_alloc|apply Kd.S_drewN|apply Kd.S_drew));exact HO_916001.out⟩,⟨zdr HO_916002⟩,⟨by(with_reducible repeat(first|refine blk_drewN ?_ _|refine blk_drew ?_ |refine blk_alloc ?_ _));exact BK915.out⟩,⟨by exact zk2 HB GE915.out⟩⟩
               ·rw [if_neg c56] at H
                have c56b0:decide (x159_4< (t912.length:Int))=false:=decide_eq_false c56
                clear c56
                by_cases c60:x21_4=0
                ·rw [if_pos c60] at H
                 have c60b0:(x21_4==0)=true:=beq_iff_eq.mpr c60
                 have c60b1:(x21_4 !=0)=false:=bne_eq_false_iff_eq.mpr c60
                 clear c60
                 as_aux_lemma=>
                  have H':=Aside0.mk H
                  clear H
                  go_wp2
                  go_meet
                  case rel=>exact⟨_,H',⟨by have:=HJ10.out;have:=HJ43.out;have:=HK3.out;have:=HK4.out;first|omega|exact Nat.le_refl _⟩,⟨zdr HO_6⟩,⟨by(with_reducible repeat(first|apply Kd.S_alloc|apply Kd.S_drewN|apply Kd.S_drew));exact Kd.S_mono HO_916000.out (fun _ hk=>⟨hk.1,⟨hk.2.2.1,hk.2.2.2⟩⟩)⟩,⟨by(with_reducible repeat(first|apply Kd.S_alloc|apply Kd.S_drewN|apply Kd.S_drew));exact Kd.S_mono HO_916001.out (fun _ hk=>⟨hk.1,⟨hk.2.2.1,hk.2.2.2⟩⟩)⟩,⟨by(with_reducible repeat(first|apply Kd.R_alloc|apply Kd.R_drewN|apply Kd.R_drew));exact Kd.R_mono HO_916002.out (fun _ hk=>hk.1)⟩,⟨by(with_reducible repeat(first|refine blk_drewN ?_ _|refine blk_drew ?_ |refine blk_alloc ?_ _));exact BK915.out⟩,⟨by exact zk2 HB GE915.out⟩⟩
                ·rw [if_neg c60] at H
                 have c60b0:(x21_4==0)=false:=beq_eq_false_iff_ne.mpr c60
                 have c60b1:(x21_4 !=0)=true:=bne_iff_ne.mpr c60
                 exact absurd ((Option.some.inj H).trans HRT.out) (by decide)
         ·replace c48:=Bool.eq_false_iff.mpr c48
          subst c48
          have H1:(laws_FnMatches.j4 kj43 l1 t912 t916 t917 t918 t903 t906 t909)=some r:=by rw [if_neg (show ¬ (false=true) by decide)] at H;exact H
          clear H
          have H:=H1
          clear H1
          as_aux_lemma=>
           have H':=Aside0.mk H
           clear H
           go_wp2
           go_meet
           case rel=>exact⟨_,H',⟨by have:=HJ10.out;have:=HJ43.out;first|omega|exact Nat.le_refl _⟩,⟨by(with_reducible repeat(first|apply Kd.R_alloc|apply Kd.R_drewN|apply Kd.R_drew));exact Kd.R_mono HO_6.out (fun _ hk=>hk.2)⟩,⟨by(with_reducible repeat(first|apply Kd.S_alloc|apply Kd.S_drewN|apply Kd.S_drew));exact Kd.S_mono HO_916000.out (fun _ hk=>⟨hk.1,⟨hk.2.2.1,hk.2.2.2⟩⟩)⟩,⟨by(with_reducible repeat(first|apply Kd.S_alloc|apply Kd.S_drewN|apply Kd.S_drew));exact Kd.S_mono HO_916001.out (fun _ hk=>⟨hk.1,⟨hk.2.2.1,hk.2.2.2⟩⟩)⟩,⟨by(with_reducible repeat(first|apply Kd.R_alloc|apply Kd.R_drewN|apply Kd.R_drew));exact Kd.R_mono HO_916002.out (fun _ hk=>hk.1)⟩,⟨by(with_reducible repeat(first|refine blk_drewN ?_ _|refine blk_drew ?_ |refine blk_alloc ?_ _));exact BK915.out⟩,⟨by exact zk2 HB GE915.out⟩⟩
        case rest=>
         clear HC47
         try clear c1
         try clear c2
         try clear p2
         try clear c3
         try clear c3b0
         try clear c4
         try clear c5
         try clear c6
         try clear p6
         try clear p9
         try clear q9
         try clear hx9
         try clear c11
         try clear c24
         try clear c25
         try clear c30
         try clear c30b0
         try clear c30b1
         try clear c30b2
         try clear c31
         try clear c31b0
         try clear c31b1
         try clear c32
         try clear c32b0
         try clear c32b1
         try clear c33
         try clear c33b0
         try clear c33b1
         try clear c33b2
         try clear c34
         try clear c34b0
         try clear c34b1
         try clear c34b2
         try clear c35
         try clear c35b0
         try clear c35b1
         try clear c35b2
         try clear c37
         try clear c43
         try clear c45
         try clear c46
         try clear c48
         try clear c50
         try clear c50b0
         try clear c51
         try clear c51b0
         try clear c52
         try clear c52b0
         try clear c53
         try clear c53b0
         try clear c54
         try clear c54b0
         try clear c56
         try clear c56b0
         try clear c57
         try clear c57b0
         try clear c58
         try clear c58b0
         try clear c59
         try clear c59b0
         try clear c60
         try clear c60b0
         try clear c60b1
         try clear hcz15_0
         try clear hcz15_1
         try clear hcz15_2
         try clear hcz20_0
         try clear hcz20_1
         try clear hcz20_2
         try clear hcz22_0
         try clear hcz22_1
         try clear hcz22_2
         try clear hcz24_0
         try clear hcz24_1
         try clear hcz24_2
         try clear hcz26_0
         try clear hcz26_1
         try clear hcz26_2
         try clear hcz28_0
         try clear hcz28_1
         try clear hcz28_2
         try clear hcz41_0
         try clear hcz41_1
         try clear hcz41_2
         try clear hcz55_0
         try clear hcz55_1
         try clear hcz55_2
         try clear hfz15_0
         try clear hfz15_1
         try clear hfz15_2
         try clear hfz20_0
         try clear hfz20_1
         try clear hfz20_2
         try clear hfz22_0
         try clear hfz22_1
         try clear hfz22_2
         try clear hfz24_0
         try clear hfz24_1
         try clear hfz24_2
         try clear hfz26_0
         try clear hfz26_1
         try clear hfz26_2
         try clear hfz28_0
         try clear hfz28_1
         try clear hfz28_2
         try clear hfz41_0
         try clear hfz41_1
         try clear hfz41_2
         try clear hfz55_0
         try clear hfz55_1
         try clear hfz55_2
         try clear hx936_0
         try clear hx937_0
         try clear hx938_0
         try clear p2
         try clear p6
         try clear p9
         try clear p936
         try clear p937
         try clear p938
         try clear q9
         try clear q936
         try clear q937
         try clear q938
         obtain⟨kq,HA,HJ46,HO_6,HO_916000,HO_916001,HO_916002,BK915,HB⟩:=hcut
         cases kq with
         |zero=>exact absurd HA.out (by simp [laws_FnMatches.j4])
         |succ kj46=>
          have H:=HA.out
          clear HA
          simp only [laws_FnMatches.j4] at H
          have HC61:=Aside0.mk H
          clear H
          go_upto_if 170 with (fail)
          go_cut [] (fun wc=> ∃ (kq:Nat),Aside0 (laws_FnMatches.j5 kq l1=some r)∧Aside0 (kq≤kj46)∧Aside0 (Kd.S (Kd.slice 3 (Kd.int .i64)) 22 wc w.heap.size (fun k_=>some k_≠ ((.slice Ao16 t906.length co16):Value).ownBlock∧some k_≠ ((.slice Ao17 t909.length co17):Value).ownBlock) (.slice Ao14 t903.length co14) t903)∧Aside0 (Kd.S (Kd.slice 3 (Kd.int .i64)) 22 wc w.heap.size (fun k_=>some k_≠ ((.slice Ao14 t903.length co14):Value).ownBlock∧some k_≠ ((.slice Ao17 t909.length co17):Value).ownBlock) (.slice Ao16 t906.length co16) t906)∧Aside0 (Kd.R (Kd.int .i64) 3 wc w.heap.size (fun _=>True) (.slice Ao17 t909.length co17) t909)∧Aside0 (wc.heap[gb915]?=some (.cells #[(.slice Ao14 t903.length co14),(.slice Ao16 t906.length co16),(.slice Ao17 t909.length co17)] 33 (0,0)))∧Aside0 (Below w.heap.size w wc))
          case first=>
           have H:=HC61.out
           clear HC61
           by_cases c62:t918=true
           ·subst c62
            have H1:(if 0≤t916 then(if t916< (t903.length:Int) then((impl_PlaceOf.f kj46 (rd_L1 t903 t916) t917).bind fun bt940=>((impl_RanksOf.f kj46 t903 t906 t909 t912).bind fun bt942=>(if bt940.2=true then(if bt942.2=true then(if t916< (bt942.1.length:Int) then(if bt940.1≥ (rd bt942.1 t916) then(some false) else(laws_FnMatches.j5 kj46 l1)) else(none)) else(some false)) else(some false)))) else(none)) else(none))=some r:=by rw [if_pos rfl] at H;exact H
            clear H
            have H:=H1
            clear H1
            by_cases c63: 0≤t916
            case neg=>exact znn c63 H
            rw [if_pos c63] at H
            have c63b0:decide (0≤t916)=true:=decide_eq_true c63
            clear c63
            (first|rw [c63b0]|(simp only [i64_w,i32_w];rw [c63b0])|skip)
            by_cases c64:t916< (t903.length:Int)
            case neg=>exact znn c64 H
            rw [if_pos c64] at H
            have c64b0:decide (t916< (t903.length:Int))=true:=decide_eq_true c64
            clear c64
            replace H:=Option.bind_eq_some_iff.mp H
            obtain⟨⟨t940,t941⟩,A650,H⟩:=H
            replace H:((impl_RanksOf.f kj46 t903 t906 t909 t912).bind fun bt942=>(if t941=true then(if bt942.2=true then(if t916< (bt942.1.length:Int) then(if t940≥ (rd bt942.1 t916) then(some false) else(laws_FnMatches.j5 kj46 l1)) else(none)) else(some false)) else(some false)))=some r:=H
            have A65:=Aside0.mk A650
            clear A650
            replace H:=Option.bind_eq_some_iff.mp H
            obtain⟨⟨t942,t945⟩,A660,H⟩:=H
            replace H:(if t941=true then(if t945=true then(if t916< (t942.length:Int) then(if t940≥ (rd t942 t916) then(some false) else(laws_FnMatches.j5 kj46 l1)) else(none)) else(some false)) else(some false))=some r:=H
            have A66:=Aside0.mk A660
            clear A660
            by_cases c67:t941=true
            ·subst c67
             have H1:(if t945=true then(if t916< (t942.length:Int) then(if t940≥ (rd t942 t916) then(some false) else(laws_FnMatches.j5 kj46 l1)) else(none)) else(some false))=some r:=by rw [if_pos rfl] at H;exact H
             clear H
             have H:=H1
             clear H1
             by_cases c68:t945=true
             ·subst c68
              have H1:(if t916< (t942.length:Int) then(if t940≥ (rd t942 t916) then(some false) else(laws_FnMatches.j5 kj46 l1)) else(none))=some r:=by rw [if_pos rfl] at H;exact H
              clear H
              have H:=H1
              clear H1
              by_cases c69:t916< (t942.length:Int)
              case neg=>exact znn c69 H
              rw [if_pos c69] at H
              have c69b0:decide (t916< (t942.length:Int))=true:=decide_eq_true c69
              clear c69
              by_cases c70:t940≥ (rd t942 t916)
              ·rw [if_pos c70] at H
               have c70b0:decide ((rd t942 t916)≤t940)=true:=decide_eq_true c70
               clear c70
               exact absurd ((Option.some.inj H).trans HRT.out) (by decide)
              ·rw [if_neg c70] at H
               have c70b0:decide ((rd t942 t916)≤t940)=false:=decide_eq_false c70
               clear c70
               as_aux_lemma=>
                have H':=Aside0.mk H
                clear H
                have hcz71_0:wc.cell? ⟨gb915,0,none⟩=some (.slice Ao14 t903.length co14):=(blk_cell BK915.out 0).trans rfl
                have hcz71_1:wc.cell? ⟨gb915,1,none⟩=some (.slice Ao16 t906.length co16):=(blk_cell BK915.out 1).trans rfl
                have hcz71_2:wc.cell? ⟨gb915,2,none⟩=some (.slice Ao17 t909.length co17):=(blk_cell BK915.out 2).trans rfl
                have hfz71_0:=blk_frozen BK915.out 0
                have hfz71_1:=blk_frozen BK915.out 1
                have hfz71_2:=blk_frozen BK915.out 2
                have p939: 0≤ (t916:Int):=of_decide_eq_true zq1
                have q939:t916< (t903.length:Int):=of_decide_eq_true zq1
                obtain⟨ad939,A939_0,c939_0,e939,hx939_0,hl939_0,hi939_0⟩:=at_L1 (Kd.S_reads' HO_916000.out).2.2 t916 p939 q939
                cases e939
                obtain⟨ce939,hce939,hMe939,hcc939⟩:=Kd.S_get HO_916000.out [] t916 p939 (by first|exact q939|exact of_decide_eq_true zq1|(have e_:=(Kd.S_reads' HO_916000.out).1;omega))
                obtain⟨ve939_0,rfl,ge939_0⟩:=hMe939
                have hv939_0:=hcc939 0 _ rfl
                rw [Nat.add_zero,show ((Kd.slice 3 (Kd.int .i64))).sz=1 from rfl,Nat.mul_one] at hv939_0
                replace hv939_0:=Option.some.inj (hv939_0.symm.trans hx939_0)
                rw [hv939_0] at ge939_0
                have HL939_0:=Aside0.mk (show Kd.R (Kd.int .i64) 3 _ _ _ _ (rd_L1 t903 t916) from ge939_0)
                clear hv939_0 ge939_0
                clear hcc939 hce939
                have HR939_0:=Aside0.mk hi939_0
                have HC939_0:=Aside0.mk hl939_0
                clear hi939_0 hl939_0
                replace p939:=eq_true p939
                replace q939:=eq_true q939
                go_wp2_with (first|((with_reducible refine gate_callee (f:=15) rfl ?_);refine goesL_ (some 178) rfl rfl Try.func15 (by kernel_rfl) rfl #[.slice A939_0 (rd_L1 t903 t916).length c939_0,.int .i64 t917] rfl zq2 ?_;(with_reducible refine(impl_PlaceOf.calls kj46 _ _ (rd_L1 t903 t916) t917 t940 true _ ?side1 ?side2 A65.out).mono ?_);(case side1=>repeat(first|exact(by repeat(first|(with_reducible exact HR939_0.out)|(with_reducible refine Kd.C_alloc ?_ _)|(with_reducible refine Kd.C_drewN ?_ _)|(with_reducible refine Kd.C_drew ?_)|exact HR939_0.out))|(with_reducible refine Kd.C_alloc ?_ _)|(with_reducible refine Kd.C_drewN ?_ _)|(with_reducible refine Kd.C_drew ?_)));(case side2=>exact HC939_0.out);rintro e w' ⟨rfl,⟨nd,rfl⟩⟩;refine⟨_,rfl,?_⟩)|((with_reducible refine gate_callee (f:=30) rfl ?_);refine goesL_ (some 184) rfl rfl Try.func30 (by kernel_rfl) rfl #[.agg #[.slice (some ad939) t903.length co14,.slice Ao16 t906.length co16,.slice Ao17 t909.length co17],.slice Ao18 t912.length co18] rfl zq2 ?_;(with_reducible refine(impl_RanksOf.calls kj46 _ _ t903 _ _ t906 _ _ t909 _ _ t912 t942 true _ ?side1 ?side2 ?side3 ?side4 ?side5 ?side6 ?side7 ?side8 A66.out).mono ?_);(case side1=>exact zcc ((Kd.S_reads' HO_916000.out).2.2));(case side2=>exact(Kd.S_reads' HO_916000.out).2.1);(case side3=>exact zcc ((Kd.S_reads' HO_916001.out).2.2));(case side4=>exact(Kd.S_reads' HO_916001.out).2.1);(case side5=>exact zcc ((Kd.R_reads' HO_916002.out).2.2));(case side6=>exact(Kd.R_reads' HO_916002.out).2.1);(case side7=>exact zcc ((Kd.R_reads' HO_6.out).2.2));(case side8=>exact(Kd.R_reads' HO_6.out).2.1);rintro e w72 ⟨v943,rfl,ho0,hb⟩;refine⟨_,rfl,?_⟩;have HO944:=Aside0.mk (Kd.R_lower (Kd.R_new' (Kd.R_new' (Kd.R_new' ho0 (Kd.R_lt (zq4 HO_6))) (Kd.R_lt (zq4 HO_916002))) (Kd.R_lt (zq4 HL939_0))) (below_size (by exact zk2 HB GE915.out)));replace HO_6:=Aside0.mk (Kd.R_elder' (zq4 HO_6) (Kd.R_base ho0) hb);replace HO_916000:=Aside0.mk (Kd.S_elder' (by(with_reducible repeat(first|apply Kd.S_alloc|apply Kd.S_drewN|apply Kd.S_drew));exact HO_916000.out) (Kd.R_base ho0) hb);replace HO_916001:=Aside0.mk (Kd.S_elder' (by(with_reducible repeat(first|apply Kd.S_alloc|apply Kd.S_drewN|apply Kd.S_drew));exact HO_916001.out) (Kd.R_base ho0) hb);replace HO_916002:=Aside0.mk (Kd.R_elder' (zq4 HO_916002) (Kd.R_base ho0) hb);replace HL939_0:=Aside0.mk (Kd.R_elder' (zq4 HL939_0) (Kd.R_base ho0) hb);replace BK915:=Aside0.mk (blk_below (g:=gb915) (o:= .cells #[.slice (some ad939) t903.length co14,.slice Ao16 t906.length co16,.slice Ao17 t909.length co17] 33 (0,0)) (zq3 BK915) hb);replace HR939_0:=Aside0.mk True.intro;replace HB:=Aside0.mk (below_step (by exact zk2 HB GE915.out) hb);(try clear hb);(try clear hb2);(try clear hk);(try clear hi);(try clear ho0);obtain⟨Ao73,co73,eo73⟩:=Kd.R_slice HO944.out;subst eo73;have p946: 0≤ (t916:Int):=of_decide_eq_true zq1;have q946:t916< (t942.length:Int):=of_decide_eq_true zq1;obtain⟨ad946,e946,hx946_0⟩:=Kd.at_int (Kd.R_reads' HO944.out).2.2 t916 p946 q946;cases e946;replace p946:=eq_true p946;replace q946:=eq_true q946))
                go_meet
                case rel=>exact⟨_,H',⟨by have:=HJ10.out;have:=HJ43.out;have:=HJ46.out;first|omega|exact Nat.le_refl _⟩,⟨by(with_reducible repeat(first|apply Kd.S_alloc|apply Kd.S_drewN|apply Kd.S_drew));exact Kd.S_mono HO_916000.out (fun _ hk=>⟨hk.1.2.1,hk.1.2.2⟩)⟩,⟨by(with_reducible repeat(first|apply Kd.S_alloc|apply Kd.S_drewN|apply Kd.S_drew));exact Kd.S_mono HO_916001.out (fun _ hk=>⟨hk.1.2.1,hk.1.2.2⟩)⟩,⟨by(with_reducible repeat(first|apply Kd.R_alloc|apply Kd.R_drewN|apply Kd.R_drew));exact Kd.R_mono HO_916002.out (fun _ hk=>trivial)⟩,⟨by(with_reducible repeat(first|refine blk_drewN ?_ _|refine blk_drew ?_ |refine blk_alloc ?_ _));exact BK915.out⟩,⟨by exact zk2 HB GE915.out⟩⟩
             ·replace c68:=Bool.eq_false_iff.mpr c68
              subst c68
              have H1:(some false)=some r:=by rw [if_neg (show ¬ (false=true) by decide)] at H;exact H
              clear H
              have H:=H1
              clear H1
              exact absurd ((Option.some.inj H).trans HRT.out) (by decide)
            ·replace c67:=Bool.eq_false_iff.mpr c67
             subst c67
             have H1:(some false)=some r:=by rw [if_neg (show ¬ (false=true) by decide)] at H;exact H
             clear H
             have H:=H1
             clear H1
             exact absurd ((Option.some.inj H).trans HRT.out) (by decide)
           ·replace c62:=Bool.eq_false_iff.mpr c62
            subst c62
            have H1:(laws_FnMatches.j5 kj46 l1)=some r:=by rw [if_neg (show ¬ (false=true) by decide)] at H;exact H
            clear H
            have H:=H1
            clear H1
            as_aux_lemma=>
             have H':=Aside0.mk H
             clear H
             go_wp2
             go_meet
             case rel=>exact⟨_,H',⟨by have:=HJ10.out;have:=HJ43.out;have:=HJ46.out;first|omega|exact Nat.le_refl _⟩,⟨by(with_reducible repeat(first|apply Kd.S_alloc|apply Kd.S_drewN|apply Kd.S_drew));exact Kd.S_mono HO_916000.out (fun _ hk=>⟨hk.2.1,hk.2.2⟩)⟩,⟨by(with_reducible repeat(first|apply Kd.S_alloc|apply Kd.S_drewN|apply Kd.S_drew));exact Kd.S_mono HO_916001.out (fun _ hk=>⟨hk.2.1,hk.2.2⟩)⟩,⟨by(with_reducible repeat(first|apply Kd.R_alloc|apply Kd.R_drewN|apply Kd.R_drew));exact Kd.R_mono HO_916002.out (fun _ hk=>trivial)⟩,⟨by(with_reducible repeat(first|refine blk_drewN ?_ _|refine blk_drew ?_ |refine blk_alloc ?_ _));exact BK915.out⟩,⟨by exact zk2 HB GE915.out⟩⟩
          case rest=>
           clear HC61
           try clear c1
           try clear c2
           try clear p2
           try clear c3
           try clear c3b0
           try clear c4
           try clear c5
           try clear c6
           try clear p6
           try clear c7
           try clear c9
           try clear p9
           try clear q9
           try clear hx9
           try clear c11
           try clear c15
           try clear c24
           try clear c25
           try clear c30
           try clear c30b0
           try clear c30b1
           try clear c30b2
           try clear c31
           try clear c31b0
           try clear c31b1
           try clear c32
           try clear c32b0
           try clear c32b1
           try clear c33
           try clear c33b0
           try clear c33b1
           try clear c33b2
           try clear c34
           try clear c34b0
           try clear c34b1
           try clear c34b2
           try clear c35
           try clear c35b0
           try clear c35b1
           try clear c35b2
           try clear c37
           try clear c43
           try clear c45
           try clear c46
           try clear c48
           try clear c50
           try clear c50b0
           try clear c51
           try clear c51b0
           try clear c52
           try clear c52b0
           try clear c53
           try clear c53b0
           try clear c54
           try clear c54b0
           try clear c56
           try clear c56b0
           try clear c57
           try clear c57b0
           try clear c58
           try clear c58b0
           try clear c59
           try clear c59b0
           try clear c60
           try clear c60b0
           try clear c60b1
           try clear c62
           try clear c63
           try clear c63b0
           try clear c64
           try clear c64b0
           try clear p64
           try clear c67
           try clear c68
           try clear c69
           try clear c69b0
           try clear c70
           try clear c70b0
           try clear hcz15_0
           try clear hcz15_1
           try clear hcz15_2
           try clear hcz20_0
           try clear hcz20_1
           try clear hcz20_2
           try clear hcz22_0
           try clear hcz22_1
           try clear hcz22_2
           try clear hcz24_0
           try clear hcz24_1
           try clear hcz24_2
           try clear hcz26_0
           try clear hcz26_1
           try clear hcz26_2
           try clear hcz28_0
           try clear hcz28_1
           try clear hcz28_2
           try clear hcz41_0
           try clear hcz41_1
           try clear hcz41_2
           try clear hcz55_0
           try clear hcz55_1
           try clear hcz55_2
           try clear hcz71_0
           try clear hcz71_1
           try clear hcz71_2
           try clear hfz15_0
           try clear hfz15_1
           try clear hfz15_2
           try clear hfz20_0
           try clear hfz20_1
           try clear hfz20_2
           try clear hfz22_0
           try clear hfz22_1
           try clear hfz22_2
           try clear hfz24_0
           try clear hfz24_1
           try clear hfz24_2
           try clear hfz26_0
           try clear hfz26_1
           try clear hfz26_2
           try clear hfz28_0
           try clear hfz28_1
           try clear hfz28_2
           try clear hfz41_0
           try clear hfz41_1
           try clear hfz41_2
           try clear hfz55_0
           try clear hfz55_1
           try clear hfz55_2
           try clear hfz71_0
           try clear hfz71_1
           try clear hfz71_2
           try clear hx936_0
           try clear hx937_0
           try clear hx938_0
           try clear hx939_0
           try clear hx946_0
           try clear p2
           try clear p6
           try clear p9
           try clear p936
           try clear p937
           try clear p938
           try clear p939
           try clear p946
           try clear q9
           try clear q936
           try clear q937
           try clear q938
           try clear q939
           try clear q946
           obtain⟨kq,HA,HJ60,HO_916000,HO_916001,HO_916002,BK915,HB⟩:=hcut
           cases kq with
           |zero=>exact absurd HA.out (by simp [laws_FnMatches.j5])
           |succ kj60=>
            have H:=HA.out
            clear HA
            simp only [laws_FnMatches.j5] at H
            replace H:=Option.bind_eq_some_iff.mp H
            obtain⟨⟨t947,t948⟩,A740,H⟩:=H
            replace H:((impl_PlaceOf.f kj60 t947 t948).bind fun bt951=>((spec_PlaceOf.f kj60 t947 t948).bind fun bt953=>((spec_DrawRanksOf.f kj60 l1).bind fun bt955=>((impl_RanksOf.f kj60 bt955.1 bt955.2.1 bt955.2.2.1 bt955.2.2.2).bind fun bt968=>((spec_RanksOf.f kj60 bt955.1 bt955.2.1 bt955.2.2.1 bt955.2.2.2).bind fun bt972=>(if (bt951.2==bt953.2)=true then(if bt951.1=bt953.1 then(if (bt968.2==bt972.2)=true then((laws_sameInts.f kj60 bt968.1 bt972.1).bind fun t976=>(some t976)) else(some false)) else(some false)) else(some false)))))))=some r:=H
            have A74:=Aside0.mk A740
            clear A740
            replace H:=Option.bind_eq_some_iff.mp H
            obtain⟨⟨t951,t952⟩,A750,H⟩:=H
            replace H:((spec_PlaceOf.f kj60 t947 t948).bind fun bt953=>((spec_DrawRanksOf.f kj60 l1).bind fun bt955=>((impl_RanksOf.f kj60 bt955.1 bt955.2.1 bt955.2.2.1 bt955.2.2.2).bind fun bt968=>((spec_RanksOf.f kj60 bt955.1 bt955.2.1 bt955.2.2.1 bt955.2.2.2).bind fun bt972=>(if (t952==bt953.2)=true then(if t951=bt953.1 then(if (bt968.2==bt972.2)=true then((laws_sameInts.f kj60 bt968.1 bt972.1).bind fun t976=>(some t976)) else(some false)) else(some false)) else(some false))))))=some r:=H
            have A75:=Aside0.mk A750
            clear A750
            replace H:=Option.bind_eq_some_iff.mp H
            obtain⟨⟨t953,t954⟩,A760,H⟩:=H
            replace H:((spec_DrawRanksOf.f kj60 l1).bind fun bt955=>((impl_RanksOf.f kj60 bt955.1 bt955.2.1 bt955.2.2.1 bt955.2.2.2).bind fun bt968=>((spec_RanksOf.f kj60 bt955.1 bt955.2.1 bt955.2.2.1 bt955.2.2.2).bind fun bt972=>(if (t952==t954)=true then(if t951=t953 then(if (bt968.2==bt972.2)=true then((laws_sameInts.f kj60 bt968.1 bt972.1).bind fun t976=>(some t976)) else(some false)) else(some false)) else(some false)))))=some r:=H
            have A76:=Aside0.mk A760
            clear A760
            replace H:=Option.bind_eq_some_iff.mp H
            obtain⟨⟨t955,t958,t961,t964⟩,A770,H⟩:=H
            replace H:((impl_RanksOf.f kj60 t955 t958 t961 t964).bind fun bt968=>((spec_RanksOf.f kj60 t955 t958 t961 t964).bind fun bt972=>(if (t952==t954)=true then(if t951=t953 then(if (bt968.2==bt972.2)=true then((laws_sameInts.f kj60 bt968.1 bt972.1).bind fun t976=>(some t976)) else(some false)) else(some false)) else(some false))))=some r:=H
            have A77:=Aside0.mk A770
            clear A770
            replace H:=Option.bind_eq_some_iff.mp H
            obtain⟨⟨t968,t971⟩,A780,H⟩:=H
            replace H:((spec_RanksOf.f kj60 t955 t958 t961 t964).bind fun bt972=>(if (t952==t954)=true then(if t951=t953 then(if (t971==bt972.2)=true then((laws_sameInts.f kj60 t968 bt972.1).bind fun t976=>(some t976)) else(some false)) else(some false)) else(some false)))=some r:=H
            have A78:=Aside0.mk A780
            clear A780
            replace H:=Option.bind_eq_some_iff.mp H
            obtain⟨⟨t972,t975⟩,A790,H⟩:=H
            replace H:(if (t952==t954)=true then(if t951=t953 then(if (t971==t975)=true then((laws_sameInts.f kj60 t968 t972).bind fun t976=>(some t976)) else(some false)) else(some false)) else(some false))=some r:=H
            have A79:=Aside0.mk A790
            clear A790
            by_cases c80:(t952==t954)=true
            ·rw [if_pos c80] at H
             have c80b0:(t952==t954)=true:=c80
             (try(have c80b1:decide (t952=t954)=true:=by simpa using c80))
             (try(have c80b2:(t952==t954)=true:=by simpa using c80))
             clear c80
             by_cases c81:t951=t953
             ·rw [if_pos c81] at H
              have c81b0:(t951==t953)=true:=beq_iff_eq.mpr c81
              have c81b1:(t951 !=t953)=false:=bne_eq_false_iff_eq.mpr c81
              clear c81
              by_cases c82:(t971==t975)=true
              ·rw [if_pos c82] at H
               have c82b0:(t971==t975)=true:=c82
               (try(have c82b1:decide (t971=t975)=true:=by simpa using c82))
               (try(have c82b2:(t971==t975)=true:=by simpa using c82))
               clear c82
               replace H:=Option.bind_eq_some_iff.mp H
               obtain⟨t976,A830,H⟩:=H
               replace H:(some t976)=some r:=H
               have A83:=Aside0.mk A830
               clear A830
               as_aux_lemma=>
                obtain rfl:=Option.some.inj H
                go_wp2_with (first|((with_reducible refine gate_callee (f:=39) rfl ?_);refine goesL_ (some 203) rfl rfl Try.func39 (by kernel_rfl) rfl #[.slice A1 l1.length c1] rfl zq2 ?_;(with_reducible refine(spec_DrawPlaceOf.calls kj60 _ _ l1 t947 t948 _ ?side1 ?side2 A74.out).mono ?_);(case side1=>exact zcc ((Kd.C_below HR1.out HB.out)));(case side2=>exact HC1.out);rintro e w84 ⟨v949,rfl,ho0,hb⟩;refine⟨_,rfl,?_⟩;have HO950:=Aside0.mk (Kd.R_lower (Kd.R_new' ho0 (Kd.R_lt (zq4 HO_916002))) (below_size (by exact zk2 HB GE915.out)));replace HO_916000:=Aside0.mk (Kd.S_elder' (by(with_reducible repeat(first|apply Kd.S_alloc|apply Kd.S_drewN|apply Kd.S_drew));exact HO_916000.out) (Kd.R_base ho0) hb);replace HO_916001:=Aside0.mk (Kd.S_elder' (by(with_reducible repeat(first|apply Kd.S_alloc|apply Kd.S_drewN|apply Kd.S_drew));exact HO_916001.out) (Kd.R_base ho0) hb);replace HO_916002:=Aside0.mk (Kd.R_elder' (zq4 HO_916002) (Kd.R_base ho0) hb);replace BK915:=Aside0.mk (blk_below (g:=gb915) (o:= .cells #[.slice Ao14 t903.length co14,.slice Ao16 t906.length co16,.slice Ao17 t909.length co17] 33 (0,0)) (zq3 BK915) hb);replace HB:=Aside0.mk (below_step (by exact zk2 HB GE915.out) hb);(try clear hb);(try clear hb2);(try clear hk);(try clear hi);(try clear ho0);obtain⟨Ao85,co85,eo85⟩:=Kd.R_slice HO950.out;subst eo85)|((with_reducible refine gate_callee (f:=15) rfl ?_);refine goesL_ (some 209) rfl rfl Try.func15 (by kernel_rfl) rfl #[.slice Ao85 t947.length co85,.int .i64 t948] rfl zq2 ?_;(with_reducible refine(impl_PlaceOf.calls kj60 _ _ t947 t948 t951 t952 _ ?side1 ?side2 A75.out).mono ?_);(case side1=>exact zcc ((Kd.R_reads' HO950.out).2.2));(case side2=>exact(Kd.R_reads' HO950.out).2.1);rintro e w' ⟨rfl,⟨nd,rfl⟩⟩;refine⟨_,rfl,?_⟩;(try(rw [drewN_self w84];generalize hq_:World.drewN w84 _=w84;have n0_:Aside0 (Kd.R (Kd.int .i64) 3 w84 w.heap.size (fun k_=>some k_≠ (.slice Ao17 t909.length co17:Value).ownBlock) (.slice Ao85 t947.length co85) t947):=⟨by rw [← hq_];exact(by(with_reducible repeat(first|apply Kd.R_alloc|apply Kd.R_drewN|apply Kd.R_drew));exact Kd.R_mono HO950.out (fun _ hk=>hk.2))⟩;have n1_:Aside0 (Kd.S (Kd.slice 3 (Kd.int .i64)) 22 w84 w.heap.size (fun k_=>some k_≠ (.slice Ao85 t947.length co85:Value).ownBlock∧some k_≠ (.slice Ao16 t906.length co16:Value).ownBlock∧some k_≠ (.slice Ao17 t909.length co17:Value).ownBlock) (.slice Ao14 t903.length co14) t903):=⟨by rw [← hq_];exact(by(with_reducible repeat(first|apply Kd.S_alloc|apply Kd.S_drewN|apply Kd.S_drew));exact Kd.S_mono HO_916000.out (fun _ hk=>⟨hk.2,⟨hk.1.1,hk.1.2⟩⟩))⟩;have n2_:Aside0 (Kd.S (Kd.slice 3 (Kd.int .i64)) 22 w84 w.heap.size (fun k_=>some k_≠ (.slice Ao85 t947.length co85:Value).ownBlock∧some k_≠ (.slice Ao14 t903.length co14:Value).ownBlock∧some k_≠ (.slice Ao17 t909.length co17:Value).ownBlock) (.slice Ao16 t906.length co16) t906):=⟨by rw [← hq_];exact(by(with_reducible repeat(first|apply Kd.S_alloc|apply Kd.S_drewN|apply Kd.S_drew));exact Kd.S_mono HO_916001.out (fun _ hk=>⟨hk.2,⟨hk.1.1,hk.1.2⟩⟩))⟩;have n3_:Aside0 (Kd.R (Kd.int .i64) 3 w84 w.heap.size (fun k_=>some k_≠ (.slice Ao85 t947.length co85:Value).ownBlock) (.slice Ao17 t909.length co17) t909):=⟨by rw [← hq_];exact(by(with_reducible repeat(first|apply Kd.R_alloc|apply Kd.R_drewN|apply Kd.R_drew));exact Kd.R_mono HO_916002.out (fun _ hk=>hk.2))⟩;have n4_:Aside0 (w84.heap[gb915]?=some (.cells #[.slice Ao14 t903.length co14,.slice Ao16 t906.length co16,.slice Ao17 t909.length co17] 33 (0,0))):=⟨by rw [← hq_];exact(zq3 BK915)⟩;have n5_:Aside0 (Below w.heap.size w w84):=⟨by rw [← hq_];exact(by exact zk2 HB GE915.out)⟩;clear HO950 HO_916000 HO_916001 HO_916002 BK915 HB hq_;have HO950:=n0_;have HO_916000:=n1_;have HO_916001:=n2_;have HO_916002:=n3_;have BK915:=n4_;have HB:=n5_;clear n0_ n1_ n2_ n3_ n4_ n5_)))|((with_reducible refine gate_callee (f:=13) rfl ?_);refine goesL_ (some 215) rfl rfl Try.func13 (by kernel_rfl) rfl #[.slice Ao85 t947.length co85,.int .i64 t948] rfl zq2 ?_;(with_reducible refine(spec_PlaceOf.calls kj60 _ _ t947 t948 t953 t954 _ ?side1 ?side2 A76.out).mono ?_);(case side1=>exact zcc ((Kd.R_reads' HO950.out).2.2));(case side2=>exact(Kd.R_reads' HO950.out).2.1);rintro e w' ⟨rfl,⟨nd,rfl⟩⟩;refine⟨_,rfl,?_⟩;(try(rw [drewN_self w84];generalize hq_:World.drewN w84 _=w84;have n0_:Aside0 (Kd.R (Kd.int .i64) 3 w84 w.heap.size (fun k_=>some k_≠ (.slice Ao17 t909.length co17:Value).ownBlock) (.slice Ao85 t947.length co85) t947):=⟨by rw [← hq_];exact(by(with_reducible repeat(first|apply Kd.R_alloc|apply Kd.R_drewN|apply Kd.R_drew));exact Kd.R_mono HO950.out (fun _ hk=>hk.2))⟩;have n1_:Aside0 (Kd.S (Kd.slice 3 (Kd.int .i64)) 22 w84 w.heap.size (fun k_=>some k_≠ (.slice Ao85 t947.length co85:Value).ownBlock∧some k_≠ (.slice Ao16 t906.length co16:Value).ownBlock∧some k_≠ (.slice Ao17 t909.length co17:Value).ownBlock) (.slice Ao14 t903.length co14) t903):=⟨by rw [← hq_];exact(by(with_reducible repeat(first|apply Kd.S_alloc|apply Kd.S_drewN|apply Kd.S_drew));exact Kd.S_mono HO_916000.out (fun _ hk=>⟨hk.2,⟨hk.1.1,hk.1.2⟩⟩))⟩;have n2_:Aside0 (Kd.S (Kd.slice 3 (Kd.int .i64)) 22 w84 w.heap.size (fun k_=>some k_≠ (.slice Ao85 t947.length co85:Value).ownBlock∧some k_≠ (.slice Ao14 t903.length co14:Value).ownBlock∧some k_≠ (.slice Ao17 t909.length co17:Value).ownBlock) (.slice Ao16 t906.length co16) t906):=⟨by rw [← hq_];exact(by(with_reducible repeat(first|apply Kd.S_alloc|apply Kd.S_drewN|apply Kd.S_drew));exact Kd.S_mono HO_916001.out (fun _ hk=>⟨hk.2,⟨hk.1.1,hk.1.2⟩⟩))⟩;have n3_:Aside0 (Kd.R (Kd.int .i64) 3 w84 w.heap.size (fun k_=>some k_≠ (.slice Ao85 t947.length co85:Value).ownBlock) (.slice Ao17 t909.length co17) t909):=⟨by rw [← hq_];exact(by(with_reducible repeat(first|apply Kd.R_alloc|apply Kd.R_drewN|apply Kd.R_drew));exact Kd.R_mono HO_916002.out (fun _ hk=>hk.2))⟩;have n4_:Aside0 (w84.heap[gb915]?=some (.cells #[.slice Ao14 t903.length co14,.slice Ao16 t906.length co16,.slice Ao17 t909.length co17] 33 (0,0))):=⟨by rw [← hq_];exact(zq3 BK915)⟩;have n5_:Aside0 (Below w.heap.size w w84):=⟨by rw [← hq_];exact(by exact zk2 HB GE915.out)⟩;clear HO950 HO_916000 HO_916001 HO_916002 BK915 HB hq_;have HO950:=n0_;have HO_916000:=n1_;have HO_916001:=n2_;have HO_916002:=n3_;have BK915:=n4_;have HB:=n5_;clear n0_ n1_ n2_ n3_ n4_ n5_)))|((with_reducible refine gate_callee (f:=40) rfl ?_);refine goesL_ (some 220) rfl rfl Try.func40 (by kernel_rfl) rfl #[.slice A1 l1.length c1] rfl zq2 ?_;(with_reducible refine(spec_DrawRanksOf.calls kj60 _ _ l1 t955 t958 t961 t964 _ ?side1 ?side2 A77.out).mono ?_);(case side1=>exact zcc ((Kd.C_below HR1.out HB.out)));(case side2=>exact HC1.out);rintro e w86 ⟨v956,v959,v962,v965,rfl,ho0,ho1,ho2,ho3,hb⟩;refine⟨_,rfl,?_⟩;have HO957:=Aside0.mk (Kd.S_lower (Kd.S_new' (Kd.S_new' (Kd.S_new' (Kd.S_new' ho0 (Kd.S_lt (by(with_reducible repeat(first|apply Kd.S_alloc|apply Kd.S_drewN|apply Kd.S_drew));exact HO_916000.out))) (Kd.S_lt (by(with_reducible repeat(first|apply Kd.S_alloc|apply Kd.S_drewN|apply Kd.S_drew));exact HO_916001.out))) (Kd.R_lt (zq4 HO_916002))) (Kd.R_lt (zq4 HO950))) (below_size (by exact zk2 HB GE915.out)));have HO960:=Aside0.mk (Kd.S_lower (Kd.S_new' (Kd.S_new' (Kd.S_new' (Kd.S_new' ho1 (Kd.S_lt (by(with_reducible repeat(first|apply Kd.S_alloc|apply Kd.S_drewN|apply Kd.S_drew));exact HO_916000.out))) (Kd.S_lt (by(with_reducible repeat(first|apply Kd.S_alloc|apply Kd.S_drewN|apply Kd.S_drew));exact HO_916001.out))) (Kd.R_lt (zq4 HO_916002))) (Kd.R_lt (zq4 HO950))) (below_size (by exact zk2 HB GE915.out)));have HO963:=Aside0.mk (Kd.R_lower (Kd.R_new' (Kd.R_new' ho2 (Kd.R_lt (zq4 HO_916002))) (Kd.R_lt (zq4 HO950))) (below_size (by exact zk2 HB GE915.out)));have HO966:=Aside0.mk (Kd.R_lower (Kd.R_new' (Kd.R_new' ho3 (Kd.R_lt (zq4 HO_916002))) (Kd.R_lt (zq4 HO950))) (below_size (by exact zk2 HB GE915.out)));replace HO_916000:=Aside0.mk (Kd.S_mono (Kd.S_told (Kd.S_told (Kd.S_told (Kd.S_told (Kd.S_old (by(with_reducible repeat(first|apply Kd.S_alloc|apply Kd.S_drewN|apply Kd.S_drew));exact HO_916000.out) hb) (Kd.S_base ho0)) (Kd.S_base ho1)) (Kd.R_base ho2)) (Kd.R_base ho3)) (fun _ h_=>h_.1));replace HO_916001:=Aside0.mk (Kd.S_mono (Kd.S_told (Kd.S_told (Kd.S_told (Kd.S_told (Kd.S_old (by(with_reducible repeat(first|apply Kd.S_alloc|apply Kd.S_drewN|apply Kd.S_drew));exact HO_916001.out) hb) (Kd.S_base ho0)) (Kd.S_base ho1)) (Kd.R_base ho2)) (Kd.R_base ho3)) (fun _ h_=>h_.1));replace HO_916002:=Aside0.mk (Kd.R_mono (Kd.R_told (Kd.R_told (Kd.R_old (zq4 HO_916002) hb) (Kd.R_base ho2)) (Kd.R_base ho3)) (fun _ h_=>h_.1));replace HO950:=Aside0.mk (Kd.R_mono (Kd.R_told (Kd.R_told (Kd.R_old (zq4 HO950) hb) (Kd.R_base ho2)) (Kd.R_base ho3)) (fun _ h_=>h_.1));replace BK915:=Aside0.mk (blk_below (g:=gb915) (o:= .cells #[.slice Ao14 t903.length co14,.slice Ao16 t906.length co16,.slice Ao17 t909.length co17] 33 (0,0)) (zq3 BK915) hb);replace HB:=Aside0.mk (below_step (by exact zk2 HB GE915.out) hb);(try clear hb);(try clear hb2);(try clear hk);(try clear hi);(try clear ho0);(try clear ho1);(try clear ho2);(try clear ho3))|((with_reducible refine gate_dst (N:=36) rfl ?_);refine box_event ?hg (N:=36) ?hd (cs:= #[.slice none 0 0,.slice none 0 0,.slice none 0 0]) (t:=33) ?hr ?_;(case hd=>rfl);(case hg=>rfl);(case hr=>first|(go_simp;done)|(go_simp;rfl));intro gb967 hg w87 hbox hb;have BK967:=Aside0.mk (hbox);have GW967:=Aside0.mk ((by rw [hg];exact(below_size (by exact zk2 HB GE915.out)):w.heap.size≤gb967));have GE967:=GW967;have NB915_967:=Aside0.mk ((by rw [hg];exact Nat.ne_of_lt (blk_lt (g:=gb915) (o:= .cells #[.slice Ao14 t903.length co14,.slice Ao16 t906.length co16,.slice Ao17 t909.length co17] 33 (0,0)) (zq3 BK915)):gb915≠gb967));have NB967_915:=Aside0.mk ((by rw [hg];exact Nat.ne_of_gt (blk_lt (g:=gb915) (o:= .cells #[.slice Ao14 t903.length co14,.slice Ao16 t906.length co16,.slice Ao17 t909.length co17] 33 (0,0)) (zq3 BK915)):gb967≠gb915));replace HO_916000:=Aside0.mk (Kd.S_below (by(with_reducible repeat(first|apply Kd.S_alloc|apply Kd.S_drewN|apply Kd.S_drew));exact HO_916000.out) hb);replace HO_916001:=Aside0.mk (Kd.S_below (by(with_reducible repeat(first|apply Kd.S_alloc|apply Kd.S_drewN|apply Kd.S_drew));exact HO_916001.out) hb);replace HO_916002:=Aside0.mk (Kd.R_below (zq4 HO_916002) hb);replace HO950:=Aside0.mk (Kd.R_below (zq4 HO950) hb);replace HO957:=Aside0.mk (Kd.S_below (by(with_reducible repeat(first|apply Kd.S_alloc|apply Kd.S_drewN|apply Kd.S_drew));exact HO957.out) hb);replace HO960:=Aside0.mk (Kd.S_below (by(with_reducible repeat(first|apply Kd.S_alloc|apply Kd.S_drewN|apply Kd.S_drew));exact HO960.out) hb);replace HO963:=Aside0.mk (Kd.R_below (zq4 HO963) hb);replace HO966:=Aside0.mk (Kd.R_below (zq4 HO966) hb);replace BK915:=Aside0.mk (blk_below (g:=gb915) (o:= .cells #[.slice Ao14 t903.length co14,.slice Ao16 t906.length co16,.slice Ao17 t909.length co17] 33 (0,0)) (zq3 BK915) hb);replace HB:=Aside0.mk (below_step (by exact zk2 HB GE915.out) hb);clear hb hbox hg;obtain⟨Ao88,co88,eo88⟩:=Kd.S_slice HO957.out;subst eo88;have hnb89:=NB967_915.out;have hnc89:=NB915_967.out;have hcz90_0:=zcz BK967 0 (.slice none 0 0);have hcz90_1:=zcz BK967 1 (.slice none 0 0);have hcz90_2:=zcz BK967 2 (.slice none 0 0);have hfz90_0:=blk_frozen BK967.out 0;have hfz90_1:=blk_frozen BK967.out 1;have hfz90_2:=blk_frozen BK967.out 2;obtain⟨Ao91,co91,eo91⟩:=Kd.S_slice HO960.out;subst eo91;obtain⟨Ao92,co92,eo92⟩:=Kd.R_slice HO963.out;subst eo92;obtain⟨Ao93,co93,eo93⟩:=Kd.R_slice HO966.out;subst eo93)|((with_reducible refine gate_callee (f:=30) rfl ?_);refine goesL_ (some 226) rfl rfl Try.func30 (by kernel_rfl) rfl #[.agg #[.slice Ao88 t955.length co88,.slice Ao91 t958.length co91,.slice Ao92 t961.length co92],.slice Ao93 t964.length co93] rfl zq2 ?_;(with_reducible refine(impl_RanksOf.calls kj60 _ _ t955 _ _ t958 _ _ t961 _ _ t964 t968 t971 _ ?side1 ?side2 ?side3 ?side4 ?side5 ?side6 ?side7 ?side8 A78.out).mono ?_);(case side1=>refine(Kd.S_reads' (e:=22) (base:=w.heap.size) (ok:=fun k_=>(((((some k_≠ (.slice Ao91 t958.length co91:Value).ownBlock∧ (some k_≠ (.slice Ao92 t961.length co92:Value).ownBlock∧some k_≠ (.slice Ao93 t964.length co93:Value).ownBlock))∧some k_≠ (.slice Ao14 t903.length co14:Value).ownBlock)∧some k_≠ (.slice Ao16 t906.length co16:Value).ownBlock)∧some k_≠ (.slice Ao17 t909.length co17:Value).ownBlock)∧some k_≠ (.slice Ao85 t947.length co85:Value).ownBlock)) (n:=t955.length) (c:=co88) ?_).2.2;exact(by(with_reducible repeat(first|apply Kd.S_alloc|apply Kd.S_drewN|apply Kd.S_drew));exact(Kd.S_mono (Kd.S_far (p:=⟨gb967,2,none⟩) (Kd.S_far (p:=⟨gb967,1,none⟩) (Kd.S_far (p:=⟨gb967,0,none⟩) (Kd.S_types HO957.out BK967.out (by decide)) (fun _ hk=>hk.2) (.slice Ao88 t955.length co88)) (fun _ hk=>hk.2) (.slice Ao91 t958.length co91)) (fun _ hk=>hk.2) (.slice Ao92 t961.length co92)) (fun _ h_=>h_.1))));(case side2=>exact(Kd.S_reads' HO957.out).2.1);(case side3=>refine(Kd.S_reads' (e:=22) (base:=w.heap.size) (ok:=fun k_=>(((((some k_≠ (.slice Ao88 t955.length co88:Value).ownBlock∧ (some k_≠ (.slice Ao92 t961.length co92:Value).ownBlock∧some k_≠ (.slice Ao93 t964.length co93:Value).ownBlock))∧some k_≠ (.slice Ao14 t903.length co14:Value).ownBlock)∧some k_≠ (.slice Ao16 t906.length co16:Value).ownBlock)∧some k_≠ (.slice Ao17 t909.length co17:Value).ownBlock)∧some k_≠ (.slice Ao85 t947.length co85:Value).ownBlock)) (n:=t958.length) (c:=co91) ?_).2.2;exact(by(with_reducible repeat(first|apply Kd.S_alloc|apply Kd.S_drewN|apply Kd.S_drew));exact(Kd.S_mono (Kd.S_far (p:=⟨gb967,2,none⟩) (Kd.S_far (p:=⟨gb967,1,none⟩) (Kd.S_far (p:=⟨gb967,0,none⟩) (Kd.S_types HO960.out BK967.out (by decide)) (fun _ hk=>hk.2) (.slice Ao88 t955.length co88)) (fun _ hk=>hk.2) (.slice Ao91 t958.length co91)) (fun _ hk=>hk.2) (.slice Ao92 t961.length co92)) (fun _ h_=>h_.1))));(case side4=>exact(Kd.S_reads' HO960.out).2.1);(case side5=>refine(Kd.R_reads' (e:=3) (base:=w.heap.size) (ok:=fun k_=>((some k_≠ (.slice Ao93 t964.length co93:Value).ownBlock∧some k_≠ (.slice Ao17 t909.length co17:Value).ownBlock)∧some k_≠ (.slice Ao85 t947.length co85:Value).ownBlock)) (n:=t961.length) (c:=co92) ?_).2.2;exact(by(with_reducible repeat(first|apply Kd.R_alloc|apply Kd.R_drewN|apply Kd.R_drew));exact(Kd.R_mono (Kd.R_far (p:=⟨gb967,2,none⟩) (Kd.R_far (p:=⟨gb967,1,none⟩) (Kd.R_far (p:=⟨gb967,0,none⟩) (Kd.R_types HO963.out BK967.out (by decide)) (fun _ hk=>hk.2) (.slice Ao88 t955.length co88)) (fun _ hk=>hk.2) (.slice Ao91 t958.length co91)) (fun _ hk=>hk.2) (.slice Ao92 t961.length co92)) (fun _ h_=>h_.1))));(case side6=>exact(Kd.R_reads' HO963.out).2.1);(case side7=>refine(Kd.R_reads' (e:=3) (base:=w.heap.size) (ok:=fun k_=>((some k_≠ (.slice Ao92 t961.length co92:Value).ownBlock∧some k_≠ (.slice Ao17 t909.length co17:Value).ownBlock)∧some k_≠ (.slice Ao85 t947.length co85:Value).ownBlock)) (n:=t964.length) (c:=co93) ?_).2.2;exact(by(with_reducible repeat(first|apply Kd.R_alloc|apply Kd.R_drewN|apply Kd.R_drew));exact(Kd.R_mono (Kd.R_far (p:=⟨gb967,2,none⟩) (Kd.R_far (p:=⟨gb967,1,none⟩) (Kd.R_far (p:=⟨gb967,0,none⟩) (Kd.R_types HO966.out BK967.out (by decide)) (fun _ hk=>hk.2) (.slice Ao88 t955.length co88)) (fun _ hk=>hk.2) (.slice Ao91 t958.length co91)) (fun _ hk=>hk.2) (.slice Ao92 t961.length co92)) (fun _ h_=>h_.1))));(case side8=>exact(Kd.R_reads' HO966.out).2.1);rintro e w94 ⟨v969,rfl,ho0,hb⟩;refine⟨_,rfl,?_⟩;have HO970:=Aside0.mk (Kd.R_lower (Kd.R_new' (Kd.R_new' (Kd.R_new' (Kd.R_new' ho0 (Kd.R_lt (by(with_reducible repeat(first|apply Kd.R_alloc|apply Kd.R_drewN|apply Kd.R_drew));exact(Kd.R_mono (Kd.R_far (p:=⟨gb967,2,none⟩) (Kd.R_far (p:=⟨gb967,1,none⟩) (Kd.R_far (p:=⟨gb967,0,none⟩) (Kd.R_types HO_916002.out BK967.out (by decide)) (fun _ hk=>hk.2) (.slice Ao88 t955.length co88)) (fun _ hk=>hk.2) (.slice Ao91 t958.length co91)) (fun _ hk=>hk.2) (.slice Ao92 t961.length co92)) (fun _ h_=>h_.1))))) (Kd.R_lt (by(with_reducible repeat(first|apply Kd.R_alloc|apply Kd.R_drewN|apply Kd.R_drew));exact(Kd.R_mono (Kd.R_far (p:=⟨gb967,2,none⟩) (Kd.R_far (p:=⟨gb967,1,none⟩) (Kd.R_far (p:=⟨gb967,0,none⟩) (Kd.R_types HO950.out BK967.out (by decide)) (fun _ hk=>hk.2) (.slice Ao88 t955.length co88)) (fun _ hk=>hk.2) (.slice Ao91 t958.length co91)) (fun _ hk=>hk.2) (.slice Ao92 t961.length co92)) (fun _ h_=>h_.1))))) (Kd.R_lt (by(with_reducible repeat(first|apply Kd.R_alloc|apply Kd.R_drewN|apply Kd.R_drew));exact(Kd.R_mono (Kd.R_far (p:=⟨gb967,2,none⟩) (Kd.R_far (p:=⟨gb967,1,none⟩) (Kd.R_far (p:=⟨gb967,0,none⟩) (Kd.R_types HO963.out BK967.out (by decide)) (fun _ hk=>hk.2) (.slice Ao88 t955.length co88)) (fun _ hk=>hk.2) (.slice Ao91 t958.length co91)) (fun _ hk=>hk.2) (.slice Ao92 t961.length co92)) (fun _ h_=>h_.1))))) (Kd.R_lt (by(with_reducible repeat(first|apply Kd.R_alloc|apply Kd.R_drewN|apply Kd.R_drew));exact(Kd.R_mono (Kd.R_far (p:=⟨gb967,2,none⟩) (Kd.R_far (p:=⟨gb967,1,none⟩) (Kd.R_far (p:=⟨gb967,0,none⟩) (Kd.R_types HO966.out BK967.out (by decide)) (fun _ hk=>hk.2) (.slice Ao88 t955.length co88)) (fun _ hk=>hk.2) (.slice Ao91 t958.length co91)) (fun _ hk=>hk.2) (.slice Ao92 t961.length co92)) (fun _ h_=>h_.1))))) (below_size (by exact zk5 HB GE915.out GE967.out)));replace HO_916000:=Aside0.mk (Kd.S_elder' (by(with_reducible repeat(first|apply Kd.S_alloc|apply Kd.S_drewN|apply Kd.S_drew));exact(Kd.S_mono (Kd.S_far (p:=⟨gb967,2,none⟩) (Kd.S_far (p:=⟨gb967,1,none⟩) (Kd.S_far (p:=⟨gb967,0,none⟩) (Kd.S_types HO_916000.out BK967.out (by decide)) (fun _ hk=>hk.2) (.slice Ao88 t955.length co88)) (fun _ hk=>hk.2) (.slice Ao91 t958.length co91)) (fun _ hk=>hk.2) (.slice Ao92 t961.length co92)) (fun _ h_=>h_.1))) (Kd.R_base ho0) hb);replace HO_916001:=Aside0.mk (Kd.S_elder' (by(with_reducible repeat(first|apply Kd.S_alloc|apply Kd.S_drewN|apply Kd.S_drew));exact(Kd.S_mono (Kd.S_far (p:=⟨gb967,2,none⟩) (Kd.S_far (p:=⟨gb967,1,none⟩) (Kd.S_far (p:=⟨gb967,0,none⟩) (Kd.S_types HO_916001.out BK967.out (by decide)) (fun _ hk=>hk.2) (.slice Ao88 t955.length co88)) (fun _ hk=>hk.2) (.slice Ao91 t958.length co91)) (fun _ hk=>hk.2) (.slice Ao92 t961.length co92)) (fun _ h_=>h_.1))) (Kd.R_base ho0) hb);replace HO_916002:=Aside0.mk (Kd.R_elder' (by(with_reducible repeat(first|apply Kd.R_alloc|apply Kd.R_drewN|apply Kd.R_drew));exact(Kd.R_mono (Kd.R_far (p:=⟨gb967,2,none⟩) (Kd.R_far (p:=⟨gb967,1,none⟩) (Kd.R_far (p:=⟨gb967,0,none⟩) (Kd.R_types HO_916002.out BK967.out (by decide)) (fun _ hk=>hk.2) (.slice Ao88 t955.length co88)) (fun _ hk=>hk.2) (.slice Ao91 t958.length co91)) (fun _ hk=>hk.2) (.slice Ao92 t961.length co92)) (fun _ h_=>h_.1))) (Kd.R_base ho0) hb);replace HO950:=Aside0.mk (Kd.R_elder' (by(with_reducible repeat(first|apply Kd.R_alloc|apply Kd.R_drewN|apply Kd.R_drew));exact(Kd.R_mono (Kd.R_far (p:=⟨gb967,2,none⟩) (Kd.R_far (p:=⟨gb967,1,none⟩) (Kd.R_far (p:=⟨gb967,0,none⟩) (Kd.R_types HO950.out BK967.out (by decide)) (fun _ hk=>hk.2) (.slice Ao88 t955.length co88)) (fun _ hk=>hk.2) (.slice Ao91 t958.length co91)) (fun _ hk=>hk.2) (.slice Ao92 t961.length co92)) (fun _ h_=>h_.1))) (Kd.R_base ho0) hb);replace HO957:=Aside0.mk (Kd.S_elder' (by(with_reducible repeat(first|apply Kd.S_alloc|apply Kd.S_drewN|apply Kd.S_drew));exact(Kd.S_mono (Kd.S_far (p:=⟨gb967,2,none⟩) (Kd.S_far (p:=⟨gb967,1,none⟩) (Kd.S_far (p:=⟨gb967,0,none⟩) (Kd.S_types HO957.out BK967.out (by decide)) (fun _ hk=>hk.2) (.slice Ao88 t955.length co88)) (fun _ hk=>hk.2) (.slice Ao91 t958.length co91)) (fun _ hk=>hk.2) (.slice Ao92 t961.length co92)) (fun _ h_=>h_.1))) (Kd.R_base ho0) hb);replace HO960:=Aside0.mk (Kd.S_elder' (by(with_reducible repeat(first|apply Kd.S_alloc|apply Kd.S_drewN|apply Kd.S_drew));exact(Kd.S_mono (Kd.S_far (p:=⟨gb967,2,none⟩) (Kd.S_far (p:=⟨gb967,1,none⟩) (Kd.S_far (p:=⟨gb967,0,none⟩) (Kd.S_types HO960.out BK967.out (by decide)) (fun _ hk=>hk.2) (.slice Ao88 t955.length co88)) (fun _ hk=>hk.2) (.slice Ao91 t958.length co91)) (fun _ hk=>hk.2) (.slice Ao92 t961.length co92)) (fun _ h_=>h_.1))) (Kd.R_base ho0) hb);replace HO963:=Aside0.mk (Kd.R_elder' (by(with_reducible repeat(first|apply Kd.R_alloc|apply Kd.R_drewN|apply Kd.R_drew));exact(Kd.R_mono (Kd.R_far (p:=⟨gb967,2,none⟩) (Kd.R_far (p:=⟨gb967,1,none⟩) (Kd.R_far (p:=⟨gb967,0,none⟩) (Kd.R_types HO963.out BK967.out (by decide)) (fun _ hk=>hk.2) (.slice Ao88 t955.length co88)) (fun _ hk=>hk.2) (.slice Ao91 t958.length co91)) (fun _ hk=>hk.2) (.slice Ao92 t961.length co92)) (fun _ h_=>h_.1))) (Kd.R_base ho0) hb);replace HO966:=Aside0.mk (Kd.R_elder' (by(with_reducible repeat(first|apply Kd.R_alloc|apply Kd.R_drewN|apply Kd.R_drew));exact(Kd.R_mono (Kd.R_far (p:=⟨gb967,2,none⟩) (Kd.R_far (p:=⟨gb967,1,none⟩) (Kd.R_far (p:=⟨gb967,0,none⟩) (Kd.R_types HO966.out BK967.out (by decide)) (fun _ hk=>hk.2) (.slice Ao88 t955.length co88)) (fun _ hk=>hk.2) (.slice Ao91 t958.length co91)) (fun _ hk=>hk.2) (.slice Ao92 t961.length co92)) (fun _ h_=>h_.1))) (Kd.R_base ho0) hb);replace BK915:=Aside0.mk (blk_below (g:=gb915) (o:= .cells #[.slice Ao14 t903.length co14,.slice Ao16 t906.length co16,.slice Ao17 t909.length co17] 33 (0,0)) (by(with_reducible repeat(first|refine blk_drewN ?_ _|refine blk_drew ?_ |refine blk_alloc ?_ _));refine blk_far ?_ NB915_967.out _;(with_reducible repeat(first|refine blk_drewN ?_ _|refine blk_drew ?_ |refine blk_alloc ?_ _));refine blk_far ?_ NB915_967.out _;(with_reducible repeat(first|refine blk_drewN ?_ _|refine blk_drew ?_ |refine blk_alloc ?_ _));refine blk_far ?_ NB915_967.out _;(with_reducible repeat(first|refine blk_drewN ?_ _|refine blk_drew ?_ |refine blk_alloc ?_ _));exact BK915.out) hb);replace BK967:=Aside0.mk (blk_below (g:=gb967) (o:= .cells #[.slice Ao88 t955.length co88,.slice Ao91 t958.length co91,.slice Ao92 t961.length co92] 33 (0,0)) (by(with_reducible repeat(first|refine blk_drewN ?_ _|refine blk_drew ?_ |refine blk_alloc ?_ _));refine blk_put (cs:= #[.slice Ao88 t955.length co88,.slice Ao91 t958.length co91,.slice none 0 0]) ?_ 2 _ rfl;(with_reducible repeat(first|refine blk_drewN ?_ _|refine blk_drew ?_ |refine blk_alloc ?_ _));refine blk_put (cs:= #[.slice Ao88 t955.length co88,.slice none 0 0,.slice none 0 0]) ?_ 1 _ rfl;(with_reducible repeat(first|refine blk_drewN ?_ _|refine blk_drew ?_ |refine blk_alloc ?_ _));refine blk_put (cs:= #[.slice none 0 0,.slice none 0 0,.slice none 0 0]) ?_ 0 _ rfl;(with_reducible repeat(first|refine blk_drewN ?_ _|refine blk_drew ?_ |refine blk_alloc ?_ _));exact BK967.out) hb);replace HB:=Aside0.mk (below_step (by exact zk5 HB GE915.out GE967.out) hb);(try clear hb);(try clear hb2);(try clear hk);(try clear hi);(try clear ho0);have hcz95_0:=zcz BK967 0 (.slice Ao88 t955.length co88);have hcz95_1:=zcz BK967 1 (.slice Ao91 t958.length co91);have hcz95_2:=zcz BK967 2 (.slice Ao92 t961.length co92);have hfz95_0:=blk_frozen BK967.out 0;have hfz95_1:=blk_frozen BK967.out 1;have hfz95_2:=blk_frozen BK967.out 2)|((with_reducible refine gate_callee (f:=29) rfl ?_);refine goesL_ (some 232) rfl rfl Try.func29 (by kernel_rfl) rfl #[.agg #[.slice Ao88 t955.length co88,.slice Ao91 t958.length co91,.slice Ao92 t961.length co92],.slice Ao93 t964.length co93] rfl zq2 ?_;(with_reducible refine(spec_RanksOf.calls kj60 _ _ t955 _ _ t958 _ _ t961 _ _ t964 t972 t975 _ ?side1 ?side2 ?side3 ?side4 ?side5 ?side6 ?side7 ?side8 A79.out).mono ?_);(case side1=>exact zcc ((Kd.S_reads' HO957.out).2.2));(case side2=>exact(Kd.S_reads' HO957.out).2.1);(case side3=>exact zcc ((Kd.S_reads' HO960.out).2.2));(case side4=>exact(Kd.S_reads' HO960.out).2.1);(case side5=>exact zcc ((Kd.R_reads' HO963.out).2.2));(case side6=>exact(Kd.R_reads' HO963.out).2.1);(case side7=>exact zcc ((Kd.R_reads' HO966.out).2.2));(case side8=>exact(Kd.R_reads' HO966.out).2.1);rintro e w96 ⟨v973,rfl,ho0,hb⟩;refine⟨_,rfl,?_⟩;have HO974:=Aside0.mk (Kd.R_lower (Kd.R_new' (Kd.R_new' (Kd.R_new' (Kd.R_new' (Kd.R_new' ho0 (Kd.R_lt (zq4 HO_916002))) (Kd.R_lt (zq4 HO950))) (Kd.R_lt (zq4 HO963))) (Kd.R_lt (zq4 HO966))) (Kd.R_lt (zq4 HO970))) (below_size (by exact zk5 HB GE915.out GE967.out)));replace HO_916000:=Aside0.mk (Kd.S_elder' (by(with_reducible repeat(first|apply Kd.S_alloc|apply Kd.S_drewN|apply Kd.S_drew));exact HO_916000.out) (Kd.R_base ho0) hb);replace HO_916001:=Aside0.mk (Kd.S_elder' (by(with_reducible repeat(first|apply Kd.S_alloc|apply Kd.S_drewN|apply Kd.S_drew));exact HO_916001.out) (Kd.R_base ho0) hb);replace HO_916002:=Aside0.mk (Kd.R_elder' (zq4 HO_916002) (Kd.R_base ho0) hb);replace HO950:=Aside0.mk (Kd.R_elder' (zq4 HO950) (Kd.R_base ho0) hb);replace HO957:=Aside0.mk (Kd.S_elder' (by(with_reducible repeat(first|apply Kd.S_alloc|apply Kd.S_drewN|apply Kd.S_drew));exact HO957.out) (Kd.R_base ho0) hb);replace HO960:=Aside0.mk (Kd.S_elder' (by(with_reducible repeat(first|apply Kd.S_alloc|apply Kd.S_drewN|apply Kd.S_drew));exact HO960.out) (Kd.R_base ho0) hb);replace HO963:=Aside0.mk (Kd.R_elder' (zq4 HO963) (Kd.R_base ho0) hb);replace HO966:=Aside0.mk (Kd.R_elder' (zq4 HO966) (Kd.R_base ho0) hb);replace HO970:=Aside0.mk (Kd.R_elder' (zq4 HO970) (Kd.R_base ho0) hb);replace BK915:=Aside0.mk (blk_below (g:=gb915) (o:= .cells #[.slice Ao14 t903.length co14,.slice Ao16 t906.length co16,.slice Ao17 t909.length co17] 33 (0,0)) (zq3 BK915) hb);replace BK967:=Aside0.mk (blk_below (g:=gb967) (o:= .cells #[.slice Ao88 t955.length co88,.slice Ao91 t958.length co91,.slice Ao92 t961.length co92] 33 (0,0)) (zq3 BK967) hb);replace HB:=Aside0.mk (below_step (by exact zk5 HB GE915.out GE967.out) hb);(try clear hb);(try clear hb2);(try clear hk);(try clear hi);(try clear ho0);obtain⟨Ao97,co97,eo97⟩:=Kd.R_slice HO970.out;subst eo97;obtain⟨Ao98,co98,eo98⟩:=Kd.R_slice HO974.out;subst eo98)|(go_at_call 38;(with_reducible refine(laws_sameInts.calls kj60 _ _ t968 _ _ t972 t976 _ ?side1 ?side2 ?side3 ?side4 A83.out).mono ?_);(case side1=>exact zcc ((Kd.R_reads' HO970.out).2.2));(case side2=>exact(Kd.R_reads' HO970.out).2.1);(case side3=>exact zcc ((Kd.R_reads' HO974.out).2.2));(case side4=>exact(Kd.R_reads' HO974.out).2.1);rintro e w' ⟨rfl,⟨nd,rfl⟩⟩))
                go_ret
                exact⟨zer,by exact zk5 HB GE915.out GE967.out⟩
              ·rw [if_neg c82] at H
               have c82b0:(t971==t975)=false:=by simpa using c82
               (try(have c82b1:decide (t971=t975)=false:=by simpa using c82))
               (try(have c82b2:(t971==t975)=false:=by simpa using c82))
               (try(have c82b3:¬ (t971=t975):=by simpa using c82))
               clear c82
               exact absurd ((Option.some.inj H).trans HRT.out) (by decide)
             ·rw [if_neg c81] at H
              have c81b0:(t951==t953)=false:=beq_eq_false_iff_ne.mpr c81
              have c81b1:(t951 !=t953)=true:=bne_iff_ne.mpr c81
              exact absurd ((Option.some.inj H).trans HRT.out) (by decide)
            ·rw [if_neg c80] at H
             have c80b0:(t952==t954)=false:=by simpa using c80
             (try(have c80b1:decide (t952=t954)=false:=by simpa using c80))
             (try(have c80b2:(t952==t954)=false:=by simpa using c80))
             (try(have c80b3:¬ (t952=t954):=by simpa using c80))
             clear c80
             exact absurd ((Option.some.inj H).trans HRT.out) (by decide)
/-- THE ONE PURE STATEMENT of laws_FnMatches: yours. -/
def laws_FnMatches.Pure:Prop:= ∀ (l0:List Int) (l1:List Int),l0.length≤maxLen→l0.length * 1≤140737488351232→ (∀ x ∈ l0,(Lit.int .u8 x).wf=true)→l1.length≤maxLen→l1.length * 1≤140737488351232→ (∀ x ∈ l1,(Lit.int .u8 x).wf=true)→ ∃ k,laws_FnMatches.f k l0 l1=some true
theorem laws_FnMatches.walk (P:laws_FnMatches.Pure) (a0:Option Addr) (len0 cap0:Nat) (z0:List Int) (a1:Option Addr) (len1 cap1:Nat) (z1:List Int) (w:World) (w0:(a0=none∧len0=0∧cap0=0∧z0= [])∨ ∃ x,a0=some x∧len0≤cap0∧cap0≤maxLen∧z0.length=cap0∧ (∀ i,i<z0.length→w.cell? (x.add i)=some (.int .u8 (z0.getD i 0)))∧ ∀ n ∈ z0,(Lit.int .u8 n).wf=true) (y0:len0 * 1≤140737488351232) (w1:(a1=none∧len1=0∧cap1=0∧z1= [])∨ ∃ x,a1=some x∧len1≤cap1∧cap1≤maxLen∧z1.length=cap1∧ (∀ i,i<z1.length→w.cell? (x.add i)=some (.int .u8 (z1.getD i 0)))∧ ∀ n ∈ z1,(Lit.int .u8 n).wf=true) (y1:len1 * 1≤140737488351232):
  Calls Try.prog 11 #[.slice a0 len0 cap0,.slice a1 len1 cap1] w fun e w'=>e= .returned (.bool true)∧Below w.heap.size w w':=by
 obtain⟨l0,rfl,hr0,hm0,hw0,hc0⟩:=ReadsInt.ofRowC w0
 obtain⟨l1,rfl,hr1,hm1,hw1,hc1⟩:=ReadsInt.ofRowC w1
 obtain⟨k,h⟩:=P l0 l1 hm0 y0 hw0 hm1 y1 hw1
 refine(laws_FnMatches.calls k _ _ l0 _ _ l1 true w (Kd.C_of_reads (d:=(0:Int)) (h1:=fun _=>rfl) hr0) hc0 (Kd.C_of_reads (d:=(0:Int)) (h1:=fun _=>rfl) hr1) hc1 h).mono ?_
 rintro e w' ⟨rfl,hd⟩
 exact⟨rfl,hd⟩
open Go.RowKit Go.Proofs.YtoipbblhmcpneaaW.PrintWords
theorem wrap_id {x:Int} (h0: -9223372036854775808≤x) (h1:x≤9223372036854775807):wrap64 x=x:=by unfold wrap64;omega
theorem Ev.succ {α :Type} {g:Nat→Option α} {r: α} (h:Ev (fun k=>g (k+1)) r):Ev g r:=Ev.step (fun _=>rfl) h
theorem Ev.some_ {α :Type} {r s: α} (h:r=s):Ev (fun _=>some r) s:=h ▸ Ev.now r
theorem getD_mid {α :Type} (d: α) (pre:List α) (x: α) (suf:List α):(pre++x::suf).getD ((pre.length:Int)).toNat d=x:=by simp
theorem app_one {α :Type} (pre:List α) (x: α) (suf:List α):pre++x::suf= (pre++ [x])++suf:=by simp
theorem len_mid {α :Type} (pre:List α) (x: α) (suf:List α):((pre++x::suf).length:Int)=pre.length+suf.length+1:=by simp;omega
theorem len_one {α :Type} (pre:List α) (x: α):((pre++ [x]).length:Int)=pre.length+1:=by simp
open Go.RowKit Go.Proofs.YtoipbblhmcpneaaW.PrintWords Go.Proofs.YtoipbblhmcpneaaW.PrintLast
theorem rd_mid (pre:List Int) (x:Int) (suf:List Int):rd (pre++x::suf) (pre.length:Int)=x:=getD_mid _ pre x suf
theorem rdSS_mid (pre:List (List Int)) (x:List Int) (suf:List (List Int)):rd_L1 (pre++x::suf) (pre.length:Int)=x:=getD_mid _ pre x suf
end Go.Proofs.Ytoipbblhmcpneaa.P
