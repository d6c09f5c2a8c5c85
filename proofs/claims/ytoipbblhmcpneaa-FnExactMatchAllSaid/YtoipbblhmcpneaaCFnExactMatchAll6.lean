/- Functions, walks and plain lemmas that the law FnExactMatchAll reaches, part 6. -/
import Derived.Test.YtoipbblhmcpneaaCFnExactMatchAll5
import Derived.WalkKit
import Derived.ProofKit
import Derived.OpenShut
import Derived.ChangeOld
import Derived.Below
import Derived.SizedLaws
import Derived.ChangeArms
import Derived.DataElems
import Derived.Deep.Draws
import Derived.Deep.AppendLies
import Derived.Maps.AppendAt
import Derived.OwnWalk
import Derived.Laws.BytesArg
import Derived.Laws.MakeOwn
import Derived.Laws.OwnMore
import Derived.Deep.OwnRows
import Derived.Tactics
import Derived.Lib.ConvBytes
import Derived.Laws.Slices
import Derived.KernelRfl
import Derived.RowKit3
import Derived.Deep.LoopGhost
import Derived.Deep.QuietTactic
import Derived.BigQuiet
import Derived.WideLaws
import Derived.Deep.DeepCutAuto
import Derived.Deep.CutBlock
import Derived.Deep.RegionHeld3
import Derived.Laws.Rows
import Derived.Lib.AppendStr
import Derived.ArgAppend
import Derived.Laws.IdiomCopy
import Derived.OrdersHeld
import Derived.Laws.BitsLemmas
import Derived.RowKit
import Derived.WalkSpells
import Derived.Lib.SliceRun
import Derived.Shelf.Abstract
import Derived.ShutString
namespace Go.Proofs.Ytoipbblhmcpneaa.P
open Go.RowKit Go.Proofs.YtoipbblhmcpneaaW.PrintWords Go.Proofs.YtoipbblhmcpneaaW.PrintLast Go.Proofs.YtoipbblhmcpneaaW.PrintMore
attribute [local go_sem] max2_int min2_int max_two min_two max_three min_three max_four min_four   -- for this text's walks alone
set_option linter.unusedVariables false
set_option linter.unusedSimpArgs false
mutual
def laws_FnExactMatchAll.j0:Nat→List Int→Bool→List Int→Bool→Bool→List (List Int)→List (List Int)→List Int→List (List Int)→List (List Int)→List Int→Option (Bool)
 | 0,_,_,_,_,_,_,_,_,_,_,_=>none
 |k+1,x4,x5,x7,x8,x40,x686000,x686001,x686002,x710000,x710001,x710002=>if x40=true then(some false) else((laws_toWishes.f k x686000 x686001 x686002).bind fun bt715=>((laws_eqWishes.f k x710000 x710001 x710002 bt715.1 bt715.2.1 bt715.2.2).bind fun t724=>(if t724=true then((laws_markWishes.f k x710000 x710001 x710002 1).bind fun bt725=>(if bt725.1< 0 then(laws_FnExactMatchAll.j1 k x4 x5 x7 true x686000 x686001 x686002) else((laws_eqIntS.f k x7 x4).bind fun t726=>(if t726=true then(laws_FnExactMatchAll.j1 k x4 x5 x7 (x8 !=x5) x686000 x686001 x686002) else(laws_FnExactMatchAll.j1 k x4 x5 x7 true x686000 x686001 x686002))))) else(some false))))
def laws_FnExactMatchAll.j1:Nat→List Int→Bool→List Int→Bool→List (List Int)→List (List Int)→List Int→Option (Bool)
 | 0,_,_,_,_,_,_,_=>none
 |k+1,x4,x5,x7,x61,x686000,x686001,x686002=>if x61=true then(some false) else((laws_markIntS.f k x7 1).bind fun bt727=>((laws_heldIntS.f k bt727.2 1).bind fun t729=>(if t729< 0 then(some false) else(if t729=bt727.1 then((laws_toWishes.f k x686000 x686001 x686002).bind fun bt730=>((impl_MatchAll.f k bt730.1 bt730.2.1 bt730.2.2).bind fun bt739=>((laws_eqIntS.f k bt739.1 x4).bind fun t743=>(if t743=true then(laws_FnExactMatchAll.j2 k bt727.2 bt727.1 (bt739.2 !=x5)) else(laws_FnExactMatchAll.j2 k bt727.2 bt727.1 true))))) else(some false)))))
def laws_FnExactMatchAll.j2:Nat→List Int→Int→Bool→Option (Bool)
 | 0,_,_,_=>none
 |k+1,x7,x10,x87=>if x87=true then(some false) else((laws_heldIntS.f k x7 1).bind fun t744=>(if t744< 0 then(some false) else(if t744=x10 then(some true) else(some false))))
end
def laws_FnExactMatchAll.f (k:Nat) (l0_0:List (List Int)) (l0_1:List (List Int)) (l0_2:List Int):Option (Bool):=(laws_szWishes.f k l0_0 l0_1 l0_2 1048576).bind fun t686=>(if t686< 0 then(some true) else((laws_toWishes.f k l0_0 l0_1 l0_2).bind fun bt687=>((spec_MatchAll.f k bt687.1 bt687.2.1 bt687.2.2).bind fun bt696=>((laws_toWishes.f k l0_0 l0_1 l0_2).bind fun bt700=>((impl_MatchAll.f k bt700.1 bt700.2.1 bt700.2.2).bind fun bt710=>((laws_eqIntS.f k bt710.1 bt696.1).bind fun t714=>(if t714=true then(laws_FnExactMatchAll.j0 k bt696.1 bt696.2 bt710.1 bt710.2 (bt710.2 !=bt696.2) l0_0 l0_1 l0_2 bt700.1 bt700.2.1 bt700.2.2) else(laws_FnExactMatchAll.j0 k bt696.1 bt696.2 bt710.1 bt710.2 true l0_0 l0_1 l0_2 bt700.1 bt700.2.1 bt700.2.2))))))))
set_option maxHeartbeats 8000000 in
set_option maxRecDepth 100000 in
theorem laws_FnExactMatchAll.calls (k:Nat) (A0_0:Option Addr) (c0_0:Nat) (l0_0:List (List Int)) (A0_1:Option Addr) (c0_1:Nat) (l0_1:List (List Int)) (A0_2:Option Addr) (c0_2:Nat) (l0_2:List Int) (r:Bool) (w:World) (hr0_0:Kd.C (Kd.slice 3 (Kd.int .i64)) w A0_0 l0_0.length l0_0) (hc0_0:l0_0.length≤c0_0) (hr0_1:Kd.C (Kd.slice 3 (Kd.int .i64)) w A0_1 l0_1.length l0_1) (hc0_1:l0_1.length≤c0_1) (hr0_2:Kd.C (Kd.int .i64) w A0_2 l0_2.length l0_2) (hc0_2:l0_2.length≤c0_2) (h:laws_FnExactMatchAll.f k l0_0 l0_1 l0_2=some r) (hrt:r=true:=by rfl):
  Calls Try.prog 10 #[.agg #[.slice A0_0 l0_0.length c0_0,.slice A0_1 l0_1.length c0_1,.slice A0_2 l0_2.length c0_2]] w fun e w'=>e= .returned (.bool r)∧Below w.heap.size w w':=by
 have HRT:=Aside0.mk hrt
 clear hrt
 have hu30:=Try.underlying30
 have hu33:=Try.underlying33
 have HR0_0:=Aside0.mk hr0_0
 have HC0_0:=Aside0.mk hc0_0
 clear hr0_0 hc0_0
 have HR0_1:=Aside0.mk hr0_1
 have HC0_1:=Aside0.mk hc0_1
 clear hr0_1 hc0_1
 have HR0_2:=Aside0.mk hr0_2
 have HC0_2:=Aside0.mk hc0_2
 clear hr0_2 hc0_2
 have HB:=Aside0.mk (Below.refl w.heap.size w)
 have H:((laws_szWishes.f k l0_0 l0_1 l0_2 1048576).bind fun t686=>(if t686< 0 then(some true) else((laws_toWishes.f k l0_0 l0_1 l0_2).bind fun bt687=>((spec_MatchAll.f k bt687.1 bt687.2.1 bt687.2.2).bind fun bt696=>((laws_toWishes.f k l0_0 l0_1 l0_2).bind fun bt700=>((impl_MatchAll.f k bt700.1 bt700.2.1 bt700.2.2).bind fun bt710=>((laws_eqIntS.f k bt710.1 bt696.1).bind fun t714=>(if t714=true then(laws_FnExactMatchAll.j0 k bt696.1 bt696.2 bt710.1 bt710.2 (bt710.2 !=bt696.2) l0_0 l0_1 l0_2 bt700.1 bt700.2.1 bt700.2.2) else(laws_FnExactMatchAll.j0 k bt696.1 bt696.2 bt710.1 bt710.2 true l0_0 l0_1 l0_2 bt700.1 bt700.2.1 bt700.2.2)))))))))=some r:=h
 clear h
 replace H:=Option.bind_eq_some_iff.mp H
 obtain⟨t686,A20,H⟩:=H
 replace H:(if t686< 0 then(some true) else((laws_toWishes.f k l0_0 l0_1 l0_2).bind fun bt687=>((spec_MatchAll.f k bt687.1 bt687.2.1 bt687.2.2).bind fun bt696=>((laws_toWishes.f k l0_0 l0_1 l0_2).bind fun bt700=>((impl_MatchAll.f k bt700.1 bt700.2.1 bt700.2.2).bind fun bt710=>((laws_eqIntS.f k bt710.1 bt696.1).bind fun t714=>(if t714=true then(laws_FnExactMatchAll.j0 k bt696.1 bt696.2 bt710.1 bt710.2 (bt710.2 !=bt696.2) l0_0 l0_1 l0_2 bt700.1 bt700.2.1 bt700.2.2) else(laws_FnExactMatchAll.j0 k bt696.1 bt696.2 bt710.1 bt710.2 true l0_0 l0_1 l0_2 bt700.1 bt700.2.1 bt700.2.2))))))))=some r:=H
 have A2:=Aside0.mk A20
 clear A20
 by_cases c3:t686< 0
 ·rw [if_pos c3] at H
  have c3b0:decide (t686< 0)=true:=decide_eq_true c3
  clear c3
  obtain rfl:=Option.some.inj H
  go_enter Try.func10,Try.ntmps10
  go_wp2_with (first|((with_reducible refine gate_dst (N:=1) rfl ?_);refine box_event ?hg (N:=1) ?hd (cs:= #[.slice A0_0 l0_0.length c0_0,.slice A0_1 l0_1.length c0_1,.slice A0_2 l0_2.length c0_2]) (t:=30) ?hr ?_;(case hd=>rfl);(case hg=>rfl);(case hr=>first|(go_simp;done)|(go_simp;rfl));intro gb685 hg w4 hbox hb;have n0_:=Aside0.mk (below_step (zb0 HB) hb);have n1_:=Aside0.mk (hbox);have n2_:=Aside0.mk ((by rw [hg];exact(below_size (zb0 HB)):w.heap.size≤gb685));have n3_:=Aside0.mk ((by rw [hg];exact(below_size (zb0 HB)):w.heap.size≤gb685));clear HB;have HB:=n0_;have BK685:=n1_;have GW685:=n2_;have GE685:=n3_;clear n0_ n1_ n2_ n3_;clear hb hbox hg;have hcz5_0:w4.cell? ⟨gb685,0,none⟩=some (.slice A0_0 l0_0.length c0_0):=(blk_cell BK685.out 0).trans rfl;have hcz5_1:w4.cell? ⟨gb685,1,none⟩=some (.slice A0_1 l0_1.length c0_1):=(blk_cell BK685.out 1).trans rfl;have hcz5_2:w4.cell? ⟨gb685,2,none⟩=some (.slice A0_2 l0_2.length c0_2):=(blk_cell BK685.out 2).trans rfl;have hfz5_0:=blk_frozen BK685.out 0;have hfz5_1:=blk_frozen BK685.out 1;have hfz5_2:=blk_frozen BK685.out 2)|((with_reducible refine gate_callee (f:=17) rfl ?_);refine goesL_ (some 16) rfl rfl Try.func17 (by kernel_rfl) rfl #[.agg #[.slice A0_0 l0_0.length c0_0,.slice A0_1 l0_1.length c0_1,.slice A0_2 l0_2.length c0_2],.int .i64 1048576] rfl zq2 ?_;(with_reducible refine(laws_szWishes.calls k _ _ l0_0 _ _ l0_1 _ _ l0_2 1048576 t686 _ ?side1 ?side2 ?side3 ?side4 ?side5 ?side6 A2.out).mono ?_);(case side1=>repeat(first|exact(Kd.C_below HR0_0.out HB.out)|(with_reducible refine Kd.C_alloc ?_ _)|(with_reducible refine Kd.C_drewN ?_ _)|(with_reducible refine Kd.C_drew ?_)));(case side2=>exact HC0_0.out);(case side3=>repeat(first|exact(Kd.C_below HR0_1.out HB.out)|(with_reducible refine Kd.C_alloc ?_ _)|(with_reducible refine Kd.C_drewN ?_ _)|(with_reducible refine Kd.C_drew ?_)));(case side4=>exact HC0_1.out);(case side5=>repeat(first|exact(Kd.C_below HR0_2.out HB.out)|(with_reducible refine Kd.C_alloc ?_ _)|(with_reducible refine Kd.C_drewN ?_ _)|(with_reducible refine Kd.C_drew ?_)));(case side6=>exact HC0_2.out);rintro e w6 ⟨rfl,hb⟩;refine⟨_,rfl,?_⟩;have n0_:=Aside0.mk (blk_below (g:=gb685) (o:= .cells #[.slice A0_0 l0_0.length c0_0,.slice A0_1 l0_1.length c0_1,.slice A0_2 l0_2.length c0_2] 30 (0,0)) (zq3 BK685) hb);have n1_:=Aside0.mk (below_step (zb1 HB GE685) hb);clear BK685;clear HB;have BK685:=n0_;have HB:=n1_;clear n0_ n1_;(try clear hb);(try clear hb2);(try clear hk);(try clear hi)))
  go_ret
  exact⟨by first|rfl|(simp [errW_none,errW_some]<;>rfl)|(simp [*,errW_none,errW_some]<;>rfl),by repeat(first|(with_reducible first|exact HB.out|apply below_alloc|apply pw_below_drewN|apply below_drew1|refine below_set ?_ GE685.out)|exact HB.out)⟩
 ·rw [if_neg c3] at H
  have c3b0:decide (t686< 0)=false:=decide_eq_false c3
  clear c3
  replace H:=Option.bind_eq_some_iff.mp H
  obtain⟨⟨t687,t690,t693⟩,A70,H⟩:=H
  replace H:((spec_MatchAll.f k t687 t690 t693).bind fun bt696=>((laws_toWishes.f k l0_0 l0_1 l0_2).bind fun bt700=>((impl_MatchAll.f k bt700.1 bt700.2.1 bt700.2.2).bind fun bt710=>((laws_eqIntS.f k bt710.1 bt696.1).bind fun t714=>(if t714=true then(laws_FnExactMatchAll.j0 k bt696.1 bt696.2 bt710.1 bt710.2 (bt710.2 !=bt696.2) l0_0 l0_1 l0_2 bt700.1 bt700.2.1 bt700.2.2) else(laws_FnExactMatchAll.j0 k bt696.1 bt696.2 bt710.1 bt710.2 true l0_0 l0_1 l0_2 bt700.1 bt700.2.1 bt700.2.2))))))=some r:=H
  have A7:=Aside0.mk A70
  clear A70
  replace H:=Option.bind_eq_some_iff.mp H
  obtain⟨⟨t696,t699⟩,A80,H⟩:=H
  replace H:((laws_toWishes.f k l0_0 l0_1 l0_2).bind fun bt700=>((impl_MatchAll.f k bt700.1 bt700.2.1 bt700.2.2).bind fun bt710=>((laws_eqIntS.f k bt710.1 t696).bind fun t714=>(if t714=true then(laws_FnExactMatchAll.j0 k t696 t699 bt710.1 bt710.2 (bt710.2 !=t699) l0_0 l0_1 l0_2 bt700.1 bt700.2.1 bt700.2.2) else(laws_FnExactMatchAll.j0 k t696 t699 bt710.1 bt710.2 true l0_0 l0_1 l0_2 bt700.1 bt700.2.1 bt700.2.2)))))=some r:=H
  have A8:=Aside0.mk A80
  clear A80
  replace H:=Option.bind_eq_some_iff.mp H
  obtain⟨⟨t700,t703,t706⟩,A90,H⟩:=H
  replace H:((impl_MatchAll.f k t700 t703 t706).bind fun bt710=>((laws_eqIntS.f k bt710.1 t696).bind fun t714=>(if t714=true then(laws_FnExactMatchAll.j0 k t696 t699 bt710.1 bt710.2 (bt710.2 !=t699) l0_0 l0_1 l0_2 t700 t703 t706) else(laws_FnExactMatchAll.j0 k t696 t699 bt710.1 bt710.2 true l0_0 l0_1 l0_2 t700 t703 t706))))=some r:=H
  have A9:=Aside0.mk A90
  clear A90
  replace H:=Option.bind_eq_some_iff.mp H
  obtain⟨⟨t710,t713⟩,A100,H⟩:=H
  replace H:((laws_eqIntS.f k t710 t696).bind fun t714=>(if t714=true then(laws_FnExactMatchAll.j0 k t696 t699 t710 t713 (t713 !=t699) l0_0 l0_1 l0_2 t700 t703 t706) else(laws_FnExactMatchAll.j0 k t696 t699 t710 t713 true l0_0 l0_1 l0_2 t700 t703 t706)))=some r:=H
  have A10:=Aside0.mk A100
  clear A100
  have HC11:=Aside0.mk H
  clear H
  go_enter Try.func10,Try.ntmps10
  go_upto_region 8 with (first|((with_reducible refine gate_dst (N:=1) rfl ?_);refine box_event ?hg (N:=1) ?hd (cs:= #[.slice A0_0 l0_0.length c0_0,.slice A0_1 l0_1.length c0_1,.slice A0_2 l0_2.length c0_2]) (t:=30) ?hr ?_;(case hd=>rfl);(case hg=>rfl);(case hr=>first|(go_simp;done)|(go_simp;rfl));intro gb685 hg w12 hbox hb;have n0_:=Aside0.mk (below_step (zb0 HB) hb);have n1_:=Aside0.mk (hbox);have n2_:=Aside0.mk ((by rw [hg];exact(below_size (zb0 HB)):w.heap.size≤gb685));have n3_:=Aside0.mk ((by rw [hg];exact(below_size (zb0 HB)):w.heap.size≤gb685));clear HB;have HB:=n0_;have BK685:=n1_;have GW685:=n2_;have GE685:=n3_;clear n0_ n1_ n2_ n3_;clear hb hbox hg;have hcz13_0:w12.cell? ⟨gb685,0,none⟩=some (.slice A0_0 l0_0.length c0_0):=(blk_cell BK685.out 0).trans rfl;have hcz13_1:w12.cell? ⟨gb685,1,none⟩=some (.slice A0_1 l0_1.length c0_1):=(blk_cell BK685.out 1).trans rfl;have hcz13_2:w12.cell? ⟨gb685,2,none⟩=some (.slice A0_2 l0_2.length c0_2):=(blk_cell BK685.out 2).trans rfl;have hfz13_0:=blk_frozen BK685.out 0;have hfz13_1:=blk_frozen BK685.out 1;have hfz13_2:=blk_frozen BK685.out 2)|((with_reducible refine gate_callee (f:=17) rfl ?_);refine goesL_ (some 16) rfl rfl Try.func17 (by kernel_rfl) rfl #[.agg #[.slice A0_0 l0_0.length c0_0,.slice A0_1 l0_1.length c0_1,.slice A0_2 l0_2.length c0_2],.int .i64 1048576] rfl zq2 ?_;(with_reducible refine(laws_szWishes.calls k _ _ l0_0 _ _ l0_1 _ _ l0_2 1048576 t686 _ ?side1 ?side2 ?side3 ?side4 ?side5 ?side6 A2.out).mono ?_);(case side1=>repeat(first|exact(Kd.C_below HR0_0.out HB.out)|(with_reducible refine Kd.C_alloc ?_ _)|(with_reducible refine Kd.C_drewN ?_ _)|(with_reducible refine Kd.C_drew ?_)));(case side2=>exact HC0_0.out);(case side3=>repeat(first|exact(Kd.C_below HR0_1.out HB.out)|(with_reducible refine Kd.C_alloc ?_ _)|(with_reducible refine Kd.C_drewN ?_ _)|(with_reducible refine Kd.C_drew ?_)));(case side4=>exact HC0_1.out);(case side5=>repeat(first|exact(Kd.C_below HR0_2.out HB.out)|(with_reducible refine Kd.C_alloc ?_ _)|(with_reducible refine Kd.C_drewN ?_ _)|(with_reducible refine Kd.C_drew ?_)));(case side6=>exact HC0_2.out);rintro e w14 ⟨rfl,hb⟩;refine⟨_,rfl,?_⟩;have n0_:=Aside0.mk (blk_below (g:=gb685) (o:= .cells #[.slice A0_0 l0_0.length c0_0,.slice A0_1 l0_1.length c0_1,.slice A0_2 l0_2.length c0_2] 30 (0,0)) (zq3 BK685) hb);have n1_:=Aside0.mk (below_step (zb1 HB GE685) hb);clear BK685;clear HB;have BK685:=n0_;have HB:=n1_;clear n0_ n1_;(try clear hb);(try clear hb2);(try clear hk);(try clear hi);have hcz15_0:w14.cell? ⟨gb685,0,none⟩=some (.slice A0_0 l0_0.length c0_0):=(blk_cell BK685.out 0).trans rfl;have hcz15_1:w14.cell? ⟨gb685,1,none⟩=some (.slice A0_1 l0_1.length c0_1):=(blk_cell BK685.out 1).trans rfl;have hcz15_2:w14.cell? ⟨gb685,2,none⟩=some (.slice A0_2 l0_2.length c0_2):=(blk_cell BK685.out 2).trans rfl;have hfz15_0:=blk_frozen BK685.out 0;have hfz15_1:=blk_frozen BK685.out 1;have hfz15_2:=blk_frozen BK685.out 2)|((with_reducible refine gate_callee (f:=19) rfl ?_);refine goesL_ (some 21) rfl rfl Try.func19 (by kernel_rfl) rfl #[.agg #[.slice A0_0 l0_0.length c0_0,.slice A0_1 l0_1.length c0_1,.slice A0_2 l0_2.length c0_2]] rfl zq2 ?_;(with_reducible refine(laws_toWishes.calls k _ _ l0_0 _ _ l0_1 _ _ l0_2 t687 t690 t693 _ ?side1 ?side2 ?side3 ?side4 ?side5 ?side6 A7.out).mono ?_);(case side1=>repeat(first|exact(Kd.C_below HR0_0.out HB.out)|(with_reducible refine Kd.C_alloc ?_ _)|(with_reducible refine Kd.C_drewN ?_ _)|(with_reducible refine Kd.C_drew ?_)));(case side2=>exact HC0_0.out);(case side3=>repeat(first|exact(Kd.C_below HR0_1.out HB.out)|(with_reducible refine Kd.C_alloc ?_ _)|(with_reducible refine Kd.C_drewN ?_ _)|(with_reducible refine Kd.C_drew ?_)));(case side4=>exact HC0_1.out);(case side5=>repeat(first|exact(Kd.C_below HR0_2.out HB.out)|(with_reducible refine Kd.C_alloc ?_ _)|(with_reducible refine Kd.C_drewN ?_ _)|(with_reducible refine Kd.C_drew ?_)));(case side6=>exact HC0_2.out);rintro e w16 ⟨v688,v691,v694,rfl,ho0,ho1,ho2,hb⟩;refine⟨_,rfl,?_⟩;have n0_:=Aside0.mk (Kd.S_lower ho0 (below_size (zb1 HB GE685)));have n1_:=Aside0.mk (Kd.S_lower ho1 (below_size (zb1 HB GE685)));have n2_:=Aside0.mk (Kd.R_lower ho2 (below_size (zb1 HB GE685)));have n3_:=Aside0.mk (blk_below (g:=gb685) (o:= .cells #[.slice A0_0 l0_0.length c0_0,.slice A0_1 l0_1.length c0_1,.slice A0_2 l0_2.length c0_2] 30 (0,0)) (zq3 BK685) hb);have n4_:=Aside0.mk (below_step (zb1 HB GE685) hb);clear BK685;clear HB;have HO689:=n0_;have HO692:=n1_;have HO695:=n2_;have BK685:=n3_;have HB:=n4_;clear n0_ n1_ n2_ n3_ n4_;(try clear hb);(try clear hb2);(try clear hk);(try clear hi);(try clear ho0);(try clear ho1);(try clear ho2);obtain⟨Ao17,co17,eo17⟩:=Kd.S_slice HO689.out;subst eo17;obtain⟨Ao18,co18,eo18⟩:=Kd.S_slice HO692.out;subst eo18;obtain⟨Ao19,co19,eo19⟩:=Kd.R_slice HO695.out;subst eo19)|((with_reducible refine gate_callee (f:=35) rfl ?_);refine goesL_ (some 22) rfl rfl Try.func35 (by kernel_rfl) rfl #[.agg #[.slice Ao17 t687.length co17,.slice Ao18 t690.length co18,.slice Ao19 t693.length co19]] rfl zq2 ?_;(with_reducible refine(spec_MatchAll.calls k _ _ t687 _ _ t690 _ _ t693 t696 t699 _ ?side1 ?side2 ?side3 ?side4 ?side5 ?side6 A8.out).mono ?_);(case side1=>repeat(first|exact(Kd.S_reads' HO689.out).2.2|(with_reducible refine Kd.C_alloc ?_ _)|(with_reducible refine Kd.C_drewN ?_ _)|(with_reducible refine Kd.C_drew ?_)));(case side2=>exact(Kd.S_reads' HO689.out).2.1);(case side3=>repeat(first|exact(Kd.S_reads' HO692.out).2.2|(with_reducible refine Kd.C_alloc ?_ _)|(with_reducible refine Kd.C_drewN ?_ _)|(with_reducible refine Kd.C_drew ?_)));(case side4=>exact(Kd.S_reads' HO692.out).2.1);(case side5=>repeat(first|exact(Kd.R_reads' HO695.out).2.2|(with_reducible refine Kd.C_alloc ?_ _)|(with_reducible refine Kd.C_drewN ?_ _)|(with_reducible refine Kd.C_drew ?_)));(case side6=>exact(Kd.R_reads' HO695.out).2.1);rintro e w20 ⟨v697,rfl,ho0,hb⟩;refine⟨_,rfl,?_⟩;have n0_:=Aside0.mk (Kd.S_elder' (by(with_reducible repeat(first|apply Kd.S_alloc|apply Kd.S_drewN|apply Kd.S_drew));exact HO689.out) (Kd.R_base ho0) hb);have n1_:=Aside0.mk (Kd.S_elder' (by(with_reducible repeat(first|apply Kd.S_alloc|apply Kd.S_drewN|apply Kd.S_drew));exact HO692.out) (Kd.R_base ho0) hb);have n2_:=Aside0.mk (Kd.R_elder' (zq4 HO695) (Kd.R_base ho0) hb);have n3_:=Aside0.mk (Kd.R_lower (Kd.R_new' ho0 (Kd.R_lt (zq4 HO695))) (below_size (zb1 HB GE685)));have n4_:=Aside0.mk (blk_below (g:=gb685) (o:= .cells #[.slice A0_0 l0_0.length c0_0,.slice A0_1 l0_1.length c0_1,.slice A0_2 l0_2.length c0_2] 30 (0,0)) (zq3 BK685) hb);have n5_:=Aside0.mk (below_step (zb1 HB GE685) hb);clear HO689;clear HO692;clear HO695;clear BK685;clear HB;have HO689:=n0_;have HO692:=n1_;have HO695:=n2_;have HO698:=n3_;have BK685:=n4_;have HB:=n5_;clear n0_ n1_ n2_ n3_ n4_ n5_;(try clear hb);(try clear hb2);(try clear hk);(try clear hi);(try clear ho0);have hcz21_0:w20.cell? ⟨gb685,0,none⟩=some (.slice A0_0 l0_0.length c0_0):=(blk_cell BK685.out 0).trans rfl;have hcz21_1:w20.cell? ⟨gb685,1,none⟩=some (.slice A0_1 l0_1.length c0_1):=(blk_cell BK685.out 1).trans rfl;have hcz21_2:w20.cell? ⟨gb685,2,none⟩=some (.slice A0_2 l0_2.length c0_2):=(blk_cell BK685.out 2).trans rfl;have hfz21_0:=blk_frozen BK685.out 0;have hfz21_1:=blk_frozen BK685.out 1;have hfz21_2:=blk_frozen BK685.out 2)|((with_reducible refine gate_callee (f:=19) rfl ?_);refine goesL_ (some 26) rfl rfl Try.func19 (by kernel_rfl) rfl #[.agg #[.slice A0_0 l0_0.length c0_0,.slice A0_1 l0_1.length c0_1,.slice A0_2 l0_2.length c0_2]] rfl zq2 ?_;(with_reducible refine(laws_toWishes.calls2 k _ _ l0_0 _ _ l0_1 _ _ l0_2 t700 t703 t706 _ ?side1 ?side2 ?side3 ?side4 ?side5 ?side6 A9.out).mono ?_);(case side1=>repeat(first|exact(Kd.C_below HR0_0.out HB.out)|(with_reducible refine Kd.C_alloc ?_ _)|(with_reducible refine Kd.C_drewN ?_ _)|(with_reducible refine Kd.C_drew ?_)));(case side2=>exact HC0_0.out);(case side3=>repeat(first|exact(Kd.C_below HR0_1.out HB.out)|(with_reducible refine Kd.C_alloc ?_ _)|(with_reducible refine Kd.C_drewN ?_ _)|(with_reducible refine Kd.C_drew ?_)));(case side4=>exact HC0_1.out);(case side5=>repeat(first|exact(Kd.C_below HR0_2.out HB.out)|(with_reducible refine Kd.C_alloc ?_ _)|(with_reducible refine Kd.C_drewN ?_ _)|(with_reducible refine Kd.C_drew ?_)));(case side6=>exact HC0_2.out);rintro e w22 ⟨M_,v701,v704,v707,rfl,ho0,ho1,ho2,hb⟩;refine⟨_,rfl,?_⟩;have n0_:=Aside0.mk (Kd.S_mono (Kd.S_told (Kd.S_told (Kd.S_told (Kd.S_old (by(with_reducible repeat(first|apply Kd.S_alloc|apply Kd.S_drewN|apply Kd.S_drew));exact HO689.out) hb) (Kd.S_base ho0)) (Kd.S_base ho1)) (Kd.R_base ho2)) (fun _ h_=>h_.1));have n1_:=Aside0.mk (Kd.S_mono (Kd.S_told (Kd.S_told (Kd.S_told (Kd.S_old (by(with_reducible repeat(first|apply Kd.S_alloc|apply Kd.S_drewN|apply Kd.S_drew));exact HO692.out) hb) (Kd.S_base ho0)) (Kd.S_base ho1)) (Kd.R_base ho2)) (fun _ h_=>h_.1));have n2_:=Aside0.mk (Kd.R_elder' (zq4 HO695) (Kd.R_base ho2) hb);have n3_:=Aside0.mk (Kd.R_elder' (zq4 HO698) (Kd.R_base ho2) hb);have n4_:=Aside0.mk (Kd.S_lower (Kd.S_new' (Kd.S_new' (Kd.S_new' (Kd.S_new' ho0 (Kd.S_lt (by(with_reducible repeat(first|apply Kd.S_alloc|apply Kd.S_drewN|apply Kd.S_drew));exact HO689.out))) (Kd.S_lt (by(with_reducible repeat(first|apply Kd.S_alloc|apply Kd.S_drewN|apply Kd.S_drew));exact HO692.out))) (Kd.R_lt (zq4 HO695))) (Kd.R_lt (zq4 HO698))) (below_size (zb1 HB GE685)));have n5_:=Aside0.mk (Kd.S_lower (Kd.S_new' (Kd.S_new' (Kd.S_new' (Kd.S_new' ho1 (Kd.S_lt (by(with_reducible repeat(first|apply Kd.S_alloc|apply Kd.S_drewN|apply Kd.S_drew));exact HO689.out))) (Kd.S_lt (by(with_reducible repeat(first|apply Kd.S_alloc|apply Kd.S_drewN|apply Kd.S_drew));exact HO692.out))) (Kd.R_lt (zq4 HO695))) (Kd.R_lt (zq4 HO698))) (below_size (zb1 HB GE685)));have n6_:=Aside0.mk (Kd.R_lower (Kd.R_new' (Kd.R_new' ho2 (Kd.R_lt (zq4 HO695))) (Kd.R_lt (zq4 HO698))) (below_size (zb1 HB GE685)));have n7_:=Aside0.mk (blk_below (g:=gb685) (o:= .cells #[.slice A0_0 l0_0.length c0_0,.slice A0_1 l0_1.length c0_1,.slice A0_2 l0_2.length c0_2] 30 (0,0)) (zq3 BK685) hb);have n8_:=Aside0.mk (below_step (zb1 HB GE685) hb);clear HO689;clear HO692;clear HO695;clear HO698;clear BK685;clear HB;have HO689:=n0_;have HO692:=n1_;have HO695:=n2_;have HO698:=n3_;have HO702:=n4_;have HO705:=n5_;have HO708:=n6_;have BK685:=n7_;have HB:=n8_;clear n0_ n1_ n2_ n3_ n4_ n5_ n6_ n7_ n8_;(try clear hb);(try clear hb2);(try clear hk);(try clear hi);(try clear ho0);(try clear ho1);(try clear ho2))|((with_reducible refine gate_dst (N:=6) rfl ?_);refine box_event ?hg (N:=6) ?hd (cs:= #[.slice none 0 0,.slice none 0 0,.slice none 0 0]) (t:=33) ?hr ?_;(case hd=>rfl);(case hg=>rfl);(case hr=>first|(go_simp;done)|(go_simp;rfl));intro gb709 hg w23 hbox hb;have n0_:=Aside0.mk (Kd.S_below (by(with_reducible repeat(first|apply Kd.S_alloc|apply Kd.S_drewN|apply Kd.S_drew));exact HO689.out) hb);have n1_:=Aside0.mk (Kd.S_below (by(with_reducible repeat(first|apply Kd.S_alloc|apply Kd.S_drewN|apply Kd.S_drew));exact HO692.out) hb);have n2_:=Aside0.mk (Kd.R_below (zq4 HO695) hb);have n3_:=Aside0.mk (Kd.R_below (zq4 HO698) hb);have n4_:=Aside0.mk (Kd.S_below (by(with_reducible repeat(first|apply Kd.S_alloc|apply Kd.S_drewN|apply Kd.S_drew));exact HO702.out) hb);have n5_:=Aside0.mk (Kd.S_below (by(with_reducible repeat(first|apply Kd.S_alloc|apply Kd.S_drewN|apply Kd.S_drew));exact HO705.out) hb);have n6_:=Aside0.mk (Kd.R_below (zq4 HO708) hb);have n7_:=Aside0.mk (blk_below (g:=gb685) (o:= .cells #[.slice A0_0 l0_0.length c0_0,.slice A0_1 l0_1.length c0_1,.slice A0_2 l0_2.length c0_2] 30 (0,0)) (zq3 BK685) hb);have n8_:=Aside0.mk (below_step (zb1 HB GE685) hb);have n9_:=Aside0.mk (hbox);have n10_:=Aside0.mk ((by rw [hg];exact(below_size (zb1 HB GE685)):w.heap.size≤gb709));have n11_:=Aside0.mk ((by rw [hg];exact(below_size (zb1 HB GE685)):w.heap.size≤gb709));have n12_:=Aside0.mk ((by rw [hg];exact Nat.ne_of_lt (blk_lt (g:=gb685) (o:= .cells #[.slice A0_0 l0_0.length c0_0,.slice A0_1 l0_1.length c0_1,.slice A0_2 l0_2.length c0_2] 30 (0,0)) (zq3 BK685)):gb685≠gb709));have n13_:=Aside0.mk ((by rw [hg];exact Nat.ne_of_gt (blk_lt (g:=gb685) (o:= .cells #[.slice A0_0 l0_0.length c0_0,.slice A0_1 l0_1.length c0_1,.slice A0_2 l0_2.length c0_2] 30 (0,0)) (zq3 BK685)):gb709≠gb685));clear HO689;clear HO692;clear HO695;clear HO698;clear HO702;clear HO705;clear HO708;clear BK685;clear HB;have HO689:=n0_;have HO692:=n1_;have HO695:=n2_;have HO698:=n3_;have HO702:=n4_;have HO705:=n5_;have HO708:=n6_;have BK685:=n7_;have HB:=n8_;have BK709:=n9_;have GW709:=n10_;have GE709:=n11_;have NB685_709:=n12_;have NB709_685:=n13_;clear n0_ n1_ n2_ n3_ n4_ n5_ n6_ n7_ n8_ n9_ n10_ n11_ n12_ n13_;clear hb hbox hg;obtain⟨Ao24,co24,eo24⟩:=Kd.S_slice HO702.out;subst eo24;have hnb25:=NB709_685.out;have hnc25:=NB685_709.out;have hcz26_0:w23.cell? ⟨gb709,0,none⟩=some (.slice none 0 0):=(blk_cell BK709.out 0).trans rfl;have hcz26_1:w23.cell? ⟨gb709,1,none⟩=some (.slice none 0 0):=(blk_cell BK709.out 1).trans rfl;have hcz26_2:w23.cell? ⟨gb709,2,none⟩=some (.slice none 0 0):=(blk_cell BK709.out 2).trans rfl;have hfz26_0:=blk_frozen BK709.out 0;have hfz26_1:=blk_frozen BK709.out 1;have hfz26_2:=blk_frozen BK709.out 2;obtain⟨Ao27,co27,eo27⟩:=Kd.S_slice HO705.out;subst eo27;obtain⟨Ao28,co28,eo28⟩:=Kd.R_slice HO708.out;subst eo28)|((with_reducible refine gate_callee (f:=36) rfl ?_);refine goesL_ (some 29) rfl rfl Try.func36 (by kernel_rfl) rfl #[.agg #[.slice Ao24 t700.length co24,.slice Ao27 t703.length co27,.slice Ao28 t706.length co28]] rfl zq2 ?_;(with_reducible refine(impl_MatchAll.calls k _ _ t700 _ _ t703 _ _ t706 t710 t713 _ ?side1 ?side2 ?side3 ?side4 ?side5 ?side6 A10.out).mono ?_);(case side1=>refine(Kd.S_reads' (e:=22) (base:=w.heap.size) (ok:=fun k_=>(((((some k_≠ (.slice Ao27 t703.length co27:Value).ownBlock∧some k_≠ (.slice Ao28 t706.length co28:Value).ownBlock∧k_<M_)∧some k_≠ (.slice Ao17 t687.length co17:Value).ownBlock)∧some k_≠ (.slice Ao18 t690.length co18:Value).ownBlock)∧some k_≠ (.slice Ao19 t693.length co19:Value).ownBlock)∧some k_≠ (v697:Value).ownBlock)) (n:=t700.length) (c:=co24) ?_).2.2;exact(by(with_reducible repeat(first|apply Kd.S_alloc|apply Kd.S_drewN|apply Kd.S_drew));exact(Kd.S_mono (Kd.S_far (p:=⟨gb709,2,none⟩) (Kd.S_far (p:=⟨gb709,1,none⟩) (Kd.S_far (p:=⟨gb709,0,none⟩) (Kd.S_types HO702.out BK709.out (by decide)) (fun _ hk=>hk.2) (.slice Ao24 t700.length co24)) (fun _ hk=>hk.2) (.slice Ao27 t703.length co27)) (fun _ hk=>hk.2) (.slice Ao28 t706.length co28)) (fun _ h_=>h_.1))));(case side2=>exact(Kd.S_reads' HO702.out).2.1);(case side3=>refine(Kd.S_reads' (e:=22) (base:=w.heap.size) (ok:=fun k_=>(((((some k_≠ (.slice Ao24 t700.length co24:Value).ownBlock∧some k_≠ (.slice Ao28 t706.length co28:Value).ownBlock∧M_≤k_)∧some k_≠ (.slice Ao17 t687.length co17:Value).ownBlock)∧some k_≠ (.slice Ao18 t690.length co18:Value).ownBlock)∧some k_≠ (.slice Ao19 t693.length co19:Value).ownBlock)∧some k_≠ (v697:Value).ownBlock)) (n:=t703.length) (c:=co27) ?_).2.2;exact(by(with_reducible repeat(first|apply Kd.S_alloc|apply Kd.S_drewN|apply Kd.S_drew));exact(Kd.S_mono (Kd.S_far (p:=⟨gb709,2,none⟩) (Kd.S_far (p:=⟨gb709,1,none⟩) (Kd.S_far (p:=⟨gb709,0,none⟩) (Kd.S_types HO705.out BK709.out (by decide)) (fun _ hk=>hk.2) (.slice Ao24 t700.length co24)) (fun _ hk=>hk.2) (.slice Ao27 t703.length co27)) (fun _ hk=>hk.2) (.slice Ao28 t706.length co28)) (fun _ h_=>h_.1))));(case side4=>exact(Kd.S_reads' HO705.out).2.1);(case side5=>refine(Kd.R_reads' (e:=3) (base:=w.heap.size) (ok:=fun k_=>((True∧some k_≠ (.slice Ao19 t693.length co19:Value).ownBlock)∧some k_≠ (v697:Value).ownBlock)) (n:=t706.length) (c:=co28) ?_).2.2;exact(by(with_reducible repeat(first|apply Kd.R_alloc|apply Kd.R_drewN|apply Kd.R_drew));exact(Kd.R_mono (Kd.R_far (p:=⟨gb709,2,none⟩) (Kd.R_far (p:=⟨gb709,1,none⟩) (Kd.R_far (p:=⟨gb709,0,none⟩) (Kd.R_types HO708.out BK709.out (by decide)) (fun _ hk=>hk.2) (.slice Ao24 t700.length co24)) (fun _ hk=>hk.2) (.slice Ao27 t703.length co27)) (fun _ hk=>hk.2) (.slice Ao28 t706.length co28)) (fun _ h_=>h_.1))));(case side6=>exact(Kd.R_reads' HO708.out).2.1);rintro e w29 ⟨v711,rfl,ho0,hb⟩;refine⟨_,rfl,?_⟩;have n0_:=Aside0.mk (Kd.S_elder' (by(with_reducible repeat(first|apply Kd.S_alloc|apply Kd.S_drewN|apply Kd.S_drew));exact(Kd.S_mono (Kd.S_far (p:=⟨gb709,2,none⟩) (Kd.S_far (p:=⟨gb709,1,none⟩) (Kd.S_far (p:=⟨gb709,0,none⟩) (Kd.S_types HO689.out BK709.out (by decide)) (fun _ hk=>hk.2) (.slice Ao24 t700.length co24)) (fun _ hk=>hk.2) (.slice Ao27 t703.length co27)) (fun _ hk=>hk.2) (.slice Ao28 t706.length co28)) (fun _ h_=>h_.1))) (Kd.R_base ho0) hb);have n1_:=Aside0.mk (Kd.S_elder' (by(with_reducible repeat(first|apply Kd.S_alloc|apply Kd.S_drewN|apply Kd.S_drew));exact(Kd.S_mono (Kd.S_far (p:=⟨gb709,2,none⟩) (Kd.S_far (p:=⟨gb709,1,none⟩) (Kd.S_far (p:=⟨gb709,0,none⟩) (Kd.S_types HO692.out BK709.out (by decide)) (fun _ hk=>hk.2) (.slice Ao24 t700.length co24)) (fun _ hk=>hk.2) (.slice Ao27 t703.length co27)) (fun _ hk=>hk.2) (.slice Ao28 t706.length co28)) (fun _ h_=>h_.1))) (Kd.R_base ho0) hb);have n2_:=Aside0.mk (Kd.R_elder' (by(with_reducible repeat(first|apply Kd.R_alloc|apply Kd.R_drewN|apply Kd.R_drew));exact(Kd.R_mono (Kd.R_far (p:=⟨gb709,2,none⟩) (Kd.R_far (p:=⟨gb709,1,none⟩) (Kd.R_far (p:=⟨gb709,0,none⟩) (Kd.R_types HO695.out BK709.out (by decide)) (fun _ hk=>hk.2) (.slice Ao24 t700.length co24)) (fun _ hk=>hk.2) (.slice Ao27 t703.length co27)) (fun _ hk=>hk.2) (.slice Ao28 t706.length co28)) (fun _ h_=>h_.1))) (Kd.R_base ho0) hb);have n3_:=Aside0.mk (Kd.R_elder' (by(with_reducible repeat(first|apply Kd.R_alloc|apply Kd.R_drewN|apply Kd.R_drew));exact(Kd.R_mono (Kd.R_far (p:=⟨gb709,2,none⟩) (Kd.R_far (p:=⟨gb709,1,none⟩) (Kd.R_far (p:=⟨gb709,0,none⟩) (Kd.R_types HO698.out BK709.out (by decide)) (fun _ hk=>hk.2) (.slice Ao24 t700.length co24)) (fun _ hk=>hk.2) (.slice Ao27 t703.length co27)) (fun _ hk=>hk.2) (.slice Ao28 t706.length co28)) (fun _ h_=>h_.1))) (Kd.R_base ho0) hb);have n4_:=Aside0.mk (Kd.S_elder' (by(with_reducible repeat(first|apply Kd.S_alloc|apply Kd.S_drewN|apply Kd.S_drew));exact(Kd.S_mono (Kd.S_far (p:=⟨gb709,2,none⟩) (Kd.S_far (p:=⟨gb709,1,none⟩) (Kd.S_far (p:=⟨gb709,0,none⟩) (Kd.S_types HO702.out BK709.out (by decide)) (fun _ hk=>hk.2) (.slice Ao24 t700.length co24)) (fun _ hk=>hk.2) (.slice Ao27 t703.length co27)) (fun _ hk=>hk.2) (.slice Ao28 t706.length co28)) (fun _ h_=>h_.1))) (Kd.R_base ho0) hb);have n5_:=Aside0.mk (Kd.S_elder' (by(with_reducible repeat(first|apply Kd.S_alloc|apply Kd.S_drewN|apply Kd.S_drew));exact(Kd.S_mono (Kd.S_far (p:=⟨gb709,2,none⟩) (Kd.S_far (p:=⟨gb709,1,none⟩) (Kd.S_far (p:=⟨gb709,0,none⟩) (Kd.S_types HO705.out BK709.out (by decide)) (fun _ hk=>hk.2) (.slice Ao24 t700.length co24)) (fun _ hk=>hk.2) (.slice Ao27 t703.length co27)) (fun _ hk=>hk.2) (.slice Ao28 t706.length co28)) (fun _ h_=>h_.1))) (Kd.R_base ho0) hb);have n6_:=Aside0.mk (Kd.R_elder' (by(with_reducible repeat(first|apply Kd.R_alloc|apply Kd.R_drewN|apply Kd.R_drew));exact(Kd.R_mono (Kd.R_far (p:=⟨gb709,2,none⟩) (Kd.R_far (p:=⟨gb709,1,none⟩) (Kd.R_far (p:=⟨gb709,0,none⟩) (Kd.R_types HO708.out BK709.out (by decide)) (fun _ hk=>hk.2) (.slice Ao24 t700.length co24)) (fun _ hk=>hk.2) (.slice Ao27 t703.length co27)) (fun _ hk=>hk.2) (.slice Ao28 t706.length co28)) (fun _ h_=>h_.1))) (Kd.R_base ho0) hb);have n7_:=Aside0.mk (Kd.R_lower (Kd.R_new' (Kd.R_new' (Kd.R_new' ho0 (Kd.R_lt (by(with_reducible repeat(first|apply Kd.R_alloc|apply Kd.R_drewN|apply Kd.R_drew));exact(Kd.R_mono (Kd.R_far (p:=⟨gb709,2,none⟩) (Kd.R_far (p:=⟨gb709,1,none⟩) (Kd.R_far (p:=⟨gb709,0,none⟩) (Kd.R_types HO695.out BK709.out (by decide)) (fun _ hk=>hk.2) (.slice Ao24 t700.length co24)) (fun _ hk=>hk.2) (.slice Ao27 t703.length co27)) (fun _ hk=>hk.2) (.slice Ao28 t706.length co28)) (fun _ h_=>h_.1))))) (Kd.R_lt (by(with_reducible repeat(first|apply Kd.R_alloc|apply Kd.R_drewN|apply Kd.R_drew));exact(Kd.R_mono (Kd.R_far (p:=⟨gb709,2,none⟩) (Kd.R_far (p:=⟨gb709,1,none⟩) (Kd.R_far (p:=⟨gb709,0,none⟩) (Kd.R_types HO698.out BK709.out (by decide)) (fun _ hk=>hk.2) (.slice Ao24 t700.length co24)) (fun _ hk=>hk.2) (.slice Ao27 t703.length co27)) (fun _ hk=>hk.2) (.slice Ao28 t706.length co28)) (fun _ h_=>h_.1))))) (Kd.R_lt (by(with_reducible repeat(first|apply Kd.R_alloc|apply Kd.R_drewN|apply Kd.R_drew));exact(Kd.R_mono (Kd.R_far (p:=⟨gb709,2,none⟩) (Kd.R_far (p:=⟨gb709,1,none⟩) (Kd.R_far (p:=⟨gb709,0,none⟩) (Kd.R_types HO708.out BK709.out (by decide)) (fun _ hk=>hk.2) (.slice Ao24 t700.length co24)) (fun _ hk=>hk.2) (.slice Ao27 t703.length co27)) (fun _ hk=>hk.2) (.slice Ao28 t706.length co28)) (fun _ h_=>h_.1))))) (below_size (zb2 HB GE685 GE709)));have n8_:=Aside0.mk (blk_below (g:=gb685) (o:= .cells #[.slice A0_0 l0_0.length c0_0,.slice A0_1 l0_1.length c0_1,.slice A0_2 l0_2.length c0_2] 30 (0,0)) (by(with_reducible repeat(first|refine blk_drewN ?_ _|refine blk_drew ?_ |refine blk_alloc ?_ _));refine blk_far ?_ NB685_709.out _;(with_reducible repeat(first|refine blk_drewN ?_ _|refine blk_drew ?_ |refine blk_alloc ?_ _));refine blk_far ?_ NB685_709.out _;(with_reducible repeat(first|refine blk_drewN ?_ _|refine blk_drew ?_ |refine blk_alloc ?_ _));refine blk_far ?_ NB685_709.out _;(with_reducible repeat(first|refine blk_drewN ?_ _|refine blk_drew ?_ |refine blk_alloc ?_ _));exact BK685.out) hb);have n9_:=Aside0.mk (blk_below (g:=gb709) (o:= .cells #[.slice Ao24 t700.length co24,.slice Ao27 t703.length co27,.slice Ao28 t706.length co28] 33 (0,0)) (by(with_reducible repeat(first|refine blk_drewN ?_ _|refine blk_drew ?_ |refine blk_alloc ?_ _));refine blk_put (cs:= #[.slice Ao24 t700.length co24,.slice Ao27 t703.length co27,.slice none 0 0]) ?_ 2 _ rfl;(with_reducible repeat(first|refine blk_drewN ?_ _|refine blk_drew ?_ |refine blk_alloc ?_ _));refine blk_put (cs:= #[.slice Ao24 t700.length co24,.slice none 0 0,.slice none 0 0]) ?_ 1 _ rfl;(with_reducible repeat(first|refine blk_drewN ?_ _|refine blk_drew ?_ |refine blk_alloc ?_ _));refine blk_put (cs:= #[.slice none 0 0,.slice none 0 0,.slice none 0 0]) ?_ 0 _ rfl;(with_reducible repeat(first|refine blk_drewN ?_ _|refine blk_drew ?_ |refine blk_alloc ?_ _));exact BK709.out) hb);have n10_:=Aside0.mk (below_step (zb2 HB GE685 GE709) hb);clear HO689;clear HO692;clear HO695;clear HO698;clear HO702;clear HO705;clear HO708;clear BK685;clear BK709;clear HB;have HO689:=n0_;have HO692:=n1_;have HO695:=n2_;have HO698:=n3_;have HO702:=n4_;have HO705:=n5_;have HO708:=n6_;have HO712:=n7_;have BK685:=n8_;have BK709:=n9_;have HB:=n10_;clear n0_ n1_ n2_ n3_ n4_ n5_ n6_ n7_ n8_ n9_ n10_;(try clear hb);(try clear hb2);(try clear hk);(try clear hi);(try clear ho0)))
  (try simp only [Act.put,List.setIfInBounds_toArray,List.set_cons_zero,List.set_cons_succ])
  go_cut [40] (fun v40 wc=> ∃ (kq:Nat) (x40_10:Bool),v40= .bool x40_10∧Aside0 (laws_FnExactMatchAll.j0 kq t696 t699 t710 t713 x40_10 l0_0 l0_1 l0_2 t700 t703 t706=some r)∧Aside0 (kq≤k)∧Aside0 (Kd.R (Kd.int .i64) 3 wc w.heap.size (fun k_=>some k_≠ (v711:Value).ownBlock∧some k_≠ ((.slice Ao28 t706.length co28):Value).ownBlock) v697 t696)∧Aside0 (Kd.R (Kd.int .i64) 3 wc w.heap.size (fun k_=>some k_≠ (v697:Value).ownBlock∧some k_≠ ((.slice Ao28 t706.length co28):Value).ownBlock) v711 t710)∧Aside0 (Kd.S (Kd.slice 3 (Kd.int .i64)) 22 wc w.heap.size (fun k_=>some k_≠ (v697:Value).ownBlock∧some k_≠ (v711:Value).ownBlock∧some k_≠ ((.slice Ao27 t703.length co27):Value).ownBlock∧some k_≠ ((.slice Ao28 t706.length co28):Value).ownBlock∧k_<M_) (.slice Ao24 t700.length co24) t700)∧Aside0 (Kd.S (Kd.slice 3 (Kd.int .i64)) 22 wc w.heap.size (fun k_=>some k_≠ (v697:Value).ownBlock∧some k_≠ (v711:Value).ownBlock∧some k_≠ ((.slice Ao24 t700.length co24):Value).ownBlock∧some k_≠ ((.slice Ao28 t706.length co28):Value).ownBlock∧M_≤k_) (.slice Ao27 t703.length co27) t703)∧Aside0 (Kd.R (Kd.int .i64) 3 wc w.heap.size (fun k_=>some k_≠ (v697:Value).ownBlock∧some k_≠ (v711:Value).ownBlock) (.slice Ao28 t706.length co28) t706)∧Aside0 (wc.heap[gb685]?=some (.cells #[(.slice A0_0 l0_0.length c0_0),(.slice A0_1 l0_1.length c0_1),(.slice A0_2 l0_2.length c0_2)] 30 (0,0)))∧Aside0 (wc.heap[gb709]?=some (.cells #[(.slice Ao24 t700.length co24),(.slice Ao27 t703.length co27),(.slice Ao28 t706.length co28)] 33 (0,0)))∧Aside0 (Below w.heap.size w wc))
  case first=>
   have H:=HC11.out
   clear HC11
   replace H:=Option.bind_eq_some_iff.mp H
   obtain⟨t714,A300,H⟩:=H
   replace H:(if t714=true then(laws_FnExactMatchAll.j0 k t696 t699 t710 t713 (t713 !=t699) l0_0 l0_1 l0_2 t700 t703 t706) else(laws_FnExactMatchAll.j0 k t696 t699 t710 t713 true l0_0 l0_1 l0_2 t700 t703 t706))=some r:=H
   have A30:=Aside0.mk A300
   clear A300
   by_cases c31:t714=true
   ·subst c31
    have H1:(laws_FnExactMatchAll.j0 k t696 t699 t710 t713 (t713 !=t699) l0_0 l0_1 l0_2 t700 t703 t706)=some r:=by rw [if_pos rfl] at H;exact H
    clear H
    have H:=H1
    clear H1
    have H':=Aside0.mk H
    clear H
    obtain⟨Ao32,co32,eo32⟩:=Kd.R_slice HO712.out
    subst eo32
    obtain⟨Ao33,co33,eo33⟩:=Kd.R_slice HO698.out
    subst eo33
    go_wp2_with (first|((with_reducible refine gate_callee (f:=16) rfl ?_);refine goesL_ (some 34) rfl rfl Try.func16 (by kernel_rfl) rfl #[.slice Ao32 t710.length co32,.slice Ao33 t696.length co33] rfl zq2 ?_;(with_reducible refine(laws_eqIntS.calls k _ _ t710 _ _ t696 true _ ?side1 ?side2 ?side3 ?side4 A30.out).mono ?_);(case side1=>repeat(first|exact(Kd.R_reads' HO712.out).2.2|(with_reducible refine Kd.C_alloc ?_ _)|(with_reducible refine Kd.C_drewN ?_ _)|(with_reducible refine Kd.C_drew ?_)));(case side2=>exact(Kd.R_reads' HO712.out).2.1);(case side3=>repeat(first|exact(Kd.R_reads' HO698.out).2.2|(with_reducible refine Kd.C_alloc ?_ _)|(with_reducible refine Kd.C_drewN ?_ _)|(with_reducible refine Kd.C_drew ?_)));(case side4=>exact(Kd.R_reads' HO698.out).2.1);rintro e w' ⟨rfl,⟨nd,rfl⟩⟩;refine⟨_,rfl,?_⟩))
    go_meet
    case rel=>exact⟨_,((t713 !=t699)),(by first|rfl|(simp;done)|(simp [*];done)),H',⟨by first|omega|exact Nat.le_refl _⟩,⟨by(with_reducible repeat(first|apply Kd.R_alloc|apply Kd.R_drewN|apply Kd.R_drew));exact Kd.R_mono HO698.out (fun _ hk=>⟨hk.2,hk.1.2⟩)⟩,⟨by(with_reducible repeat(first|apply Kd.R_alloc|apply Kd.R_drewN|apply Kd.R_drew));exact Kd.R_mono HO712.out (fun _ hk=>⟨hk.1.2,hk.2⟩)⟩,⟨by(with_reducible repeat(first|apply Kd.S_alloc|apply Kd.S_drewN|apply Kd.S_drew));exact Kd.S_mono HO702.out (fun _ hk=>⟨hk.1.2,⟨hk.2,⟨hk.1.1.1.1.1.1,hk.1.1.1.1.1.2⟩⟩⟩)⟩,⟨by(with_reducible repeat(first|apply Kd.S_alloc|apply Kd.S_drewN|apply Kd.S_drew));exact Kd.S_mono HO705.out (fun _ hk=>⟨hk.1.2,⟨hk.2,⟨hk.1.1.1.1.1.1,hk.1.1.1.1.1.2⟩⟩⟩)⟩,⟨by(with_reducible repeat(first|apply Kd.R_alloc|apply Kd.R_drewN|apply Kd.R_drew));exact Kd.R_mono HO708.out (fun _ hk=>⟨hk.1.2,hk.2⟩)⟩,⟨by(with_reducible repeat(first|refine blk_drewN ?_ _|refine blk_drew ?_ |refine blk_alloc ?_ _));exact BK685.out⟩,⟨by(with_reducible repeat(first|refine blk_drewN ?_ _|refine blk_drew ?_ |refine blk_alloc ?_ _));exact BK709.out⟩,⟨by repeat(first|(with_reducible first|exact HB.out|apply below_alloc|apply pw_below_drewN|apply below_drew1|refine below_set ?_ GE685.out|refine below_set ?_ GE709.out)|exact HB.out)⟩⟩
   ·replace c31:=Bool.eq_false_iff.mpr c31
    subst c31
    have H1:(laws_FnExactMatchAll.j0 k t696 t699 t710 t713 true l0_0 l0_1 l0_2 t700 t703 t706)=some r:=by rw [if_neg (show ¬ (false=true) by decide)] at H;exact H
    clear H
    have H:=H1
    clear H1
    exact absurd (H.trans (congrArg some HRT.out)) (by cases k<;>simp [laws_FnExactMatchAll.j0])
  case rest=>
   clear HC11
   try clear c1
   try clear c2
   try clear p2
   try clear c3
   try clear c3b0
   try clear c10
   try clear c16
   try clear c17
   try clear c19
   try clear c25
   try clear c31
   try clear hcz13_0
   try clear hcz13_1
   try clear hcz13_2
   try clear hcz15_0
   try clear hcz15_1
   try clear hcz15_2
   try clear hcz21_0
   try clear hcz21_1
   try clear hcz21_2
   try clear hcz26_0
   try clear hcz26_1
   try clear hcz26_2
   try clear hcz5_0
   try clear hcz5_1
   try clear hcz5_2
   try clear hfz13_0
   try clear hfz13_1
   try clear hfz13_2
   try clear hfz15_0
   try clear hfz15_1
   try clear hfz15_2
   try clear hfz21_0
   try clear hfz21_1
   try clear hfz21_2
   try clear hfz26_0
   try clear hfz26_1
   try clear hfz26_2
   try clear hfz5_0
   try clear hfz5_1
   try clear hfz5_2
   obtain⟨kq,x40_10,rfl,HA,HJ10,HO_4,HO_7,HO_710000,HO_710001,HO_710002,BK685,BK709,HB⟩:=hcut
   cases kq with
   |zero=>exact absurd HA.out (by simp [laws_FnExactMatchAll.j0])
   |succ kj10=>
    have H:=HA.out
    clear HA
    simp only [laws_FnExactMatchAll.j0] at H
    by_cases c34:x40_10=true
    ·subst c34
     have H1:(some false)=some r:=by rw [if_pos rfl] at H;exact H
     clear H
     have H:=H1
     clear H1
     exact absurd ((Option.some.inj H).trans HRT.out) (by decide)
    ·replace c34:=Bool.eq_false_iff.mpr c34
     subst c34
     have H1:((laws_toWishes.f kj10 l0_0 l0_1 l0_2).bind fun bt715=>((laws_eqWishes.f kj10 t700 t703 t706 bt715.1 bt715.2.1 bt715.2.2).bind fun t724=>(if t724=true then((laws_markWishes.f kj10 t700 t703 t706 1).bind fun bt725=>(if bt725.1< 0 then(laws_FnExactMatchAll.j1 kj10 t696 t699 t710 true l0_0 l0_1 l0_2) else((laws_eqIntS.f kj10 t710 t696).bind fun t726=>(if t726=true then(laws_FnExactMatchAll.j1 kj10 t696 t699 t710 (t713 !=t699) l0_0 l0_1 l0_2) else(laws_FnExactMatchAll.j1 kj10 t696 t699 t710 true l0_0 l0_1 l0_2))))) else(some false))))=some r:=by rw [if_neg (show ¬ (false=true) by decide)] at H;exact H
     clear H
     have H:=H1
     clear H1
     replace H:=Option.bind_eq_some_iff.mp H
     obtain⟨⟨t715,t718,t721⟩,A350,H⟩:=H
     replace H:((laws_eqWishes.f kj10 t700 t703 t706 t715 t718 t721).bind fun t724=>(if t724=true then((laws_markWishes.f kj10 t700 t703 t706 1).bind fun bt725=>(if bt725.1< 0 then(laws_FnExactMatchAll.j1 kj10 t696 t699 t710 true l0_0 l0_1 l0_2) else((laws_eqIntS.f kj10 t710 t696).bind fun t726=>(if t726=true then(laws_FnExactMatchAll.j1 kj10 t696 t699 t710 (t713 !=t699) l0_0 l0_1 l0_2) else(laws_FnExactMatchAll.j1 kj10 t696 t699 t710 true l0_0 l0_1 l0_2))))) else(some false)))=some r:=H
     have A35:=Aside0.mk A350
     clear A350
     replace H:=Option.bind_eq_some_iff.mp H
     obtain⟨t724,A360,H⟩:=H
     replace H:(if t724=true then((laws_markWishes.f kj10 t700 t703 t706 1).bind fun bt725=>(if bt725.1< 0 then(laws_FnExactMatchAll.j1 kj10 t696 t699 t710 true l0_0 l0_1 l0_2) else((laws_eqIntS.f kj10 t710 t696).bind fun t726=>(if t726=true then(laws_FnExactMatchAll.j1 kj10 t696 t699 t710 (t713 !=t699) l0_0 l0_1 l0_2) else(laws_FnExactMatchAll.j1 kj10 t696 t699 t710 true l0_0 l0_1 l0_2))))) else(some false))=some r:=H
     have A36:=Aside0.mk A360
     clear A360
     by_cases c37:t724=true
     ·subst c37
      have H1:((laws_markWishes.f kj10 t700 t703 t706 1).bind fun bt725=>(if bt725.1< 0 then(laws_FnExactMatchAll.j1 kj10 t696 t699 t710 true l0_0 l0_1 l0_2) else((laws_eqIntS.f kj10 t710 t696).bind fun t726=>(if t726=true then(laws_FnExactMatchAll.j1 kj10 t696 t699 t710 (t713 !=t699) l0_0 l0_1 l0_2) else(laws_FnExactMatchAll.j1 kj10 t696 t699 t710 true l0_0 l0_1 l0_2)))))=some r:=by rw [if_pos rfl] at H;exact H
      clear H
      have H:=H1
      clear H1
      replace H:=Option.bind_eq_some_iff.mp H
      obtain⟨⟨t725,q1_,q2_,q3_⟩,A380,H⟩:=H
      replace H:(if t725< 0 then(laws_FnExactMatchAll.j1 kj10 t696 t699 t710 true l0_0 l0_1 l0_2) else((laws_eqIntS.f kj10 t710 t696).bind fun t726=>(if t726=true then(laws_FnExactMatchAll.j1 kj10 t696 t699 t710 (t713 !=t699) l0_0 l0_1 l0_2) else(laws_FnExactMatchAll.j1 kj10 t696 t699 t710 true l0_0 l0_1 l0_2))))=some r:=H
      have A38:=Aside0.mk A380
      clear A380
      have HC39:=Aside0.mk H
      clear H
      try go_wp2
      have n0_:=Aside0.mk (Kd.R_drew HO_4.out)
      have n1_:=Aside0.mk (Kd.R_drew HO_7.out)
      have n2_:=Aside0.mk (Kd.S_drew HO_710000.out)
      have n3_:=Aside0.mk (Kd.S_drew HO_710001.out)
      have n4_:=Aside0.mk (Kd.R_drew HO_710002.out)
      have n5_:=Aside0.mk (blk_drew BK685.out)
      have n6_:=Aside0.mk (blk_drew BK709.out)
      have n7_:=Aside0.mk (below_drew1 HB.out)
      clear HO_4
      clear HO_7
      clear HO_710000
      clear HO_710001
      clear HO_710002
      clear BK685
      clear BK709
      clear HB
      have HO_4:=n0_
      have HO_7:=n1_
      have HO_710000:=n2_
      have HO_710001:=n3_
      have HO_710002:=n4_
      have BK685:=n5_
      have BK709:=n6_
      have HB:=n7_
      clear n0_ n1_ n2_ n3_ n4_ n5_ n6_ n7_
      refine start_ (n:=5) (S:=fun w'=>w'.cell? ⟨gb709,0,none⟩=some (.slice Ao24 t700.length co24)∧w'.cell? ⟨gb709,1,none⟩=some (.slice Ao27 t703.length co27)∧w'.cell? ⟨gb709,2,none⟩=some (.slice Ao28 t706.length co28)∧w'.cell? ⟨gb685,0,none⟩=some (.slice A0_0 l0_0.length c0_0)∧w'.cell? ⟨gb685,1,none⟩=some (.slice A0_1 l0_1.length c0_1)∧w'.cell? ⟨gb685,2,none⟩=some (.slice A0_2 l0_2.length c0_2)) (ds:= []) #[false,false,false,false,false] (by kernel_rfl) rfl rfl ⟨(blk_cell BK709.out 0).trans rfl,(blk_cell BK709.out 1).trans rfl,(blk_cell BK709.out 2).trans rfl,(blk_cell BK685.out 0).trans rfl,(blk_cell BK685.out 1).trans rfl,(blk_cell BK685.out 2).trans rfl⟩ (fun hHeld=>?_)
      generalize wc.drew=w40 at HO_4 HO_7 HO_710000 HO_710001 HO_710002 BK685 BK709 HB hHeld ⊢
      refine take_ (i:=0) (N:=some 41) (v:=?_) (a':=?_) #[true,false,false,false,false] rfl rfl (by kernel_rfl) (fun _ _ _ h=>h) (Or.inl ⟨by rfl,?_⟩) hHeld ?_ ?_
      rotate_left
      ·rintro w' ⟨s0,s1,s2,s3,s4,s5⟩
       go_simp
       with_reducible rfl
      rotate_left
      ·simp only [Act.put,List.setIfInBounds_toArray,List.set_cons_zero,List.set_cons_succ,i64_w,i32_w]
       rfl
      refine take_ (i:=1) (N:=some 42) (v:=?_) (a':=?_) #[true,true,false,false,false] rfl rfl (by kernel_rfl) (fun _ _ _ h=>h) (Or.inl ⟨by rfl,?_⟩) hHeld ?_ ?_
      rotate_left
      ·rintro w' ⟨s0,s1,s2,s3,s4,s5⟩
       go_simp
       with_reducible rfl
      rotate_left
      ·simp only [Act.put,List.setIfInBounds_toArray,List.set_cons_zero,List.set_cons_succ,i64_w,i32_w]
       rfl
      refine one_ (i:=2) (N:=some 43) #[true,true,true,false,false] rfl rfl (by kernel_rfl) (by decide) (fun K hK=>?_)
      refine goes_ Try.func19 (by kernel_rfl) rfl #[.agg #[.slice A0_0 l0_0.length c0_0,.slice A0_1 l0_1.length c0_1,.slice A0_2 l0_2.length c0_2]] (by rfl) rfl rfl zq2 ?_
      with_reducible refine(laws_toWishes.calls kj10 _ _ l0_0 _ _ l0_1 _ _ l0_2 t715 t718 t721 _ ?side1 ?side2 ?side3 ?side4 ?side5 ?side6 A35.out).mono ?_
      (case side1=>repeat(first|exact(Kd.C_below HR0_0.out HB.out)|(with_reducible refine Kd.C_alloc ?_ _)|(with_reducible refine Kd.C_drewN ?_ _)|(with_reducible refine Kd.C_drew ?_)))
      (case side2=>exact HC0_0.out)
      (case side3=>repeat(first|exact(Kd.C_below HR0_1.out HB.out)|(with_reducible refine Kd.C_alloc ?_ _)|(with_reducible refine Kd.C_drewN ?_ _)|(with_reducible refine Kd.C_drew ?_)))
      (case side4=>exact HC0_1.out)
      (case side5=>repeat(first|exact(Kd.C_below HR0_2.out HB.out)|(with_reducible refine Kd.C_alloc ?_ _)|(with_reducible refine Kd.C_drewN ?_ _)|(with_reducible refine Kd.C_drew ?_)))
      (case side6=>exact HC0_2.out)
      rintro e w41 ⟨v716,v719,v722,rfl,ho0,ho1,ho2,hb⟩
      refine⟨_,rfl,?_⟩
      have n0_:=Aside0.mk (Kd.R_elder' (zq4 HO_4) (Kd.R_base ho2) hb)
      have n1_:=Aside0.mk (Kd.R_elder' (zq4 HO_7) (Kd.R_base ho2) hb)
      have n2_:=Aside0.mk (Kd.S_mono (Kd.S_told (Kd.S_told (Kd.S_told (Kd.S_old (by(with_reducible repeat(first|apply Kd.S_alloc|apply Kd.S_drewN|apply Kd.S_drew));exact HO_710000.out) hb) (Kd.S_base ho0)) (Kd.S_base ho1)) (Kd.R_base ho2)) (fun _ h_=>h_.1))
      have n3_:=Aside0.mk (Kd.S_mono (Kd.S_told (Kd.S_told (Kd.S_told (Kd.S_old (by(with_reducible repeat(first|apply Kd.S_alloc|apply Kd.S_drewN|apply Kd.S_drew));exact HO_710001.out) hb) (Kd.S_base ho0)) (Kd.S_base ho1)) (Kd.R_base ho2)) (fun _ h_=>h_.1))
      have n4_:=Aside0.mk (Kd.R_elder' (zq4 HO_710002) (Kd.R_base ho2) hb)
      have n5_:=Aside0.mk (Kd.S_lower (Kd.S_new' (Kd.S_new' (Kd.S_new' (Kd.S_new' (Kd.S_new' ho0 (Kd.R_lt (zq4 HO_4))) (Kd.R_lt (zq4 HO_7))) (Kd.S_lt (by(with_reducible repeat(first|apply Kd.S_alloc|apply Kd.S_drewN|apply Kd.S_drew));exact HO_710000.out))) (Kd.S_lt (by(with_reducible repeat(first|apply Kd.S_alloc|apply Kd.S_drewN|apply Kd.S_drew));exact HO_710001.out))) (Kd.R_lt (zq4 HO_710002))) (below_size (zb2 HB GE685 GE709)))
      have n6_:=Aside0.mk (Kd.S_lower (Kd.S_new' (Kd.S_new' (Kd.S_new' (Kd.S_new' (Kd.S_new' ho1 (Kd.R_lt (zq4 HO_4))) (Kd.R_lt (zq4 HO_7))) (Kd.S_lt (by(with_reducible repeat(first|apply Kd.S_alloc|apply Kd.S_drewN|apply Kd.S_drew));exact HO_710000.out))) (Kd.S_lt (by(with_reducible repeat(first|apply Kd.S_alloc|apply Kd.S_drewN|apply Kd.S_drew));exact HO_710001.out))) (Kd.R_lt (zq4 HO_710002))) (below_size (zb2 HB GE685 GE709)))
      have n7_:=Aside0.mk (Kd.R_lower (Kd.R_new' (Kd.R_new' (Kd.R_new' ho2 (Kd.R_lt (zq4 HO_4))) (Kd.R_lt (zq4 HO_7))) (Kd.R_lt (zq4 HO_710002))) (below_size (zb2 HB GE685 GE709)))
      have n8_:=Aside0.mk (blk_below (g:=gb685) (o:= .cells #[.slice A0_0 l0_0.length c0_0,.slice A0_1 l0_1.length c0_1,.slice A0_2 l0_2.length c0_2] 30 (0,0)) (zq3 BK685) hb)
      have n9_:=Aside0.mk (blk_below (g:=gb709) (o:= .cells #[.slice Ao24 t700.length co24,.slice Ao27 t703.length co27,.slice Ao28 t706.length co28] 33 (0,0)) (zq3 BK709) hb)
      have n10_:=Aside0.mk (below_step (zb2 HB GE685 GE709) hb)
      clear HO_4
      clear HO_7
      clear HO_710000
      clear HO_710001
      clear HO_710002
      clear BK685
      clear BK709
      clear HB
      have HO_4:=n0_
      have HO_7:=n1_
      have HO_710000:=n2_
      have HO_710001:=n3_
      have HO_710002:=n4_
      have HO717:=n5_
      have HO720:=n6_
      have HO723:=n7_
      have BK685:=n8_
      have BK709:=n9_
      have HB:=n10_
      clear n0_ n1_ n2_ n3_ n4_ n5_ n6_ n7_ n8_ n9_ n10_
      (try clear hb)
      (try clear hb2)
      (try clear hk)
      (try clear hi)
      (try clear ho0)
      (try clear ho1)
      (try clear ho2)
      obtain⟨Ao42,co42,eo42⟩:=Kd.S_slice HO717.out
      (first|subst eo42|(injection eo42 with f1_ f2_ f3_;have f4_:=f1_.symm;have f5_:=f3_.symm;clear f1_ f2_ f3_;subst f4_;subst f5_))
      obtain⟨Ao43,co43,eo43⟩:=Kd.S_slice HO720.out
      (first|subst eo43|(injection eo43 with f1_ f2_ f3_;have f4_:=f1_.symm;have f5_:=f3_.symm;clear f1_ f2_ f3_;subst f4_;subst f5_))
      obtain⟨Ao44,co44,eo44⟩:=Kd.R_slice HO723.out
      (first|subst eo44|(injection eo44 with f1_ f2_ f3_;have f4_:=f1_.symm;have f5_:=f3_.symm;clear f1_ f2_ f3_;subst f4_;subst f5_))
      refine hK.out _ _ ⟨(blk_cell BK709.out 0).trans rfl,(blk_cell BK709.out 1).trans rfl,(blk_cell BK709.out 2).trans rfl,(blk_cell BK685.out 0).trans rfl,(blk_cell BK685.out 1).trans rfl,(blk_cell BK685.out 2).trans rfl⟩ (fun hHeld=>?_)
      clear hK K
      refine norm_ (a':=?_) ?_ ?_
      rotate_left
      ·show Act.put _ (some 43) _=_
       simp only [Act.put,List.setIfInBounds_toArray,List.set_cons_zero,List.set_cons_succ,i64_w,i32_w]
       rfl
      refine one_ (i:=3) (N:=some 44) #[true,true,true,true,false] rfl rfl (by kernel_rfl) (by decide) (fun K hK=>?_)
      refine goes_ Try.func21 (by kernel_rfl) rfl #[.agg #[.slice Ao24 t700.length co24,.slice Ao27 t703.length co27,.slice Ao28 t706.length co28],.agg #[.slice Ao42 t715.length co42,.slice Ao43 t718.length co43,.slice Ao44 t721.length co44]] (by rfl) rfl rfl zq2 ?_
      with_reducible refine(laws_eqWishes.calls kj10 _ _ t700 _ _ t703 _ _ t706 _ _ t715 _ _ t718 _ _ t721 true _ ?side1 ?side2 ?side3 ?side4 ?side5 ?side6 ?side7 ?side8 ?side9 ?side10 ?side11 ?side12 A36.out).mono ?_
      (case side1=>repeat(first|exact(Kd.S_reads' HO_710000.out).2.2|(with_reducible refine Kd.C_alloc ?_ _)|(with_reducible refine Kd.C_drewN ?_ _)|(with_reducible refine Kd.C_drew ?_)))
      (case side2=>exact(Kd.S_reads' HO_710000.out).2.1)
      (case side3=>repeat(first|exact(Kd.S_reads' HO_710001.out).2.2|(with_reducible refine Kd.C_alloc ?_ _)|(with_reducible refine Kd.C_drewN ?_ _)|(with_reducible refine Kd.C_drew ?_)))
      (case side4=>exact(Kd.S_reads' HO_710001.out).2.1)
      (case side5=>repeat(first|exact(Kd.R_reads' HO_710002.out).2.2|(with_reducible refine Kd.C_alloc ?_ _)|(with_reducible refine Kd.C_drewN ?_ _)|(with_reducible refine Kd.C_drew ?_)))
      (case side6=>exact(Kd.R_reads' HO_710002.out).2.1)
      (case side7=>repeat(first|exact(Kd.S_reads' HO717.out).2.2|(with_reducible refine Kd.C_alloc ?_ _)|(with_reducible refine Kd.C_drewN ?_ _)|(with_reducible refine Kd.C_drew ?_)))
      (case side8=>exact(Kd.S_reads' HO717.out).2.1)
      (case side9=>repeat(first|exact(Kd.S_reads' HO720.out).2.2|(with_reducible refine Kd.C_alloc ?_ _)|(with_reducible refine Kd.C_drewN ?_ _)|(with_reducible refine Kd.C_drew ?_)))
      (case side10=>exact(Kd.S_reads' HO720.out).2.1)
      (case side11=>repeat(first|exact(Kd.R_reads' HO723.out).2.2|(with_reducible refine Kd.C_alloc ?_ _)|(with_reducible refine Kd.C_drewN ?_ _)|(with_reducible refine Kd.C_drew ?_)))
      (case side12=>exact(Kd.R_reads' HO723.out).2.1)
      rintro e w45 ⟨rfl,hb⟩
      refine⟨_,rfl,?_⟩
      have n0_:=Aside0.mk (Kd.R_below (zq4 HO_4) hb)
      have n1_:=Aside0.mk (Kd.R_below (zq4 HO_7) hb)
      have n2_:=Aside0.mk (Kd.S_below (by(with_reducible repeat(first|apply Kd.S_alloc|apply Kd.S_drewN|apply Kd.S_drew));exact HO_710000.out) hb)
      have n3_:=Aside0.mk (Kd.S_below (by(with_reducible repeat(first|apply Kd.S_alloc|apply Kd.S_drewN|apply Kd.S_drew));exact HO_710001.out) hb)
      have n4_:=Aside0.mk (Kd.R_below (zq4 HO_710002) hb)
      have n5_:=Aside0.mk (Kd.S_below (by(with_reducible repeat(first|apply Kd.S_alloc|apply Kd.S_drewN|apply Kd.S_drew));exact HO717.out) hb)
      have n6_:=Aside0.mk (Kd.S_below (by(with_reducible repeat(first|apply Kd.S_alloc|apply Kd.S_drewN|apply Kd.S_drew));exact HO720.out) hb)
      have n7_:=Aside0.mk (Kd.R_below (zq4 HO723) hb)
      have n8_:=Aside0.mk (blk_below (g:=gb685) (o:= .cells #[.slice A0_0 l0_0.length c0_0,.slice A0_1 l0_1.length c0_1,.slice A0_2 l0_2.length c0_2] 30 (0,0)) (zq3 BK685) hb)
      have n9_:=Aside0.mk (blk_below (g:=gb709) (o:= .cells #[.slice Ao24 t700.length co24,.slice Ao27 t703.length co27,.slice Ao28 t706.length co28] 33 (0,0)) (zq3 BK709) hb)
      have n10_:=Aside0.mk (below_step (zb2 HB GE685 GE709) hb)
      clear HO_4
      clear HO_7
      clear HO_710000
      clear HO_710001
      clear HO_710002
      clear HO717
      clear HO720
      clear HO723
      clear BK685
      clear BK709
      clear HB
      have HO_4:=n0_
      have HO_7:=n1_
      have HO_710000:=n2_
      have HO_710001:=n3_
      have HO_710002:=n4_
      have HO717:=n5_
      have HO720:=n6_
      have HO723:=n7_
      have BK685:=n8_
      have BK709:=n9_
      have HB:=n10_
      clear n0_ n1_ n2_ n3_ n4_ n5_ n6_ n7_ n8_ n9_ n10_
      (try clear hb)
      (try clear hb2)
      (try clear hk)
      (try clear hi)
      refine hK.out _ _ ⟨(blk_cell BK709.out 0).trans rfl,(blk_cell BK709.out 1).trans rfl,(blk_cell BK709.out 2).trans rfl,(blk_cell BK685.out 0).trans rfl,(blk_cell BK685.out 1).trans rfl,(blk_cell BK685.out 2).trans rfl⟩ (fun hHeld=>?_)
      clear hK K
      refine norm_ (a':=?_) ?_ ?_
      rotate_left
      ·show Act.put _ (some 44) _=_
       simp only [Act.put,List.setIfInBounds_toArray,List.set_cons_zero,List.set_cons_succ,i64_w,i32_w]
       rfl
      refine pure_ (i:=4) (N:=some 45) (v:=?_) (a':=?_) #[true,true,true,true,true] rfl rfl (by kernel_rfl) (fun _ _ _ h=>h) (Or.inl ⟨by rfl,?_⟩) ?_ ?_
      rotate_left
      ·intro w'
       go_simp
       with_reducible rfl
      rotate_left
      ·simp only [Act.put,List.setIfInBounds_toArray,List.set_cons_zero,List.set_cons_succ,i64_w,i32_w]
       rfl
      refine done_ (by kernel_rfl) ?_
      have hcw_0:=(blk_cell BK709.out 0).trans (show _=some (.slice Ao24 t700.length co24) from rfl)
      have hcw_1:=(blk_cell BK709.out 1).trans (show _=some (.slice Ao27 t703.length co27) from rfl)
      have hcw_2:=(blk_cell BK709.out 2).trans (show _=some (.slice Ao28 t706.length co28) from rfl)
      have hfw_0:=blk_frozen BK709.out 0
      have hfw_1:=blk_frozen BK709.out 1
      have hfw_2:=blk_frozen BK709.out 2
      go_upto_region 14 with (first|((with_reducible refine gate_callee (f:=26) rfl ?_);refine goesL_ (some 48) rfl rfl Try.func26 (by kernel_rfl) rfl #[.agg #[.slice Ao24 t700.length co24,.slice Ao27 t703.length co27,.slice Ao28 t706.length co28],.int .i64 1] rfl zq2 ?_;have z0_:=Aside0.mk (Kd.S_types (Kd.S_types HO_710000.out BK685.out (by decide)) BK709.out (by decide));have z1_:=Aside0.mk (Kd.S_types (Kd.S_types HO_710001.out BK685.out (by decide)) BK709.out (by decide));have z2_:=Aside0.mk (Kd.R_types (Kd.R_types (Kd.R_tight rfl HO_710002.out) BK685.out (by decide)) BK709.out (by decide));(refine(laws_markWishes.calls kj10 _ _ _ _ _ _ t700 _ _ _ t703 _ _ _ t706 1 t725 q1_ q2_ q3_ w _ ?sB (by(with_reducible repeat(first|apply Kd.S_alloc|apply Kd.S_drewN|apply Kd.S_drew));exact z0_.out) (by(with_reducible repeat(first|apply Kd.S_alloc|apply Kd.S_drewN|apply Kd.S_drew));exact z1_.out) (zq4 z2_) ?s01 ?s02 ?s12 A38.out).mono ?_);(case sB=>repeat(first|(with_reducible first|exact HB.out|apply below_alloc|apply pw_below_drewN|apply below_drew1)|exact HB.out));(case s01=>intro k_ h0_ h1_;first|exact Nat.not_le_of_lt h0_.2 h1_.2|exact Nat.not_le_of_lt h0_.2.2 h1_.2.2|exact Nat.not_le_of_lt h0_.2.2.2 h1_.2.2.2|exact Nat.not_le_of_lt h0_.2.2.2.2 h1_.2.2.2.2|exact Nat.not_le_of_lt h0_.2.2.2.2.2 h1_.2.2.2.2.2|exact Nat.not_le_of_lt h0_.2.2.2.2.2.2 h1_.2.2.2.2.2.2|exact Nat.not_le_of_lt h0_.2.2.2.2.2.2.2 h1_.2.2.2.2.2.2.2|exact Nat.not_le_of_lt h0_.1.2 h1_.1.2|exact Nat.not_le_of_lt h0_.1.2.2 h1_.1.2.2|exact Nat.not_le_of_lt h0_.1.2.2.2 h1_.1.2.2.2|exact Nat.not_le_of_lt h0_.1.2.2.2.2 h1_.1.2.2.2.2|exact Nat.not_le_of_lt h0_.1.2.2.2.2.2 h1_.1.2.2.2.2.2|exact Nat.not_le_of_lt h0_.1.2.2.2.2.2.2 h1_.1.2.2.2.2.2.2|exact Nat.not_le_of_lt h0_.1.2.2.2.2.2.2.2 h1_.1.2.2.2.2.2.2.2|exact Nat.not_le_of_lt h0_.1.1.2 h1_.1.1.2|exact Nat.not_le_of_lt h0_.1.1.2.2 h1_.1.1.2.2|exact Nat.not_le_of_lt h0_.1.1.2.2.2 h1_.1.1.2.2.2|exact Nat.not_le_of_lt h0_.1.1.2.2.2.2 h1_.1.1.2.2.2.2|exact Nat.not_le_of_lt h0_.1.1.2.2.2.2.2 h1_.1.1.2.2.2.2.2|exact Nat.not_le_of_lt h0_.1.1.2.2.2.2.2.2 h1_.1.1.2.2.2.2.2.2|exact Nat.not_le_of_lt h0_.1.1.2.2.2.2.2.2.2 h1_.1.1.2.2.2.2.2.2.2|exact Nat.not_le_of_lt h0_.1.1.1.2 h1_.1.1.1.2|exact Nat.not_le_of_lt h0_.1.1.1.2.2 h1_.1.1.1.2.2|exact Nat.not_le_of_lt h0_.1.1.1.2.2.2 h1_.1.1.1.2.2.2|exact Nat.not_le_of_lt h0_.1.1.1.2.2.2.2 h1_.1.1.1.2.2.2.2|exact Nat.not_le_of_lt h0_.1.1.1.2.2.2.2.2 h1_.1.1.1.2.2.2.2.2|exact Nat.not_le_of_lt h0_.1.1.1.2.2.2.2.2.2 h1_.1.1.1.2.2.2.2.2.2|exact Nat.not_le_of_lt h0_.1.1.1.2.2.2.2.2.2.2 h1_.1.1.1.2.2.2.2.2.2.2|exact Nat.not_le_of_lt h0_.1.1.1.1.2 h1_.1.1.1.1.2|exact Nat.not_le_of_lt h0_.1.1.1.1.2.2 h1_.1.1.1.1.2.2|exact Nat.not_le_of_lt h0_.1.1.1.1.2.2.2 h1_.1.1.1.1.2.2.2|exact Nat.not_le_of_lt h0_.1.1.1.1.2.2.2.2 h1_.1.1.1.1.2.2.2.2|exact Nat.not_le_of_lt h0_.1.1.1.1.2.2.2.2.2 h1_.1.1.1.1.2.2.2.2.2|exact Nat.not_le_of_lt h0_.1.1.1.1.2.2.2.2.2.2 h1_.1.1.1.1.2.2.2.2.2.2|exact Nat.not_le_of_lt h0_.1.1.1.1.2.2.2.2.2.2.2 h1_.1.1.1.1.2.2.2.2.2.2.2|exact Nat.not_le_of_lt h0_.1.1.1.1.1.2 h1_.1.1.1.1.1.2|exact Nat.not_le_of_lt h0_.1.1.1.1.1.2.2 h1_.1.1.1.1.1.2.2|exact Nat.not_le_of_lt h0_.1.1.1.1.1.2.2.2 h1_.1.1.1.1.1.2.2.2|exact Nat.not_le_of_lt h0_.1.1.1.1.1.2.2.2.2 h1_.1.1.1.1.1.2.2.2.2|exact Nat.not_le_of_lt h0_.1.1.1.1.1.2.2.2.2.2 h1_.1.1.1.1.1.2.2.2.2.2|exact Nat.not_le_of_lt h0_.1.1.1.1.1.2.2.2.2.2.2 h1_.1.1.1.1.1.2.2.2.2.2.2|exact Nat.not_le_of_lt h0_.1.1.1.1.1.2.2.2.2.2.2.2 h1_.1.1.1.1.1.2.2.2.2.2.2.2|exact Nat.not_le_of_lt h0_.1.1.1.1.1.1.2 h1_.1.1.1.1.1.1.2|exact Nat.not_le_of_lt h0_.1.1.1.1.1.1.2.2 h1_.1.1.1.1.1.1.2.2|exact Nat.not_le_of_lt h0_.1.1.1.1.1.1.2.2.2 h1_.1.1.1.1.1.1.2.2.2|exact Nat.not_le_of_lt h0_.1.1.1.1.1.1.2.2.2.2 h1_.1.1.1.1.1.1.2.2.2.2|exact Nat.not_le_of_lt h0_.1.1.1.1.1.1.2.2.2.2.2 h1_.1.1.1.1.1.1.2.2.2.2.2|exact Nat.not_le_of_lt h0_.1.1.1.1.1.1.2.2.2.2.2.2 h1_.1.1.1.1.1.1.2.2.2.2.2.2|exact Nat.not_le_of_lt h0_.1.1.1.1.1.1.2.2.2.2.2.2.2 h1_.1.1.1.1.1.1.2.2.2.2.2.2.2|exact Nat.not_le_of_lt h0_.1.1.1.1.1.1.1.2 h1_.1.1.1.1.1.1.1.2|exact Nat.not_le_of_lt h0_.1.1.1.1.1.1.1.2.2 h1_.1.1.1.1.1.1.1.2.2|exact Nat.not_le_of_lt h0_.1.1.1.1.1.1.1.2.2.2 h1_.1.1.1.1.1.1.1.2.2.2|exact Nat.not_le_of_lt h0_.1.1.1.1.1.1.1.2.2.2.2 h1_.1.1.1.1.1.1.1.2.2.2.2|exact Nat.not_le_of_lt h0_.1.1.1.1.1.1.1.2.2.2.2.2 h1_.1.1.1.1.1.1.1.2.2.2.2.2|exact Nat.not_le_of_lt h0_.1.1.1.1.1.1.1.2.2.2.2.2.2 h1_.1.1.1.1.1.1.1.2.2.2.2.2.2|exact Nat.not_le_of_lt h0_.1.1.1.1.1.1.1.2.2.2.2.2.2.2 h1_.1.1.1.1.1.1.1.2.2.2.2.2.2.2|exact Nat.not_le_of_lt h0_.1.1.1.1.1.1.1.1.2 h1_.1.1.1.1.1.1.1.1.2|exact Nat.not_le_of_lt h0_.1.1.1.1.1.1.1.1.2.2 h1_.1.1.1.1.1.1.1.1.2.2|exact Nat.not_le_of_lt h0_.1.1.1.1.1.1.1.1.2.2.2 h1_.1.1.1.1.1.1.1.1.2.2.2|exact Nat.not_le_of_lt h0_.1.1.1.1.1.1.1.1.2.2.2.2 h1_.1.1.1.1.1.1.1.1.2.2.2.2|exact Nat.not_le_of_lt h0_.1.1.1.1.1.1.1.1.2.2.2.2.2 h1_.1.1.1.1.1.1.1.1.2.2.2.2.2|exact Nat.not_le_of_lt h0_.1.1.1.1.1.1.1.1.2.2.2.2.2.2 h1_.1.1.1.1.1.1.1.1.2.2.2.2.2.2|exact Nat.not_le_of_lt h0_.1.1.1.1.1.1.1.1.2.2.2.2.2.2.2 h1_.1.1.1.1.1.1.1.1.2.2.2.2.2.2.2|exact Nat.not_le_of_lt h0_.1.1.1.1.1.1.1.1.1.2 h1_.1.1.1.1.1.1.1.1.1.2|exact Nat.not_le_of_lt h0_.1.1.1.1.1.1.1.1.1.2.2 h1_.1.1.1.1.1.1.1.1.1.2.2|exact Nat.not_le_of_lt h0_.1.1.1.1.1.1.1.1.1.2.2.2 h1_.1.1.1.1.1.1.1.1.1.2.2.2|exact Nat.not_le_of_lt h0_.1.1.1.1.1.1.1.1.1.2.2.2.2 h1_.1.1.1.1.1.1.1.1.1.2.2.2.2|exact Nat.not_le_of_lt h0_.1.1.1.1.1.1.1.1.1.2.2.2.2.2 h1_.1.1.1.1.1.1.1.1.1.2.2.2.2.2|exact Nat.not_le_of_lt h0_.1.1.1.1.1.1.1.1.1.2.2.2.2.2.2 h1_.1.1.1.1.1.1.1.1.1.2.2.2.2.2.2|exact Nat.not_le_of_lt h0_.1.1.1.1.1.1.1.1.1.2.2.2.2.2.2.2 h1_.1.1.1.1.1.1.1.1.1.2.2.2.2.2.2.2|exact Nat.not_le_of_lt h0_.1.1.1.1.1.1.1.1.1.1.2 h1_.1.1.1.1.1.1.1.1.1.1.2|exact Nat.not_le_of_lt h0_.1.1.1.1.1.1.1.1.1.1.2.2 h1_.1.1.1.1.1.1.1.1.1.1.2.2|exact Nat.not_le_of_lt h0_.1.1.1.1.1.1.1.1.1.1.2.2.2 h1_.1.1.1.1.1.1.1.1.1.1.2.2.2|exact Nat.not_le_of_lt h0_.1.1.1.1.1.1.1.1.1.1.2.2.2.2 h1_.1.1.1.1.1.1.1.1.1.1.2.2.2.2|exact Nat.not_le_of_lt h0_.1.1.1.1.1.1.1.1.1.1.2.2.2.2.2 h1_.1.1.1.1.1.1.1.1.1.1.2.2.2.2.2|exact Nat.not_le_of_lt h0_.1.1.1.1.1.1.1.1.1.1.2.2.2.2.2.2 h1_.1.1.1.1.1.1.1.1.1.1.2.2.2.2.2.2|exact Nat.not_le_of_lt h0_.1.1.1.1.1.1.1.1.1.1.2.2.2.2.2.2.2 h1_.1.1.1.1.1.1.1.1.1.1.2.2.2.2.2.2.2|exact Nat.not_le_of_lt h0_.1.1.1.1.1.1.1.1.1.1.1.2 h1_.1.1.1.1.1.1.1.1.1.1.1.2|exact Nat.not_le_of_lt h0_.1.1.1.1.1.1.1.1.1.1.1.2.2 h1_.1.1.1.1.1.1.1.1.1.1.1.2.2|exact Nat.not_le_of_lt h0_.1.1.1.1.1.1.1.1.1.1.1.2.2.2 h1_.1.1.1.1.1.1.1.1.1.1.1.2.2.2|exact Nat.not_le_of_lt h0_.1.1.1.1.1.1.1.1.1.1.1.2.2.2.2 h1_.1.1.1.1.1.1.1.1.1.1.1.2.2.2.2|exact Nat.not_le_of_lt h0_.1.1.1.1.1.1.1.1.1.1.1.2.2.2.2.2 h1_.1.1.1.1.1.1.1.1.1.1.1.2.2.2.2.2|exact Nat.not_le_of_lt h0_.1.1.1.1.1.1.1.1.1.1.1.2.2.2.2.2.2 h1_.1.1.1.1.1.1.1.1.1.1.1.2.2.2.2.2.2|exact Nat.not_le_of_lt h0_.1.1.1.1.1.1.1.1.1.1.1.2.2.2.2.2.2.2 h1_.1.1.1.1.1.1.1.1.1.1.1.2.2.2.2.2.2.2|exact Nat.not_le_of_lt h0_.1.1.1.1.1.1.1.1.1.1.1.1.2 h1_.1.1.1.1.1.1.1.1.1.1.1.1.2|exact Nat.not_le_of_lt h0_.1.1.1.1.1.1.1.1.1.1.1.1.2.2 h1_.1.1.1.1.1.1.1.1.1.1.1.1.2.2|exact Nat.not_le_of_lt h0_.1.1.1.1.1.1.1.1.1.1.1.1.2.2.2 h1_.1.1.1.1.1.1.1.1.1.1.1.1.2.2.2|exact Nat.not_le_of_lt h0_.1.1.1.1.1.1.1.1.1.1.1.1.2.2.2.2 h1_.1.1.1.1.1.1.1.1.1.1.1.1.2.2.2.2|exact Nat.not_le_of_lt h0_.1.1.1.1.1.1.1.1.1.1.1.1.2.2.2.2.2 h1_.1.1.1.1.1.1.1.1.1.1.1.1.2.2.2.2.2|exact Nat.not_le_of_lt h0_.1.1.1.1.1.1.1.1.1.1.1.1.2.2.2.2.2.2 h1_.1.1.1.1.1.1.1.1.1.1.1.1.2.2.2.2.2.2|exact Nat.not_le_of_lt h0_.1.1.1.1.1.1.1.1.1.1.1.1.2.2.2.2.2.2.2 h1_.1.1.1.1.1.1.1.1.1.1.1.1.2.2.2.2.2.2.2|exact Nat.not_le_of_lt h0_.1.1.1.1.1.1.1.1.1.1.1.1.1.2 h1_.1.1.1.1.1.1.1.1.1.1.1.1.1.2|exact Nat.not_le_of_lt h0_.1.1.1.1.1.1.1.1.1.1.1.1.1.2.2 h1_.1.1.1.1.1.1.1.1.1.1.1.1.1.2.2|exact Nat.not_le_of_lt h0_.1.1.1.1.1.1.1.1.1.1.1.1.1.2.2.2 h1_.1.1.1.1.1.1.1.1.1.1.1.1.1.2.2.2|exact Nat.not_le_of_lt h0_.1.1.1.1.1.1.1.1.1.1.1.1.1.2.2.2.2 h1_.1.1.1.1.1.1.1.1.1.1.1.1.1.2.2.2.2|exact Nat.not_le_of_lt h0_.1.1.1.1.1.1.1.1.1.1.1.1.1.2.2.2.2.2 h1_.1.1.1.1.1.1.1.1.1.1.1.1.1.2.2.2.2.2|exact Nat.not_le_of_lt h0_.1.1.1.1.1.1.1.1.1.1.1.1.1.2.2.2.2.2.2 h1_.1.1.1.1.1.1.1.1.1.1.1.1.1.2.2.2.2.2.2|exact Nat.not_le_of_lt h0_.1.1.1.1.1.1.1.1.1.1.1.1.1.2.2.2.2.2.2.2 h1_.1.1.1.1.1.1.1.1.1.1.1.1.1.2.2.2.2.2.2.2);(case s02=>intro k_ h0_ h2_;first|exact h0_ h2_.1.1|exact h0_.1 h2_.1.1|exact h0_.2 h2_.1.1|exact h0_.2.1 h2_.1.1|exact h0_.2.2 h2_.1.1|exact h0_.2.2.1 h2_.1.1|exact h0_.2.2.2 h2_.1.1|exact h0_.2.2.2.1 h2_.1.1|exact h0_.2.2.2.2 h2_.1.1|exact h0_.2.2.2.2.1 h2_.1.1|exact h0_.2.2.2.2.2 h2_.1.1|exact h0_.2.2.2.2.2.1 h2_.1.1|exact h0_.2.2.2.2.2.2 h2_.1.1|exact h0_.2.2.2.2.2.2.1 h2_.1.1|exact h0_.1 h2_.1.1|exact h0_.1.1 h2_.1.1|exact h0_.1.2 h2_.1.1|exact h0_.1.2.1 h2_.1.1|exact h0_.1.2.2 h2_.1.1|exact h0_.1.2.2.1 h2_.1.1|exact h0_.1.2.2.2 h2_.1.1|exact h0_.1.2.2.2.1 h2_.1.1|exact h0_.1.2.2.2.2 h2_.1.1|exact h0_.1.2.2.2.2.1 h2_.1.1|exact h0_.1.2.2.2.2.2 h2_.1.1|exact h0_.1.2.2.2.2.2.1 h2_.1.1|exact h0_.1.2.2.2.2.2.2 h2_.1.1|exact h0_.1.2.2.2.2.2.2.1 h2_.1.1|exact h0_.1.1 h2_.1.1|exact h0_.1.1.1 h2_.1.1|exact h0_.1.1.2 h2_.1.1|exact h0_.1.1.2.1 h2_.1.1|exact h0_.1.1.2.2 h2_.1.1|exact h0_.1.1.2.2.1 h2_.1.1|exact h0_.1.1.2.2.2 h2_.1.1|exact h0_.1.1.2.2.2.1 h2_.1.1|exact h0_.1.1.2.2.2.2 h2_.1.1|exact h0_.1.1.2.2.2.2.1 h2_.1.1|exact h0_.1.1.2.2.2.2.2 h2_.1.1|exact h0_.1.1.2.2.2.2.2.1 h2_.1.1|exact h0_.1.1.2.2.2.2.2.2 h2_.1.1|exact h0_.1.1.2.2.2.2.2.2.1 h2_.1.1|exact h0_.1.1.1 h2_.1.1|exact h0_.1.1.1.1 h2_.1.1|exact h0_.1.1.1.2 h2_.1.1|exact h0_.1.1.1.2.1 h2_.1.1|exact h0_.1.1.1.2.2 h2_.1.1|exact h0_.1.1.1.2.2.1 h2_.1.1|exact h0_.1.1.1.2.2.2 h2_.1.1|exact h0_.1.1.1.2.2.2.1 h2_.1.1|exact h0_.1.1.1.2.2.2.2 h2_.1.1|exact h0_.1.1.1.2.2.2.2.1 h2_.1.1|exact h0_.1.1.1.2.2.2.2.2 h2_.1.1|exact h0_.1.1.1.2.2.2.2.2.1 h2_.1.1|exact h0_.1.1.1.2.2.2.2.2.2 h2_.1.1|exact h0_.1.1.1.2.2.2.2.2.2.1 h2_.1.1|exact h0_.1.1.1.1 h2_.1.1|exact h0_.1.1.1.1.1 h2_.1.1|exact h0_.1.1.1.1.2 h2_.1.1|exact h0_.1.1.1.1.2.1 h2_.1.1|exact h0_.1.1.1.1.2.2 h2_.1.1|exact h0_.1.1.1.1.2.2.1 h2_.1.1|exact h0_.1.1.1.1.2.2.2 h2_.1.1|exact h0_.1.1.1.1.2.2.2.1 h2_.1.1|exact h0_.1.1.1.1.2.2.2.2 h2_.1.1|exact h0_.1.1.1.1.2.2.2.2.1 h2_.1.1|exact h0_.1.1.1.1.2.2.2.2.2 h2_.1.1|exact h0_.1.1.1.1.2.2.2.2.2.1 h2_.1.1|exact h0_.1.1.1.1.2.2.2.2.2.2 h2_.1.1|exact h0_.1.1.1.1.2.2.2.2.2.2.1 h2_.1.1|exact h0_.1.1.1.1.1 h2_.1.1|exact h0_.1.1.1.1.1.1 h2_.1.1|exact h0_.1.1.1.1.1.2 h2_.1.1|exact h0_.1.1.1.1.1.2.1 h2_.1.1|exact h0_.1.1.1.1.1.2.2 h2_.1.1|exact h0_.1.1.1.1.1.2.2.1 h2_.1.1|exact h0_.1.1.1.1.1.2.2.2 h2_.1.1|exact h0_.1.1.1.1.1.2.2.2.1 h2_.1.1|exact h0_.1.1.1.1.1.2.2.2.2 h2_.1.1|exact h0_.1.1.1.1.1.2.2.2.2.1 h2_.1.1|exact h0_.1.1.1.1.1.2.2.2.2.2 h2_.1.1|exact h0_.1.1.1.1.1.2.2.2.2.2.1 h2_.1.1|exact h0_.1.1.1.1.1.2.2.2.2.2.2 h2_.1.1|exact h0_.1.1.1.1.1.2.2.2.2.2.2.1 h2_.1.1|exact h0_.1.1.1.1.1.1 h2_.1.1|exact h0_.1.1.1.1.1.1.1 h2_.1.1|exact h0_.1.1.1.1.1.1.2 h2_.1.1|exact h0_.1.1.1.1.1.1.2.1 h2_.1.1|exact h0_.1.1.1.1.1.1.2.2 h2_.1.1|exact h0_.1.1.1.1.1.1.2.2.1 h2_.1.1|exact h0_.1.1.1.1.1.1.2.2.2 h2_.1.1|exact h0_.1.1.1.1.1.1.2.2.2.1 h2_.1.1|exact h0_.1.1.1.1.1.1.2.2.2.2 h2_.1.1|exact h0_.1.1.1.1.1.1.2.2.2.2.1 h2_.1.1|exact h0_.1.1.1.1.1.1.2.2.2.2.2 h2_.1.1|exact h0_.1.1.1.1.1.1.2.2.2.2.2.1 h2_.1.1|exact h0_.1.1.1.1.1.1.2.2.2.2.2.2 h2_.1.1|exact h0_.1.1.1.1.1.1.2.2.2.2.2.2.1 h2_.1.1|exact h0_.1.1.1.1.1.1.1 h2_.1.1|exact h0_.1.1.1.1.1.1.1.1 h2_.1.1|exact h0_.1.1.1.1.1.1.1.2 h2_.1.1|exact h0_.1.1.1.1.1.1.1.2.1 h2_.1.1|exact h0_.1.1.1.1.1.1.1.2.2 h2_.1.1|exact h0_.1.1.1.1.1.1.1.2.2.1 h2_.1.1|exact h0_.1.1.1.1.1.1.1.2.2.2 h2_.1.1|exact h0_.1.1.1.1.1.1.1.2.2.2.1 h2_.1.1|exact h0_.1.1.1.1.1.1.1.2.2.2.2 h2_.1.1|exact h0_.1.1.1.1.1.1.1.2.2.2.2.1 h2_.1.1|exact h0_.1.1.1.1.1.1.1.2.2.2.2.2 h2_.1.1|exact h0_.1.1.1.1.1.1.1.2.2.2.2.2.1 h2_.1.1|exact h0_.1.1.1.1.1.1.1.2.2.2.2.2.2 h2_.1.1|exact h0_.1.1.1.1.1.1.1.2.2.2.2.2.2.1 h2_.1.1|exact h0_.1.1.1.1.1.1.1.1 h2_.1.1|exact h0_.1.1.1.1.1.1.1.1.1 h2_.1.1|exact h0_.1.1.1.1.1.1.1.1.2 h2_.1.1|exact h0_.1.1.1.1.1.1.1.1.2.1 h2_.1.1|exact h0_.1.1.1.1.1.1.1.1.2.2 h2_.1.1|exact h0_.1.1.1.1.1.1.1.1.2.2.1 h2_.1.1|exact h0_.1.1.1.1.1.1.1.1.2.2.2 h2_.1.1|exact h0_.1.1.1.1.1.1.1.1.2.2.2.1 h2_.1.1|exact h0_.1.1.1.1.1.1.1.1.2.2.2.2 h2_.1.1|exact h0_.1.1.1.1.1.1.1.1.2.2.2.2.1 h2_.1.1|exact h0_.1.1.1.1.1.1.1.1.2.2.2.2.2 h2_.1.1|exact h0_.1.1.1.1.1.1.1.1.2.2.2.2.2.1 h2_.1.1|exact h0_.1.1.1.1.1.1.1.1.2.2.2.2.2.2 h2_.1.1|exact h0_.1.1.1.1.1.1.1.1.2.2.2.2.2.2.1 h2_.1.1|exact h0_.1.1.1.1.1.1.1.1.1 h2_.1.1|exact h0_.1.1.1.1.1.1.1.1.1.1 h2_.1.1|exact h0_.1.1.1.1.1.1.1.1.1.2 h2_.1.1|exact h0_.1.1.1.1.1.1.1.1.1.2.1 h2_.1.1|exact h0_.1.1.1.1.1.1.1.1.1.2.2 h2_.1.1|exact h0_.1.1.1.1.1.1.1.1.1.2.2.1 h2_.1.1|exact h0_.1.1.1.1.1.1.1.1.1.2.2.2 h2_.1.1|exact h0_.1.1.1.1.1.1.1.1.1.2.2.2.1 h2_.1.1|exact h0_.1.1.1.1.1.1.1.1.1.2.2.2.2 h2_.1.1|exact h0_.1.1.1.1.1.1.1.1.1.2.2.2.2.1 h2_.1.1|exact h0_.1.1.1.1.1.1.1.1.1.2.2.2.2.2 h2_.1.1|exact h0_.1.1.1.1.1.1.1.1.1.2.2.2.2.2.1 h2_.1.1|exact h0_.1.1.1.1.1.1.1.1.1.2.2.2.2.2.2 h2_.1.1|exact h0_.1.1.1.1.1.1.1.1.1.2.2.2.2.2.2.1 h2_.1.1|exact h0_.1.1.1.1.1.1.1.1.1.1 h2_.1.1|exact h0_.1.1.1.1.1.1.1.1.1.1.1 h2_.1.1|exact h0_.1.1.1.1.1.1.1.1.1.1.2 h2_.1.1|exact h0_.1.1.1.1.1.1.1.1.1.1.2.1 h2_.1.1|exact h0_.1.1.1.1.1.1.1.1.1.1.2.2 h2_.1.1|exact h0_.1.1.1.1.1.1.1.1.1.1.2.2.1 h2_.1.1|exact h0_.1.1.1.1.1.1.1.1.1.1.2.2.2 h2_.1.1|exact h0_.1.1.1.1.1.1.1.1.1.1.2.2.2.1 h2_.1.1|exact h0_.1.1.1.1.1.1.1.1.1.1.2.2.2.2 h2_.1.1|exact h0_.1.1.1.1.1.1.1.1.1.1.2.2.2.2.1 h2_.1.1|exact h0_.1.1.1.1.1.1.1.1.1.1.2.2.2.2.2 h2_.1.1|exact h0_.1.1.1.1.1.1.1.1.1.1.2.2.2.2.2.1 h2_.1.1|exact h0_.1.1.1.1.1.1.1.1.1.1.2.2.2.2.2.2 h2_.1.1|exact h0_.1.1.1.1.1.1.1.1.1.1.2.2.2.2.2.2.1 h2_.1.1|exact h0_.1.1.1.1.1.1.1.1.1.1.1 h2_.1.1|exact h0_.1.1.1.1.1.1.1.1.1.1.1.1 h2_.1.1|exact h0_.1.1.1.1.1.1.1.1.1.1.1.2 h2_.1.1|exact h0_.1.1.1.1.1.1.1.1.1.1.1.2.1 h2_.1.1|exact h0_.1.1.1.1.1.1.1.1.1.1.1.2.2 h2_.1.1|exact h0_.1.1.1.1.1.1.1.1.1.1.1.2.2.1 h2_.1.1|exact h0_.1.1.1.1.1.1.1.1.1.1.1.2.2.2 h2_.1.1|exact h0_.1.1.1.1.1.1.1.1.1.1.1.2.2.2.1 h2_.1.1|exact h0_.1.1.1.1.1.1.1.1.1.1.1.2.2.2.2 h2_.1.1|exact h0_.1.1.1.1.1.1.1.1.1.1.1.2.2.2.2.1 h2_.1.1|exact h0_.1.1.1.1.1.1.1.1.1.1.1.2.2.2.2.2 h2_.1.1|exact h0_.1.1.1.1.1.1.1.1.1.1.1.2.2.2.2.2.1 h2_.1.1|exact h0_.1.1.1.1.1.1.1.1.1.1.1.2.2.2.2.2.2 h2_.1.1|exact h0_.1.1.1.1.1.1.1.1.1.1.1.2.2.2.2.2.2.1 h2_.1.1|exact h0_.1.1.1.1.1.1.1.1.1.1.1.1 h2_.1.1|exact h0_.1.1.1.1.1.1.1.1.1.1.1.1.1 h2_.1.1|exact h0_.1.1.1.1.1.1.1.1.1.1.1.1.2 h2_.1.1|exact h0_.1.1.1.1.1.1.1.1.1.1.1.1.2.1 h2_.1.1|exact h0_.1.1.1.1.1.1.1.1.1.1.1.1.2.2 h2_.1.1|exact h0_.1.1.1.1.1.1.1.1.1.1.1.1.2.2.1 h2_.1.1|exact h0_.1.1.1.1.1.1.1.1.1.1.1.1.2.2.2 h2_.1.1|exact h0_.1.1.1.1.1.1.1.1.1.1.1.1.2.2.2.1 h2_.1.1|exact h0_.1.1.1.1.1.1.1.1.1.1.1.1.2.2.2.2 h2_.1.1|exact h0_.1.1.1.1.1.1.1.1.1.1.1.1.2.2.2.2.1 h2_.1.1|exact h0_.1.1.1.1.1.1.1.1.1.1.1.1.2.2.2.2.2 h2_.1.1|exact h0_.1.1.1.1.1.1.1.1.1.1.1.1.2.2.2.2.2.1 h2_.1.1|exact h0_.1.1.1.1.1.1.1.1.1.1.1.1.2.2.2.2.2.2 h2_.1.1|exact h0_.1.1.1.1.1.1.1.1.1.1.1.1.2.2.2.2.2.2.1 h2_.1.1);(case s12=>intro k_ h1_ h2_;first|exact h1_ h2_.1.1|exact h1_.1 h2_.1.1|exact h1_.2 h2_.1.1|exact h1_.2.1 h2_.1.1|exact h1_.2.2 h2_.1.1|exact h1_.2.2.1 h2_.1.1|exact h1_.2.2.2 h2_.1.1|exact h1_.2.2.2.1 h2_.1.1|exact h1_.2.2.2.2 h2_.1.1|exact h1_.2.2.2.2.1 h2_.1.1|exact h1_.2.2.2.2.2 h2_.1.1|exact h1_.2.2.2.2.2.1 h2_.1.1|exact h1_.2.2.2.2.2.2 h2_.1.1|exact h1_.2.2.2.2.2.2.1 h2_.1.1|exact h1_.1 h2_.1.1|exact h1_.1.1 h2_.1.1|exact h1_.1.2 h2_.1.1|exact h1_.1.2.1 h2_.1.1|exact h1_.1.2.2 h2_.1.1|exact h1_.1.2.2.1 h2_.1.1|exact h1_.1.2.2.2 h2_.1.1|exact h1_.1.2.2.2.1 h2_.1.1|exact h1_.1.2.2.2.2 h2_.1.1|exact h1_.1.2.2.2.2.1 h2_.1.1|exact h1_.1.2.2.2.2.2 h2_.1.1|exact h1_.1.2.2.2.2.2.1 h2_.1.1|exact h1_.1.2.2.2.2.2.2 h2_.1.1|exact h1_.1.2.2.2.2.2.2.1 h2_.1.1|exact h1_.1.1 h2_.1.1|exact h1_.1.1.1 h2_.1.1|exact h1_.1.1.2 h2_.1.1|exact h1_.1.1.2.1 h2_.1.1|exact h1_.1.1.2.2 h2_.1.1|exact h1_.1.1.2.2.1 h2_.1.1|exact h1_.1.1.2.2.2 h2_.1.1|exact h1_.1.1.2.2.2.1 h2_.1.1|exact h1_.1.1.2.2.2.2 h2_.1.1|exact h1_.1.1.2.2.2.2.1 h2_.1.1|exact h1_.1.1.2.2.2.2.2 h2_.1.1|exact h1_.1.1.2.2.2.2.2.1 h2_.1.1|exact h1_.1.1.2.2.2.2.2.2 h2_.1.1|exact h1_.1.1.2.2.2.2.2.2.1 h2_.1.1|exact h1_.1.1.1 h2_.1.1|exact h1_.1.1.1.1 h2_.1.1|exact h1_.1.1.1.2 h2_.1.1|exact h1_.1.1.1.2.1 h2_.1.1|exact h1_.1.1.1.2.2 h2_.1.1|exact h1_.1.1.1.2.2.1 h2_.1.1|exact h1_.1.1.1.2.2.2 h2_.1.1|exact h1_.1.1.1.2.2.2.1 h2_.1.1|exact h1_.1.1.1.2.2.2.2 h2_.1.1|exact h1_.1.1.1.2.2.2.2.1 h2_.1.1|exact h1_.1.1.1.2.2.2.2.2 h2_.1.1|exact h1_.1.1.1.2.2.2.2.2.1 h2_.1.1|exact h1_.1.1.1.2.2.2.2.2.2 h2_.1.1|exact h1_.1.1.1.2.2.2.2.2.2.1 h2_.1.1|exact h1_.1.1.1.1 h2_.1.1|exact h1_.1.1.1.1.1 h2_.1.1|exact h1_.1.1.1.1.2 h2_.1.1|exact h1_.1.1.1.1.2.1 h2_.1.1|exact h1_.1.1.1.1.2.2 h2_.1.1|exact h1_.1.1.1.1.2.2.1 h2_.1.1|exact h1_.1.1.1.1.2.2.2 h2_.1.1|exact h1_.1.1.1.1.2.2.2.1 h2_.1.1|exact h1_.1.1.1.1.2.2.2.2 h2_.1.1|exact h1_.1.1.1.1.2.2.2.2.1 h2_.1.1|exact h1_.1.1.1.1.2.2.2.2.2 h2_.1.1|exact h1_.1.1.1.1.2.2.2.2.2.1 h2_.1.1|exact h1_.1.1.1.1.2.2.2.2.2.2 h2_.1.1|exact h1_.1.1.1.1.2.2.2.2.2.2.1 h2_.1.1|exact h1_.1.1.1.1.1 h2_.1.1|exact h1_.1.1.1.1.1.1 h2_.1.1|exact h1_.1.1.1.1.1.2 h2_.1.1|exact h1_.1.1.1.1.1.2.1 h2_.1.1|exact h1_.1.1.1.1.1.2.2 h2_.1.1|exact h1_.1.1.1.1.1.2.2.1 h2_.1.1|exact h1_.1.1.1.1.1.2.2.2 h2_.1.1|exact h1_.1.1.1.1.1.2.2.2.1 h2_.1.1|exact h1_.1.1.1.1.1.2.2.2.2 h2_.1.1|exact h1_.1.1.1.1.1.2.2.2.2.1 h2_.1.1|exact h1_.1.1.1.1.1.2.2.2.2.2 h2_.1.1|exact h1_.1.1.1.1.1.2.2.2.2.2.1 h2_.1.1|exact h1_.1.1.1.1.1.2.2.2.2.2.2 h2_.1.1|exact h1_.1.1.1.1.1.2.2.2.2.2.2.1 h2_.1.1|exact h1_.1.1.1.1.1.1 h2_.1.1|exact h1_.1.1.1.1.1.1.1 h2_.1.1|exact h1_.1.1.1.1.1.1.2 h2_.1.1|exact h1_.1.1.1.1.1.1.2.1 h2_.1.1|exact h1_.1.1.1.1.1.1.2.2 h2_.1.1|exact h1_.1.1.1.1.1.1.2.2.1 h2_.1.1|exact h1_.1.1.1.1.1.1.2.2.2 h2_.1.1|exact h1_.1.1.1.1.1.1.2.2.2.1 h2_.1.1|exact h1_.1.1.1.1.1.1.2.2.2.2 h2_.1.1|exact h1_.1.1.1.1.1.1.2.2.2.2.1 h2_.1.1|exact h1_.1.1.1.1.1.1.2.2.2.2.2 h2_.1.1|exact h1_.1.1.1.1.1.1.2.2.2.2.2.1 h2_.1.1|exact h1_.1.1.1.1.1.1.2.2.2.2.2.2 h2_.1.1|exact h1_.1.1.1.1.1.1.2.2.2.2.2.2.1 h2_.1.1|exact h1_.1.1.1.1.1.1.1 h2_.1.1|exact h1_.1.1.1.1.1.1.1.1 h2_.1.1|exact h1_.1.1.1.1.1.1.1.2 h2_.1.1|exact h1_.1.1.1.1.1.1.1.2.1 h2_.1.1|exact h1_.1.1.1.1.1.1.1.2.2 h2_.1.1|exact h1_.1.1.1.1.1.1.1.2.2.1 h2_.1.1|exact h1_.1.1.1.1.1.1.1.2.2.2 h2_.1.1|exact h1_.1.1.1.1.1.1.1.2.2.2.1 h2_.1.1|exact h1_.1.1.1.1.1.1.1.2.2.2.2 h2_.1.1|exact h1_.1.1.1.1.1.1.1.2.2.2.2.1 h2_.1.1|exact h1_.1.1.1.1.1.1.1.2.2.2.2.2 h2_.1.1|exact h1_.1.1.1.1.1.1.1.2.2.2.2.2.1 h2_.1.1|exact h1_.1.1.1.1.1.1.1.2.2.2.2.2.2 h2_.1.1|exact h1_.1.1.1.1.1.1.1.2.2.2.2.2.2.1 h2_.1.1|exact h1_.1.1.1.1.1.1.1.1 h2_.1.1|exact h1_.1.1.1.1.1.1.1.1.1 h2_.1.1|exact h1_.1.1.1.1.1.1.1.1.2 h2_.1.1|exact h1_.1.1.1.1.1.1.1.1.2.1 h2_.1.1|exact h1_.1.1.1.1.1.1.1.1.2.2 h2_.1.1|exact h1_.1.1.1.1.1.1.1.1.2.2.1 h2_.1.1|exact h1_.1.1.1.1.1.1.1.1.2.2.2 h2_.1.1|exact h1_.1.1.1.1.1.1.1.1.2.2.2.1 h2_.1.1|exact h1_.1.1.1.1.1.1.1.1.2.2.2.2 h2_.1.1|exact h1_.1.1.1.1.1.1.1.1.2.2.2.2.1 h2_.1.1|exact h1_.1.1.1.1.1.1.1.1.2.2.2.2.2 h2_.1.1|exact h1_.1.1.1.1.1.1.1.1.2.2.2.2.2.1 h2_.1.1|exact h1_.1.1.1.1.1.1.1.1.2.2.2.2.2.2 h2_.1.1|exact h1_.1.1.1.1.1.1.1.1.2.2.2.2.2.2.1 h2_.1.1|exact h1_.1.1.1.1.1.1.1.1.1 h2_.1.1|exact h1_.1.1.1.1.1.1.1.1.1.1 h2_.1.1|exact h1_.1.1.1.1.1.1.1.1.1.2 h2_.1.1|exact h1_.1.1.1.1.1.1.1.1.1.2.1 h2_.1.1|exact h1_.1.1.1.1.1.1.1.1.1.2.2 h2_.1.1|exact h1_.1.1.1.1.1.1.1.1.1.2.2.1 h2_.1.1|exact h1_.1.1.1.1.1.1.1.1.1.2.2.2 h2_.1.1|exact h1_.1.1.1.1.1.1.1.1.1.2.2.2.1 h2_.1.1|exact h1_.1.1.1.1.1.1.1.1.1.2.2.2.2 h2_.1.1|exact h1_.1.1.1.1.1.1.1.1.1.2.2.2.2.1 h2_.1.1|exact h1_.1.1.1.1.1.1.1.1.1.2.2.2.2.2 h2_.1.1|exact h1_.1.1.1.1.1.1.1.1.1.2.2.2.2.2.1 h2_.1.1|exact h1_.1.1.1.1.1.1.1.1.1.2.2.2.2.2.2 h2_.1.1|exact h1_.1.1.1.1.1.1.1.1.1.2.2.2.2.2.2.1 h2_.1.1|exact h1_.1.1.1.1.1.1.1.1.1.1 h2_.1.1|exact h1_.1.1.1.1.1.1.1.1.1.1.1 h2_.1.1|exact h1_.1.1.1.1.1.1.1.1.1.1.2 h2_.1.1|exact h1_.1.1.1.1.1.1.1.1.1.1.2.1 h2_.1.1|exact h1_.1.1.1.1.1.1.1.1.1.1.2.2 h2_.1.1|exact h1_.1.1.1.1.1.1.1.1.1.1.2.2.1 h2_.1.1|exact h1_.1.1.1.1.1.1.1.1.1.1.2.2.2 h2_.1.1|exact h1_.1.1.1.1.1.1.1.1.1.1.2.2.2.1 h2_.1.1|exact h1_.1.1.1.1.1.1.1.1.1.1.2.2.2.2 h2_.1.1|exact h1_.1.1.1.1.1.1.1.1.1.1.2.2.2.2.1 h2_.1.1|exact h1_.1.1.1.1.1.1.1.1.1.1.2.2.2.2.2 h2_.1.1|exact h1_.1.1.1.1.1.1.1.1.1.1.2.2.2.2.2.1 h2_.1.1|exact h1_.1.1.1.1.1.1.1.1.1.1.2.2.2.2.2.2 h2_.1.1|exact h1_.1.1.1.1.1.1.1.1.1.1.2.2.2.2.2.2.1 h2_.1.1|exact h1_.1.1.1.1.1.1.1.1.1.1.1 h2_.1.1|exact h1_.1.1.1.1.1.1.1.1.1.1.1.1 h2_.1.1|exact h1_.1.1.1.1.1.1.1.1.1.1.1.2 h2_.1.1|exact h1_.1.1.1.1.1.1.1.1.1.1.1.2.1 h2_.1.1|exact h1_.1.1.1.1.1.1.1.1.1.1.1.2.2 h2_.1.1|exact h1_.1.1.1.1.1.1.1.1.1.1.1.2.2.1 h2_.1.1|exact h1_.1.1.1.1.1.1.1.1.1.1.1.2.2.2 h2_.1.1|exact h1_.1.1.1.1.1.1.1.1.1.1.1.2.2.2.1 h2_.1.1|exact h1_.1.1.1.1.1.1.1.1.1.1.1.2.2.2.2 h2_.1.1|exact h1_.1.1.1.1.1.1.1.1.1.1.1.2.2.2.2.1 h2_.1.1|exact h1_.1.1.1.1.1.1.1.1.1.1.1.2.2.2.2.2 h2_.1.1|exact h1_.1.1.1.1.1.1.1.1.1.1.1.2.2.2.2.2.1 h2_.1.1|exact h1_.1.1.1.1.1.1.1.1.1.1.1.2.2.2.2.2.2 h2_.1.1|exact h1_.1.1.1.1.1.1.1.1.1.1.1.2.2.2.2.2.2.1 h2_.1.1|exact h1_.1.1.1.1.1.1.1.1.1.1.1.1 h2_.1.1|exact h1_.1.1.1.1.1.1.1.1.1.1.1.1.1 h2_.1.1|exact h1_.1.1.1.1.1.1.1.1.1.1.1.1.2 h2_.1.1|exact h1_.1.1.1.1.1.1.1.1.1.1.1.1.2.1 h2_.1.1|exact h1_.1.1.1.1.1.1.1.1.1.1.1.1.2.2 h2_.1.1|exact h1_.1.1.1.1.1.1.1.1.1.1.1.1.2.2.1 h2_.1.1|exact h1_.1.1.1.1.1.1.1.1.1.1.1.1.2.2.2 h2_.1.1|exact h1_.1.1.1.1.1.1.1.1.1.1.1.1.2.2.2.1 h2_.1.1|exact h1_.1.1.1.1.1.1.1.1.1.1.1.1.2.2.2.2 h2_.1.1|exact h1_.1.1.1.1.1.1.1.1.1.1.1.1.2.2.2.2.1 h2_.1.1|exact h1_.1.1.1.1.1.1.1.1.1.1.1.1.2.2.2.2.2 h2_.1.1|exact h1_.1.1.1.1.1.1.1.1.1.1.1.1.2.2.2.2.2.1 h2_.1.1|exact h1_.1.1.1.1.1.1.1.1.1.1.1.1.2.2.2.2.2.2 h2_.1.1|exact h1_.1.1.1.1.1.1.1.1.1.1.1.1.2.2.2.2.2.2.1 h2_.1.1);rintro e w9 ⟨rfl,s0_,s1_,s2_,hb_,hk_⟩;refine⟨_,rfl,?_⟩;have n0_:=Aside0.mk (Kd.R_reok rfl (Kd.R_kept (ok:=fun k_=>some k_= (v697:Value).ownBlock) (by(with_reducible repeat(first|apply Kd.R_alloc|apply Kd.R_drewN|apply Kd.R_drew));exact Kd.R_tight rfl HO_4.out) hk_ (fun k_ e_ h_=>by rcases h_ with h_|h_|h_<;>first|exact h_ e_|exact h_.1 e_|exact h_.2 e_|exact h_.2.1 e_|exact h_.2.2 e_|exact h_.2.2.1 e_|exact h_.2.2.2 e_|exact h_.2.2.2.1 e_|exact h_.2.2.2.2 e_|exact h_.2.2.2.2.1 e_|exact h_.2.2.2.2.2 e_|exact h_.2.2.2.2.2.1 e_|exact h_.2.2.2.2.2.2 e_|exact h_.2.2.2.2.2.2.1 e_|exact h_.1 e_|exact h_.1.1 e_|exact h_.1.2 e_|exact h_.1.2.1 e_|exact h_.1.2.2 e_|exact h_.1.2.2.1 e_|exact h_.1.2.2.2 e_|exact h_.1.2.2.2.1 e_|exact h_.1.2.2.2.2 e_|exact h_.1.2.2.2.2.1 e_|exact h_.1.2.2.2.2.2 e_|exact h_.1.2.2.2.2.2.1 e_|exact h_.1.2.2.2.2.2.2 e_|exact h_.1.2.2.2.2.2.2.1 e_|exact h_.1.1 e_|exact h_.1.1.1 e_|exact h_.1.1.2 e_|exact h_.1.1.2.1 e_|exact h_.1.1.2.2 e_|exact h_.1.1.2.2.1 e_|exact h_.1.1.2.2.2 e_|exact h_.1.1.2.2.2.1 e_|exact h_.1.1.2.2.2.2 e_|exact h_.1.1.2.2.2.2.1 e_|exact h_.1.1.2.2.2.2.2 e_|exact h_.1.1.2.2.2.2.2.1 e_|exact h_.1.1.2.2.2.2.2.2 e_|exact h_.1.1.2.2.2.2.2.2.1 e_|exact h_.1.1.1 e_|exact h_.1.1.1.1 e_|exact h_.1.1.1.2 e_|exact h_.1.1.1.2.1 e_|exact h_.1.1.1.2.2 e_|exact h_.1.1.1.2.2.1 e_|exact h_.1.1.1.2.2.2 e_|exact h_.1.1.1.2.2.2.1 e_|exact h_.1.1.1.2.2.2.2 e_|exact h_.1.1.1.2.2.2.2.1 e_|exact h_.1.1.1.2.2.2.2.2 e_|exact h_.1.1.1.2.2.2.2.2.1 e_|exact h_.1.1.1.2.2.2.2.2.2 e_|exact h_.1.1.1.2.2.2.2.2.2.1 e_|exact h_.1.1.1.1 e_|exact h_.1.1.1.1.1 e_|exact h_.1.1.1.1.2 e_|exact h_.1.1.1.1.2.1 e_|exact h_.1.1.1.1.2.2 e_|exact h_.1.1.1.1.2.2.1 e_|exact h_.1.1.1.1.2.2.2 e_|exact h_.1.1.1.1.2.2.2.1 e_|exact h_.1.1.1.1.2.2.2.2 e_|exact h_.1.1.1.1.2.2.2.2.1 e_|exact h_.1.1.1.1.2.2.2.2.2 e_|exact h_.1.1.1.1.2.2.2.2.2.1 e_|exact h_.1.1.1.1.2.2.2.2.2.2 e_|exact h_.1.1.1.1.2.2.2.2.2.2.1 e_|exact h_.1.1.1.1.1 e_|exact h_.1.1.1.1.1.1 e_|exact h_.1.1.1.1.1.2 e_|exact h_.1.1.1.1.1.2.1 e_|exact h_.1.1.1.1.1.2.2 e_|exact h_.1.1.1.1.1.2.2.1 e_|exact h_.1.1.1.1.1.2.2.2 e_|exact h_.1.1.1.1.1.2.2.2.1 e_|exact h_.1.1.1.1.1.2.2.2.2 e_|exact h_.1.1.1.1.1.2.2.2.2.1 e_|exact h_.1.1.1.1.1.2.2.2.2.2 e_|exact h_.1.1.1.1.1.2.2.2.2.2.1 e_|exact h_.1.1.1.1.1.2.2.2.2.2.2 e_|exact h_.1.1.1.1.1.2.2.2.2.2.2.1 e_|exact h_.1.1.1.1.1.1 e_|exact h_.1.1.1.1.1.1.1 e_|exact h_.1.1.1.1.1.1.2 e_|exact h_.1.1.1.1.1.1.2.1 e_|exact h_.1.1.1.1.1.1.2.2 e_|exact h_.1.1.1.1.1.1.2.2.1 e_|exact h_.1.1.1.1.1.1.2.2.2 e_|exact h_.1.1.1.1.1.1.2.2.2.1 e_|exact h_.1.1.1.1.1.1.2.2.2.2 e_|exact h_.1.1.1.1.1.1.2.2.2.2.1 e_|exact h_.1.1.1.1.1.1.2.2.2.2.2 e_|exact h_.1.1.1.1.1.1.2.2.2.2.2.1 e_|exact h_.1.1.1.1.1.1.2.2.2.2.2.2 e_|exact h_.1.1.1.1.1.1.2.2.2.2.2.2.1 e_|exact h_.1.1.1.1.1.1.1 e_|exact h_.1.1.1.1.1.1.1.1 e_|exact h_.1.1.1.1.1.1.1.2 e_|exact h_.1.1.1.1.1.1.1.2.1 e_|exact h_.1.1.1.1.1.1.1.2.2 e_|exact h_.1.1.1.1.1.1.1.2.2.1 e_|exact h_.1.1.1.1.1.1.1.2.2.2 e_|exact h_.1.1.1.1.1.1.1.2.2.2.1 e_|exact h_.1.1.1.1.1.1.1.2.2.2.2 e_|exact h_.1.1.1.1.1.1.1.2.2.2.2.1 e_|exact h_.1.1.1.1.1.1.1.2.2.2.2.2 e_|exact h_.1.1.1.1.1.1.1.2.2.2.2.2.1 e_|exact h_.1.1.1.1.1.1.1.2.2.2.2.2.2 e_|exact h_.1.1.1.1.1.1.1.2.2.2.2.2.2.1 e_|exact h_.1.1.1.1.1.1.1.1 e_|exact h_.1.1.1.1.1.1.1.1.1 e_|exact h_.1.1.1.1.1.1.1.1.2 e_|exact h_.1.1.1.1.1.1.1.1.2.1 e_|exact h_.1.1.1.1.1.1.1.1.2.2 e_|exact h_.1.1.1.1.1.1.1.1.2.2.1 e_|exact h_.1.1.1.1.1.1.1.1.2.2.2 e_|exact h_.1.1.1.1.1.1.1.1.2.2.2.1 e_|exact h_.1.1.1.1.1.1.1.1.2.2.2.2 e_|exact h_.1.1.1.1.1.1.1.1.2.2.2.2.1 e_|exact h_.1.1.1.1.1.1.1.1.2.2.2.2.2 e_|exact h_.1.1.1.1.1.1.1.1.2.2.2.2.2.1 e_|exact h_.1.1.1.1.1.1.1.1.2.2.2.2.2.2 e_|exact h_.1.1.1.1.1.1.1.1.2.2.2.2.2.2.1 e_|exact h_.1.1.1.1.1.1.1.1.1 e_|exact h_.1.1.1.1.1.1.1.1.1.1 e_|exact h_.1.1.1.1.1.1.1.1.1.2 e_|exact h_.1.1.1.1.1.1.1.1.1.2.1 e_|exact h_.1.1.1.1.1.1.1.1.1.2.2 e_|exact h_.1.1.1.1.1.1.1.1.1.2.2.1 e_|exact h_.1.1.1.1.1.1.1.1.1.2.2.2 e_|exact h_.1.1.1.1.1.1.1.1.1.2.2.2.1 e_|exact h_.1.1.1.1.1.1.1.1.1.2.2.2.2 e_|exact h_.1.1.1.1.1.1.1.1.1.2.2.2.2.1 e_|exact h_.1.1.1.1.1.1.1.1.1.2.2.2.2.2 e_|exact h_.1.1.1.1.1.1.1.1.1.2.2.2.2.2.1 e_|exact h_.1.1.1.1.1.1.1.1.1.2.2.2.2.2.2 e_|exact h_.1.1.1.1.1.1.1.1.1.2.2.2.2.2.2.1 e_|exact h_.1.1.1.1.1.1.1.1.1.1 e_|exact h_.1.1.1.1.1.1.1.1.1.1.1 e_|exact h_.1.1.1.1.1.1.1.1.1.1.2 e_|exact h_.1.1.1.1.1.1.1.1.1.1.2.1 e_|exact h_.1.1.1.1.1.1.1.1.1.1.2.2 e_|exact h_.1.1.1.1.1.1.1.1.1.1.2.2.1 e_|exact h_.1.1.1.1.1.1.1.1.1.1.2.2.2 e_|exact h_.1.1.1.1.1.1.1.1.1.1.2.2.2.1 e_|exact h_.1.1.1.1.1.1.1.1.1.1.2.2.2.2 e_|exact h_.1.1.1.1.1.1.1.1.1.1.2.2.2.2.1 e_|exact h_.1.1.1.1.1.1.1.1.1.1.2.2.2.2.2 e_|exact h_.1.1.1.1.1.1.1.1.1.1.2.2.2.2.2.1 e_|exact h_.1.1.1.1.1.1.1.1.1.1.2.2.2.2.2.2 e_|exact h_.1.1.1.1.1.1.1.1.1.1.2.2.2.2.2.2.1 e_|exact h_.1.1.1.1.1.1.1.1.1.1.1 e_|exact h_.1.1.1.1.1.1.1.1.1.1.1.1 e_|exact h_.1.1.1.1.1.1.1.1.1.1.1.2 e_|exact h_.1.1.1.1.1.1.1.1.1.1.1.2.1 e_|exact h_.1.1.1.1.1.1.1.1.1.1.1.2.2 e_|exact h_.1.1.1.1.1.1.1.1.1.1.1.2.2.1 e_|exact h_.1.1.1.1.1.1.1.1.1.1.1.2.2.2 e_|exact h_.1.1.1.1.1.1.1.1.1.1.1.2.2.2.1 e_|exact h_.1.1.1.1.1.1.1.1.1.1.1.2.2.2.2 e_|exact h_.1.1.1.1.1.1.1.1.1.1.1.2.2.2.2.1 e_|exact h_.1.1.1.1.1.1.1.1.1.1.1.2.2.2.2.2 e_|exact h_.1.1.1.1.1.1.1.1.1.1.1.2.2.2.2.2.1 e_|exact h_.1.1.1.1.1.1.1.1.1.1.1.2.2.2.2.2.2 e_|exact h_.1.1.1.1.1.1.1.1.1.1.1.2.2.2.2.2.2.1 e_|exact h_.1.1.1.1.1.1.1.1.1.1.1.1 e_|exact h_.1.1.1.1.1.1.1.1.1.1.1.1.1 e_|exact h_.1.1.1.1.1.1.1.1.1.1.1.1.2 e_|exact h_.1.1.1.1.1.1.1.1.1.1.1.1.2.1 e_|exact h_.1.1.1.1.1.1.1.1.1.1.1.1.2.2 e_|exact h_.1.1.1.1.1.1.1.1.1.1.1.1.2.2.1 e_|exact h_.1.1.1.1.1.1.1.1.1.1.1.1.2.2.2 e_|exact h_.1.1.1.1.1.1.1.1.1.1.1.1.2.2.2.1 e_|exact h_.1.1.1.1.1.1.1.1.1.1.1.1.2.2.2.2 e_|exact h_.1.1.1.1.1.1.1.1.1.1.1.1.2.2.2.2.1 e_|exact h_.1.1.1.1.1.1.1.1.1.1.1.1.2.2.2.2.2 e_|exact h_.1.1.1.1.1.1.1.1.1.1.1.1.2.2.2.2.2.1 e_|exact h_.1.1.1.1.1.1.1.1.1.1.1.1.2.2.2.2.2.2 e_|exact h_.1.1.1.1.1.1.1.1.1.1.1.1.2.2.2.2.2.2.1 e_|exact(HO_4.out.1 k_ e_.symm) h_.1.1|exact(HO_4.out.1 k_ e_.symm).1 h_.1.1|exact(HO_4.out.1 k_ e_.symm).2 h_.1.1|exact(HO_4.out.1 k_ e_.symm).2.1 h_.1.1|exact(HO_4.out.1 k_ e_.symm).2.2 h_.1.1|exact(HO_4.out.1 k_ e_.symm).2.2.1 h_.1.1|exact(HO_4.out.1 k_ e_.symm).2.2.2 h_.1.1|exact(HO_4.out.1 k_ e_.symm).2.2.2.1 h_.1.1|exact(HO_4.out.1 k_ e_.symm).2.2.2.2 h_.1.1|exact(HO_4.out.1 k_ e_.symm).2.2.2.2.1 h_.1.1|exact(HO_4.out.1 k_ e_.symm).2.2.2.2.2 h_.1.1|exact(HO_4.out.1 k_ e_.symm).2.2.2.2.2.1 h_.1.1|exact(HO_4.out.1 k_ e_.symm).1 h_.1.1|exact(HO_4.out.1 k_ e_.symm).1.1 h_.1.1|exact(HO_4.out.1 k_ e_.symm).1.2 h_.1.1|exact(HO_4.out.1 k_ e_.symm).1.2.1 h_.1.1|exact(HO_4.out.1 k_ e_.symm).1.2.2 h_.1.1|exact(HO_4.out.1 k_ e_.symm).1.2.2.1 h_.1.1|exact(HO_4.out.1 k_ e_.symm).1.2.2.2 h_.1.1|exact(HO_4.out.1 k_ e_.symm).1.2.2.2.1 h_.1.1|exact(HO_4.out.1 k_ e_.symm).1.2.2.2.2 h_.1.1|exact(HO_4.out.1 k_ e_.symm).1.2.2.2.2.1 h_.1.1|exact(HO_4.out.1 k_ e_.symm).1.2.2.2.2.2 h_.1.1|exact(HO_4.out.1 k_ e_.symm).1.2.2.2.2.2.1 h_.1.1|exact(HO_4.out.1 k_ e_.symm).1.1 h_.1.1|exact(HO_4.out.1 k_ e_.symm).1.1.1 h_.1.1|exact(HO_4.out.1 k_ e_.symm).1.1.2 h_.1.1|exact(HO_4.out.1 k_ e_.symm).1.1.2.1 h_.1.1|exact(HO_4.out.1 k_ e_.symm).1.1.2.2 h_.1.1|exact(HO_4.out.1 k_ e_.symm).1.1.2.2.1 h_.1.1|exact(HO_4.out.1 k_ e_.symm).1.1.2.2.2 h_.1.1|exact(HO_4.out.1 k_ e_.symm).1.1.2.2.2.1 h_.1.1|exact(HO_4.out.1 k_ e_.symm).1.1.2.2.2.2 h_.1.1|exact(HO_4.out.1 k_ e_.symm).1.1.2.2.2.2.1 h_.1.1|exact(HO_4.out.1 k_ e_.symm).1.1.2.2.2.2.2 h_.1.1|exact(HO_4.out.1 k_ e_.symm).1.1.2.2.2.2.2.1 h_.1.1|exact(HO_4.out.1 k_ e_.symm).1.1.1 h_.1.1|exact(HO_4.out.1 k_ e_.symm).1.1.1.1 h_.1.1|exact(HO_4.out.1 k_ e_.symm).1.1.1.2 h_.1.1|exact(HO_4.out.1 k_ e_.symm).1.1.1.2.1 h_.1.1|exact(HO_4.out.1 k_ e_.symm).1.1.1.2.2 h_.1.1|exact(HO_4.out.1 k_ e_.symm).1.1.1.2.2.1 h_.1.1|exact(HO_4.out.1 k_ e_.symm).1.1.1.2.2.2 h_.1.1|exact(HO_4.out.1 k_ e_.symm).1.1.1.2.2.2.1 h_.1.1|exact(HO_4.out.1 k_ e_.symm).1.1.1.2.2.2.2 h_.1.1|exact(HO_4.out.1 k_ e_.symm).1.1.1.2.2.2.2.1 h_.1.1|exact(HO_4.out.1 k_ e_.symm).1.1.1.2.2.2.2.2 h_.1.1|exact(HO_4.out.1 k_ e_.symm).1.1.1.2.2.2.2.2.1 h_.1.1|exact(HO_4.out.1 k_ e_.symm).1.1.1.1 h_.1.1|exact(HO_4.out.1 k_ e_.symm).1.1.1.1.1 h_.1.1|exact(HO_4.out.1 k_ e_.symm).1.1.1.1.2 h_.1.1|exact(HO_4.out.1 k_ e_.symm).1.1.1.1.2.1 h_.1.1|exact(HO_4.out.1 k_ e_.symm).1.1.1.1.2.2 h_.1.1|exact(HO_4.out.1 k_ e_.symm).1.1.1.1.2.2.1 h_.1.1|exact(HO_4.out.1 k_ e_.symm).1.1.1.1.2.2.2 h_.1.1|exact(HO_4.out.1 k_ e_.symm).1.1.1.1.2.2.2.1 h_.1.1|exact(HO_4.out.1 k_ e_.symm).1.1.1.1.2.2.2.2 h_.1.1|exact(HO_4.out.1 k_ e_.symm).1.1.1.1.2.2.2.2.1 h_.1.1|exact(HO_4.out.1 k_ e_.symm).1.1.1.1.2.2.2.2.2 h_.1.1|exact(HO_4.out.1 k_ e_.symm).1.1.1.1.2.2.2.2.2.1 h_.1.1|exact(HO_4.out.1 k_ e_.symm).1.1.1.1.1 h_.1.1|exact(HO_4.out.1 k_ e_.symm).1.1.1.1.1.1 h_.1.1|exact(HO_4.out.1 k_ e_.symm).1.1.1.1.1.2 h_.1.1|exact(HO_4.out.1 k_ e_.symm).1.1.1.1.1.2.1 h_.1.1|exact(HO_4.out.1 k_ e_.symm).1.1.1.1.1.2.2 h_.1.1|exact(HO_4.out.1 k_ e_.symm).1.1.1.1.1.2.2.1 h_.1.1|exact(HO_4.out.1 k_ e_.symm).1.1.1.1.1.2.2.2 h_.1.1|exact(HO_4.out.1 k_ e_.symm).1.1.1.1.1.2.2.2.1 h_.1.1|exact(HO_4.out.1 k_ e_.symm).1.1.1.1.1.2.2.2.2 h_.1.1|exact(HO_4.out.1 k_ e_.symm).1.1.1.1.1.2.2.2.2.1 h_.1.1|exact(HO_4.out.1 k_ e_.symm).1.1.1.1.1.2.2.2.2.2 h_.1.1|exact(HO_4.out.1 k_ e_.symm).1.1.1.1.1.2.2.2.2.2.1 h_.1.1)) (fun k_ e_=>HO_4.out.1 k_ e_));have n1_:=Aside0.mk (Kd.R_reok rfl (Kd.R_kept (ok:=fun k_=>some k_= (v711:Value).ownBlock) (by(with_reducible repeat(first|apply Kd.R_alloc|apply Kd.R_drewN|apply Kd.R_drew));exact Kd.R_tight rfl HO_7.out) hk_ (fun k_ e_ h_=>by rcases h_ with h_|h_|h_<;>first|exact h_ e_|exact h_.1 e_|exact h_.2 e_|exact h_.2.1 e_|exact h_.2.2 e_|exact h_.2.2.1 e_|exact h_.2.2.2 e_|exact h_.2.2.2.1 e_|exact h_.2.2.2.2 e_|exact h_.2.2.2.2.1 e_|exact h_.2.2.2.2.2 e_|exact h_.2.2.2.2.2.1 e_|exact h_.2.2.2.2.2.2 e_|exact h_.2.2.2.2.2.2.1 e_|exact h_.1 e_|exact h_.1.1 e_|exact h_.1.2 e_|exact h_.1.2.1 e_|exact h_.1.2.2 e_|exact h_.1.2.2.1 e_|exact h_.1.2.2.2 e_|exact h_.1.2.2.2.1 e_|exact h_.1.2.2.2.2 e_|exact h_.1.2.2.2.2.1 e_|exact h_.1.2.2.2.2.2 e_|exact h_.1.2.2.2.2.2.1 e_|exact h_.1.2.2.2.2.2.2 e_|exact h_.1.2.2.2.2.2.2.1 e_|exact h_.1.1 e_|exact h_.1.1.1 e_|exact h_.1.1.2 e_|exact h_.1.1.2.1 e_|exact h_.1.1.2.2 e_|exact h_.1.1.2.2.1 e_|exact h_.1.1.2.2.2 e_|exact h_.1.1.2.2.2.1 e_|exact h_.1.1.2.2.2.2 e_|exact h_.1.1.2.2.2.2.1 e_|exact h_.1.1.2.2.2.2.2 e_|exact h_.1.1.2.2.2.2.2.1 e_|exact h_.1.1.2.2.2.2.2.2 e_|exact h_.1.1.2.2.2.2.2.2.1 e_|exact h_.1.1.1 e_|exact h_.1.1.1.1 e_|exact h_.1.1.1.2 e_|exact h_.1.1.1.2.1 e_|exact h_.1.1.1.2.2 e_|exact h_.1.1.1.2.2.1 e_|exact h_.1.1.1.2.2.2 e_|exact h_.1.1.1.2.2.2.1 e_|exact h_.1.1.1.2.2.2.2 e_|exact h_.1.1.1.2.2.2.2.1 e_|exact h_.1.1.1.2.2.2.2.2 e_|exact h_.1.1.1.2.2.2.2.2.1 e_|exact h_.1.1.1.2.2.2.2.2.2 e_|exact h_.1.1.1.2.2.2.2.2.2.1 e_|exact h_.1.1.1.1 e_|exact h_.1.1.1.1.1 e_|exact h_.1.1.1.1.2 e_|exact h_.1.1.1.1.2.1 e_|exact h_.1.1.1.1.2.2 e_|exact h_.1.1.1.1.2.2.1 e_|exact h_.1.1.1.1.2.2.2 e_|exact h_.1.1.1.1.2.2.2.1 e_|exact h_.1.1.1.1.2.2.2.2 e_|exact h_.1.1.1.1.2.2.2.2.1 e_|exact h_.1.1.1.1.2.2.2.2.2 e_|exact h_.1.1.1.1.2.2.2.2.2.1 e_|exact h_.1.1.1.1.2.2.2.2.2.2 e_|exact h_.1.1.1.1.2.2.2.2.2.2.1 e_|exact h_.1.1.1.1.1 e_|exact h_.1.1.1.1.1.1 e_|exact h_.1.1.1.1.1.2 e_|exact h_.1.1.1.1.1.2.1 e_|exact h_.1.1.1.1.1.2.2 e_|exact h_.1.1.1.1.1.2.2.1 e_|exact h_.1.1.1.1.1.2.2.2 e_|exact h_.1.1.1.1.1.2.2.2.1 e_|exact h_.1.1.1.1.1.2.2.2.2 e_|exact h_.1.1.1.1.1.2.2.2.2.1 e_|exact h_.1.1.1.1.1.2.2.2.2.2 e_|exact h_.1.1.1.1.1.2.2.2.2.2.1 e_|exact h_.1.1.1.1.1.2.2.2.2.2.2 e_|exact h_.1.1.1.1.1.2.2.2.2.2.2.1 e_|exact h_.1.1.1.1.1.1 e_|exact h_.1.1.1.1.1.1.1 e_|exact h_.1.1.1.1.1.1.2 e_|exact h_.1.1.1.1.1.1.2.1 e_|exact h_.1.1.1.1.1.1.2.2 e_|exact h_.1.1.1.1.1.1.2.2.1 e_|exact h_.1.1.1.1.1.1.2.2.2 e_|exact h_.1.1.1.1.1.1.2.2.2.1 e_|exact h_.1.1.1.1.1.1.2.2.2.2 e_|exact h_.1.1.1.1.1.1.2.2.2.2.1 e_|exact h_.1.1.1.1.1.1.2.2.2.2.2 e_|exact h_.1.1.1.1.1.1.2.2.2.2.2.1 e_|exact h_.1.1.1.1.1.1.2.2.2.2.2.2 e_|exact h_.1.1.1.1.1.1.2.2.2.2.2.2.1 e_|exact h_.1.1.1.1.1.1.1 e_|exact h_.1.1.1.1.1.1.1.1 e_|exact h_.1.1.1.1.1.1.1.2 e_|exact h_.1.1.1.1.1.1.1.2.1 e_|exact h_.1.1.1.1.1.1.1.2.2 e_|exact h_.1.1.1.1.1.1.1.2.2.1 e_|exact h_.1.1.1.1.1.1.1.2.2.2 e_|exact h_.1.1.1.1.1.1.1.2.2.2.1 e_|exact h_.1.1.1.1.1.1.1.2.2.2.2 e_|exact h_.1.1.1.1.1.1.1.2.2.2.2.1 e_|exact h_.1.1.1.1.1.1.1.2.2.2.2.2 e_|exact h_.1.1.1.1.1.1.1.2.2.2.2.2.1 e_|exact h_.1.1.1.1.1.1.1.2.2.2.2.2.2 e_|exact h_.1.1.1.1.1.1.1.2.2.2.2.2.2.1 e_|exact h_.1.1.1.1.1.1.1.1 e_|exact h_.1.1.1.1.1.1.1.1.1 e_|exact h_.1.1.1.1.1.1.1.1.2 e_|exact h_.1.1.1.1.1.1.1.1.2.1 e_|exact h_.1.1.1.1.1.1.1.1.2.2 e_|exact h_.1.1.1.1.1.1.1.1.2.2.1 e_|exact h_.1.1.1.1.1.1.1.1.2.2.2 e_|exact h_.1.1.1.1.1.1.1.1.2.2.2.1 e_|exact h_.1.1.1.1.1.1.1.1.2.2.2.2 e_|exact h_.1.1.1.1.1.1.1.1.2.2.2.2.1 e_|exact h_.1.1.1.1.1.1.1.1.2.2.2.2.2 e_|exact h_.1.1.1.1.1.1.1.1.2.2.2.2.2.1 e_|exact h_.1.1.1.1.1.1.1.1.2.2.2.2.2.2 e_|exact h_.1.1.1.1.1.1.1.1.2.2.2.2.2.2.1 e_|exact h_.1.1.1.1.1.1.1.1.1 e_|exact h_.1.1.1.1.1.1.1.1.1.1 e_|exact h_.1.1.1.1.1.1.1.1.1.2 e_|exact h_.1.1.1.1.1.1.1.1.1.2.1 e_|exact h_.1.1.1.1.1.1.1.1.1.2.2 e_|exact h_.1.1.1.1.1.1.1.1.1.2.2.1 e_|exact h_.1.1.1.1.1.1.1.1.1.2.2.2 e_|exact h_.1.1.1.1.1.1.1.1.1.2.2.2.1 e_|exact h_.1.1.1.1.1.1.1.1.1.2.2.2.2 e_|exact h_.1.1.1.1.1.1.1.1.1.2.2.2.2.1 e_|exact h_.1.1.1.1.1.1.1.1.1.2.2.2.2.2 e_|exact h_.1.1.1.1.1.1.1.1.1.2.2.2.2.2.1 e_|exact h_.1.1.1.1.1.1.1.1.1.2.2.2.2.2.2 e_|exact h_.1.1.1.1.1.1.1.1.1.2.2.2.2.2.2.1 e_|exact h_.1.1.1.1.1.1.1.1.1.1 e_|exact h_.1.1.1.1.1.1.1.1.1.1.1 e_|exact h_.1.1.1.1.1.1.1.1.1.1.2 e_|exact h_.1.1.1.1.1.1.1.1.1.1.2.1 e_|exact h_.1.1.1.1.1.1.1.1.1.1.2.2 e_|exact h_.1.1.1.1.1.1.1.1.1.1.2.2.1 e_|exact h_.1.1.1.1.1.1.1.1.1.1.2.2.2 e_|exact h_.1.1.1.1.1.1.1.1.1.1.2.2.2.1 e_|exact h_.1.1.1.1.1.1.1.1.1.1.2.2.2.2 e_|exact h_.1.1.1.1.1.1.1.1.1.1.2.2.2.2.1 e_|exact h_.1.1.1.1.1.1.1.1.1.1.2.2.2.2.2 e_|exact h_.1.1.1.1.1.1.1.1.1.1.2.2.2.2.2.1 e_|exact h_.1.1.1.1.1.1.1.1.1.1.2.2.2.2.2.2 e_|exact h_.1.1.1.1.1.1.1.1.1.1.2.2.2.2.2.2.1 e_|exact h_.1.1.1.1.1.1.1.1.1.1.1 e_|exact h_.1.1.1.1.1.1.1.1.1.1.1.1 e_|exact h_.1.1.1.1.1.1.1.1.1.1.1.2 e_|exact h_.1.1.1.1.1.1.1.1.1.1.1.2.1 e_|exact h_.1.1.1.1.1.1.1.1.1.1.1.2.2 e_|exact h_.1.1.1.1.1.1.1.1.1.1.1.2.2.1 e_|exact h_.1.1.1.1.1.1.1.1.1.1.1.2.2.2 e_|exact h_.1.1.1.1.1.1.1.1.1.1.1.2.2.2.1 e_|exact h_.1.1.1.1.1.1.1.1.1.1.1.2.2.2.2 e_|exact h_.1.1.1.1.1.1.1.1.1.1.1.2.2.2.2.1 e_|exact h_.1.1.1.1.1.1.1.1.1.1.1.2.2.2.2.2 e_|exact h_.1.1.1.1.1.1.1.1.1.1.1.2.2.2.2.2.1 e_|exact h_.1.1.1.1.1.1.1.1.1.1.1.2.2.2.2.2.2 e_|exact h_.1.1.1.1.1.1.1.1.1.1.1.2.2.2.2.2.2.1 e_|exact h_.1.1.1.1.1.1.1.1.1.1.1.1 e_|exact h_.1.1.1.1.1.1.1.1.1.1.1.1.1 e_|exact h_.1.1.1.1.1.1.1.1.1.1.1.1.2 e_|exact h_.1.1.1.1.1.1.1.1.1.1.1.1.2.1 e_|exact h_.1.1.1.1.1.1.1.1.1.1.1.1.2.2 e_|exact h_.1.1.1.1.1.1.1.1.1.1.1.1.2.2.1 e_|exact h_.1.1.1.1.1.1.1.1.1.1.1.1.2.2.2 e_|exact h_.1.1.1.1.1.1.1.1.1.1.1.1.2.2.2.1 e_|exact h_.1.1.1.1.1.1.1.1.1.1.1.1.2.2.2.2 e_|exact h_.1.1.1.1.1.1.1.1.1.1.1.1.2.2.2.2.1 e_|exact h_.1.1.1.1.1.1.1.1.1.1.1.1.2.2.2.2.2 e_|exact h_.1.1.1.1.1.1.1.1.1.1.1.1.2.2.2.2.2.1 e_|exact h_.1.1.1.1.1.1.1.1.1.1.1.1.2.2.2.2.2.2 e_|exact h_.1.1.1.1.1.1.1.1.1.1.1.1.2.2.2.2.2.2.1 e_|exact(HO_7.out.1 k_ e_.symm) h_.1.1|exact(HO_7.out.1 k_ e_.symm).1 h_.1.1|exact(HO_7.out.1 k_ e_.symm).2 h_.1.1|exact(HO_7.out.1 k_ e_.symm).2.1 h_.1.1|exact(HO_7.out.1 k_ e_.symm).2.2 h_.1.1|exact(HO_7.out.1 k_ e_.symm).2.2.1 h_.1.1|exact(HO_7.out.1 k_ e_.symm).2.2.2 h_.1.1|exact(HO_7.out.1 k_ e_.symm).2.2.2.1 h_.1.1|exact(HO_7.out.1 k_ e_.symm).2.2.2.2 h_.1.1|exact(HO_7.out.1 k_ e_.symm).2.2.2.2.1 h_.1.1|exact(HO_7.out.1 k_ e_.symm).2.2.2.2.2 h_.1.1|exact(HO_7.out.1 k_ e_.symm).2.2.2.2.2.1 h_.1.1|exact(HO_7.out.1 k_ e_.symm).1 h_.1.1|exact(HO_7.out.1 k_ e_.symm).1.1 h_.1.1|exact(HO_7.out.1 k_ e_.symm).1.2 h_.1.1|exact(HO_7.out.1 k_ e_.symm).1.2.1 h_.1.1|exact(HO_7.out.1 k_ e_.symm).1.2.2 h_.1.1|exact(HO_7.out.1 k_ e_.symm).1.2.2.1 h_.1.1|exact(HO_7.out.1 k_ e_.symm).1.2.2.2 h_.1.1|exact(HO_7.out.1 k_ e_.symm).1.2.2.2.1 h_.1.1|exact(HO_7.out.1 k_ e_.symm).1.2.2.2.2 h_.1.1|exact(HO_7.out.1 k_ e_.symm).1.2.2.2.2.1 h_.1.1|exact(HO_7.out.1 k_ e_.symm).1.2.2.2.2.2 h_.1.1|exact(HO_7.out.1 k_ e_.symm).1.2.2.2.2.2.1 h_.1.1|exact(HO_7.out.1 k_ e_.symm).1.1 h_.1.1|exact(HO_7.out.1 k_ e_.symm).1.1.1 h_.1.1|exact(HO_7.out.1 k_ e_.symm).1.1.2 h_.1.1|exact(HO_7.out.1 k_ e_.symm).1.1.2.1 h_.1.1|exact(HO_7.out.1 k_ e_.symm).1.1.2.2 h_.1.1|exact(HO_7.out.1 k_ e_.symm).1.1.2.2.1 h_.1.1|exact(HO_7.out.1 k_ e_.symm).1.1.2.2.2 h_.1.1|exact(HO_7.out.1 k_ e_.symm).1.1.2.2.2.1 h_.1.1|exact(HO_7.out.1 k_ e_.symm).1.1.2.2.2.2 h_.1.1|exact(HO_7.out.1 k_ e_.symm).1.1.2.2.2.2.1 h_.1.1|exact(HO_7.out.1 k_ e_.symm).1.1.2.2.2.2.2 h_.1.1|exact(HO_7.out.1 k_ e_.symm).1.1.2.2.2.2.2.1 h_.1.1|exact(HO_7.out.1 k_ e_.symm).1.1.1 h_.1.1|exact(HO_7.out.1 k_ e_.symm).1.1.1.1 h_.1.1|exact(HO_7.out.1 k_ e_.symm).1.1.1.2 h_.1.1|exact(HO_7.out.1 k_ e_.symm).1.1.1.2.1 h_.1.1|exact(HO_7.out.1 k_ e_.symm).1.1.1.2.2 h_.1.1|exact(HO_7.out.1 k_ e_.symm).1.1.1.2.2.1 h_.1.1|exact(HO_7.out.1 k_ e_.symm).1.1.1.2.2.2 h_.1.1|exact(HO_7.out.1 k_ e_.symm).1.1.1.2.2.2.1 h_.1.1|exact(HO_7.out.1 k_ e_.symm).1.1.1.2.2.2.2 h_.1.1|exact(HO_7.out.1 k_ e_.symm).1.1.1.2.2.2.2.1 h_.1.1|exact(HO_7.out.1 k_ e_.symm).1.1.1.2.2.2.2.2 h_.1.1|exact(HO_7.out.1 k_ e_.symm).1.1.1.2.2.2.2.2.1 h_.1.1|exact(HO_7.out.1 k_ e_.symm).1.1.1.1 h_.1.1|exact(HO_7.out.1 k_ e_.symm).1.1.1.1.1 h_.1.1|exact(HO_7.out.1 k_ e_.symm).1.1.1.1.2 h_.1.1|exact(HO_7.out.1 k_ e_.symm).1.1.1.1.2.1 h_.1.1|exact(HO_7.out.1 k_ e_.symm).1.1.1.1.2.2 h_.1.1|exact(HO_7.out.1 k_ e_.symm).1.1.1.1.2.2.1 h_.1.1|exact(HO_7.out.1 k_ e_.symm).1.1.1.1.2.2.2 h_.1.1|exact(HO_7.out.1 k_ e_.symm).1.1.1.1.2.2.2.1 h_.1.1|exact(HO_7.out.1 k_ e_.symm).1.1.1.1.2.2.2.2 h_.1.1|exact(HO_7.out.1 k_ e_.symm).1.1.1.1.2.2.2.2.1 h_.1.1|exact(HO_7.out.1 k_ e_.symm).1.1.1.1.2.2.2.2.2 h_.1.1|exact(HO_7.out.1 k_ e_.symm).1.1.1.1.2.2.2.2.2.1 h_.1.1|exact(HO_7.out.1 k_ e_.symm).1.1.1.1.1 h_.1.1|exact(HO_7.out.1 k_ e_.symm).1.1.1.1.1.1 h_.1.1|exact(HO_7.out.1 k_ e_.symm).1.1.1.1.1.2 h_.1.1|exact(HO_7.out.1 k_ e_.symm).1.1.1.1.1.2.1 h_.1.1|exact(HO_7.out.1 k_ e_.symm).1.1.1.1.1.2.2 h_.1.1|exact(HO_7.out.1 k_ e_.symm).1.1.1.1.1.2.2.1 h_.1.1|exact(HO_7.out.1 k_ e_.symm).1.1.1.1.1.2.2.2 h_.1.1|exact(HO_7.out.1 k_ e_.symm).1.1.1.1.1.2.2.2.1 h_.1.1|exact(HO_7.out.1 k_ e_.symm).1.1.1.1.1.2.2.2.2 h_.1.1|exact(HO_7.out.1 k_ e_.symm).1.1.1.1.1.2.2.2.2.1 h_.1.1|exact(HO_7.out.1 k_ e_.symm).1.1.1.1.1.2.2.2.2.2 h_.1.1|exact(HO_7.out.1 k_ e_.symm).1.1.1.1.1.2.2.2.2.2.1 h_.1.1)) (fun k_ e_=>HO_7.out.1 k_ e_));have n2_:=Aside0.mk (Kd.S_mono s0_ (fun k_ h_=>h_.1.1));have n3_:=Aside0.mk (Kd.S_mono s1_ (fun k_ h_=>h_.1.1));have n4_:=Aside0.mk (Kd.R_reok rfl s2_ (fun k_ e_=>HO_710002.out.1 k_ e_));have n5_:=Aside0.mk (blk_kept_ (g:=gb685) (o:= .cells #[(.slice A0_0 l0_0.length c0_0),(.slice A0_1 l0_1.length c0_1),(.slice A0_2 l0_2.length c0_2)] 30 (0,0)) (zq3 BK685) hk_ (fun h_=>by rcases h_ with h_|h_|h_<;>exact h_.1.2 rfl));have n6_:=Aside0.mk (blk_kept_ (g:=gb709) (o:= .cells #[(.slice Ao24 t700.length co24),(.slice Ao27 t703.length co27),(.slice Ao28 t706.length co28)] 33 (0,0)) (zq3 BK709) hk_ (fun h_=>by rcases h_ with h_|h_|h_<;>exact h_.2 rfl));have n7_:=Aside0.mk (hb_);clear HO_4 HO_7 HO_710000 HO_710001 HO_710002 BK685 BK709 HB;have HO_4:=n0_;have HO_7:=n1_;have HO_710000:=n2_;have HO_710001:=n3_;have HO_710002:=n4_;have BK685:=n5_;have BK709:=n6_;have HB:=n7_;clear n0_ n1_ n2_ n3_ n4_ n5_ n6_ n7_;clear z0_ z1_ z2_ s0_ s1_ s2_ hb_ hk_))
      (try simp only [Act.put,List.setIfInBounds_toArray,List.set_cons_zero,List.set_cons_succ])
      go_cut [61] (fun v61 wc=> ∃ (kq:Nat) (x61_38:Bool),v61= .bool x61_38∧Aside0 (laws_FnExactMatchAll.j1 kq t696 t699 t710 x61_38 l0_0 l0_1 l0_2=some r)∧Aside0 (kq≤kj10)∧Aside0 (Kd.R (Kd.int .i64) 3 wc w.heap.size (fun k_=>some k_≠ (v711:Value).ownBlock∧some k_≠ ((.slice Ao28 t706.length co28):Value).ownBlock) v697 t696)∧Aside0 (Kd.R (Kd.int .i64) 3 wc w.heap.size (fun k_=>some k_≠ (v697:Value).ownBlock∧some k_≠ ((.slice Ao28 t706.length co28):Value).ownBlock) v711 t710)∧Aside0 (Kd.S (Kd.slice 3 (Kd.int .i64)) 22 wc w.heap.size (fun k_=>some k_≠ (v697:Value).ownBlock∧some k_≠ (v711:Value).ownBlock∧some k_≠ ((.slice Ao27 t703.length co27):Value).ownBlock∧some k_≠ ((.slice Ao28 t706.length co28):Value).ownBlock) (.slice Ao24 t700.length co24) q1_)∧Aside0 (Kd.S (Kd.slice 3 (Kd.int .i64)) 22 wc w.heap.size (fun k_=>some k_≠ (v697:Value).ownBlock∧some k_≠ (v711:Value).ownBlock∧some k_≠ ((.slice Ao24 t700.length co24):Value).ownBlock∧some k_≠ ((.slice Ao28 t706.length co28):Value).ownBlock) (.slice Ao27 t703.length co27) q2_)∧Aside0 (Kd.R (Kd.int .i64) 3 wc w.heap.size (fun k_=>some k_≠ (v697:Value).ownBlock∧some k_≠ (v711:Value).ownBlock) (.slice Ao28 t706.length co28) q3_)∧Aside0 (wc.heap[gb685]?=some (.cells #[(.slice A0_0 l0_0.length c0_0),(.slice A0_1 l0_1.length c0_1),(.slice A0_2 l0_2.length c0_2)] 30 (0,0)))∧Aside0 (wc.heap[gb709]?=some (.cells #[(.slice Ao24 t700.length co24),(.slice Ao27 t703.length co27),(.slice Ao28 t706.length co28)] 33 (0,0)))∧Aside0 (Below w.heap.size w wc))
      case first=>
       have H:=HC39.out
       clear HC39
       by_cases c46:t725< 0
       ·rw [if_pos c46] at H
        have c46b0:decide (t725< 0)=true:=decide_eq_true c46
        clear c46
        (first|rw [c46b0]|(simp only [i64_w,i32_w];rw [c46b0])|skip)
        exact absurd (H.trans (congrArg some HRT.out)) (by cases kj10<;>simp [laws_FnExactMatchAll.j1])
       ·rw [if_neg c46] at H
        have c46b0:decide (t725< 0)=false:=decide_eq_false c46
        clear c46
        (first|rw [c46b0]|(simp only [i64_w,i32_w];rw [c46b0])|skip)
        replace H:=Option.bind_eq_some_iff.mp H
        obtain⟨t726,A470,H⟩:=H
        replace H:(if t726=true then(laws_FnExactMatchAll.j1 kj10 t696 t699 t710 (t713 !=t699) l0_0 l0_1 l0_2) else(laws_FnExactMatchAll.j1 kj10 t696 t699 t710 true l0_0 l0_1 l0_2))=some r:=H
        have A47:=Aside0.mk A470
        clear A470
        by_cases c48:t726=true
        ·subst c48
         have H1:(laws_FnExactMatchAll.j1 kj10 t696 t699 t710 (t713 !=t699) l0_0 l0_1 l0_2)=some r:=by rw [if_pos rfl] at H;exact H
         clear H
         have H:=H1
         clear H1
         have H':=Aside0.mk H
         clear H
         obtain⟨Ao49,co49,eo49⟩:=Kd.R_slice HO_7.out
         subst eo49
         obtain⟨Ao50,co50,eo50⟩:=Kd.R_slice HO_4.out
         subst eo50
         go_wp2_with (first|(go_at_call 16;(with_reducible refine(laws_eqIntS.calls kj10 _ _ t710 _ _ t696 true _ ?side1 ?side2 ?side3 ?side4 A47.out).mono ?_);(case side1=>repeat(first|exact(Kd.R_reads' HO_7.out).2.2|(with_reducible refine Kd.C_alloc ?_ _)|(with_reducible refine Kd.C_drewN ?_ _)|(with_reducible refine Kd.C_drew ?_)));(case side2=>exact(Kd.R_reads' HO_7.out).2.1);(case side3=>repeat(first|exact(Kd.R_reads' HO_4.out).2.2|(with_reducible refine Kd.C_alloc ?_ _)|(with_reducible refine Kd.C_drewN ?_ _)|(with_reducible refine Kd.C_drew ?_)));(case side4=>exact(Kd.R_reads' HO_4.out).2.1);rintro e w' ⟨rfl,⟨nd,rfl⟩⟩))
         go_meet
         case rel=>exact⟨_,((t713 !=t699)),(by first|rfl|(simp;done)|(simp [*];done)),H',⟨by have:=HJ10.out;first|omega|exact Nat.le_refl _⟩,⟨by(with_reducible repeat(first|apply Kd.R_alloc|apply Kd.R_drewN|apply Kd.R_drew));exact Kd.R_mono HO_4.out (fun _ hk=>⟨hk.1.1,hk.1.2⟩)⟩,⟨by(with_reducible repeat(first|apply Kd.R_alloc|apply Kd.R_drewN|apply Kd.R_drew));exact Kd.R_mono HO_7.out (fun _ hk=>⟨hk.1.1,hk.1.2⟩)⟩,⟨by(with_reducible repeat(first|apply Kd.S_alloc|apply Kd.S_drewN|apply Kd.S_drew));exact Kd.S_mono HO_710000.out (fun _ hk=>⟨hk.1.1.1.1,⟨hk.1.1.1.2.1,⟨hk.1.1.1.2.2.1,hk.1.1.1.2.2.2.1⟩⟩⟩)⟩,⟨by(with_reducible repeat(first|apply Kd.S_alloc|apply Kd.S_drewN|apply Kd.S_drew));exact Kd.S_mono HO_710001.out (fun _ hk=>⟨hk.1.1.1.1,⟨hk.1.1.1.2.1,⟨hk.1.1.1.2.2.1,hk.1.1.1.2.2.2.1⟩⟩⟩)⟩,⟨by(with_reducible repeat(first|apply Kd.R_alloc|apply Kd.R_drewN|apply Kd.R_drew));exact Kd.R_mono HO_710002.out (fun _ hk=>⟨hk.1.1,hk.1.2⟩)⟩,⟨by(with_reducible repeat(first|refine blk_drewN ?_ _|refine blk_drew ?_ |refine blk_alloc ?_ _));exact BK685.out⟩,⟨by(with_reducible repeat(first|refine blk_drewN ?_ _|refine blk_drew ?_ |refine blk_alloc ?_ _));exact BK709.out⟩,⟨by repeat(first|(with_reducible first|exact HB.out|apply below_alloc|apply pw_below_drewN|apply below_drew1|refine below_set ?_ GE685.out|refine below_set ?_ GE709.out)|exact HB.out)⟩⟩
        ·replace c48:=Bool.eq_false_iff.mpr c48
         subst c48
         have H1:(laws_FnExactMatchAll.j1 kj10 t696 t699 t710 true l0_0 l0_1 l0_2)=some r:=by rw [if_neg (show ¬ (false=true) by decide)] at H;exact H
         clear H
         have H:=H1
         clear H1
         exact absurd (H.trans (congrArg some HRT.out)) (by cases kj10<;>simp [laws_FnExactMatchAll.j1])
      case rest=>
       clear HC39
       try clear c1
       try clear c2
       try clear p2
       try clear c3
       try clear c3b0
       try clear c4
       try clear c10
       try clear c16
       try clear c17
       try clear c19
       try clear c21
       try clear c25
       try clear c31
       try clear c34
       try clear c35
       try clear c36
       try clear c37
       try clear c46
       try clear c46b0
       try clear c47
       try clear c48
       try clear hcz13_0
       try clear hcz13_1
       try clear hcz13_2
       try clear hcz15_0
       try clear hcz15_1
       try clear hcz15_2
       try clear hcz21_0
       try clear hcz21_1
       try clear hcz21_2
       try clear hcz26_0
       try clear hcz26_1
       try clear hcz26_2
       try clear hcz5_0
       try clear hcz5_1
       try clear hcz5_2
       try clear hfz13_0
       try clear hfz13_1
       try clear hfz13_2
       try clear hfz15_0
       try clear hfz15_1
       try clear hfz15_2
       try clear hfz21_0
       try clear hfz21_1
       try clear hfz21_2
       try clear hfz26_0
       try clear hfz26_1
       try clear hfz26_2
       try clear hfz5_0
       try clear hfz5_1
       try clear hfz5_2
       try clear p2
       obtain⟨kq,x61_38,rfl,HA,HJ38,HO_4,HO_7,HO_710000,HO_710001,HO_710002,BK685,BK709,HB⟩:=hcut
       cases kq with
       |zero=>exact absurd HA.out (by simp [laws_FnExactMatchAll.j1])
       |succ kj38=>
        have H:=HA.out
        clear HA
        simp only [laws_FnExactMatchAll.j1] at H
        by_cases c51:x61_38=true
        ·subst c51
         have H1:(some false)=some r:=by rw [if_pos rfl] at H;exact H
         clear H
         have H:=H1
         clear H1
         exact absurd ((Option.some.inj H).trans HRT.out) (by decide)
        ·replace c51:=Bool.eq_false_iff.mpr c51
         subst c51
         have H1:((laws_markIntS.f kj38 t710 1).bind fun bt727=>((laws_heldIntS.f kj38 bt727.2 1).bind fun t729=>(if t729< 0 then(some false) else(if t729=bt727.1 then((laws_toWishes.f kj38 l0_0 l0_1 l0_2).bind fun bt730=>((impl_MatchAll.f kj38 bt730.1 bt730.2.1 bt730.2.2).bind fun bt739=>((laws_eqIntS.f kj38 bt739.1 t696).bind fun t743=>(if t743=true then(laws_FnExactMatchAll.j2 kj38 bt727.2 bt727.1 (bt739.2 !=t699)) else(laws_FnExactMatchAll.j2 kj38 bt727.2 bt727.1 true))))) else(some false)))))=some r:=by rw [if_neg (show ¬ (false=true) by decide)] at H;exact H
         clear H
         have H:=H1
         clear H1
         replace H:=Option.bind_eq_some_iff.mp H
         obtain⟨⟨t727,t728⟩,A520,H⟩:=H
         replace H:((laws_heldIntS.f kj38 t728 1).bind fun t729=>(if t729< 0 then(some false) else(if t729=t727 then((laws_toWishes.f kj38 l0_0 l0_1 l0_2).bind fun bt730=>((impl_MatchAll.f kj38 bt730.1 bt730.2.1 bt730.2.2).bind fun bt739=>((laws_eqIntS.f kj38 bt739.1 t696).bind fun t743=>(if t743=true then(laws_FnExactMatchAll.j2 kj38 t728 t727 (bt739.2 !=t699)) else(laws_FnExactMatchAll.j2 kj38 t728 t727 true))))) else(some false))))=some r:=H
         have A52:=Aside0.mk A520
         clear A520
         replace H:=Option.bind_eq_some_iff.mp H
         obtain⟨t729,A530,H⟩:=H
         replace H:(if t729< 0 then(some false) else(if t729=t727 then((laws_toWishes.f kj38 l0_0 l0_1 l0_2).bind fun bt730=>((impl_MatchAll.f kj38 bt730.1 bt730.2.1 bt730.2.2).bind fun bt739=>((laws_eqIntS.f kj38 bt739.1 t696).bind fun t743=>(if t743=true then(laws_FnExactMatchAll.j2 kj38 t728 t727 (bt739.2 !=t699)) else(laws_FnExactMatchAll.j2 kj38 t728 t727 true))))) else(some false)))=some r:=H
         have A53:=Aside0.mk A530
         clear A530
         by_cases c54:t729< 0
         ·rw [if_pos c54] at H
          have c54b0:decide (t729< 0)=true:=decide_eq_true c54
          clear c54
          exact absurd ((Option.some.inj H).trans HRT.out) (by decide)
         ·rw [if_neg c54] at H
          have c54b0:decide (t729< 0)=false:=decide_eq_false c54
          clear c54
          by_cases c55:t729=t727
          ·rw [if_pos c55] at H
           have c55b0:(t729==t727)=true:=beq_iff_eq.mpr c55
           have c55b1:(t729 !=t727)=false:=bne_eq_false_iff_eq.mpr c55
           clear c55
           replace H:=Option.bind_eq_some_iff.mp H
           obtain⟨⟨t730,t733,t736⟩,A560,H⟩:=H
           replace H:((impl_MatchAll.f kj38 t730 t733 t736).bind fun bt739=>((laws_eqIntS.f kj38 bt739.1 t696).bind fun t743=>(if t743=true then(laws_FnExactMatchAll.j2 kj38 t728 t727 (bt739.2 !=t699)) else(laws_FnExactMatchAll.j2 kj38 t728 t727 true))))=some r:=H
           have A56:=Aside0.mk A560
           clear A560
           replace H:=Option.bind_eq_some_iff.mp H
           obtain⟨⟨t739,t742⟩,A570,H⟩:=H
           replace H:((laws_eqIntS.f kj38 t739 t696).bind fun t743=>(if t743=true then(laws_FnExactMatchAll.j2 kj38 t728 t727 (t742 !=t699)) else(laws_FnExactMatchAll.j2 kj38 t728 t727 true)))=some r:=H
           have A57:=Aside0.mk A570
           clear A570
           have HC58:=Aside0.mk H
           clear H
           obtain⟨Ao59,co59,eo59⟩:=Kd.R_slice HO_7.out
           subst eo59
           go_upto_region 25 with (first|((with_reducible refine gate_callee (f:=27) rfl ?_);refine goesL_ (some 64) rfl rfl Try.func27 (by kernel_rfl) rfl #[.slice Ao59 t710.length co59,.int .i64 1] rfl zq2 ?_;(with_reducible refine(laws_markIntS.calls kj38 (fun k_=>some k_= (.slice Ao59 t710.length co59:Value).ownBlock) (.slice Ao59 t710.length co59) t710 1 t727 t728 w _ ?side1 ?side2 A52.out).mono ?_);(case side1=>repeat(first|(with_reducible first|exact HB.out|apply below_alloc|apply pw_below_drewN|apply below_drew1|refine below_set ?_ GE685.out|refine below_set ?_ GE709.out)|exact HB.out));(case side2=>exact Kd.R_tight rfl HO_7.out);rintro e w60 ⟨rfl,hy0,hb,hkp⟩;refine⟨_,rfl,?_⟩;have n0_:=Aside0.mk (Kd.R_mono (ok':=fun k_=>some k_≠ (.slice Ao59 t710.length co59:Value).ownBlock∧some k_≠ (.slice Ao28 t706.length co28:Value).ownBlock) (Kd.R_keptB (HO_4.out) hkp (fun k_ hk_ hs_=>(hk_.1) hs_)) (fun k_ hk_=>⟨hk_.1.1,hk_.1.2⟩));have n1_:=Aside0.mk (Kd.R_reok rfl hy0 (fun k_ e_=>HO_7.out.1 k_ e_));have n2_:=Aside0.mk (Kd.S_mono (ok':=fun k_=>some k_≠ (v697:Value).ownBlock∧some k_≠ (.slice Ao59 t710.length co59:Value).ownBlock∧some k_≠ (.slice Ao27 t703.length co27:Value).ownBlock∧some k_≠ (.slice Ao28 t706.length co28:Value).ownBlock) (Kd.S_keptB (HO_710000.out) hkp (fun k_ hk_ hs_=>(hk_.2.1) hs_)) (fun k_ hk_=>⟨hk_.1.1,hk_.1.2.1,hk_.1.2.2.1,hk_.1.2.2.2⟩));have n3_:=Aside0.mk (Kd.S_mono (ok':=fun k_=>some k_≠ (v697:Value).ownBlock∧some k_≠ (.slice Ao59 t710.length co59:Value).ownBlock∧some k_≠ (.slice Ao24 t700.length co24:Value).ownBlock∧some k_≠ (.slice Ao28 t706.length co28:Value).ownBlock) (Kd.S_keptB (HO_710001.out) hkp (fun k_ hk_ hs_=>(hk_.2.1) hs_)) (fun k_ hk_=>⟨hk_.1.1,hk_.1.2.1,hk_.1.2.2.1,hk_.1.2.2.2⟩));have n4_:=Aside0.mk (Kd.R_mono (ok':=fun k_=>some k_≠ (v697:Value).ownBlock∧some k_≠ (.slice Ao59 t710.length co59:Value).ownBlock) (Kd.R_keptB (HO_710002.out) hkp (fun k_ hk_ hs_=>(hk_.2) hs_)) (fun k_ hk_=>⟨hk_.1.1,hk_.1.2⟩));have n5_:=Aside0.mk (blk_kept (zq3 BK685) hkp (fun hs_=>(fun e_=>(Kd.R_ne HO_7.out BK685.out (by decide)) e_) hs_));have n6_:=Aside0.mk (blk_kept (zq3 BK709) hkp (fun hs_=>(fun e_=>(Kd.R_ne HO_7.out BK709.out (by decide)) e_) hs_));have n7_:=Aside0.mk (hb);clear HO_4;clear HO_7;clear HO_710000;clear HO_710001;clear HO_710002;clear BK685;clear BK709;clear HB;have HO_4:=n0_;have HO_7:=n1_;have HO_710000:=n2_;have HO_710001:=n3_;have HO_710002:=n4_;have BK685:=n5_;have BK709:=n6_;have HB:=n7_;clear n0_ n1_ n2_ n3_ n4_ n5_ n6_ n7_;(try clear hb);(try clear hkp);(try clear hy0))|((with_reducible refine gate_callee (f:=28) rfl ?_);refine goesL_ (some 67) rfl rfl Try.func28 (by kernel_rfl) rfl #[.slice Ao59 t728.length co59,.int .i64 1] rfl (by(try simp only [List.map_toArray,List.map_cons,List.map_nil]);first|done|(rw [show t728.length=t710.length from (Kd.R_reads' HO_7.out).1.symm]<;>rfl)|rfl|(simp only [List.length_drop,List.length_take];rfl)) ?_;(with_reducible refine(laws_heldIntS.calls kj38 _ _ t728 1 t729 _ ?side1 ?side2 A53.out).mono ?_);(case side1=>repeat(first|exact(Kd.R_reads' HO_7.out).2.2|(with_reducible refine Kd.C_alloc ?_ _)|(with_reducible refine Kd.C_drewN ?_ _)|(with_reducible refine Kd.C_drew ?_)));(case side2=>rw [show t728.length=t710.length from (Kd.R_reads' HO_7.out).1.symm];exact(Kd.R_reads' HO_7.out).2.1);rintro e w' ⟨rfl,⟨nd,rfl⟩⟩;refine⟨_,rfl,?_⟩;have hnb61:=NB685_709.out;have hnc61:=NB709_685.out;have hcz62_0:w60.cell? ⟨gb685,0,none⟩=some (.slice A0_0 l0_0.length c0_0):=(blk_cell BK685.out 0).trans rfl;have hcz62_1:w60.cell? ⟨gb685,1,none⟩=some (.slice A0_1 l0_1.length c0_1):=(blk_cell BK685.out 1).trans rfl;have hcz62_2:w60.cell? ⟨gb685,2,none⟩=some (.slice A0_2 l0_2.length c0_2):=(blk_cell BK685.out 2).trans rfl;have hfz62_0:=blk_frozen BK685.out 0;have hfz62_1:=blk_frozen BK685.out 1;have hfz62_2:=blk_frozen BK685.out 2)|((with_reducible refine gate_callee (f:=19) rfl ?_);refine goesL_ (some 75) rfl rfl Try.func19 (by kernel_rfl) rfl #[.agg #[.slice A0_0 l0_0.length c0_0,.slice A0_1 l0_1.length c0_1,.slice A0_2 l0_2.length c0_2]] rfl zq2 ?_;(with_reducible refine(laws_toWishes.calls kj38 _ _ l0_0 _ _ l0_1 _ _ l0_2 t730 t733 t736 _ ?side1 ?side2 ?side3 ?side4 ?side5 ?side6 A56.out).mono ?_);(case side1=>repeat(first|exact(Kd.C_below HR0_0.out (zb2 HB GE685 GE709))|(with_reducible refine Kd.C_alloc ?_ _)|(with_reducible refine Kd.C_drewN ?_ _)|(with_reducible refine Kd.C_drew ?_)));(case side2=>exact HC0_0.out);(case side3=>repeat(first|exact(Kd.C_below HR0_1.out (zb2 HB GE685 GE709))|(with_reducible refine Kd.C_alloc ?_ _)|(with_reducible refine Kd.C_drewN ?_ _)|(with_reducible refine Kd.C_drew ?_)));(case side4=>exact HC0_1.out);(case side5=>repeat(first|exact(Kd.C_below HR0_2.out (zb2 HB GE685 GE709))|(with_reducible refine Kd.C_alloc ?_ _)|(with_reducible refine Kd.C_drewN ?_ _)|(with_reducible refine Kd.C_drew ?_)));(case side6=>exact HC0_2.out);rintro e w63 ⟨v731,v734,v737,rfl,ho0,ho1,ho2,hb⟩;refine⟨_,rfl,?_⟩;have n0_:=Aside0.mk (Kd.R_elder' (zq4 HO_4) (Kd.R_base ho2) hb);have n1_:=Aside0.mk (Kd.R_elder' (zq4 HO_7) (Kd.R_base ho2) hb);have n2_:=Aside0.mk (Kd.S_mono (Kd.S_told (Kd.S_told (Kd.S_told (Kd.S_old (by(with_reducible repeat(first|apply Kd.S_alloc|apply Kd.S_drewN|apply Kd.S_drew));exact HO_710000.out) hb) (Kd.S_base ho0)) (Kd.S_base ho1)) (Kd.R_base ho2)) (fun _ h_=>h_.1));have n3_:=Aside0.mk (Kd.S_mono (Kd.S_told (Kd.S_told (Kd.S_told (Kd.S_old (by(with_reducible repeat(first|apply Kd.S_alloc|apply Kd.S_drewN|apply Kd.S_drew));exact HO_710001.out) hb) (Kd.S_base ho0)) (Kd.S_base ho1)) (Kd.R_base ho2)) (fun _ h_=>h_.1));have n4_:=Aside0.mk (Kd.R_elder' (zq4 HO_710002) (Kd.R_base ho2) hb);have n5_:=Aside0.mk (Kd.S_lower (Kd.S_new' (Kd.S_new' (Kd.S_new' (Kd.S_new' (Kd.S_new' ho0 (Kd.R_lt (zq4 HO_4))) (Kd.R_lt (zq4 HO_7))) (Kd.S_lt (by(with_reducible repeat(first|apply Kd.S_alloc|apply Kd.S_drewN|apply Kd.S_drew));exact HO_710000.out))) (Kd.S_lt (by(with_reducible repeat(first|apply Kd.S_alloc|apply Kd.S_drewN|apply Kd.S_drew));exact HO_710001.out))) (Kd.R_lt (zq4 HO_710002))) (below_size (zb2 HB GE685 GE709)));have n6_:=Aside0.mk (Kd.S_lower (Kd.S_new' (Kd.S_new' (Kd.S_new' (Kd.S_new' (Kd.S_new' ho1 (Kd.R_lt (zq4 HO_4))) (Kd.R_lt (zq4 HO_7))) (Kd.S_lt (by(with_reducible repeat(first|apply Kd.S_alloc|apply Kd.S_drewN|apply Kd.S_drew));exact HO_710000.out))) (Kd.S_lt (by(with_reducible repeat(first|apply Kd.S_alloc|apply Kd.S_drewN|apply Kd.S_drew));exact HO_710001.out))) (Kd.R_lt (zq4 HO_710002))) (below_size (zb2 HB GE685 GE709)));have n7_:=Aside0.mk (Kd.R_lower (Kd.R_new' (Kd.R_new' (Kd.R_new' ho2 (Kd.R_lt (zq4 HO_4))) (Kd.R_lt (zq4 HO_7))) (Kd.R_lt (zq4 HO_710002))) (below_size (zb2 HB GE685 GE709)));have n8_:=Aside0.mk (blk_below (g:=gb685) (o:= .cells #[.slice A0_0 l0_0.length c0_0,.slice A0_1 l0_1.length c0_1,.slice A0_2 l0_2.length c0_2] 30 (0,0)) (zq3 BK685) hb);have n9_:=Aside0.mk (blk_below (g:=gb709) (o:= .cells #[.slice Ao24 t700.length co24,.slice Ao27 t703.length co27,.slice Ao28 t706.length co28] 33 (0,0)) (zq3 BK709) hb);have n10_:=Aside0.mk (below_step (zb2 HB GE685 GE709) hb);clear HO_4;clear HO_7;clear HO_710000;clear HO_710001;clear HO_710002;clear BK685;clear BK709;clear HB;have HO_4:=n0_;have HO_7:=n1_;have HO_710000:=n2_;have HO_710001:=n3_;have HO_710002:=n4_;have HO732:=n5_;have HO735:=n6_;have HO738:=n7_;have BK685:=n8_;have BK709:=n9_;have HB:=n10_;clear n0_ n1_ n2_ n3_ n4_ n5_ n6_ n7_ n8_ n9_ n10_;(try clear hb);(try clear hb2);(try clear hk);(try clear hi);(try clear ho0);(try clear ho1);(try clear ho2);obtain⟨Ao64,co64,eo64⟩:=Kd.S_slice HO732.out;subst eo64;obtain⟨Ao65,co65,eo65⟩:=Kd.S_slice HO735.out;subst eo65;obtain⟨Ao66,co66,eo66⟩:=Kd.R_slice HO738.out;subst eo66)|((with_reducible refine gate_callee (f:=36) rfl ?_);refine goesL_ (some 76) rfl rfl Try.func36 (by kernel_rfl) rfl #[.agg #[.slice Ao64 t730.length co64,.slice Ao65 t733.length co65,.slice Ao66 t736.length co66]] rfl zq2 ?_;(with_reducible refine(impl_MatchAll.calls kj38 _ _ t730 _ _ t733 _ _ t736 t739 t742 _ ?side1 ?side2 ?side3 ?side4 ?side5 ?side6 A57.out).mono ?_);(case side1=>repeat(first|exact(Kd.S_reads' HO732.out).2.2|(with_reducible refine Kd.C_alloc ?_ _)|(with_reducible refine Kd.C_drewN ?_ _)|(with_reducible refine Kd.C_drew ?_)));(case side2=>exact(Kd.S_reads' HO732.out).2.1);(case side3=>repeat(first|exact(Kd.S_reads' HO735.out).2.2|(with_reducible refine Kd.C_alloc ?_ _)|(with_reducible refine Kd.C_drewN ?_ _)|(with_reducible refine Kd.C_drew ?_)));(case side4=>exact(Kd.S_reads' HO735.out).2.1);(case side5=>repeat(first|exact(Kd.R_reads' HO738.out).2.2|(with_reducible refine Kd.C_alloc ?_ _)|(with_reducible refine Kd.C_drewN ?_ _)|(with_reducible refine Kd.C_drew ?_)));(case side6=>exact(Kd.R_reads' HO738.out).2.1);rintro e w67 ⟨v740,rfl,ho0,hb⟩;refine⟨_,rfl,?_⟩;have n0_:=Aside0.mk (Kd.R_elder' (zq4 HO_4) (Kd.R_base ho0) hb);have n1_:=Aside0.mk (Kd.R_elder' (zq4 HO_7) (Kd.R_base ho0) hb);have n2_:=Aside0.mk (Kd.S_elder' (by(with_reducible repeat(first|apply Kd.S_alloc|apply Kd.S_drewN|apply Kd.S_drew));exact HO_710000.out) (Kd.R_base ho0) hb);have n3_:=Aside0.mk (Kd.S_elder' (by(with_reducible repeat(first|apply Kd.S_alloc|apply Kd.S_drewN|apply Kd.S_drew));exact HO_710001.out) (Kd.R_base ho0) hb);have n4_:=Aside0.mk (Kd.R_elder' (zq4 HO_710002) (Kd.R_base ho0) hb);have n5_:=Aside0.mk (Kd.S_elder' (by(with_reducible repeat(first|apply Kd.S_alloc|apply Kd.S_drewN|apply Kd.S_drew));exact HO732.out) (Kd.R_base ho0) hb);have n6_:=Aside0.mk (Kd.S_elder' (by(with_reducible repeat(first|apply Kd.S_alloc|apply Kd.S_drewN|apply Kd.S_drew));exact HO735.out) (Kd.R_base ho0) hb);have n7_:=Aside0.mk (Kd.R_elder' (zq4 HO738) (Kd.R_base ho0) hb);have n8_:=Aside0.mk (Kd.R_lower (Kd.R_new' (Kd.R_new' (Kd.R_new' (Kd.R_new' ho0 (Kd.R_lt (zq4 HO_4))) (Kd.R_lt (zq4 HO_7))) (Kd.R_lt (zq4 HO_710002))) (Kd.R_lt (zq4 HO738))) (below_size (zb2 HB GE685 GE709)));have n9_:=Aside0.mk (blk_below (g:=gb685) (o:= .cells #[.slice A0_0 l0_0.length c0_0,.slice A0_1 l0_1.length c0_1,.slice A0_2 l0_2.length c0_2] 30 (0,0)) (zq3 BK685) hb);have n10_:=Aside0.mk (blk_below (g:=gb709) (o:= .cells #[.slice Ao24 t700.length co24,.slice Ao27 t703.length co27,.slice Ao28 t706.length co28] 33 (0,0)) (zq3 BK709) hb);have n11_:=Aside0.mk (below_step (zb2 HB GE685 GE709) hb);clear HO_4;clear HO_7;clear HO_710000;clear HO_710001;clear HO_710002;clear HO732;clear HO735;clear HO738;clear BK685;clear BK709;clear HB;have HO_4:=n0_;have HO_7:=n1_;have HO_710000:=n2_;have HO_710001:=n3_;have HO_710002:=n4_;have HO732:=n5_;have HO735:=n6_;have HO738:=n7_;have HO741:=n8_;have BK685:=n9_;have BK709:=n10_;have HB:=n11_;clear n0_ n1_ n2_ n3_ n4_ n5_ n6_ n7_ n8_ n9_ n10_ n11_;(try clear hb);(try clear hb2);(try clear hk);(try clear hi);(try clear ho0)))
           (try simp only [Act.put,List.setIfInBounds_toArray,List.set_cons_zero,List.set_cons_succ])
           go_cut [87] (fun v87 wc=> ∃ (kq:Nat) (x87_57:Bool),v87= .bool x87_57∧Aside0 (laws_FnExactMatchAll.j2 kq t728 t727 x87_57=some r)∧Aside0 (kq≤kj38)∧Aside0 (Kd.R (Kd.int .i64) 3 wc w.heap.size (fun k_=>some k_≠ ((.slice Ao28 t706.length co28):Value).ownBlock) (.slice Ao59 t710.length co59) t728)∧Aside0 (Kd.S (Kd.slice 3 (Kd.int .i64)) 22 wc w.heap.size (fun k_=>some k_≠ ((.slice Ao59 t710.length co59):Value).ownBlock∧some k_≠ ((.slice Ao27 t703.length co27):Value).ownBlock∧some k_≠ ((.slice Ao28 t706.length co28):Value).ownBlock) (.slice Ao24 t700.length co24) q1_)∧Aside0 (Kd.S (Kd.slice 3 (Kd.int .i64)) 22 wc w.heap.size (fun k_=>some k_≠ ((.slice Ao59 t710.length co59):Value).ownBlock∧some k_≠ ((.slice Ao24 t700.length co24):Value).ownBlock∧some k_≠ ((.slice Ao28 t706.length co28):Value).ownBlock) (.slice Ao27 t703.length co27) q2_)∧Aside0 (Kd.R (Kd.int .i64) 3 wc w.heap.size (fun k_=>some k_≠ ((.slice Ao59 t710.length co59):Value).ownBlock) (.slice Ao28 t706.length co28) q3_)∧Aside0 (wc.heap[gb685]?=some (.cells #[(.slice A0_0 l0_0.length c0_0),(.slice A0_1 l0_1.length c0_1),(.slice A0_2 l0_2.length c0_2)] 30 (0,0)))∧Aside0 (wc.heap[gb709]?=some (.cells #[(.slice Ao24 t700.length co24),(.slice Ao27 t703.length co27),(.slice Ao28 t706.length co28)] 33 (0,0)))∧Aside0 (Below w.heap.size w wc))
           case first=>
            have H:=HC58.out
            clear HC58
            replace H:=Option.bind_eq_some_iff.mp H
            obtain⟨t743,A680,H⟩:=H
            replace H:(if t743=true then(laws_FnExactMatchAll.j2 kj38 t728 t727 (t742 !=t699)) else(laws_FnExactMatchAll.j2 kj38 t728 t727 true))=some r:=H
            have A68:=Aside0.mk A680
            clear A680
            by_cases c69:t743=true
            ·subst c69
             have H1:(laws_FnExactMatchAll.j2 kj38 t728 t727 (t742 !=t699))=some r:=by rw [if_pos rfl] at H;exact H
             clear H
             have H:=H1
             clear H1
             have H':=Aside0.mk H
             clear H
             obtain⟨Ao70,co70,eo70⟩:=Kd.R_slice HO741.out
             subst eo70
             obtain⟨Ao71,co71,eo71⟩:=Kd.R_slice HO_4.out
             subst eo71
             go_wp2_with (first|((with_reducible refine gate_callee (f:=16) rfl ?_);refine goesL_ (some 81) rfl rfl Try.func16 (by kernel_rfl) rfl #[.slice Ao70 t739.length co70,.slice Ao71 t696.length co71] rfl zq2 ?_;(with_reducible refine(laws_eqIntS.calls kj38 _ _ t739 _ _ t696 true _ ?side1 ?side2 ?side3 ?side4 A68.out).mono ?_);(case side1=>repeat(first|exact(Kd.R_reads' HO741.out).2.2|(with_reducible refine Kd.C_alloc ?_ _)|(with_reducible refine Kd.C_drewN ?_ _)|(with_reducible refine Kd.C_drew ?_)));(case side2=>exact(Kd.R_reads' HO741.out).2.1);(case side3=>repeat(first|exact(Kd.R_reads' HO_4.out).2.2|(with_reducible refine Kd.C_alloc ?_ _)|(with_reducible refine Kd.C_drewN ?_ _)|(with_reducible refine Kd.C_drew ?_)));(case side4=>exact(Kd.R_reads' HO_4.out).2.1);rintro e w' ⟨rfl,⟨nd,rfl⟩⟩;refine⟨_,rfl,?_⟩))
             go_meet
             case rel=>exact⟨_,((t742 !=t699)),(by first|rfl|(simp;done)|(simp [*];done)),H',⟨by have:=HJ10.out;have:=HJ38.out;first|omega|exact Nat.le_refl _⟩,⟨by(with_reducible repeat(first|apply Kd.R_alloc|apply Kd.R_drewN|apply Kd.R_drew));exact Kd.R_mono HO_7.out (fun _ hk=>hk.1.1.2)⟩,⟨by(with_reducible repeat(first|apply Kd.S_alloc|apply Kd.S_drewN|apply Kd.S_drew));exact Kd.S_mono HO_710000.out (fun _ hk=>⟨hk.1.1.1.1.2.1,⟨hk.1.1.1.1.2.2.1,hk.1.1.1.1.2.2.2⟩⟩)⟩,⟨by(with_reducible repeat(first|apply Kd.S_alloc|apply Kd.S_drewN|apply Kd.S_drew));exact Kd.S_mono HO_710001.out (fun _ hk=>⟨hk.1.1.1.1.2.1,⟨hk.1.1.1.1.2.2.1,hk.1.1.1.1.2.2.2⟩⟩)⟩,⟨by(with_reducible repeat(first|apply Kd.R_alloc|apply Kd.R_drewN|apply Kd.R_drew));exact Kd.R_mono HO_710002.out (fun _ hk=>hk.1.1.2)⟩,⟨by(with_reducible repeat(first|refine blk_drewN ?_ _|refine blk_drew ?_ |refine blk_alloc ?_ _));exact BK685.out⟩,⟨by(with_reducible repeat(first|refine blk_drewN ?_ _|refine blk_drew ?_ |refine blk_alloc ?_ _));exact BK709.out⟩,⟨by repeat(first|(with_reducible first|exact HB.out|apply below_alloc|apply pw_below_drewN|apply below_drew1|refine below_set ?_ GE685.out|refine below_set ?_ GE709.out)|exact HB.out)⟩⟩
            ·replace c69:=Bool.eq_false_iff.mpr c69
             subst c69
             have H1:(laws_FnExactMatchAll.j2 kj38 t728 t727 true)=some r:=by rw [if_neg (show ¬ (false=true) by decide)] at H;exact H
             clear H
             have H:=H1
             clear H1
             exact absurd (H.trans (congrArg some HRT.out)) (by cases kj38<;>simp [laws_FnExactMatchAll.j2])
           case rest=>
            clear HC58
            try clear c1
            try clear c2
            try clear p2
            try clear c3
            try clear c3b0
            try clear c4
            try clear c5
            try clear c6
            try clear c10
            try clear c16
            try clear c17
            try clear c19
            try clear c21
            try clear c25
            try clear c27
            try clear c28
            try clear c31
            try clear c34
            try clear c35
            try clear c36
            try clear c37
            try clear c46
            try clear c46b0
            try clear c47
            try clear c48
            try clear c51
            try clear c54
            try clear c54b0
            try clear c55
            try clear c55b0
            try clear c55b1
            try clear c61
            try clear c69
            try clear hcz13_0
            try clear hcz13_1
            try clear hcz13_2
            try clear hcz15_0
            try clear hcz15_1
            try clear hcz15_2
            try clear hcz21_0
            try clear hcz21_1
            try clear hcz21_2
            try clear hcz26_0
            try clear hcz26_1
            try clear hcz26_2
            try clear hcz5_0
            try clear hcz5_1
            try clear hcz5_2
            try clear hcz62_0
            try clear hcz62_1
            try clear hcz62_2
            try clear hfz13_0
            try clear hfz13_1
            try clear hfz13_2
            try clear hfz15_0
            try clear hfz15_1
            try clear hfz15_2
            try clear hfz21_0
            try clear hfz21_1
            try clear hfz21_2
            try clear hfz26_0
            try clear hfz26_1
            try clear hfz26_2
            try clear hfz5_0
            try clear hfz5_1
            try clear hfz5_2
            try clear hfz62_0
            try clear hfz62_1
            try clear hfz62_2
            try clear p2
            obtain⟨kq,x87_57,rfl,HA,HJ57,HO_7,HO_710000,HO_710001,HO_710002,BK685,BK709,HB⟩:=hcut
            have hl7_57:=(Kd.R_reads' HO_7.out).1
            rw [hl7_57] at HO_7
            (try simp only [hl7_57])
            (try simp only [hl7_57] at BK685)
            (try simp only [hl7_57] at BK709)
            (try simp only [hl7_57] at HO_710000)
            (try simp only [hl7_57] at HO_710001)
            (try simp only [hl7_57] at HO_710002)
            cases kq with
            |zero=>exact absurd HA.out (by simp [laws_FnExactMatchAll.j2])
            |succ kj57=>
             have H:=HA.out
             clear HA
             simp only [laws_FnExactMatchAll.j2] at H
             by_cases c72:x87_57=true
             ·subst c72
              have H1:(some false)=some r:=by rw [if_pos rfl] at H;exact H
              clear H
              have H:=H1
              clear H1
              exact absurd ((Option.some.inj H).trans HRT.out) (by decide)
             ·replace c72:=Bool.eq_false_iff.mpr c72
              subst c72
              have H1:((laws_heldIntS.f kj57 t728 1).bind fun t744=>(if t744< 0 then(some false) else(if t744=t727 then(some true) else(some false))))=some r:=by rw [if_neg (show ¬ (false=true) by decide)] at H;exact H
              clear H
              have H:=H1
              clear H1
              replace H:=Option.bind_eq_some_iff.mp H
              obtain⟨t744,A730,H⟩:=H
              replace H:(if t744< 0 then(some false) else(if t744=t727 then(some true) else(some false)))=some r:=H
              have A73:=Aside0.mk A730
              clear A730
              by_cases c74:t744< 0
              ·rw [if_pos c74] at H
               have c74b0:decide (t744< 0)=true:=decide_eq_true c74
               clear c74
               exact absurd ((Option.some.inj H).trans HRT.out) (by decide)
              ·rw [if_neg c74] at H
               have c74b0:decide (t744< 0)=false:=decide_eq_false c74
               clear c74
               by_cases c75:t744=t727
               ·rw [if_pos c75] at H
                have c75b0:(t744==t727)=true:=beq_iff_eq.mpr c75
                have c75b1:(t744 !=t727)=false:=bne_eq_false_iff_eq.mpr c75
                clear c75
                obtain rfl:=Option.some.inj H
                go_wp2_with (first|((with_reducible refine gate_callee (f:=28) rfl ?_);refine goesL_ (some 90) rfl rfl Try.func28 (by kernel_rfl) rfl #[.slice Ao59 t728.length co59,.int .i64 1] rfl zq2 ?_;(with_reducible refine(laws_heldIntS.calls kj57 _ _ t728 1 t744 _ ?side1 ?side2 A73.out).mono ?_);(case side1=>repeat(first|exact(Kd.R_reads' HO_7.out).2.2|(with_reducible refine Kd.C_alloc ?_ _)|(with_reducible refine Kd.C_drewN ?_ _)|(with_reducible refine Kd.C_drew ?_)));(case side2=>exact(Kd.R_reads' HO_7.out).2.1);rintro e w' ⟨rfl,⟨nd,rfl⟩⟩;refine⟨_,rfl,?_⟩))
                go_ret
                exact⟨by first|rfl|(simp [errW_none,errW_some]<;>rfl)|(simp [*,errW_none,errW_some]<;>rfl),by repeat(first|(with_reducible first|exact HB.out|apply below_alloc|apply pw_below_drewN|apply below_drew1|refine below_set ?_ GE685.out|refine below_set ?_ GE709.out)|exact HB.out)⟩
               ·rw [if_neg c75] at H
                have c75b0:(t744==t727)=false:=beq_eq_false_iff_ne.mpr c75
                have c75b1:(t744 !=t727)=true:=bne_iff_ne.mpr c75
                exact absurd ((Option.some.inj H).trans HRT.out) (by decide)
          ·rw [if_neg c55] at H
           have c55b0:(t729==t727)=false:=beq_eq_false_iff_ne.mpr c55
           have c55b1:(t729 !=t727)=true:=bne_iff_ne.mpr c55
           exact absurd ((Option.some.inj H).trans HRT.out) (by decide)
     ·replace c37:=Bool.eq_false_iff.mpr c37
      subst c37
      have H1:(some false)=some r:=by rw [if_neg (show ¬ (false=true) by decide)] at H;exact H
      clear H
      have H:=H1
      clear H1
      exact absurd ((Option.some.inj H).trans HRT.out) (by decide)
end Go.Proofs.Ytoipbblhmcpneaa.P

namespace Go.Proofs.Ytoipbblhmcpneaa.P
open Go.RowKit Go.Proofs.YtoipbblhmcpneaaW.PrintWords Go.Proofs.YtoipbblhmcpneaaW.PrintLast
def wfS30 (s : S30) : Prop := (fun l : List (List Int) => l.length ≤ maxLen ∧ ∀ x ∈ l, (fun l : List Int => l.length ≤ maxLen ∧ ∀ x ∈ l, (fun n : Int => (Lit.int .i64 n).wf = true) x) x) s.f0 ∧ (fun l : List (List Int) => l.length ≤ maxLen ∧ ∀ x ∈ l, (fun l : List Int => l.length ≤ maxLen ∧ ∀ x ∈ l, (fun n : Int => (Lit.int .i64 n).wf = true) x) x) s.f1 ∧ (fun l : List Int => l.length ≤ maxLen ∧ ∀ x ∈ l, (fun n : Int => (Lit.int .i64 n).wf = true) x) s.f2
/-- The one pure statement of laws_FnExactMatchAll. -/
def laws_FnExactMatchAll.Pure : Prop := ∀ (s0 : S30), wfS30 s0 → ∃ k, laws_FnExactMatchAll.f k s0.f0 s0.f1 s0.f2 = some true
end Go.Proofs.Ytoipbblhmcpneaa.P

namespace Go.Proofs.Ytoipbblhmcpneaa.P
open Go.RowKit Go.Proofs.YtoipbblhmcpneaaW.PrintWords Go.Proofs.YtoipbblhmcpneaaW.PrintLast
set_option linter.unusedVariables false
set_option linter.unusedSimpArgs false
theorem rd_mid (pre : List Int) (x : Int) (suf : List Int) : rd (pre ++ x :: suf) (pre.length : Int) = x := getD_mid _ pre x suf
theorem eqIntS_l (s : List Int) : ∀ (t pre qre : List Int) (k : Nat), s.length < k → pre.length = qre.length → s.length = t.length → (pre.length : Int) + s.length ≤ 1099511627776 →
  laws_eqIntS.l0 k (pre ++ s) (qre ++ t) (pre.length : Int) = some (decide (s = t)) := by
 induction s with
 | nil =>
  intro t pre qre k hk hq hl hb
  obtain ⟨k, rfl⟩ : ∃ m, k = m + 1 := ⟨k - 1, by omega⟩
  obtain rfl : t = [] := List.eq_nil_of_length_eq_zero (by simpa using hl.symm)
  simp only [laws_eqIntS.l0]
  rw [if_neg (by simp)]
  simp
 | cons x s ih =>
  intro t pre qre k hk hq hl hb
  cases t with
  | nil => simp at hl
  | cons y t =>
   simp only [List.length_cons] at hk hl hb
   obtain ⟨k, rfl⟩ : ∃ m, k = m + 1 := ⟨k - 1, by omega⟩
   have h := ih t (pre ++ [x]) (qre ++ [y]) k (by omega) (by simp; omega) (by omega) (by simp; omega)
   have hy : rd (qre ++ y :: t) (pre.length : Int) = y := by rw [hq]; exact rd_mid qre y t
   simp only [laws_eqIntS.l0]
   rw [if_pos (by simp <;> omega), if_pos (by omega), if_pos (by simp <;> omega), rd_mid, hy, wrap_id (by omega) (by omega)]
   by_cases e : x = y
   ·subst e
    rw [if_pos rfl]
    simpa using h
   ·rw [if_neg e]
    simp [e]
theorem eqIntS_ev (s t : List Int) (hs : s.length ≤ 1099511627776) : Ev (fun k => laws_eqIntS.f k s t) (decide (s = t)) := by
 refine ⟨s.length + 1, fun k hk => ?_⟩
 show laws_eqIntS.f k s t = _
 unfold laws_eqIntS.f
 by_cases hl : s.length = t.length
 ·rw [if_pos (by omega)]
  exact eqIntS_l s t [] [] k (by omega) rfl hl (by simp; omega)
 ·rw [if_neg (by omega)]
  have : s ≠ t := fun e => hl (by rw [e])
  simp [this]
end Go.Proofs.Ytoipbblhmcpneaa.P

namespace Go.Proofs.Ytoipbblhmcpneaa.P
open Go.RowKit Go.Proofs.YtoipbblhmcpneaaW.PrintWords Go.Proofs.YtoipbblhmcpneaaW.PrintLast
set_option linter.unusedVariables false
set_option linter.unusedSimpArgs false
-- a list taken over
theorem toIntS_l (suf : List Int) : ∀ (pre : List Int), ((pre ++ suf).length : Int) ≤ 1099511627776 → Ev (fun k => laws_toIntS.l0 k (pre ++ suf) (pre ++ List.replicate suf.length 0) pre.length) (pre ++ suf) := by
 induction suf with
 | nil =>
  intro pre h
  refine Ev.succ ?_
  simp only [laws_toIntS.l0, List.append_nil, Int.lt_irrefl, if_false, List.length_nil, List.replicate_zero]
  exact Ev.now _
 | cons x suf ih =>
  intro pre h
  refine Ev.succ ?_
  rw [len_mid] at h
  have := ih (pre ++ [x]) (by rw [← app_one, len_mid]; exact h)
  rw [← app_one, len_one] at this
  have hr : ((pre ++ List.replicate (x :: suf).length (0 : Int)).length : Int) = pre.length + suf.length + 1 := by simp; omega
  simp only [laws_toIntS.l0]
  simp only [len_mid, hr, if_pos (show ((pre.length : Int) < pre.length + suf.length + 1) by omega), if_pos (show (0 : Int) ≤ pre.length by omega), rd_mid, wrap_id (show (-9223372036854775808 : Int) ≤ pre.length + 1 by omega) (show ((pre.length : Int) + 1 ≤ 9223372036854775807) by omega)]
  rw [List.length_cons, List.replicate_succ, set_mid, app_one pre x (List.replicate suf.length 0)]
  exact this
theorem toIntS_ev (l : List Int) (hl : l.length ≤ 1048576) : Ev (fun k => laws_toIntS.f k l) l := by
 unfold laws_toIntS.f
 simp only [if_pos (show (0 : Int) ≤ (l.length : Int) by omega), Int.toNat_natCast, if_pos (show l.length ≤ 35184372088832 by omega)]
 have := toIntS_l l [] (by simp only [List.nil_append]; omega)
 exact this
end Go.Proofs.Ytoipbblhmcpneaa.P

namespace Go.Proofs.Ytoipbblhmcpneaa.P
open Go.RowKit Go.Proofs.YtoipbblhmcpneaaW.PrintWords Go.Proofs.YtoipbblhmcpneaaW.PrintLast
set_option linter.unusedVariables false
set_option linter.unusedSimpArgs false
theorem rdSS_mid (pre : List (List Int)) (x : List Int) (suf : List (List Int)) : rd_L1 (pre ++ x :: suf) (pre.length : Int) = x := getD_mid _ pre x suf
theorem eqSame_l (suf : List (List Int)) (hs : ∀ x ∈ suf, x.length ≤ 1048576) : ∀ (pre : List (List Int)), ((pre ++ suf).length : Int) ≤ 1099511627776 → Ev (fun k => laws_eqIntSS.l0 k (pre ++ suf) (pre ++ suf) pre.length) true := by
 induction suf with
 | nil =>
  intro pre h
  refine Ev.succ ?_
  simp only [laws_eqIntSS.l0, List.append_nil, Int.lt_irrefl, if_false]
  exact Ev.now _
 | cons x suf ih =>
  intro pre h
  refine Ev.succ ?_
  rw [len_mid] at h
  have := ih (fun y hy => hs y (List.mem_cons_of_mem _ hy)) (pre ++ [x]) (by rw [← app_one, len_mid]; exact h)
  rw [← app_one, len_one] at this
  have hx := hs x (List.mem_cons_self ..)
  simp only [laws_eqIntSS.l0]
  simp only [len_mid, if_pos (show ((pre.length : Int) < pre.length + suf.length + 1) by omega), if_pos (show (0 : Int) ≤ pre.length by omega), rdSS_mid, wrap_id (show (-9223372036854775808 : Int) ≤ pre.length + 1 by omega) (show ((pre.length : Int) + 1 ≤ 9223372036854775807) by omega)]
  refine Ev.bind (eqIntS_ev x x (by omega)) ?_
  simp only [decide_true, if_true]
  exact this
theorem eqSame_ev (l : List (List Int)) (hl : l.length ≤ 1048576) (hs : ∀ x ∈ l, x.length ≤ 1048576) : Ev (fun k => laws_eqIntSS.f k l l) true := by
 unfold laws_eqIntSS.f
 simp only [if_true]
 exact eqSame_l l hs [] (by simp only [List.nil_append]; omega)
end Go.Proofs.Ytoipbblhmcpneaa.P

namespace Go.Proofs.Ytoipbblhmcpneaa.P
open Go.RowKit Go.Proofs.YtoipbblhmcpneaaW.PrintWords Go.Proofs.YtoipbblhmcpneaaW.PrintLast
set_option linter.unusedVariables false
set_option linter.unusedSimpArgs false
-- rows of numbers: sizes, copies, comparisons
theorem szIntS_is (l : List Int) (hl : l.length ≤ maxLen) (a : Int) (h0 : 0 ≤ a) (h1 : a ≤ 1048576) : laws_szIntS.f l a = some (if a - l.length < 0 then -1 else a - l.length) := by
 have hm : l.length ≤ 9223372036854775807 := by unfold maxLen at hl; exact hl
 unfold laws_szIntS.f
 rw [wrap_id (by omega) (by omega)]
 split <;> rfl
def szGo : List (List Int) → Int → Int
 | [], a => a
 | x :: r, a => if a - x.length < 0 then -1 else szGo r (a - x.length)
theorem szGo_le : ∀ (l : List (List Int)) (a : Int), 0 ≤ a → szGo l a ≤ a ∧ (¬ szGo l a < 0 → ∀ x ∈ l, (x.length : Int) ≤ a)
 | [], a, h => ⟨Int.le_refl _, fun _ x hx => by simp at hx⟩
 | y :: r, a, h => by
  rw [szGo]
  by_cases h1 : a - y.length < 0
  ·rw [if_pos h1]
   exact ⟨by omega, fun hc => absurd (by omega) hc⟩
  ·rw [if_neg h1]
   have h2 := szGo_le r (a - y.length) (by omega)
   refine ⟨by omega, fun hc x hx => ?_⟩
   rcases List.mem_cons.1 hx with rfl | hx
   ·omega
   ·have := h2.2 hc x hx
    omega
theorem szIntSS_l (suf : List (List Int)) : ∀ (pre : List (List Int)) (a : Int), ((pre ++ suf).length : Int) ≤ 1099511627776 → (∀ x ∈ suf, x.length ≤ maxLen) → 0 ≤ a → a ≤ 1048576 → Ev (fun k => laws_szIntSS.l0 k (pre ++ suf) a pre.length) (szGo suf a) := by
 induction suf with
 | nil =>
  intro pre a h hm h0 h1
  refine Ev.succ ?_
  simp only [laws_szIntSS.l0, List.append_nil, Int.lt_irrefl, if_false, szGo]
  exact Ev.now _
 | cons x suf ih =>
  intro pre a h hm h0 h1
  refine Ev.succ ?_
  rw [len_mid] at h
  have hx := hm x (List.mem_cons_self ..)
  simp only [laws_szIntSS.l0, len_mid, rdSS_mid, if_pos (show ((pre.length : Int) < pre.length + suf.length + 1) by omega), if_pos (show (0 : Int) ≤ pre.length by omega), wrap_id (show (-9223372036854775808 : Int) ≤ pre.length + 1 by omega) (show ((pre.length : Int) + 1 ≤ 9223372036854775807) by omega)]
  rw [szIntS_is x hx a h0 h1, szGo]
  simp only [Option.bind_some]
  by_cases h2 : a - x.length < 0
  ·simp only [if_pos h2, if_pos (show (-1 : Int) < 0 by omega)]
   exact Ev.now _
  ·simp only [if_neg h2]
   have := ih (pre ++ [x]) (a - x.length) (by rw [← app_one, len_mid]; exact h) (fun y hy => hm y (List.mem_cons_of_mem _ hy)) (by omega) (by omega)
   rw [← app_one, len_one] at this
   exact this
def szSS (l : List (List Int)) (a : Int) : Int := if a - l.length < 0 then -1 else szGo l (a - l.length)
theorem szIntSS_ev (l : List (List Int)) (hl : l.length ≤ maxLen) (hm : ∀ x ∈ l, x.length ≤ maxLen) (a : Int) (h0 : 0 ≤ a) (h1 : a ≤ 1048576) : Ev (fun k => laws_szIntSS.f k l a) (szSS l a) := by
 have hm' : l.length ≤ 9223372036854775807 := by unfold maxLen at hl; exact hl
 unfold laws_szIntSS.f szSS
 rw [wrap_id (by omega) (by omega)]
 by_cases h2 : a - l.length < 0
 ·simp only [if_pos h2]
  exact Ev.now _
 ·simp only [if_neg h2]
  exact szIntSS_l l [] (a - l.length) (by simp only [List.nil_append]; omega) hm (by omega) (by omega)
theorem szSS_le (l : List (List Int)) (a : Int) (h0 : 0 ≤ a) : szSS l a ≤ a ∧ (¬ szSS l a < 0 → (l.length : Int) ≤ a ∧ ∀ x ∈ l, (x.length : Int) ≤ a) := by
 unfold szSS
 by_cases h2 : a - l.length < 0
 ·rw [if_pos h2]
  exact ⟨by omega, fun hc => absurd (by omega) hc⟩
 ·rw [if_neg h2]
  have := szGo_le l (a - l.length) (by omega)
  exact ⟨by omega, fun hc => ⟨by omega, fun x hx => by have := this.2 hc x hx; omega⟩⟩
theorem toIntSS_l (suf : List (List Int)) (hs : ∀ x ∈ suf, x.length ≤ 1048576) : ∀ (pre : List (List Int)), ((pre ++ suf).length : Int) ≤ 1099511627776 → Ev (fun k => laws_toIntSS.l0 k (pre ++ suf) (pre ++ List.replicate suf.length []) pre.length) (pre ++ suf) := by
 induction suf with
 | nil =>
  intro pre h
  refine Ev.succ ?_
  simp only [laws_toIntSS.l0, List.append_nil, Int.lt_irrefl, if_false, List.length_nil, List.replicate_zero]
  exact Ev.now _
 | cons x suf ih =>
  intro pre h
  refine Ev.succ ?_
  rw [len_mid] at h
  have := ih (fun y hy => hs y (List.mem_cons_of_mem _ hy)) (pre ++ [x]) (by rw [← app_one, len_mid]; exact h)
  rw [← app_one, len_one] at this
  have hr : ((pre ++ List.replicate (x :: suf).length ([] : List Int)).length : Int) = pre.length + suf.length + 1 := by simp; omega
  simp only [laws_toIntSS.l0]
  simp only [len_mid, hr, if_pos (show ((pre.length : Int) < pre.length + suf.length + 1) by omega), if_pos (show (0 : Int) ≤ pre.length by omega), rdSS_mid, wrap_id (show (-9223372036854775808 : Int) ≤ pre.length + 1 by omega) (show ((pre.length : Int) + 1 ≤ 9223372036854775807) by omega)]
  refine Ev.bind (toIntS_ev x (hs x (List.mem_cons_self ..))) ?_
  rw [List.length_cons, List.replicate_succ, set_mid, app_one pre x (List.replicate suf.length [])]
  exact this
theorem toIntSS_ev (l : List (List Int)) (hl : l.length ≤ 1048576) (hs : ∀ x ∈ l, x.length ≤ 1048576) : Ev (fun k => laws_toIntSS.f k l) l := by
 unfold laws_toIntSS.f
 simp only [if_pos (show (0 : Int) ≤ (l.length : Int) by omega), Int.toNat_natCast, if_pos (show l.length ≤ 11728124029610 by omega)]
 have := toIntSS_l l hs [] (by simp only [List.nil_append]; omega)
 exact this
end Go.Proofs.Ytoipbblhmcpneaa.P

namespace Go.Proofs.Ytoipbblhmcpneaa.P
open Go.RowKit Go.Proofs.YtoipbblhmcpneaaW.PrintWords Go.Proofs.YtoipbblhmcpneaaW.PrintLast
set_option linter.unusedVariables false
set_option linter.unusedSimpArgs false
-- the place of a number in a list, both sides
def placeGo (x : Int) : List Int → Int → Option Int
 | [], _ => none
 | y :: r, i => if y = x then some i else placeGo x r (i + 1)
theorem has_l (x : Int) (suf : List Int) : ∀ (pre : List Int), ((pre ++ suf).length : Int) ≤ 1099511627776 → Ev (fun k => spec_l1Has.l0 k x (pre ++ suf) ((pre ++ suf).length : Int) pre.length) (placeGo x suf pre.length).isSome := by
 induction suf with
 | nil =>
  intro pre h
  refine Ev.succ ?_
  simp only [spec_l1Has.l0, List.append_nil, Int.lt_irrefl, if_false, placeGo, Option.isSome_none]
  exact Ev.now _
 | cons y suf ih =>
  intro pre h
  refine Ev.succ ?_
  rw [len_mid] at h ⊢
  have := ih (pre ++ [y]) (by rw [← app_one, len_mid]; exact h)
  rw [← app_one, len_mid, len_one] at this
  simp only [spec_l1Has.l0, placeGo]
  simp only [if_pos (show ((pre.length : Int) < pre.length + suf.length + 1) by omega), if_pos (show (0 : Int) ≤ pre.length by omega), len_mid, rd_mid, wrap_id (show (-9223372036854775808 : Int) ≤ pre.length + 1 by omega) (show ((pre.length : Int) + 1 ≤ 9223372036854775807) by omega)]
  by_cases h1 : y = x
  ·simp only [if_pos h1, Option.isSome_some]
   exact Ev.now _
  ·simp only [if_neg h1]
   exact this
theorem place_l (l : List Int) (x : Int) (suf : List Int) : ∀ (pre : List Int), ((pre ++ suf).length : Int) ≤ 1099511627776 → Ev (fun k => spec_l12Place.l0 k l x (pre ++ suf) ((pre ++ suf).length : Int) pre.length) ((placeGo x suf pre.length).getD (l.length : Int)) := by
 induction suf with
 | nil =>
  intro pre h
  refine Ev.succ ?_
  simp only [spec_l12Place.l0, List.append_nil, Int.lt_irrefl, if_false, placeGo, Option.getD_none]
  exact Ev.now _
 | cons y suf ih =>
  intro pre h
  refine Ev.succ ?_
  rw [len_mid] at h ⊢
  have := ih (pre ++ [y]) (by rw [← app_one, len_mid]; exact h)
  rw [← app_one, len_mid, len_one] at this
  simp only [spec_l12Place.l0, placeGo]
  simp only [if_pos (show ((pre.length : Int) < pre.length + suf.length + 1) by omega), if_pos (show (0 : Int) ≤ pre.length by omega), len_mid, rd_mid, wrap_id (show (-9223372036854775808 : Int) ≤ pre.length + 1 by omega) (show ((pre.length : Int) + 1 ≤ 9223372036854775807) by omega)]
  by_cases h1 : y = x
  ·simp only [if_pos h1, Option.getD_some]
   exact Ev.now _
  ·simp only [if_neg h1]
   exact this
theorem index_l (x : Int) (suf : List Int) : ∀ (pre : List Int), ((pre ++ suf).length : Int) ≤ 1099511627776 → Ev (fun k => slices_Index_int.l0 k (pre ++ suf) x ((pre ++ suf).length : Int) pre.length) ((placeGo x suf pre.length).getD (-1)) := by
 induction suf with
 | nil =>
  intro pre h
  refine Ev.succ ?_
  simp only [slices_Index_int.l0, List.append_nil, Int.lt_irrefl, if_false, placeGo, Option.getD_none]
  exact Ev.now _
 | cons y suf ih =>
  intro pre h
  refine Ev.succ ?_
  rw [len_mid] at h ⊢
  have := ih (pre ++ [y]) (by rw [← app_one, len_mid]; exact h)
  rw [← app_one, len_mid, len_one] at this
  simp only [slices_Index_int.l0, placeGo]
  simp only [if_pos (show ((pre.length : Int) < pre.length + suf.length + 1) by omega), if_pos (show (0 : Int) ≤ pre.length by omega), len_mid, rd_mid, wrap_id (show (-9223372036854775808 : Int) ≤ pre.length + 1 by omega) (show ((pre.length : Int) + 1 ≤ 9223372036854775807) by omega)]
  by_cases h1 : y = x
  ·simp only [if_pos h1, if_pos h1.symm, Option.getD_some]
   exact Ev.now _
  ·simp only [if_neg h1, if_neg (fun hc => h1 (Eq.symm hc))]
   exact this
theorem placeGo_ge (x : Int) : ∀ (l : List Int) (i r : Int), placeGo x l i = some r → i ≤ r
 | [], _, _, h => by cases h
 | y :: l, i, r, h => by
  rw [placeGo] at h
  split at h
  ·cases h
   omega
  ·have := placeGo_ge x l (i + 1) r h
   omega
theorem has_ev (x : Int) (l : List Int) (h : (l.length : Int) ≤ 1099511627776) : Ev (fun k => spec_l1Has.f k l x) (placeGo x l 0).isSome := by
 have := has_l x l [] h
 exact this
theorem place_ev (x : Int) (l : List Int) (h : (l.length : Int) ≤ 1099511627776) : Ev (fun k => spec_l12Place.f k l x) ((placeGo x l 0).getD (l.length : Int)) := by
 have := place_l l x l [] h
 exact this
theorem index_ev (x : Int) (l : List Int) (h : (l.length : Int) ≤ 1099511627776) : Ev (fun k => slices_Index_int.f k l x) ((placeGo x l 0).getD (-1)) := by
 have := index_l x l [] h
 exact this
end Go.Proofs.Ytoipbblhmcpneaa.P

namespace Go.Proofs.Ytoipbblhmcpneaa.P
open Go.RowKit Go.Proofs.YtoipbblhmcpneaaW.PrintWords Go.Proofs.YtoipbblhmcpneaaW.PrintLast
set_option linter.unusedVariables false
set_option linter.unusedSimpArgs false
-- sweeps over a list of numbers, and a list taken over, both sides
theorem specIn (a b c : Int) : spec_l1In.f a b c = some (decide (b ≤ a ∧ a ≤ c)) := by
 unfold spec_l1In.f
 by_cases h : a ≥ b
 ·rw [if_pos h]
  congr 1
  by_cases h2 : a ≤ c
  ·rw [decide_eq_true h2, decide_eq_true ⟨h, h2⟩]
  ·rw [decide_eq_false h2, decide_eq_false (fun hc => h2 hc.2)]
 ·rw [if_neg h, decide_eq_false (fun hc => h hc.1)]
theorem implIn (a b c : Int) : impl_in.f a b c = some (decide (b ≤ a ∧ a ≤ c)) := specIn a b c
def allIn (a b : Int) (l : List Int) : Bool := l.all fun x => decide (a ≤ x ∧ x ≤ b)
theorem implAll_l (a b : Int) (suf : List Int) : ∀ (pre : List Int), ((pre ++ suf).length : Int) ≤ 1099511627776 → Ev (fun k => impl_allIn.l0 k a b (pre ++ suf) ((pre ++ suf).length : Int) pre.length) (allIn a b suf) := by
 induction suf with
 | nil =>
  intro pre h
  refine Ev.succ ?_
  simp only [impl_allIn.l0, List.append_nil, Int.lt_irrefl, if_false]
  exact Ev.now _
 | cons x suf ih =>
  intro pre h
  refine Ev.succ ?_
  rw [len_mid] at h ⊢
  simp only [impl_allIn.l0]
  simp only [if_pos (show ((pre.length : Int) < pre.length + suf.length + 1) by omega), if_pos (show (0 : Int) ≤ pre.length by omega), len_mid, rd_mid, implIn, Option.bind_some, wrap_id (show (-9223372036854775808 : Int) ≤ pre.length + 1 by omega) (show ((pre.length : Int) + 1 ≤ 9223372036854775807) by omega)]
  by_cases hx : a ≤ x ∧ x ≤ b
  ·have := ih (pre ++ [x]) (by rw [← app_one, len_mid]; exact h)
   rw [← app_one, len_mid, len_one] at this
   simp only [hx, and_self, decide_true, if_true]
   rw [show allIn a b (x :: suf) = allIn a b suf by simp [allIn, hx]]
   exact this
  ·simp only [decide_eq_true_eq, if_neg hx]
   rw [show allIn a b (x :: suf) = false by simp [allIn]; intro h1 h2; exact absurd ⟨h1, h2⟩ hx]
   exact Ev.now _
theorem implAll_ev (a b : Int) (l : List Int) (h : (l.length : Int) ≤ 1099511627776) : Ev (fun k => impl_allIn.f k l a b) (allIn a b l) := by
 have := implAll_l a b l [] h
 exact this
end Go.Proofs.Ytoipbblhmcpneaa.P

namespace Go.Proofs.Ytoipbblhmcpneaa.P
open Go.RowKit Go.Proofs.YtoipbblhmcpneaaW.PrintWords Go.Proofs.YtoipbblhmcpneaaW.PrintLast
set_option linter.unusedVariables false
set_option linter.unusedSimpArgs false
-- the given sweep over a list of numbers
theorem specAll_l (a b : Int) (suf : List Int) : ∀ (pre : List Int), ((pre ++ suf).length : Int) ≤ 1099511627776 → Ev (fun k => spec_l1All.l0 k a b (pre ++ suf) ((pre ++ suf).length : Int) pre.length) (allIn a b suf) := by
 induction suf with
 | nil =>
  intro pre h
  refine Ev.succ ?_
  simp only [spec_l1All.l0, List.append_nil, Int.lt_irrefl, if_false]
  exact Ev.now _
 | cons x suf ih =>
  intro pre h
  refine Ev.succ ?_
  rw [len_mid] at h ⊢
  simp only [spec_l1All.l0]
  simp only [if_pos (show ((pre.length : Int) < pre.length + suf.length + 1) by omega), if_pos (show (0 : Int) ≤ pre.length by omega), len_mid, rd_mid, specIn, Option.bind_some, wrap_id (show (-9223372036854775808 : Int) ≤ pre.length + 1 by omega) (show ((pre.length : Int) + 1 ≤ 9223372036854775807) by omega)]
  by_cases hx : a ≤ x ∧ x ≤ b
  ·have := ih (pre ++ [x]) (by rw [← app_one, len_mid]; exact h)
   rw [← app_one, len_mid, len_one] at this
   simp only [hx, and_self, decide_true, if_true]
   rw [show allIn a b (x :: suf) = allIn a b suf by simp [allIn, hx]]
   exact this
  ·simp only [decide_eq_true_eq, if_neg hx]
   rw [show allIn a b (x :: suf) = false by simp [allIn]; intro h1 h2; exact absurd ⟨h1, h2⟩ hx]
   exact Ev.now _
theorem specAll_ev (a b : Int) (l : List Int) (h : (l.length : Int) ≤ 1099511627776) : Ev (fun k => spec_l1All.f k l a b) (allIn a b l) := by
 have := specAll_l a b l [] h
 exact this
end Go.Proofs.Ytoipbblhmcpneaa.P

namespace Go.Proofs.Ytoipbblhmcpneaa.P
open Go.RowKit Go.Proofs.YtoipbblhmcpneaaW.PrintWords Go.Proofs.YtoipbblhmcpneaaW.PrintLast
set_option linter.unusedVariables false
set_option linter.unusedSimpArgs false
-- good wishes, both sides
structure okW (f0 f1 : List (List Int)) (f2 : List Int) : Prop where
 a0 : f0.length ≤ 1048576
 a1 : f1.length ≤ 1048576
 a2 : f2.length ≤ 1048576
 b0 : ∀ x ∈ f0, x.length ≤ 1048576
 b1 : ∀ x ∈ f1, x.length ≤ 1048576
theorem szWishes_ev (f0 f1 : List (List Int)) (f2 : List Int) (h0 : f0.length ≤ maxLen) (h0' : ∀ x ∈ f0, x.length ≤ maxLen) (h1 : f1.length ≤ maxLen) (h1' : ∀ x ∈ f1, x.length ≤ maxLen) (h2 : f2.length ≤ maxLen) :
  ∃ r, Ev (fun k => laws_szWishes.f k f0 f1 f2 1048576) r ∧ (¬ r < 0 → okW f0 f1 f2) := by
 unfold laws_szWishes.f
 have e0 := szIntSS_ev f0 h0 h0' 1048576 (by omega) (by omega)
 have l0 := szSS_le f0 1048576 (by omega)
 generalize szSS f0 1048576 = r0 at e0 l0
 by_cases c0 : r0 < 0
 ·refine ⟨-1, Ev.bind e0 ?_, fun h => absurd (by omega) h⟩
  simp only [if_pos c0]
  exact Ev.now _
 have e1 := szIntSS_ev f1 h1 h1' r0 (by omega) (by omega)
 have l1 := szSS_le f1 r0 (by omega)
 generalize szSS f1 r0 = r1 at e1 l1
 by_cases c1 : r1 < 0
 ·refine ⟨-1, Ev.bind e0 ?_, fun h => absurd (by omega) h⟩
  simp only [if_neg c0]
  refine Ev.bind e1 ?_
  simp only [if_pos c1]
  exact Ev.now _
 have e2 := szIntS_is f2 h2 r1 (by omega) (by omega)
 by_cases c2 : r1 - f2.length < 0
 ·refine ⟨-1, Ev.bind e0 ?_, fun h => absurd (by omega) h⟩
  simp only [if_neg c0]
  refine Ev.bind e1 ?_
  simp only [if_neg c1, e2, Option.bind_some, if_pos c2, if_pos (show (-1 : Int) < 0 by omega)]
  exact Ev.now _
 ·refine ⟨r1 - f2.length, Ev.bind e0 ?_, fun _ => ⟨by have := (l0.2 c0).1; omega, by have := (l1.2 c1).1; omega, by omega, fun x hx => by have := (l0.2 c0).2 x hx; omega, fun x hx => by have := (l1.2 c1).2 x hx; omega⟩⟩
  simp only [if_neg c0]
  refine Ev.bind e1 ?_
  simp only [if_neg c1, e2, Option.bind_some, if_neg c2]
  exact Ev.now _
theorem toWishes_ev {f0 f1 : List (List Int)} {f2 : List Int} (h : okW f0 f1 f2) : Ev (fun k => laws_toWishes.f k f0 f1 f2) (f0, f1, f2) := by
 unfold laws_toWishes.f
 refine Ev.bind (toIntSS_ev f0 h.a0 h.b0) ?_
 refine Ev.bind (toIntSS_ev f1 h.a1 h.b1) ?_
 refine Ev.bind (toIntS_ev f2 h.a2) ?_
 exact Ev.now _
theorem eqWishes_ev {f0 f1 : List (List Int)} {f2 : List Int} (h : okW f0 f1 f2) : Ev (fun k => laws_eqWishes.f k f0 f1 f2 f0 f1 f2) true := by
 unfold laws_eqWishes.f
 refine Ev.bind (eqSame_ev f0 h.a0 h.b0) ?_
 simp only [if_true]
 refine Ev.bind (eqSame_ev f1 h.a1 h.b1) ?_
 simp only [if_true]
 refine Ev.bind (eqIntS_ev f2 f2 (by have := h.a2; omega)) ?_
 simp only [decide_true, if_true]
 exact Ev.now _
def dupGo : List Int → List Int → Bool
 | _, [] => true
 | pre, x :: r => !(placeGo x pre 0).isSome && dupGo (pre ++ [x]) r
def rowOk (m : Int) (l : List Int) : Bool := decide ((l.length : Int) = m) && (allIn 0 (m - 1) l && dupGo [] l)
theorem l12All_l (m : Int) (h0 : 0 ≤ m) (h1 : m ≤ 1048576) (suf : List Int) : ∀ (pre : List Int), ((pre ++ suf).length : Int) ≤ 1048576 →
  Ev (fun k => spec_l12All.l0 k (pre ++ suf) m (pre ++ suf) ((pre ++ suf).length : Int) pre.length) (decide (((pre ++ suf).length : Int) = m) && (allIn 0 (m - 1) suf && dupGo pre suf)) := by
 induction suf with
 | nil =>
  intro pre h
  refine Ev.succ ?_
  simp only [spec_l12All.l0, List.append_nil, Int.lt_irrefl, if_false]
  refine Ev.some_ ?_
  rw [show allIn 0 (m - 1) [] = true from rfl, dupGo, Bool.and_true, Bool.and_true]
  rfl
 | cons x suf ih =>
  intro pre h
  refine Ev.succ ?_
  rw [len_mid] at h ⊢
  have := ih (pre ++ [x]) (by rw [← app_one, len_mid]; exact h)
  rw [← app_one, len_mid, len_one] at this
  have ht : (pre ++ x :: suf).take ((pre.length : Int)).toNat = pre := by rw [Int.toNat_natCast]; exact List.take_left ..
  rw [show allIn 0 (m - 1) (x :: suf) = (decide (0 ≤ x ∧ x ≤ m - 1) && allIn 0 (m - 1) suf) from rfl, dupGo]
  simp only [spec_l12All.l0]
  simp only [len_mid, if_pos (show ((pre.length : Int) < pre.length + suf.length + 1) by omega), if_pos (show (0 : Int) ≤ pre.length by omega), rd_mid, wrap_id (show (-9223372036854775808 : Int) ≤ pre.length + 1 by omega) (show ((pre.length : Int) + 1 ≤ 9223372036854775807) by omega), wrap_id (show (-9223372036854775808 : Int) ≤ m - 1 by omega) (show (m - 1 ≤ 9223372036854775807) by omega), specIn, Option.bind_some, decide_eq_true_eq, if_pos (show (pre.length : Int) ≤ pre.length + suf.length + 1 by omega), ht]
  by_cases hx : 0 ≤ x ∧ x ≤ m - 1
  ·simp only [if_pos hx]
   refine Ev.bind (has_ev x pre (by omega)) ?_
   rw [decide_eq_true hx, Bool.true_and]
   cases hp : (placeGo x pre 0).isSome with
   | true =>
    simp only [if_true, Bool.not_true, Bool.false_and, Bool.and_false]
    exact Ev.now _
   | false =>
    simp only [Bool.false_eq_true, if_false, Bool.not_false, Bool.true_and]
    exact this
  ·simp only [if_neg hx]
   rw [decide_eq_false hx, Bool.false_and, Bool.false_and, Bool.and_false]
   exact Ev.now _
theorem l12All_ev (l : List Int) (m : Int) (h0 : 0 ≤ m) (h1 : m ≤ 1048576) (hl : l.length ≤ 1048576) : Ev (fun k => spec_l12All.f k l m) (rowOk m l) := by
 have := l12All_l m h0 h1 l [] (by simp only [List.nil_append]; omega)
 exact this
theorem orders_l1 (Z : List (List Int)) (m : Int) (R : Bool) (X : List (List Int)) (t i : Int) (suf : List Int) : ∀ (pre : List Int), ((pre ++ suf).length : Int) ≤ 1048576 →
  Ev (fun k => if dupGo pre suf = true then impl_orders.l0 k Z m X t (wrap64 (i + 1)) else some false) R →
  Ev (fun k => impl_orders.l1 k Z m (pre ++ suf) X t i (pre ++ suf) ((pre ++ suf).length : Int) pre.length) R := by
 induction suf with
 | nil =>
  intro pre h hR
  refine Ev.succ ?_
  rw [dupGo] at hR
  simp only [if_true] at hR
  simp only [impl_orders.l1, List.append_nil, Int.lt_irrefl, if_false]
  exact hR
 | cons x suf ih =>
  intro pre h hR
  refine Ev.succ ?_
  rw [len_mid] at h ⊢
  have := ih (pre ++ [x]) (by rw [← app_one, len_mid]; exact h)
  rw [← app_one, len_mid, len_one] at this
  have ht : (pre ++ x :: suf).take ((pre.length : Int)).toNat = pre := by rw [Int.toNat_natCast]; exact List.take_left ..
  rw [dupGo] at hR
  simp only [impl_orders.l1]
  simp only [len_mid, if_pos (show ((pre.length : Int) < pre.length + suf.length + 1) by omega), if_pos (show (0 : Int) ≤ pre.length by omega), rd_mid, wrap_id (show (-9223372036854775808 : Int) ≤ pre.length + 1 by omega) (show ((pre.length : Int) + 1 ≤ 9223372036854775807) by omega), if_pos (show (pre.length : Int) ≤ pre.length + suf.length + 1 by omega), ht, slices_Contains_int.f]
  have hi : Ev (fun k => (slices_Index_int.f k pre x).bind fun t170 => (some (decide (t170 ≥ 0)))) (placeGo x pre 0).isSome := by
   refine Ev.bind (index_ev x pre (by omega)) ?_
   refine Ev.some_ ?_
   cases hp : placeGo x pre 0 with
   | none => rfl
   | some r =>
    have := placeGo_ge x pre 0 r hp
    exact decide_eq_true this
  refine Ev.bind hi ?_
  cases hp : (placeGo x pre 0).isSome with
  | true =>
   rw [hp] at hR
   simp only [Bool.not_true, Bool.false_and, Bool.false_eq_true, if_false] at hR
   simp only [if_true]
   exact hR
  | false =>
   rw [hp] at hR
   simp only [Bool.not_false, Bool.true_and] at hR
   simp only [Bool.false_eq_true, if_false]
   exact this hR
theorem orders_l0 (m : Int) (h0 : 0 ≤ m) (h1 : m ≤ 1048576) (suf : List (List Int)) (hs : ∀ x ∈ suf, x.length ≤ 1048576) : ∀ (pre : List (List Int)), ((pre ++ suf).length : Int) ≤ 1048576 →
  Ev (fun k => impl_orders.l0 k (pre ++ suf) m (pre ++ suf) ((pre ++ suf).length : Int) pre.length) (suf.all (rowOk m) && decide (1 ≤ ((pre ++ suf).length : Int) ∧ ((pre ++ suf).length : Int) ≤ 8)) := by
 induction suf with
 | nil =>
  intro pre h
  refine Ev.succ ?_
  simp only [impl_orders.l0, List.append_nil, Int.lt_irrefl, if_false, implIn, Option.bind_some, List.all_nil, Bool.true_and]
  exact Ev.now _
 | cons x suf ih =>
  intro pre h
  refine Ev.succ ?_
  rw [len_mid] at h ⊢
  have := ih (fun y hy => hs y (List.mem_cons_of_mem _ hy)) (pre ++ [x]) (by rw [← app_one, len_mid]; exact h)
  rw [← app_one, len_mid, len_one] at this
  have hx := hs x (List.mem_cons_self ..)
  have bad : Ev (fun k => impl_orders.j1 k (pre ++ x :: suf) m x (pre ++ x :: suf) ((pre.length : Int) + suf.length + 1) pre.length true) false := by
   refine Ev.succ ?_
   simp only [impl_orders.j1, if_true]
   exact Ev.now _
  rw [List.all_cons]
  simp only [impl_orders.l0]
  simp only [len_mid, if_pos (show ((pre.length : Int) < pre.length + suf.length + 1) by omega), if_pos (show (0 : Int) ≤ pre.length by omega), rdSS_mid, wrap_id (show (-9223372036854775808 : Int) ≤ m - 1 by omega) (show (m - 1 ≤ 9223372036854775807) by omega)]
  rw [rowOk]
  by_cases hl : (x.length : Int) = m
  ·simp only [if_pos hl]
   rw [decide_eq_true hl, Bool.true_and]
   refine Ev.bind (implAll_ev _ _ x (by omega)) ?_
   cases ha : allIn 0 (m - 1) x with
   | true =>
    rw [Bool.true_and]
    refine Ev.succ ?_
    simp only [impl_orders.j1, Bool.not_true, Bool.false_eq_true, if_false]
    refine orders_l1 _ m _ _ _ _ x [] (by simp only [List.nil_append]; omega) ?_
    cases hd : dupGo [] x with
    | true =>
     simp only [if_true, Bool.true_and, wrap_id (show (-9223372036854775808 : Int) ≤ pre.length + 1 by omega) (show ((pre.length : Int) + 1 ≤ 9223372036854775807) by omega)]
     exact this
    | false =>
     simp only [Bool.false_eq_true, if_false, Bool.false_and]
     exact Ev.now _
   | false =>
    rw [Bool.false_and, Bool.false_and]
    exact bad
  ·simp only [if_neg hl]
   rw [decide_eq_false hl, Bool.false_and, Bool.false_and]
   exact bad
theorem orders_ev (l : List (List Int)) (m : Int) (h0 : 0 ≤ m) (h1 : m ≤ 1048576) (hl : l.length ≤ 1048576) (hs : ∀ x ∈ l, x.length ≤ 1048576) : Ev (fun k => impl_orders.f k l m) (l.all (rowOk m) && decide (1 ≤ (l.length : Int) ∧ (l.length : Int) ≤ 8)) := by
 have := orders_l0 m h0 h1 l hs [] (by simp only [List.nil_append]; omega)
 exact this
def goodW (f0 f1 : List (List Int)) (f2 : List Int) : Bool := f0.all (rowOk f1.length) && (f1.all (rowOk f0.length) && (decide (1 ≤ (f0.length : Int) ∧ (f0.length : Int) ≤ 8) && (decide (1 ≤ (f1.length : Int) ∧ (f1.length : Int) ≤ 8) && (decide ((f2.length : Int) = f1.length) && allIn 0 8 f2))))
theorem implGoodW_ev {f0 f1 : List (List Int)} {f2 : List Int} (h : okW f0 f1 f2) : Ev (fun k => impl_GoodWishes.f k f0 f1 f2) (goodW f0 f1 f2) := by
 have a0 := h.a0
 have a1 := h.a1
 have a2 := h.a2
 unfold impl_GoodWishes.f goodW
 refine Ev.bind (orders_ev f0 f1.length (by omega) (by omega) a0 h.b0) ?_
 have e1 := orders_ev f1 f0.length (by omega) (by omega) a1 h.b1
 have e2 := implAll_ev 0 8 f2 (by omega)
 generalize f0.all (rowOk f1.length) = p0
 generalize f1.all (rowOk f0.length) = p1 at e1 ⊢
 generalize decide (1 ≤ (f0.length : Int) ∧ (f0.length : Int) ≤ 8) = q0
 generalize decide (1 ≤ (f1.length : Int) ∧ (f1.length : Int) ≤ 8) = q1 at e1 ⊢
 generalize allIn 0 8 f2 = p2 at e2 ⊢
 cases p0
 ·simp only [Bool.false_and, Bool.false_eq_true, if_false]
  exact Ev.now _
 cases q0
 ·simp only [Bool.and_false, Bool.false_and, Bool.true_and, Bool.false_eq_true, if_false]
  exact Ev.now _
 simp only [Bool.true_and, if_true]
 refine Ev.bind e1 ?_
 cases p1
 ·simp only [Bool.false_and, Bool.false_eq_true, if_false]
  exact Ev.now _
 cases q1
 ·simp only [Bool.and_false, Bool.false_and, Bool.true_and, Bool.false_eq_true, if_false]
  exact Ev.now _
 simp only [Bool.true_and, if_true]
 by_cases hc : (f2.length : Int) = f1.length
 ·simp only [if_pos hc, decide_eq_true hc, Bool.true_and]
  exact Ev.bind e2 (Ev.now _)
 ·simp only [if_neg hc, decide_eq_false hc, Bool.false_and]
  exact Ev.now _
theorem specW_l1 (f0 f1 : List (List Int)) (f2 : List Int) (h : okW f0 f1 f2) (suf : List (List Int)) : ∀ (pre : List (List Int)), pre ++ suf = f1 →
  Ev (fun k => spec_GoodWishes.l1 k f0.length f1.length f1 f1.length pre.length f0 f1 f2) (suf.all (rowOk f0.length) && (decide (1 ≤ (f0.length : Int) ∧ (f0.length : Int) ≤ 8) && (decide (1 ≤ (f1.length : Int) ∧ (f1.length : Int) ≤ 8) && (decide ((f2.length : Int) = f1.length) && allIn 0 8 f2)))) := by
 have a0 := h.a0
 have a1 := h.a1
 have a2 := h.a2
 induction suf with
 | nil =>
  intro pre hp
  refine Ev.succ ?_
  rw [List.append_nil] at hp
  subst hp
  have e2 := specAll_ev 0 8 f2 (by omega)
  simp only [spec_GoodWishes.l1, Int.lt_irrefl, if_false, List.all_nil, Bool.true_and, specIn, Option.bind_some]
  generalize decide (1 ≤ (f0.length : Int) ∧ (f0.length : Int) ≤ 8) = q0
  generalize decide (1 ≤ (pre.length : Int) ∧ (pre.length : Int) ≤ 8) = q1
  generalize allIn 0 8 f2 = p2 at e2 ⊢
  cases q0
  ·simp only [Bool.false_and, Bool.false_eq_true, if_false]
   exact Ev.now _
  cases q1
  ·simp only [Bool.false_and, Bool.true_and, Bool.false_eq_true, if_false, if_true]
   exact Ev.now _
  simp only [Bool.true_and, if_true]
  by_cases hc : (f2.length : Int) = pre.length
  ·simp only [if_pos hc, decide_eq_true hc, Bool.true_and]
   exact Ev.bind e2 (Ev.now _)
  ·simp only [if_neg hc, decide_eq_false hc, Bool.false_and]
   exact Ev.now _
 | cons x suf ih =>
  intro pre hp
  refine Ev.succ ?_
  have hn : (f1.length : Int) = pre.length + suf.length + 1 := by rw [← hp, len_mid]
  have hx : rd_L1 f1 (pre.length : Int) = x := by rw [← hp, rdSS_mid]
  have hm : x.length ≤ 1048576 := h.b1 x (by rw [← hp]; simp)
  have := ih (pre ++ [x]) (by rw [← app_one]; exact hp)
  rw [len_one] at this
  simp only [spec_GoodWishes.l1, if_pos (show (pre.length : Int) < f1.length by omega), if_pos (show (0 : Int) ≤ pre.length by omega), hx, wrap_id (show (-9223372036854775808 : Int) ≤ pre.length + 1 by omega) (show ((pre.length : Int) + 1 ≤ 9223372036854775807) by omega)]
  refine Ev.bind (l12All_ev x f0.length (by omega) (by omega) hm) ?_
  rw [List.all_cons]
  cases hr : rowOk f0.length x with
  | true =>
   simp only [if_true, Bool.true_and]
   exact this
  | false =>
   simp only [Bool.false_eq_true, if_false, Bool.false_and]
   exact Ev.now _
theorem specW_l0 (f0 f1 : List (List Int)) (f2 : List Int) (h : okW f0 f1 f2) (suf : List (List Int)) : ∀ (pre : List (List Int)), pre ++ suf = f0 →
  Ev (fun k => spec_GoodWishes.l0 k f0.length f1.length f0 f0.length pre.length f0 f1 f2) (suf.all (rowOk f1.length) && (f1.all (rowOk f0.length) && (decide (1 ≤ (f0.length : Int) ∧ (f0.length : Int) ≤ 8) && (decide (1 ≤ (f1.length : Int) ∧ (f1.length : Int) ≤ 8) && (decide ((f2.length : Int) = f1.length) && allIn 0 8 f2))))) := by
 have a0 := h.a0
 have a1 := h.a1
 induction suf with
 | nil =>
  intro pre hp
  refine Ev.succ ?_
  rw [List.append_nil] at hp
  have := specW_l1 f0 f1 f2 h f1 [] rfl
  subst hp
  simp only [spec_GoodWishes.l0, Int.lt_irrefl, if_false, List.all_nil, Bool.true_and]
  exact this
 | cons x suf ih =>
  intro pre hp
  refine Ev.succ ?_
  have hn : (f0.length : Int) = pre.length + suf.length + 1 := by rw [← hp, len_mid]
  have hx : rd_L1 f0 (pre.length : Int) = x := by rw [← hp, rdSS_mid]
  have hm : x.length ≤ 1048576 := h.b0 x (by rw [← hp]; simp)
  have := ih (pre ++ [x]) (by rw [← app_one]; exact hp)
  rw [len_one] at this
  simp only [spec_GoodWishes.l0, if_pos (show (pre.length : Int) < f0.length by omega), if_pos (show (0 : Int) ≤ pre.length by omega), hx, wrap_id (show (-9223372036854775808 : Int) ≤ pre.length + 1 by omega) (show ((pre.length : Int) + 1 ≤ 9223372036854775807) by omega)]
  refine Ev.bind (l12All_ev x f1.length (by omega) (by omega) hm) ?_
  rw [List.all_cons]
  cases hr : rowOk f1.length x with
  | true =>
   simp only [if_true, Bool.true_and]
   exact this
  | false =>
   simp only [Bool.false_eq_true, if_false, Bool.false_and]
   exact Ev.now _
theorem specGoodW_ev {f0 f1 : List (List Int)} {f2 : List Int} (h : okW f0 f1 f2) : Ev (fun k => spec_GoodWishes.f k f0 f1 f2) (goodW f0 f1 f2) := specW_l0 f0 f1 f2 h f0 [] rfl
end Go.Proofs.Ytoipbblhmcpneaa.P

namespace Go.Proofs.Ytoipbblhmcpneaa.P
open Go.RowKit Go.Proofs.YtoipbblhmcpneaaW.PrintWords Go.Proofs.YtoipbblhmcpneaaW.PrintLast
set_option linter.unusedVariables false
set_option linter.unusedSimpArgs false
-- good matches, both sides
def cnt (l : List Int) (j : Int) : Nat := l.countP fun x => decide (x = j)
def hasGo (j : Int) : List Int → Int → List Int
 | [], _ => []
 | x :: r, i => if x = j then i :: hasGo j r (i + 1) else hasGo j r (i + 1)
theorem hasGo_len (j : Int) : ∀ (l : List Int) (i : Int), (hasGo j l i).length = cnt l j
 | [], _ => rfl
 | x :: r, i => by
  unfold hasGo cnt
  rw [List.countP_cons]
  have := hasGo_len j r (i + 1)
  unfold cnt at this
  by_cases h : x = j
  ·rw [if_pos h, List.length_cons, this, decide_eq_true h, if_pos rfl]
  ·rw [if_neg h, this, decide_eq_false h, if_neg Bool.false_ne_true, Nat.add_zero]
theorem cnt_le (l : List Int) (j : Int) : cnt l j ≤ l.length := List.countP_le_length ..
theorem l12Has_l (j : Int) (suf : List Int) : ∀ (pre out : List Int), ((pre ++ suf).length : Int) ≤ 1048576 → out.length ≤ pre.length →
  Ev (fun k => spec_l12Has.l0 k j out (pre ++ suf) ((pre ++ suf).length : Int) pre.length) (out ++ hasGo j suf pre.length) := by
 induction suf with
 | nil =>
  intro pre out h ho
  refine Ev.succ ?_
  simp only [spec_l12Has.l0, List.append_nil, Int.lt_irrefl, if_false, hasGo]
  exact Ev.now _
 | cons x suf ih =>
  intro pre out h ho
  refine Ev.succ ?_
  rw [len_mid] at h ⊢
  have := fun o ho => ih (pre ++ [x]) o (by rw [← app_one, len_mid]; exact h) ho
  rw [← app_one, len_mid, len_one] at this
  simp only [spec_l12Has.l0]
  simp only [if_pos (show ((pre.length : Int) < pre.length + suf.length + 1) by omega), if_pos (show (0 : Int) ≤ pre.length by omega), len_mid, rd_mid, wrap_id (show (-9223372036854775808 : Int) ≤ pre.length + 1 by omega) (show ((pre.length : Int) + 1 ≤ 9223372036854775807) by omega), hasGo]
  by_cases h1 : x = j
  ·simp only [if_pos h1, if_pos (show out.length < 17592186044416 by omega)]
   rw [app_one out (pre.length : Int) (hasGo j suf (pre.length + 1))]
   exact this (out ++ [(pre.length : Int)]) (by simp only [List.length_append, List.length_singleton]; omega)
  ·simp only [if_neg h1]
   exact this out (by rw [List.length_append]; omega)
theorem l12Has_ev (l : List Int) (j : Int) (h : l.length ≤ 1048576) : Ev (fun k => spec_l12Has.f k l j) (hasGo j l 0) := by
 have := l12Has_l j l [] [] (by simp only [List.nil_append]; omega) (by simp)
 exact this
theorem rd_set {acc : List Int} {x j : Int} (hx : 0 ≤ x) (hx1 : x < acc.length) (hj : 0 ≤ j) (y : Int) : rd (acc.set x.toNat y) j = if j = x then y else rd acc j := by
 unfold rd
 rw [List.getD_eq_getElem?_getD, List.getD_eq_getElem?_getD, List.getElem?_set]
 by_cases h : j = x
 ·subst h
  rw [if_pos rfl, if_pos rfl, if_pos (by omega)]
  rfl
 ·rw [if_neg (by omega), if_neg h]
theorem loads_l (m : Nat) (hm : m ≤ 1000) (suf : List Int) (hs : ∀ x ∈ suf, -1 ≤ x ∧ x < m) : ∀ (pre acc : List Int), ((pre ++ suf).length : Int) ≤ 1048576 → acc.length = m → (∀ j : Int, 0 ≤ j → rd acc j = cnt pre j) →
  ∃ r, Ev (fun k => impl_loads.l0 k acc (pre ++ suf) ((pre ++ suf).length : Int) pre.length) r ∧ r.length = m ∧ ∀ j : Int, 0 ≤ j → rd r j = cnt (pre ++ suf) j := by
 induction suf with
 | nil =>
  intro pre acc h ha hr
  refine ⟨acc, Ev.succ ?_, ha, by rw [List.append_nil]; exact hr⟩
  simp only [impl_loads.l0, List.append_nil, Int.lt_irrefl, if_false]
  exact Ev.now _
 | cons x suf ih =>
  intro pre acc h ha hr
  rw [len_mid] at h
  have hx := hs x (List.mem_cons_self ..)
  have hi := ih (fun y hy => hs y (List.mem_cons_of_mem _ hy)) (pre ++ [x])
  rw [← app_one, len_mid, len_one] at hi
  have hc : ∀ j, cnt (pre ++ [x]) j = cnt pre j + if x = j then 1 else 0 := by
   intro j
   unfold cnt
   rw [List.countP_append, List.countP_cons, List.countP_nil, Nat.zero_add]
   by_cases e : x = j
   ·rw [decide_eq_true e, if_pos rfl, if_pos e]
   ·rw [decide_eq_false e, if_neg Bool.false_ne_true, if_neg e]
  by_cases h1 : x ≥ 0
  ·have hb := cnt_le pre x
   obtain ⟨r, er, e1, e2⟩ := hi (acc.set x.toNat (wrap64 ((rd acc x) + 1))) h (by rw [List.length_set]; exact ha) (by
    intro j hj
    rw [rd_set h1 (by omega) hj, hc, hr x h1, wrap_id (by omega) (by omega)]
    by_cases e : j = x
    ·rw [if_pos e, if_pos e.symm, e]
     omega
    ·rw [if_neg e, if_neg (fun c => e c.symm), hr j hj]
     omega)
   refine ⟨r, Ev.succ ?_, e1, e2⟩
   simp only [impl_loads.l0]
   simp only [len_mid, if_pos (show ((pre.length : Int) < pre.length + suf.length + 1) by omega), if_pos (show (0 : Int) ≤ pre.length by omega), rd_mid, wrap_id (show (-9223372036854775808 : Int) ≤ pre.length + 1 by omega) (show ((pre.length : Int) + 1 ≤ 9223372036854775807) by omega), if_pos h1, if_pos (show 0 ≤ x from h1), if_pos (show x < (acc.length : Int) by omega)]
   exact er
  ·obtain ⟨r, er, e1, e2⟩ := hi acc h ha (by
    intro j hj
    rw [hc, if_neg (by omega), Nat.add_zero, hr j hj])
   refine ⟨r, Ev.succ ?_, e1, e2⟩
   simp only [impl_loads.l0]
   simp only [len_mid, if_pos (show ((pre.length : Int) < pre.length + suf.length + 1) by omega), if_pos (show (0 : Int) ≤ pre.length by omega), rd_mid, wrap_id (show (-9223372036854775808 : Int) ≤ pre.length + 1 by omega) (show ((pre.length : Int) + 1 ≤ 9223372036854775807) by omega), if_neg h1]
   exact er
theorem rd_zero (m : Nat) (j : Int) : rd (List.replicate m (0 : Int)) j = 0 := by
 unfold rd
 rw [List.getD_eq_getElem?_getD, List.getElem?_replicate]
 split <;> rfl
theorem loads_ev (f0 f1 : List (List Int)) (f2 l : List Int) (hl : l.length ≤ 1048576) (hm : f1.length ≤ 1000) (hs : ∀ x ∈ l, -1 ≤ x ∧ x < f1.length) :
  ∃ r, Ev (fun k => impl_loads.f k f0 f1 f2 l) r ∧ r.length = f1.length ∧ ∀ j : Int, 0 ≤ j → rd r j = cnt l j := by
 unfold impl_loads.f
 simp only [if_pos (show (0 : Int) ≤ (f1.length : Int) by omega), Int.toNat_natCast, if_pos (show f1.length ≤ 35184372088832 by omega)]
 exact loads_l f1.length hm l hs [] (List.replicate f1.length 0) (by simp only [List.nil_append]; omega) (by simp) (fun j hj => by rw [rd_zero]; rfl)
theorem goodW_len {f0 f1 : List (List Int)} {f2 : List Int} (h : goodW f0 f1 f2 = true) : 1 ≤ f0.length ∧ f0.length ≤ 8 ∧ 1 ≤ f1.length ∧ f1.length ≤ 8 ∧ f2.length = f1.length := by
 unfold goodW at h
 simp only [Bool.and_eq_true, decide_eq_true_eq] at h
 omega
end Go.Proofs.Ytoipbblhmcpneaa.P

namespace Go.Proofs.Ytoipbblhmcpneaa.P
open Go.RowKit Go.Proofs.YtoipbblhmcpneaaW.PrintWords Go.Proofs.YtoipbblhmcpneaaW.PrintLast
set_option linter.unusedVariables false
set_option linter.unusedSimpArgs false
theorem erase_len_le {α : Type} [DecidableEq α] {x : α} : ∀ {M : List α}, x ∈ M → (M.erase x).length + 1 = M.length := by
 intro M h
 have := List.length_erase_of_mem h
 have h2 : 0 < M.length := List.length_pos_of_mem h
 omega
theorem nodup_le {α : Type} [DecidableEq α] : ∀ (L M : List α), L.Nodup → (∀ x ∈ L, x ∈ M) → L.length ≤ M.length
 | [], _, _, _ => Nat.zero_le _
 | x :: L, M, hn, hs => by
  have hx : x ∈ M := hs x (by simp)
  rw [List.nodup_cons] at hn
  have h := nodup_le L (M.erase x) hn.2 (fun y hy => by
   have : y ≠ x := fun e => hn.1 (e ▸ hy)
   exact (List.mem_erase_of_ne this).2 (hs y (by simp [hy])))
  have := erase_len_le hx
  simp only [List.length_cons]
  omega
end Go.Proofs.Ytoipbblhmcpneaa.P

namespace Go.Proofs.Ytoipbblhmcpneaa.P
open Go.RowKit Go.Proofs.YtoipbblhmcpneaaW.PrintWords Go.Proofs.YtoipbblhmcpneaaW.PrintLast
set_option linter.unusedVariables false
set_option linter.unusedSimpArgs false
-- who serves whom: places, who would be taken, and what a round of asking keeps (no function of the program)
def row_ (f : List (List Int)) (i : Int) : List Int := f.getD i.toNat []
def pl (l : List Int) (x : Int) : Int := (placeGo x l 0).getD (l.length : Int)
theorem placeGo_some (x : Int) : ∀ (l : List Int) (i : Int), x ∈ l → ∃ k : Nat, k < l.length ∧ placeGo x l i = some (i + k) ∧ rd l k = x ∧ ∀ j : Nat, j < k → rd l j ≠ x
 | [], _, h => by simp at h
 | y :: r, i, h => by
  unfold placeGo
  by_cases e : y = x
  ·exact ⟨0, by simp, by rw [if_pos e]; simp, e, fun j hj => absurd hj (Nat.not_lt_zero _)⟩
  ·rw [if_neg e]
   obtain ⟨k, h1, h2, h3, h4⟩ := placeGo_some x r (i + 1) ((List.mem_cons.1 h).resolve_left (fun c => e c.symm))
   refine ⟨k + 1, by simpa using h1, by rw [h2]; congr 1; omega, ?_, ?_⟩
   ·rw [← h3]
    rfl
   ·intro j hj
    cases j with
    | zero => exact e
    | succ j => exact h4 j (by omega)
theorem placeGo_none (x : Int) : ∀ (l : List Int) (i : Int), x ∉ l → placeGo x l i = none
 | [], _, _ => rfl
 | y :: r, i, h => by
  unfold placeGo
  rw [if_neg (fun e => h (by rw [e]; exact List.mem_cons_self ..))]
  exact placeGo_none x r (i + 1) (fun c => h (List.mem_cons_of_mem _ c))
theorem rd_mem {l : List Int} {k : Nat} (h : k < l.length) : rd l (k : Int) ∈ l := by
 unfold rd
 rw [Int.toNat_natCast, List.getD_eq_getElem?_getD, List.getElem?_eq_getElem h]
 exact List.getElem_mem h
theorem rd_inj {l : List Int} (hn : l.Nodup) {j k : Nat} (hj : j < l.length) (hk : k < l.length) (e : rd l (j : Int) = rd l (k : Int)) : j = k := by
 unfold rd at e
 rw [Int.toNat_natCast, Int.toNat_natCast, List.getD_eq_getElem?_getD, List.getElem?_eq_getElem hj, List.getD_eq_getElem?_getD, List.getElem?_eq_getElem hk] at e
 have hp := List.pairwise_iff_getElem.1 hn
 rcases Nat.lt_trichotomy j k with h | h | h
 ·exact absurd e (hp j k hj hk h)
 ·exact h
 ·exact absurd e.symm (hp k j hk hj h)
theorem dupGo_nodup : ∀ (l pre : List Int), pre.Nodup → dupGo pre l = true → (pre ++ l).Nodup
 | [], pre, h, _ => by rw [List.append_nil]; exact h
 | x :: r, pre, h, hd => by
  unfold dupGo at hd
  rw [Bool.and_eq_true, Bool.not_eq_true'] at hd
  rw [app_one]
  refine dupGo_nodup r (pre ++ [x]) ?_ hd.2
  refine List.nodup_append.2 ⟨h, by simp, fun a ha b hb => ?_⟩
  rw [List.mem_singleton] at hb
  subst hb
  intro e
  subst e
  obtain ⟨k, _, h2, _⟩ := placeGo_some a pre 0 ha
  rw [h2] at hd
  simp at hd
/-- a list of all from 0 to m, each once -/
structure Perm_ (m : Int) (l : List Int) : Prop where
 len : (l.length : Int) = m
 low : ∀ x ∈ l, 0 ≤ x ∧ x < m
 nodup : l.Nodup
theorem allIn_mem {a b : Int} {l : List Int} (h : allIn a b l = true) : ∀ x ∈ l, a ≤ x ∧ x ≤ b := by
 intro x hx
 unfold allIn at h
 have := List.all_eq_true.1 h x hx
 rwa [decide_eq_true_eq] at this
theorem rowOk_perm {m : Int} {l : List Int} (h : rowOk m l = true) : Perm_ m l := by
 unfold rowOk at h
 rw [Bool.and_eq_true, Bool.and_eq_true, decide_eq_true_eq] at h
 refine ⟨h.1, fun x hx => ?_, ?_⟩
 ·have := allIn_mem h.2.1 x hx
  omega
 ·have := dupGo_nodup l [] (by simp) h.2.2
  simpa using this
theorem Perm_.mem {m : Int} {l : List Int} (h : Perm_ m l) {x : Int} (h0 : 0 ≤ x) (h1 : x < m) : x ∈ l := by
 by_cases hx : x ∈ l
 ·exact hx
 ·have hq := nodup_le (x :: l) ((List.range m.toNat).map fun (i : Nat) => (i : Int)) (List.nodup_cons.2 ⟨hx, h.nodup⟩) (fun y hy => by
   rw [List.mem_map]
   have : 0 ≤ y ∧ y < m := by
    rcases List.mem_cons.1 hy with rfl | hy
    ·exact ⟨h0, h1⟩
    ·exact h.low y hy
   exact ⟨y.toNat, List.mem_range.2 (by omega), by omega⟩)
  rw [List.length_cons, List.length_map, List.length_range] at hq
  have := h.len
  omega
theorem Perm_.pl_in {m : Int} {l : List Int} (h : Perm_ m l) {x : Int} (h0 : 0 ≤ x) (h1 : x < m) : 0 ≤ pl l x ∧ pl l x < m ∧ rd l (pl l x) = x := by
 obtain ⟨k, h2, h3, h4, _⟩ := placeGo_some x l 0 (h.mem h0 h1)
 have := h.len
 unfold pl
 rw [h3, Option.getD_some, Int.zero_add]
 exact ⟨by omega, by omega, h4⟩
theorem Perm_.pl_out {m : Int} {l : List Int} (h : Perm_ m l) {x : Int} (h0 : x < 0) : pl l x = m := by
 unfold pl
 rw [placeGo_none x l 0 (fun c => by have := h.low x c; omega), Option.getD_none, h.len]
theorem Perm_.rd_in {m : Int} {l : List Int} (h : Perm_ m l) {k : Int} (h0 : 0 ≤ k) (h1 : k < m) : 0 ≤ rd l k ∧ rd l k < m := by
 have := h.len
 have h2 := rd_mem (l := l) (k := k.toNat) (by omega)
 rw [show ((k.toNat : Nat) : Int) = k by omega] at h2
 exact h.low _ h2
theorem Perm_.pl_rd {m : Int} {l : List Int} (h : Perm_ m l) {k : Int} (h0 : 0 ≤ k) (h1 : k < m) : pl l (rd l k) = k := by
 have hr := h.rd_in h0 h1
 have hp := h.pl_in hr.1 hr.2
 have := h.len
 have e := rd_inj h.nodup (j := (pl l (rd l k)).toNat) (k := k.toNat) (by omega) (by omega) (by
  rw [show (((pl l (rd l k)).toNat : Nat) : Int) = pl l (rd l k) by omega, show ((k.toNat : Nat) : Int) = k by omega]
  exact hp.2.2)
 omega
theorem Perm_.pl_inj {m : Int} {l : List Int} (h : Perm_ m l) {x y : Int} (h0 : 0 ≤ x) (h1 : x < m) (h2 : 0 ≤ y) (h3 : y < m) (e : pl l x = pl l y) : x = y := by
 rw [← (h.pl_in h0 h1).2.2, e, (h.pl_in h2 h3).2.2]
theorem cnt_range (l : List Int) (s : Int) : cnt l s = (List.range l.length).countP fun (i : Nat) => decide (rd l (i : Int) = s) := by
 have e : l = (List.range l.length).map fun (i : Nat) => rd l (i : Int) := by
  apply List.ext_getElem
  ·simp
  ·intro i h1 h2
   rw [List.getElem_map, List.getElem_range]
   unfold rd
   rw [Int.toNat_natCast, List.getD_eq_getElem?_getD, List.getElem?_eq_getElem h1]
   rfl
 unfold cnt
 rw [show l.countP (fun x => decide (x = s)) = ((List.range l.length).map fun (i : Nat) => rd l (i : Int)).countP (fun x => decide (x = s)) by rw [← e], List.countP_map]
 rfl
theorem cnt_set (l : List Int) (x y s : Int) (h0 : 0 ≤ x) (h1 : x < l.length) : cnt (l.set x.toNat y) s + (if rd l x = s then 1 else 0) = cnt l s + (if y = s then 1 else 0) := by
 obtain ⟨k, rfl⟩ := Int.eq_ofNat_of_zero_le h0
 rw [Int.toNat_natCast]
 have hk : k < l.length := by omega
 clear h0 h1
 induction l generalizing k with
 | nil => simp at hk
 | cons a l ih =>
  cases k with
  | zero =>
   unfold cnt
   rw [List.set_cons_zero, List.countP_cons, List.countP_cons, show rd (a :: l) ((0 : Nat) : Int) = a from rfl]
   simp only [decide_eq_true_eq]
   omega
  | succ k =>
   have := ih k (by simpa using hk)
   unfold cnt at this ⊢
   rw [List.set_cons_succ, List.countP_cons, List.countP_cons, show rd (a :: l) ((k + 1 : Nat) : Int) = rd l (k : Int) from rfl]
   omega
theorem countP_sub {α : Type} (p q : α → Bool) : ∀ (l : List α), (∀ x ∈ l, p x = true → q x = true) → (∃ x ∈ l, p x = false ∧ q x = true) → l.countP p < l.countP q
 | [], _, ⟨x, hx, _⟩ => by simp at hx
 | a :: l, h, ⟨x, hx, h1, h2⟩ => by
  rw [List.countP_cons, List.countP_cons]
  have hle : l.countP p ≤ l.countP q := List.countP_mono_left fun y hy => h y (List.mem_cons_of_mem _ hy)
  rcases List.mem_cons.1 hx with rfl | hx
  ·rw [h1, h2, if_pos rfl, if_neg Bool.false_ne_true]
   omega
  ·have := countP_sub p q l (fun y hy => h y (List.mem_cons_of_mem _ hy)) ⟨x, hx, h1, h2⟩
   by_cases hp : p a = true
   ·rw [if_pos hp, if_pos (h a (List.mem_cons_self ..) hp)]
    omega
   ·rw [if_neg hp]
    omega
/-- one who is in the first and not in the second -/
theorem cnt_diff {m M : List Int} {s g : Int} (hl : m.length = M.length) (hg : 0 ≤ g) (hg1 : g < m.length) (h1 : rd m g ≠ s) (h2 : rd M g = s) (hc : cnt M s ≤ cnt m s) : ∃ h : Int, 0 ≤ h ∧ h < m.length ∧ rd m h = s ∧ rd M h ≠ s := by
 by_cases hx : ∃ h : Int, 0 ≤ h ∧ h < m.length ∧ rd m h = s ∧ rd M h ≠ s
 ·exact hx
 ·exfalso
  have := countP_sub (fun (i : Nat) => decide (rd m (i : Int) = s)) (fun (i : Nat) => decide (rd M (i : Int) = s)) (List.range m.length) (fun i hi hp => by
   rw [decide_eq_true_eq] at hp ⊢
   by_cases hq : rd M (i : Int) = s
   ·exact hq
   ·have := List.mem_range.1 hi
    exact absurd ⟨(i : Int), by omega, by omega, hp, hq⟩ hx) ⟨g.toNat, List.mem_range.2 (by omega), by
    rw [show ((g.toNat : Nat) : Int) = g by omega, decide_eq_false_iff_not]; exact h1, by
    rw [show ((g.toNat : Nat) : Int) = g by omega, decide_eq_true_eq]; exact h2⟩
  rw [← cnt_range] at this
  rw [hl, ← cnt_range] at this
  omega
end Go.Proofs.Ytoipbblhmcpneaa.P

namespace Go.Proofs.Ytoipbblhmcpneaa.P
open Go.RowKit Go.Proofs.YtoipbblhmcpneaaW.PrintWords Go.Proofs.YtoipbblhmcpneaaW.PrintLast
set_option linter.unusedVariables false
set_option linter.unusedSimpArgs false
-- the rounds of asking: what they keep, that the end is stable, and that no group does better (no function of the program)
/-- good wishes: all lists are orders -/
structure WOk (f0 f1 : List (List Int)) (f2 : List Int) (G S : Int) : Prop where
 g : (f0.length : Int) = G
 s : (f1.length : Int) = S
 r : (f2.length : Int) = S
 pg : ∀ g : Int, 0 ≤ g → g < G → Perm_ S (row_ f0 g)
 ps : ∀ s : Int, 0 ≤ s → s < S → Perm_ G (row_ f1 s)
/-- a server would take a group -/
def Would (f1 : List (List Int)) (f2 m : List Int) (s g : Int) : Prop :=
 (cnt m s : Int) < rd f2 s ∨ ∃ h : Int, 0 ≤ h ∧ h < m.length ∧ rd m h = s ∧ pl (row_ f1 s) g < pl (row_ f1 s) h
def Blocks (f0 f1 : List (List Int)) (f2 m : List Int) (g s : Int) : Prop :=
 pl (row_ f0 g) s < pl (row_ f0 g) (rd m g) ∧ Would f1 f2 m s g
def Stable (f0 f1 : List (List Int)) (f2 m : List Int) : Prop :=
 ∀ g s : Int, 0 ≤ g → g < m.length → 0 ≤ s → s < f1.length → ¬ Blocks f0 f1 f2 m g s
/-- a good match -/
structure MOk (f2 m : List Int) (G S : Int) : Prop where
 len : (m.length : Int) = G
 low : ∀ g : Int, 0 ≤ g → g < G → -1 ≤ rd m g ∧ rd m g < S
 cap : ∀ s : Int, 0 ≤ s → s < S → (cnt m s : Int) ≤ rd f2 s
structure Inv (f0 f1 : List (List Int)) (f2 : List Int) (G S : Int) (m a : List Int) : Prop where
 ok : MOk f2 m G S
 alen : (a.length : Int) = G
 ain : ∀ g : Int, 0 ≤ g → g < G → 0 ≤ rd a g ∧ rd a g ≤ S
 has : ∀ g : Int, 0 ≤ g → g < G → 0 ≤ rd m g → 1 ≤ rd a g ∧ rd (row_ f0 g) (rd a g - 1) = rd m g
 rej : ∀ g k : Int, 0 ≤ g → g < G → 0 ≤ k → k < rd a g → rd m g ≠ rd (row_ f0 g) k → rd f2 (rd (row_ f0 g) k) ≤ (cnt m (rd (row_ f0 g) k) : Int) ∧ ∀ h : Int, 0 ≤ h → h < G → rd m h = rd (row_ f0 g) k → pl (row_ f1 (rd (row_ f0 g) k)) h < pl (row_ f1 (rd (row_ f0 g) k)) g
 opt : ∀ M : List Int, MOk f2 M G S → Stable f0 f1 f2 M → ∀ g k : Int, 0 ≤ g → g < G → 0 ≤ k → k < rd a g → rd m g ≠ rd (row_ f0 g) k → rd M g ≠ rd (row_ f0 g) k
/-- who is turned down by a full server has it in no stable match -/
theorem opt_step {f0 f1 : List (List Int)} {f2 : List Int} {G S : Int} (w : WOk f0 f1 f2 G S) {m a : List Int} (hm : MOk f2 m G S) (ain : ∀ g : Int, 0 ≤ g → g < G → 0 ≤ rd a g ∧ rd a g ≤ S)
  {s g : Int} (hs : 0 ≤ s) (hs1 : s < S) (hg : 0 ≤ g) (hg1 : g < G) (hne : rd m g ≠ s) (hfull : rd f2 s ≤ (cnt m s : Int)) (hbetter : ∀ h : Int, 0 ≤ h → h < G → rd m h = s → pl (row_ f1 s) h < pl (row_ f1 s) g)
  (hhas : ∀ h : Int, 0 ≤ h → h < G → rd m h = s → 1 ≤ rd a h ∧ rd (row_ f0 h) (rd a h - 1) = s)
  {M : List Int} (hM : MOk f2 M G S) (hst : Stable f0 f1 f2 M) (hopt : ∀ h k : Int, 0 ≤ h → h < G → rd m h = s → 0 ≤ k → k < rd a h - 1 → rd M h ≠ rd (row_ f0 h) k) : rd M g ≠ s := by
 intro e
 have hl := hm.len
 have hL := hM.len
 have hcap := hM.cap s hs hs1
 obtain ⟨h, h0, h1, h2, h3⟩ := cnt_diff (m := m) (M := M) (s := s) (g := g) (by omega) hg (by omega) hne e (by omega)
 have h1' : h < G := by omega
 have hp := w.pg h h0 h1'
 have hh := hhas h h0 h1' h2
 have ha := ain h h0 h1'
 have hpl : pl (row_ f0 h) s = rd a h - 1 := by
  rw [← hh.2]
  exact hp.pl_rd (by omega) (by omega)
 refine hst h s h0 (by omega) hs (by have := w.s; omega) ⟨?_, .inr ⟨g, hg, by omega, e, hbetter h h0 h1' h2⟩⟩
 have hlow := hM.low h h0 h1'
 by_cases hn : rd M h < 0
 ·rw [hp.pl_out hn, hpl]
  omega
 ·have hr := hp.pl_in (x := rd M h) (by omega) hlow.2
  have hx : pl (row_ f0 h) (rd M h) ≠ rd a h - 1 := fun c => h3 (by rw [← hr.2.2, c, hh.2])
  have hy : ¬ pl (row_ f0 h) (rd M h) < rd a h - 1 := fun c => hopt h (pl (row_ f0 h) (rd M h)) h0 h1' h2 hr.1 c hr.2.2.symm
  omega
theorem inv_start {f0 f1 : List (List Int)} {f2 : List Int} {G S : Int} (w : WOk f0 f1 f2 G S) (hG : 0 ≤ G) (hS : 0 ≤ S) (h2 : ∀ s : Int, 0 ≤ s → s < S → 0 ≤ rd f2 s) : Inv f0 f1 f2 G S (List.replicate G.toNat (-1)) (List.replicate G.toNat 0) := by
 have e1 : ∀ g : Int, 0 ≤ g → g < G → rd (List.replicate G.toNat (-1 : Int)) g = -1 := fun g h0 h1 => by
  unfold rd
  rw [List.getD_eq_getElem?_getD, List.getElem?_replicate, if_pos (by omega)]
  rfl
 have e2 : ∀ g : Int, 0 ≤ g → g < G → rd (List.replicate G.toNat (0 : Int)) g = 0 := fun g h0 h1 => by
  unfold rd
  rw [List.getD_eq_getElem?_getD, List.getElem?_replicate, if_pos (by omega)]
  rfl
 refine ⟨⟨by rw [List.length_replicate]; omega, fun g h0 h1 => by rw [e1 g h0 h1]; omega, fun s hs hs1 => ?_⟩, by rw [List.length_replicate]; omega, fun g h0 h1 => by rw [e2 g h0 h1]; omega, fun g h0 h1 h => ?_, fun g k h0 h1 hk hk1 _ => ?_, fun M _ _ g k h0 h1 hk hk1 _ => ?_⟩
 ·have : cnt (List.replicate G.toNat (-1 : Int)) s = 0 := by
   unfold cnt
   rw [List.countP_eq_zero]
   intro x hx
   have := List.eq_of_mem_replicate hx
   rw [decide_eq_true_eq]
   omega
  rw [this]
  exact h2 s hs hs1
 ·rw [e1 g h0 h1] at h
  omega
 ·rw [e2 g h0 h1] at hk1
  omega
 ·rw [e2 g h0 h1] at hk1
  omega
/-- a group asks and is turned down -/
theorem inv_no {f0 f1 : List (List Int)} {f2 : List Int} {G S : Int} (w : WOk f0 f1 f2 G S) {m a : List Int} (h : Inv f0 f1 f2 G S m a) {g : Int} (hg : 0 ≤ g) (hg1 : g < G) (hm : rd m g < 0) (ha : rd a g < S)
  (hno : ¬ Would f1 f2 m (rd (row_ f0 g) (rd a g)) g) : Inv f0 f1 f2 G S m (a.set g.toNat (rd a g + 1)) := by
 have hai := h.ain g hg hg1
 have hal := h.alen
 have hml := h.ok.len
 have hp := w.pg g hg hg1
 have hs := hp.rd_in hai.1 ha
 have ea : ∀ x : Int, 0 ≤ x → rd (a.set g.toNat (rd a g + 1)) x = if x = g then rd a g + 1 else rd a x := fun x hx => rd_set hg (by omega) hx _
 generalize hsd : rd (row_ f0 g) (rd a g) = s at hno hs
 have hfull : rd f2 s ≤ (cnt m s : Int) := by
  by_cases c : rd f2 s ≤ (cnt m s : Int)
  ·exact c
  ·exact absurd (Or.inl (by omega)) hno
 have hbet : ∀ x : Int, 0 ≤ x → x < G → rd m x = s → pl (row_ f1 s) x < pl (row_ f1 s) g := by
  intro x hx hx1 e
  by_cases c : pl (row_ f1 s) x < pl (row_ f1 s) g
  ·exact c
  ·exfalso
   have hne : x ≠ g := fun c => by subst c; omega
   have hps := w.ps s hs.1 hs.2
   have hq : pl (row_ f1 s) g ≠ pl (row_ f1 s) x := fun c => hne (hps.pl_inj hg hg1 hx hx1 c).symm
   exact hno (.inr ⟨x, hx, by omega, e, by omega⟩)
 refine ⟨h.ok, by rw [List.length_set]; exact hal, fun x hx hx1 => ?_, fun x hx hx1 hc => ?_, fun x k hx hx1 hk hk1 hne => ?_, fun M hM hst x k hx hx1 hk hk1 hne => ?_⟩
 ·rw [ea x hx]
  split
  ·omega
  ·exact h.ain x hx hx1
 ·rw [ea x hx, if_neg (fun c => by subst c; omega)]
  exact h.has x hx hx1 hc
 ·rw [ea x hx] at hk1
  by_cases c : x = g
  ·subst c
   rw [if_pos rfl] at hk1
   by_cases ck : k = rd a x
   ·subst ck
    rw [hsd]
    exact ⟨hfull, hbet⟩
   ·exact h.rej x k hx hx1 hk (by omega) hne
  ·rw [if_neg c] at hk1
   exact h.rej x k hx hx1 hk hk1 hne
 ·rw [ea x hx] at hk1
  by_cases c : x = g
  ·subst c
   rw [if_pos rfl] at hk1
   by_cases ck : k = rd a x
   ·subst ck
    rw [hsd]
    exact opt_step w h.ok h.ain hs.1 hs.2 hx hx1 (by omega) hfull hbet (fun y hy hy1 e => by
     have := h.has y hy hy1 (by omega)
     rw [e] at this
     exact this) hM hst (fun y j hy hy1 e hj hj1 => h.opt M hM hst y j hy hy1 hj (by omega) (fun c => by
     have hy2 := h.has y hy hy1 (by omega)
     have hpy := w.pg y hy hy1
     have hay := h.ain y hy hy1
     have e1 := hpy.pl_rd hj (show j < S by omega)
     have e2 := hpy.pl_rd (show 0 ≤ rd a y - 1 by omega) (show rd a y - 1 < S by omega)
     rw [hy2.2, c, e1] at e2
     omega))
   ·exact h.opt M hM hst x k hx hx1 hk (by omega) hne
  ·rw [if_neg c] at hk1
   exact h.opt M hM hst x k hx hx1 hk hk1 hne
end Go.Proofs.Ytoipbblhmcpneaa.P

namespace Go.Proofs.Ytoipbblhmcpneaa.P
open Go.RowKit Go.Proofs.YtoipbblhmcpneaaW.PrintWords Go.Proofs.YtoipbblhmcpneaaW.PrintLast
set_option linter.unusedVariables false
set_option linter.unusedSimpArgs false
-- a group asks and is taken; the end of all asking (no function of the program)
theorem Inv.before {f0 f1 : List (List Int)} {f2 : List Int} {G S : Int} (w : WOk f0 f1 f2 G S) {m a : List Int} (h : Inv f0 f1 f2 G S m a) {y j : Int} (hy : 0 ≤ y) (hy1 : y < G) (hm : 0 ≤ rd m y) (hj : 0 ≤ j) (hj1 : j < rd a y - 1) : rd m y ≠ rd (row_ f0 y) j := by
 intro c
 have hy2 := h.has y hy hy1 hm
 have hpy := w.pg y hy hy1
 have hay := h.ain y hy hy1
 have e1 := hpy.pl_rd hj (show j < S by omega)
 have e2 := hpy.pl_rd (show 0 ≤ rd a y - 1 by omega) (show rd a y - 1 < S by omega)
 rw [hy2.2, c, e1] at e2
 omega
theorem inv_free {f0 f1 : List (List Int)} {f2 : List Int} {G S : Int} (w : WOk f0 f1 f2 G S) {m a : List Int} (h : Inv f0 f1 f2 G S m a) {g : Int} (hg : 0 ≤ g) (hg1 : g < G) (hm : rd m g < 0) (ha : rd a g < S)
  (hfree : (cnt m (rd (row_ f0 g) (rd a g)) : Int) < rd f2 (rd (row_ f0 g) (rd a g))) : Inv f0 f1 f2 G S (m.set g.toNat (rd (row_ f0 g) (rd a g))) (a.set g.toNat (rd a g + 1)) := by
 have hai := h.ain g hg hg1
 have hal := h.alen
 have hml := h.ok.len
 have hp := w.pg g hg hg1
 have hs := hp.rd_in hai.1 ha
 have ea : ∀ x : Int, 0 ≤ x → rd (a.set g.toNat (rd a g + 1)) x = if x = g then rd a g + 1 else rd a x := fun x hx => rd_set hg (by omega) hx _
 generalize hsd : rd (row_ f0 g) (rd a g) = s at hfree hs
 have em : ∀ x : Int, 0 ≤ x → rd (m.set g.toNat s) x = if x = g then s else rd m x := fun x hx => rd_set hg (by omega) hx _
 have ec : ∀ t : Int, 0 ≤ t → (cnt (m.set g.toNat s) t : Int) = cnt m t + if s = t then 1 else 0 := by
  intro t ht
  have := cnt_set m g s t hg (by omega)
  rw [if_neg (show ¬ rd m g = t by omega)] at this
  split at this
  ·rename_i c
   rw [if_pos c]
   omega
  ·rename_i c
   rw [if_neg c]
   omega
 refine ⟨⟨by rw [List.length_set]; exact hml, fun x hx hx1 => ?_, fun t ht ht1 => ?_⟩, by rw [List.length_set]; exact hal, fun x hx hx1 => ?_, fun x hx hx1 hc => ?_, fun x k hx hx1 hk hk1 hne => ?_, fun M hM hst x k hx hx1 hk hk1 hne => ?_⟩
 ·rw [em x hx]
  split
  ·omega
  ·exact h.ok.low x hx hx1
 ·rw [ec t ht]
  have := h.ok.cap t ht ht1
  split
  ·rename_i c
   subst c
   omega
  ·omega
 ·rw [ea x hx]
  split
  ·omega
  ·exact h.ain x hx hx1
 ·rw [ea x hx, em x hx]
  rw [em x hx] at hc
  by_cases c : x = g
  ·subst c
   rw [if_pos rfl, if_pos rfl, Int.add_sub_cancel]
   exact ⟨by omega, hsd⟩
  ·rw [if_neg c] at hc
   rw [if_neg c, if_neg c]
   exact h.has x hx hx1 hc
 ·have old : rd m x ≠ rd (row_ f0 x) k ∧ k < rd a x := by
   rw [ea x hx] at hk1
   rw [em x hx] at hne
   by_cases c : x = g
   ·subst c
    rw [if_pos rfl] at hk1 hne
    have : k ≠ rd a x := fun c => by subst c; exact hne hsd.symm
    have := hp.rd_in hk (by omega)
    exact ⟨by omega, by omega⟩
   ·rw [if_neg c] at hk1 hne
    exact ⟨hne, hk1⟩
  have hr := h.rej x k hx hx1 hk old.2 old.1
  have hax := h.ain x hx hx1
  have ht := (w.pg x hx hx1).rd_in hk (by omega)
  generalize rd (row_ f0 x) k = t at hr ht
  have hst : s ≠ t := fun c => by subst c; omega
  rw [ec t ht.1, if_neg hst]
  refine ⟨by omega, fun y hy hy1 e => hr.2 y hy hy1 ?_⟩
  rw [em y hy] at e
  by_cases c : y = g
  ·rw [if_pos c] at e
   exact absurd e hst
  ·rw [if_neg c] at e
   exact e
 ·rw [ea x hx] at hk1
  rw [em x hx] at hne
  by_cases c : x = g
  ·subst c
   rw [if_pos rfl] at hk1 hne
   have : k ≠ rd a x := fun c => by subst c; exact hne hsd.symm
   have := hp.rd_in hk (by omega)
   exact h.opt M hM hst x k hx hx1 hk (by omega) (by omega)
  ·rw [if_neg c] at hk1 hne
   exact h.opt M hM hst x k hx hx1 hk hk1 hne
theorem inv_swap {f0 f1 : List (List Int)} {f2 : List Int} {G S : Int} (w : WOk f0 f1 f2 G S) {m a : List Int} (h : Inv f0 f1 f2 G S m a) {g : Int} (hg : 0 ≤ g) (hg1 : g < G) (hm : rd m g < 0) (ha : rd a g < S)
  (hfull : rd f2 (rd (row_ f0 g) (rd a g)) ≤ (cnt m (rd (row_ f0 g) (rd a g)) : Int)) {o : Int} (ho : 0 ≤ o) (ho1 : o < G) (hos : rd m o = rd (row_ f0 g) (rd a g))
  (hworst : ∀ x : Int, 0 ≤ x → x < G → rd m x = rd (row_ f0 g) (rd a g) → pl (row_ f1 (rd (row_ f0 g) (rd a g))) x ≤ pl (row_ f1 (rd (row_ f0 g) (rd a g))) o)
  (hlt : pl (row_ f1 (rd (row_ f0 g) (rd a g))) g < pl (row_ f1 (rd (row_ f0 g) (rd a g))) o) :
  Inv f0 f1 f2 G S ((m.set o.toNat (-1)).set g.toNat (rd (row_ f0 g) (rd a g))) (a.set g.toNat (rd a g + 1)) := by
 have hai := h.ain g hg hg1
 have hal := h.alen
 have hml := h.ok.len
 have hp := w.pg g hg hg1
 have hs := hp.rd_in hai.1 ha
 have ea : ∀ x : Int, 0 ≤ x → rd (a.set g.toNat (rd a g + 1)) x = if x = g then rd a g + 1 else rd a x := fun x hx => rd_set hg (by omega) hx _
 generalize hsd : rd (row_ f0 g) (rd a g) = s at hfull hs hos hworst hlt
 have hog : o ≠ g := fun c => by subst c; omega
 have em : ∀ x : Int, 0 ≤ x → rd ((m.set o.toNat (-1)).set g.toNat s) x = if x = g then s else if x = o then -1 else rd m x := fun x hx => by
  rw [rd_set hg (by rw [List.length_set]; omega) hx, rd_set ho (by omega) hx]
 have ec : ∀ t : Int, 0 ≤ t → (cnt ((m.set o.toNat (-1)).set g.toNat s) t : Int) = cnt m t := by
  intro t ht
  have h1 := cnt_set m o (-1) t ho (by omega)
  have h2 := cnt_set (m.set o.toNat (-1)) g s t hg (by rw [List.length_set]; omega)
  have e1 : rd (m.set o.toNat (-1)) g = rd m g := by rw [rd_set ho (by omega) hg, if_neg (fun c => hog c.symm)]
  rw [e1, if_neg (show ¬ rd m g = t by omega)] at h2
  rw [hos, if_neg (show ¬ (-1 : Int) = t by omega)] at h1
  by_cases c : s = t
  ·rw [if_pos c] at h1 h2
   omega
  ·rw [if_neg c] at h1 h2
   omega
 have hps := w.ps s hs.1 hs.2
 have hok : MOk f2 ((m.set o.toNat (-1)).set g.toNat s) G S := by
  refine ⟨by rw [List.length_set, List.length_set]; exact hml, fun x hx hx1 => ?_, fun t ht ht1 => ?_⟩
  ·rw [em x hx]
   split
   ·omega
   ·split
    ·omega
    ·exact h.ok.low x hx hx1
  ·rw [ec t ht]
   exact h.ok.cap t ht ht1
 have hain : ∀ x : Int, 0 ≤ x → x < G → 0 ≤ rd (a.set g.toNat (rd a g + 1)) x ∧ rd (a.set g.toNat (rd a g + 1)) x ≤ S := by
  intro x hx hx1
  rw [ea x hx]
  split
  ·omega
  ·exact h.ain x hx hx1
 have hhas : ∀ x : Int, 0 ≤ x → x < G → 0 ≤ rd ((m.set o.toNat (-1)).set g.toNat s) x → 1 ≤ rd (a.set g.toNat (rd a g + 1)) x ∧ rd (row_ f0 x) (rd (a.set g.toNat (rd a g + 1)) x - 1) = rd ((m.set o.toNat (-1)).set g.toNat s) x := by
  intro x hx hx1 hc
  rw [ea x hx, em x hx]
  rw [em x hx] at hc
  by_cases c : x = g
  ·subst c
   rw [if_pos rfl, if_pos rfl, Int.add_sub_cancel]
   exact ⟨by omega, hsd⟩
  ·rw [if_neg c] at hc
   rw [if_neg c, if_neg c]
   by_cases d : x = o
   ·rw [if_pos d] at hc
    omega
   ·rw [if_neg d] at hc
    rw [if_neg d]
    exact h.has x hx hx1 hc
 have hbet : ∀ y : Int, 0 ≤ y → y < G → rd ((m.set o.toNat (-1)).set g.toNat s) y = s → pl (row_ f1 s) y < pl (row_ f1 s) o := by
  intro y hy hy1 e
  rw [em y hy] at e
  by_cases c : y = g
  ·rw [c]
   exact hlt
  ·rw [if_neg c] at e
   by_cases d : y = o
   ·rw [if_pos d] at e
    omega
   ·rw [if_neg d] at e
    have h1 := hworst y hy hy1 e
    have h2 : pl (row_ f1 s) y ≠ pl (row_ f1 s) o := fun c => d (hps.pl_inj hy hy1 ho ho1 c)
    omega
 -- who holds another server holds it as before
 have other : ∀ t : Int, 0 ≤ t → s ≠ t → ∀ y : Int, 0 ≤ y → rd ((m.set o.toNat (-1)).set g.toNat s) y = t → rd m y = t := by
  intro t ht hst y hy e
  rw [em y hy] at e
  by_cases c : y = g
  ·rw [if_pos c] at e
   exact absurd e hst
  ·rw [if_neg c] at e
   by_cases d : y = o
   ·rw [if_pos d] at e
    omega
   ·rw [if_neg d] at e
    exact e
 -- a pair that was turned down before
 have old : ∀ x k : Int, 0 ≤ x → x < G → 0 ≤ k → k < rd (a.set g.toNat (rd a g + 1)) x → rd ((m.set o.toNat (-1)).set g.toNat s) x ≠ rd (row_ f0 x) k → (x = o ∧ rd (row_ f0 x) k = s) ∨ (rd m x ≠ rd (row_ f0 x) k ∧ k < rd a x ∧ (x = g → s ≠ rd (row_ f0 x) k)) := by
  intro x k hx hx1 hk hk1 hne
  rw [ea x hx] at hk1
  rw [em x hx] at hne
  by_cases c : x = g
  ·subst c
   rw [if_pos rfl] at hk1 hne
   have : k ≠ rd a x := fun c => by subst c; exact hne hsd.symm
   have := hp.rd_in hk (by omega)
   exact .inr ⟨by omega, by omega, fun _ => hne⟩
  ·rw [if_neg c] at hk1 hne
   by_cases d : x = o
   ·subst d
    by_cases e : rd (row_ f0 x) k = s
    ·exact .inl ⟨rfl, e⟩
    ·exact .inr ⟨by rw [hos]; exact fun q => e q.symm, hk1, fun q => absurd q c⟩
   ·rw [if_neg d] at hne
    exact .inr ⟨hne, hk1, fun q => absurd q c⟩
 refine ⟨hok, by rw [List.length_set]; exact hal, hain, hhas, fun x k hx hx1 hk hk1 hne => ?_, fun M hM hst x k hx hx1 hk hk1 hne => ?_⟩
 ·rcases old x k hx hx1 hk hk1 hne with ⟨rfl, e⟩ | ⟨h1, h2, h3⟩
  ·rw [e, ec s hs.1]
   exact ⟨hfull, hbet⟩
  ·have hr := h.rej x k hx hx1 hk h2 h1
   have hax := h.ain x hx hx1
   have ht := (w.pg x hx hx1).rd_in hk (by omega)
   generalize rd (row_ f0 x) k = t at hr ht h1 h3 hne
   rw [ec t ht.1]
   refine ⟨hr.1, fun y hy hy1 e => ?_⟩
   by_cases hst : s = t
   ·subst hst
    have h5 := hr.2 o ho ho1 hos
    have h6 := hbet y hy hy1 e
    omega
   ·exact hr.2 y hy hy1 (other t ht.1 hst y hy e)
 ·rcases old x k hx hx1 hk hk1 hne with ⟨rfl, e⟩ | ⟨h1, h2, _⟩
  ·rw [e]
   rw [e] at hne
   refine opt_step w hok hain hs.1 hs.2 hx hx1 hne (by rw [ec s hs.1]; exact hfull) hbet (fun y hy hy1 e => ?_) hM hst (fun y j hy hy1 e hj hj1 => ?_)
   ·have := hhas y hy hy1 (by omega)
    rw [e] at this
    exact this
   ·rw [ea y hy] at hj1
    rw [em y hy] at e
    by_cases c : y = g
    ·subst c
     rw [if_pos rfl] at hj1
     have := hp.rd_in hj (by omega)
     exact h.opt M hM hst y j hy hy1 hj (by omega) (by omega)
    ·rw [if_neg c] at hj1 e
     by_cases d : y = x
     ·rw [if_pos d] at e
      omega
     ·rw [if_neg d] at e
      exact h.opt M hM hst y j hy hy1 hj (by omega) (h.before w hy hy1 (by omega) hj hj1)
  ·exact h.opt M hM hst x k hx hx1 hk h2 h1
end Go.Proofs.Ytoipbblhmcpneaa.P

namespace Go.Proofs.Ytoipbblhmcpneaa.P
open Go.RowKit Go.Proofs.YtoipbblhmcpneaaW.PrintWords Go.Proofs.YtoipbblhmcpneaaW.PrintLast
set_option linter.unusedVariables false
set_option linter.unusedSimpArgs false
-- who a server would take, and who is in the way: the program and the reference
theorem rowL_is (f : List (List Int)) (i : Int) : rd_L1 f i = row_ f i := rfl
theorem row_mem {f : List (List Int)} {i : Int} (h0 : 0 ≤ i) (h1 : i < f.length) : row_ f i ∈ f := by
 unfold row_
 rw [List.getD_eq_getElem?_getD, List.getElem?_eq_getElem (by omega)]
 exact List.getElem_mem _
theorem wOk_of {f0 f1 : List (List Int)} {f2 : List Int} (h : goodW f0 f1 f2 = true) : WOk f0 f1 f2 f0.length f1.length := by
 have hl := goodW_len h
 unfold goodW at h
 simp only [Bool.and_eq_true] at h
 refine ⟨rfl, rfl, by omega, fun g h0 h1 => ?_, fun s h0 h1 => ?_⟩
 ·exact rowOk_perm (List.all_eq_true.1 h.1 _ (row_mem h0 h1))
 ·exact rowOk_perm (List.all_eq_true.1 h.2.1 _ (row_mem h0 h1))
theorem room_of {f0 f1 : List (List Int)} {f2 : List Int} (h : goodW f0 f1 f2 = true) (s : Int) (h0 : 0 ≤ s) (h1 : s < f1.length) : 0 ≤ rd f2 s ∧ rd f2 s ≤ 8 := by
 have hl := goodW_len h
 unfold goodW at h
 simp only [Bool.and_eq_true] at h
 refine allIn_mem h.2.2.2.2.2 _ ?_
 have := rd_mem (l := f2) (k := s.toNat) (by omega)
 rwa [show ((s.toNat : Nat) : Int) = s by omega] at this
theorem plEv (x : Int) (l : List Int) (h : (l.length : Int) ≤ 1099511627776) : Ev (fun k => spec_l12Place.f k l x) (pl l x) := place_ev x l h
theorem ixEv {m : Int} {l : List Int} (hp : Perm_ m l) (hm : m ≤ 1000) {x : Int} (h0 : 0 ≤ x) (h1 : x < m) : Ev (fun k => slices_Index_int.f k l x) (pl l x) := by
 have hl := hp.len
 have := index_ev x l (by omega)
 obtain ⟨k, _, h2, _⟩ := placeGo_some x l 0 (hp.mem h0 h1)
 unfold pl
 rw [h2] at this ⊢
 exact this
/-- who has a server, rising -/
theorem hasGo_mem (s : Int) : ∀ (l : List Int) (i x : Int), x ∈ hasGo s l i ↔ ∃ j : Nat, j < l.length ∧ x = i + j ∧ rd l j = s
 | [], i, x => by simp [hasGo]
 | y :: r, i, x => by
  have ih := hasGo_mem s r (i + 1) x
  have e : (∃ j : Nat, j < (y :: r).length ∧ x = i + j ∧ rd (y :: r) j = s) ↔ (x = i ∧ y = s) ∨ ∃ j : Nat, j < r.length ∧ x = i + 1 + j ∧ rd r j = s := by
   constructor
   ·rintro ⟨j, h1, h2, h3⟩
    cases j with
    | zero => exact .inl ⟨by simpa using h2, h3⟩
    | succ j => exact .inr ⟨j, by simpa using h1, by omega, h3⟩
   ·rintro (⟨h1, h2⟩ | ⟨j, h1, h2, h3⟩)
    ·exact ⟨0, by simp, by simpa using h1, h2⟩
    ·exact ⟨j + 1, by simpa using h1, by omega, h3⟩
  rw [e, ← ih, show hasGo s (y :: r) i = (if y = s then i :: hasGo s r (i + 1) else hasGo s r (i + 1)) from rfl]
  split
  ·rename_i h
   rw [List.mem_cons]
   simp [h]
  ·rename_i h
   simp [h]
theorem has_iff {m : List Int} {s x : Int} : x ∈ hasGo s m 0 ↔ 0 ≤ x ∧ x < m.length ∧ rd m x = s := by
 rw [hasGo_mem]
 constructor
 ·rintro ⟨j, h1, h2, h3⟩
  rw [Int.zero_add] at h2
  subst h2
  exact ⟨by omega, by omega, h3⟩
 ·rintro ⟨h1, h2, h3⟩
  exact ⟨x.toNat, by omega, by omega, by rw [show ((x.toNat : Nat) : Int) = x by omega]; exact h3⟩
def worstGo (P : List Int) : Int → List Int → Int
 | w, [] => w
 | w, g :: r => worstGo P (if w < 0 then g else if pl P g > pl P w then g else w) r
def worstM (f1 : List (List Int)) (m : List Int) (s : Int) : Int := worstGo (row_ f1 s) (-1) (hasGo s m 0)
theorem worstGo_ok (P : List Int) : ∀ (l : List Int) (w : Int), (∀ x ∈ l, 0 ≤ x) → (w < 0 → worstGo P w l = w ∧ l = [] ∨ worstGo P w l ∈ l ∧ ∀ x ∈ l, pl P x ≤ pl P (worstGo P w l)) ∧ (0 ≤ w → (worstGo P w l = w ∨ worstGo P w l ∈ l) ∧ pl P w ≤ pl P (worstGo P w l) ∧ ∀ x ∈ l, pl P x ≤ pl P (worstGo P w l))
 | [], w, _ => ⟨fun _ => .inl ⟨rfl, rfl⟩, fun _ => ⟨.inl rfl, Int.le_refl _, fun x hx => by simp at hx⟩⟩
 | g :: r, w, h => by
  have hg := h g (List.mem_cons_self ..)
  have hr : ∀ x ∈ r, 0 ≤ x := fun x hx => h x (List.mem_cons_of_mem _ hx)
  rw [worstGo]
  constructor
  ·intro hw
   rw [if_pos hw]
   obtain ⟨h1, h2, h3⟩ := (worstGo_ok P r g hr).2 hg
   refine .inr ⟨?_, fun x hx => ?_⟩
   ·rcases h1 with h1 | h1
    ·rw [h1]; exact List.mem_cons_self ..
    ·exact List.mem_cons_of_mem _ h1
   ·rcases List.mem_cons.1 hx with rfl | hx
    ·exact h2
    ·exact h3 x hx
  ·intro hw
   rw [if_neg (by omega)]
   by_cases hp : pl P g > pl P w
   ·rw [if_pos hp]
    obtain ⟨h1, h2, h3⟩ := (worstGo_ok P r g hr).2 hg
    refine ⟨.inr ?_, by omega, fun x hx => ?_⟩
    ·rcases h1 with h1 | h1
     ·rw [h1]; exact List.mem_cons_self ..
     ·exact List.mem_cons_of_mem _ h1
    ·rcases List.mem_cons.1 hx with rfl | hx
     ·exact h2
     ·exact h3 x hx
   ·rw [if_neg hp]
    obtain ⟨h1, h2, h3⟩ := (worstGo_ok P r w hr).2 hw
    refine ⟨?_, h2, fun x hx => ?_⟩
    ·rcases h1 with h1 | h1
     ·exact .inl h1
     ·exact .inr (List.mem_cons_of_mem _ h1)
    ·rcases List.mem_cons.1 hx with rfl | hx
     ·omega
     ·exact h3 x hx
/-- nobody, or the last in the server's list of all who have it -/
theorem worst_ok (f1 : List (List Int)) (m : List Int) (s : Int) : (worstM f1 m s = -1 ∧ ∀ x : Int, 0 ≤ x → x < m.length → rd m x ≠ s) ∨ (0 ≤ worstM f1 m s ∧ worstM f1 m s < m.length ∧ rd m (worstM f1 m s) = s ∧ ∀ x : Int, 0 ≤ x → x < m.length → rd m x = s → pl (row_ f1 s) x ≤ pl (row_ f1 s) (worstM f1 m s)) := by
 have h := (worstGo_ok (row_ f1 s) (hasGo s m 0) (-1) (fun x hx => (has_iff.1 hx).1)).1 (by omega)
 rcases h with ⟨h1, h2⟩ | ⟨h1, h2⟩
 ·refine .inl ⟨h1, fun x h0 hx e => ?_⟩
  have : x ∈ hasGo s m 0 := has_iff.2 ⟨h0, hx, e⟩
  rw [h2] at this
  simp at this
 ·have := has_iff.1 h1
  exact .inr ⟨this.1, this.2.1, this.2.2, fun x h0 hx e => h2 x (has_iff.2 ⟨h0, hx, e⟩)⟩
theorem specWorst_l (f0 f1 : List (List Int)) (f2 : List Int) (s : Int) (h0 : 0 ≤ s) (h1 : s < f1.length) (hb : (row_ f1 s).length ≤ 1048576) (suf : List Int) : ∀ (pre : List Int) (w : Int), ((pre ++ suf).length : Int) ≤ 1048576 →
  Ev (fun k => spec_l12Worst.l0 k s w (pre ++ suf) ((pre ++ suf).length : Int) pre.length f0 f1 f2) (worstGo (row_ f1 s) w suf) := by
 induction suf with
 | nil =>
  intro pre w h
  refine Ev.succ ?_
  simp only [spec_l12Worst.l0, List.append_nil, Int.lt_irrefl, if_false, worstGo]
  exact Ev.now _
 | cons g suf ih =>
  intro pre w h
  refine Ev.succ ?_
  rw [len_mid] at h ⊢
  have := fun w => ih (pre ++ [g]) w (by rw [← app_one, len_mid]; exact h)
  rw [← app_one, len_mid, len_one] at this
  simp only [spec_l12Worst.l0, worstGo]
  simp only [if_pos (show ((pre.length : Int) < pre.length + suf.length + 1) by omega), if_pos (show (0 : Int) ≤ pre.length by omega), len_mid, rd_mid, wrap_id (show (-9223372036854775808 : Int) ≤ pre.length + 1 by omega) (show ((pre.length : Int) + 1 ≤ 9223372036854775807) by omega), rowL_is]
  by_cases hw : w < 0
  ·simp only [if_pos hw]
   exact this g
  ·simp only [if_neg hw, if_pos h0, if_pos h1]
   refine Ev.bind (plEv g _ (by omega)) ?_
   refine Ev.bind (plEv w _ (by omega)) ?_
   by_cases hp : pl (row_ f1 s) g > pl (row_ f1 s) w
   ·simp only [if_pos hp]
    exact this g
   ·simp only [if_neg hp]
    exact this w
theorem specWorst_ev (f0 f1 : List (List Int)) (f2 m : List Int) (s : Int) (h0 : 0 ≤ s) (h1 : s < f1.length) (hb : (row_ f1 s).length ≤ 1048576) (hm : m.length ≤ 1000) : Ev (fun k => spec_l12Worst.f k f0 f1 f2 m s) (worstM f1 m s) := by
 unfold spec_l12Worst.f
 refine Ev.bind (l12Has_ev m s (by omega)) ?_
 have hl := hasGo_len s m 0
 have hc := cnt_le m s
 have := specWorst_l f0 f1 f2 s h0 h1 hb (hasGo s m 0) [] (-1) (by rw [List.nil_append, hl]; omega)
 exact this
def wouldM (f1 : List (List Int)) (f2 m : List Int) (s g : Int) : Bool := decide ((cnt m s : Int) < rd f2 s) || (decide (worstM f1 m s ≥ 0) && decide (pl (row_ f1 s) g < pl (row_ f1 s) (worstM f1 m s)))
theorem would_iff (f1 : List (List Int)) (f2 m : List Int) (s g : Int) : wouldM f1 f2 m s g = true ↔ Would f1 f2 m s g := by
 unfold wouldM Would
 rw [Bool.or_eq_true, Bool.and_eq_true, decide_eq_true_eq, decide_eq_true_eq, decide_eq_true_eq]
 rcases worst_ok f1 m s with ⟨h1, h2⟩ | ⟨h1, h2, h3, h4⟩
 ·rw [h1]
  constructor
  ·rintro (h | h)
   ·exact .inl h
   ·omega
  ·rintro (h | ⟨x, h0, hx, e, _⟩)
   ·exact .inl h
   ·exact absurd e (h2 x h0 hx)
 ·constructor
  ·rintro (h | h)
   ·exact .inl h
   ·exact .inr ⟨_, h1, h2, h3, h.2⟩
  ·rintro (h | ⟨x, h0, hx, e, hlt⟩)
   ·exact .inl h
   ·have := h4 x h0 hx e
    exact .inr ⟨h1, by omega⟩
theorem specWould_ev (f0 f1 : List (List Int)) (f2 m : List Int) (s g : Int) (h0 : 0 ≤ s) (h1 : s < f1.length) (h2 : s < f2.length) (hb : (row_ f1 s).length ≤ 1048576) (hm : m.length ≤ 1000) : Ev (fun k => spec_l12Would.f k f0 f1 f2 m s g) (wouldM f1 f2 m s g) := by
 unfold spec_l12Would.f wouldM
 refine Ev.bind (l12Has_ev m s (by omega)) ?_
 simp only [if_pos h0, if_pos h2, hasGo_len]
 by_cases hc : (cnt m s : Int) < rd f2 s
 ·simp only [if_pos hc, decide_eq_true hc, Bool.true_or]
  exact Ev.now _
 ·simp only [if_neg hc, decide_eq_false hc, Bool.false_or]
  refine Ev.bind (specWorst_ev f0 f1 f2 m s h0 h1 hb hm) ?_
  by_cases hw : worstM f1 m s ≥ 0
  ·simp only [if_pos hw, if_pos h1, decide_eq_true hw, Bool.true_and, rowL_is]
   refine Ev.bind (plEv g _ (by omega)) ?_
   exact Ev.bind (plEv _ _ (by omega)) (Ev.now _)
  ·simp only [if_neg hw, decide_eq_false hw, Bool.false_and]
   exact Ev.now _
/-- the last of a list who has the server -/
def lastGo (m : List Int) (s : Int) : Int → List Int → Int
 | w, [] => w
 | w, g :: r => lastGo m s (if rd m g = s then g else w) r
theorem implLast_l (m : List Int) (s : Int) (suf : List Int) : ∀ (pre : List Int) (w : Int), ((pre ++ suf).length : Int) ≤ 1048576 → (∀ x ∈ suf, 0 ≤ x ∧ x < m.length) →
  Ev (fun k => impl_last.l0 k m s w (pre ++ suf) ((pre ++ suf).length : Int) pre.length) (lastGo m s w suf) := by
 induction suf with
 | nil =>
  intro pre w h hx
  refine Ev.succ ?_
  simp only [impl_last.l0, List.append_nil, Int.lt_irrefl, if_false, lastGo]
  exact Ev.now _
 | cons g suf ih =>
  intro pre w h hx
  refine Ev.succ ?_
  rw [len_mid] at h ⊢
  have hg := hx g (List.mem_cons_self ..)
  have := fun w => ih (pre ++ [g]) w (by rw [← app_one, len_mid]; exact h) (fun x hm => hx x (List.mem_cons_of_mem _ hm))
  rw [← app_one, len_mid, len_one] at this
  simp only [impl_last.l0, lastGo]
  simp only [if_pos (show ((pre.length : Int) < pre.length + suf.length + 1) by omega), if_pos (show (0 : Int) ≤ pre.length by omega), len_mid, rd_mid, wrap_id (show (-9223372036854775808 : Int) ≤ pre.length + 1 by omega) (show ((pre.length : Int) + 1 ≤ 9223372036854775807) by omega), if_pos hg.1, if_pos hg.2]
  by_cases hs : rd m g = s
  ·simp only [if_pos hs]
   exact this g
  ·simp only [if_neg hs]
   exact this w
theorem rd_of_mid (pre : List Int) (x : Int) (suf : List Int) : rd (pre ++ x :: suf) (pre.length : Int) = x := rd_mid pre x suf
theorem lastGo_ok {n : Int} {P : List Int} (hp : Perm_ n P) (m : List Int) (s : Int) (suf : List Int) : ∀ (pre : List Int) (w : Int), pre ++ suf = P →
  ((w = -1 ∧ ∀ x ∈ pre, rd m x ≠ s) ∨ (w ∈ pre ∧ rd m w = s ∧ ∀ x ∈ pre, rd m x = s → pl P x ≤ pl P w)) →
  (lastGo m s w suf = -1 ∧ ∀ x ∈ P, rd m x ≠ s) ∨ (lastGo m s w suf ∈ P ∧ rd m (lastGo m s w suf) = s ∧ ∀ x ∈ P, rd m x = s → pl P x ≤ pl P (lastGo m s w suf)) := by
 induction suf with
 | nil =>
  intro pre w h hw
  rw [List.append_nil] at h
  subst h
  exact hw
 | cons g suf ih =>
  intro pre w h hw
  rw [lastGo]
  refine ih (pre ++ [g]) _ (by rw [← app_one]; exact h) ?_
  have hgP : g ∈ P := by rw [← h]; simp
  have hlg := hp.low g hgP
  have hplg : pl P g = pre.length := by
   have hk : (pre.length : Int) < n := by
    have := hp.len
    rw [← h, len_mid] at this
    omega
   have e := hp.pl_rd (k := (pre.length : Int)) (by omega) hk
   rwa [show rd P (pre.length : Int) = g by rw [← h]; exact rd_of_mid pre g suf] at e
  have hpre : ∀ x ∈ pre, pl P x ≤ pre.length := by
   intro x hx
   obtain ⟨i, hi, hxi⟩ := List.getElem_of_mem hx
   have hi2 : (i : Int) < n := by
    have := hp.len
    rw [← h, len_mid] at this
    omega
   have e := hp.pl_rd (k := (i : Int)) (by omega) hi2
   have hr : rd P (i : Int) = x := by
    rw [← h]
    unfold rd
    rw [Int.toNat_natCast, List.getD_eq_getElem?_getD, List.getElem?_append_left hi, List.getElem?_eq_getElem hi, hxi]
    rfl
   rw [hr] at e
   omega
  by_cases hs : rd m g = s
  ·rw [if_pos hs]
   refine .inr ⟨by simp, hs, fun x hx _ => ?_⟩
   rcases List.mem_append.1 hx with hx | hx
   ·rw [hplg]
    exact hpre x hx
   ·rw [List.mem_singleton.1 hx]
    exact Int.le_refl _
  ·rw [if_neg hs]
   rcases hw with ⟨h1, h2⟩ | ⟨h1, h2, h3⟩
   ·refine .inl ⟨h1, fun x hx => ?_⟩
    rcases List.mem_append.1 hx with hx | hx
    ·exact h2 x hx
    ·rw [List.mem_singleton.1 hx]
     exact hs
   ·refine .inr ⟨List.mem_append_left _ h1, h2, fun x hx e => ?_⟩
    rcases List.mem_append.1 hx with hx | hx
    ·exact h3 x hx e
    ·rw [List.mem_singleton.1 hx] at e
     exact absurd e hs
/-- both tell the same -/
theorem last_worst {f1 : List (List Int)} {m : List Int} {s n : Int} (hp : Perm_ n (row_ f1 s)) (hm : (m.length : Int) = n) : lastGo m s (-1) (row_ f1 s) = worstM f1 m s := by
 have h1 := lastGo_ok hp m s (row_ f1 s) [] (-1) rfl (.inl ⟨rfl, fun x hx => by simp at hx⟩)
 rcases h1 with ⟨a1, a2⟩ | ⟨a1, a2, a3⟩
 ·rcases worst_ok f1 m s with ⟨b1, _⟩ | ⟨b1, b2, b3, _⟩
  ·rw [a1, b1]
  ·exact absurd b3 (a2 _ (hp.mem b1 (by omega)))
 ·have al := hp.low _ a1
  rcases worst_ok f1 m s with ⟨b1, b2⟩ | ⟨b1, b2, b3, b4⟩
  ·exact absurd a2 (b2 _ al.1 (by omega))
  ·have c1 := a3 _ (hp.mem b1 (by omega)) b3
   have c2 := b4 _ al.1 (by omega) a2
   exact hp.pl_inj al.1 al.2 b1 (by omega) (by omega)
theorem implLast_ev (f0 f1 : List (List Int)) (f2 m : List Int) (s : Int) (h0 : 0 ≤ s) (h1 : s < f1.length) {n : Int} (hp : Perm_ n (row_ f1 s)) (hn : n ≤ 1000) (hm : (m.length : Int) = n) : Ev (fun k => impl_last.f k f0 f1 f2 m s) (worstM f1 m s) := by
 have hl := hp.len
 unfold impl_last.f
 simp only [if_pos h0, if_pos h1, rowL_is]
 rw [← last_worst hp hm]
 have := implLast_l m s (row_ f1 s) [] (-1) (by rw [List.nil_append]; omega) (fun x hx => by have := hp.low x hx; omega)
 exact this
def takesM (f1 : List (List Int)) (f2 m : List Int) (s g : Int) : Int × Bool := if (cnt m s : Int) < rd f2 s then (-1, true) else if worstM f1 m s < 0 then (-1, false) else if pl (row_ f1 s) (worstM f1 m s) < pl (row_ f1 s) g then (-1, false) else (worstM f1 m s, true)
theorem implTakes_ev {f0 f1 : List (List Int)} {f2 m : List Int} {G S : Int} (w : WOk f0 f1 f2 G S) (hG : G ≤ 1000) (hS : S ≤ 1000) (hm : (m.length : Int) = G) (hs : ∀ x ∈ m, -1 ≤ x ∧ x < f1.length) (s g : Int) (h0 : 0 ≤ s) (h1 : s < S) (hg : 0 ≤ g) (hg1 : g < G) : Ev (fun k => impl_takes.f k f0 f1 f2 m s g) (takesM f1 f2 m s g) := by
 have ws := w.s
 have wr := w.r
 have hp := w.ps s h0 h1
 obtain ⟨r, e, hr, hrd⟩ := loads_ev f0 f1 f2 m (by omega) (by omega) hs
 unfold impl_takes.f takesM
 refine Ev.bind e ?_
 simp only [if_pos h0, if_pos (show s < (r.length : Int) by omega), if_pos (show s < (f2.length : Int) by omega), hrd s h0]
 by_cases hc : (cnt m s : Int) < rd f2 s
 ·simp only [if_pos hc]
  exact Ev.now _
 ·simp only [if_neg hc]
  refine Ev.bind (implLast_ev f0 f1 f2 m s h0 (by omega) hp hG hm) ?_
  by_cases hw : worstM f1 m s < 0
  ·simp only [if_pos hw]
   exact Ev.now _
  ·simp only [if_neg hw, if_pos (show s < (f1.length : Int) by omega), rowL_is]
   have hb : worstM f1 m s < G := by
    rcases worst_ok f1 m s with ⟨b1, _⟩ | ⟨_, b2, _, _⟩ <;> omega
   refine Ev.bind (ixEv hp hG (by omega) hb) ?_
   refine Ev.bind (ixEv hp hG hg hg1) ?_
   by_cases hq : pl (row_ f1 s) (worstM f1 m s) < pl (row_ f1 s) g
   ·simp only [if_pos hq]
    exact Ev.now _
   ·simp only [if_neg hq]
    exact Ev.now _
theorem takes_would {f0 f1 : List (List Int)} {f2 m : List Int} {G S : Int} (w : WOk f0 f1 f2 G S) (hm : (m.length : Int) = G) {s g : Int} (h0 : 0 ≤ s) (h1 : s < S) (hg : 0 ≤ g) (hg1 : g < G) (hne : rd m g ≠ s) : (takesM f1 f2 m s g).2 = wouldM f1 f2 m s g := by
 have hp := w.ps s h0 h1
 unfold takesM wouldM
 by_cases hc : (cnt m s : Int) < rd f2 s
 ·rw [if_pos hc, decide_eq_true hc, Bool.true_or]
 ·rw [if_neg hc, decide_eq_false hc, Bool.false_or]
  by_cases hw : worstM f1 m s < 0
  ·rw [if_pos hw, decide_eq_false (show ¬ worstM f1 m s ≥ 0 by omega), Bool.false_and]
  ·rw [if_neg hw, decide_eq_true (show worstM f1 m s ≥ 0 by omega), Bool.true_and]
   have hb : worstM f1 m s < G ∧ rd m (worstM f1 m s) = s := by
    rcases worst_ok f1 m s with ⟨b1, _⟩ | ⟨_, b2, b3, _⟩
    ·omega
    ·exact ⟨by omega, b3⟩
   have hq : pl (row_ f1 s) g ≠ pl (row_ f1 s) (worstM f1 m s) := fun c => hne (by rw [hp.pl_inj hg hg1 (by omega) hb.1 c]; exact hb.2)
   by_cases hlt : pl (row_ f1 s) (worstM f1 m s) < pl (row_ f1 s) g
   ·rw [if_pos hlt, decide_eq_false (by omega)]
   ·rw [if_neg hlt, decide_eq_true (by omega)]
end Go.Proofs.Ytoipbblhmcpneaa.P

namespace Go.Proofs.Ytoipbblhmcpneaa.P
open Go.RowKit Go.Proofs.YtoipbblhmcpneaaW.PrintWords Go.Proofs.YtoipbblhmcpneaaW.PrintLast
set_option linter.unusedVariables false
set_option linter.unusedSimpArgs false
def marksI : Nat → Int → List Int
 | 0, _ => []
 | n + 1, q => q :: marksI n (q + 1)
theorem markIntS_l (suf : List Int) : ∀ (pre : List Int) (k : Nat) (q : Int), suf.length < k → (pre.length : Int) + suf.length ≤ 1099511627776 → 0 ≤ q → q + suf.length ≤ 4611686018427387904 →
  laws_markIntS.l0 k (pre ++ suf) q (pre.length : Int) = some (q + suf.length, pre ++ marksI suf.length q) := by
 induction suf with
 | nil =>
  intro pre k q hk hb h0 h1
  obtain ⟨k, rfl⟩ : ∃ m, k = m + 1 := ⟨k - 1, by omega⟩
  simp only [laws_markIntS.l0]
  rw [if_neg (by simp)]
  simp [marksI]
 | cons x suf ih =>
  intro pre k q hk hb h0 h1
  simp only [List.length_cons] at hk hb h1
  obtain ⟨k, rfl⟩ : ∃ m, k = m + 1 := ⟨k - 1, by omega⟩
  have h := ih (pre ++ [q]) k (q + 1) (by omega) (by simp <;> omega) (by omega) (by omega)
  simp only [laws_markIntS.l0]
  rw [if_pos (by simp <;> omega), if_pos (by omega), set_mid, wrap_id (x := q + 1) (by omega) (by omega), wrap_id (x := (pre.length : Int) + 1) (by omega) (by omega)]
  rw [len_one] at h
  rw [app_one, h]
  simp only [marksI, List.length_cons, List.append_assoc, List.cons_append, List.nil_append, Option.some.injEq, Prod.mk.injEq, and_true]
  omega
theorem markIntS_ev (l : List Int) (q : Int) (hl : l.length ≤ 1099511627776) (h0 : 0 ≤ q) (h1 : q ≤ 1099511627776) : Ev (fun k => laws_markIntS.f k l q) (q + l.length, marksI l.length q) := by
 refine ⟨l.length + 1, fun k hk => ?_⟩
 show laws_markIntS.f k l q = _
 unfold laws_markIntS.f
 simpa using markIntS_l l [] k q (by omega) (by simp <;> omega) h0 (by omega)
theorem heldIntS_l (n : Nat) : ∀ (pre : List Int) (k : Nat) (q : Int), n < k → (pre.length : Int) + n ≤ 1099511627776 → 0 ≤ q → q + n ≤ 4611686018427387904 →
  laws_heldIntS.l0 k (pre ++ marksI n q) q (pre.length : Int) = some (q + n) := by
 induction n with
 | zero =>
  intro pre k q hk hb h0 h1
  obtain ⟨k, rfl⟩ : ∃ m, k = m + 1 := ⟨k - 1, by omega⟩
  simp only [laws_heldIntS.l0]
  rw [show marksI 0 q = [] from rfl, if_neg (by simp)]
  simp
 | succ n ih =>
  intro pre k q hk hb h0 h1
  obtain ⟨k, rfl⟩ : ∃ m, k = m + 1 := ⟨k - 1, by omega⟩
  have h := ih (pre ++ [q]) k (q + 1) (by omega) (by simp <;> omega) (by omega) (by omega)
  simp only [laws_heldIntS.l0]
  rw [show marksI (n + 1) q = q :: marksI n (q + 1) from rfl]
  rw [if_pos (by simp <;> omega), if_pos (by omega), rd_mid, if_pos rfl, wrap_id (x := q + 1) (by omega) (by omega), wrap_id (x := (pre.length : Int) + 1) (by omega) (by omega)]
  rw [len_one] at h
  rw [app_one, h]
  simp only [Option.some.injEq]
  omega
theorem heldIntS_ev (n : Nat) (q : Int) (hl : n ≤ 1099511627776) (h0 : 0 ≤ q) (h1 : q ≤ 1099511627776) : Ev (fun k => laws_heldIntS.f k (marksI n q) q) (q + n) := by
 refine ⟨n + 1, fun k hk => ?_⟩
 show laws_heldIntS.f k (marksI n q) q = _
 unfold laws_heldIntS.f
 exact heldIntS_l n [] k q (by omega) (by simp <;> omega) h0 (by omega)
end Go.Proofs.Ytoipbblhmcpneaa.P

namespace Go.Proofs.Ytoipbblhmcpneaa.P
open Go.RowKit Go.Proofs.YtoipbblhmcpneaaW.PrintWords Go.Proofs.YtoipbblhmcpneaaW.PrintLast
set_option linter.unusedVariables false
set_option linter.unusedSimpArgs false
def marksSS : List (List Int) → Int → List (List Int)
 | [], _ => []
 | x :: r, q => marksI x.length q :: marksSS r (q + x.length)
def endSS : List (List Int) → Int → Int
 | [], q => q
 | x :: r, q => endSS r (q + x.length)
theorem endSS_ge : ∀ (l : List (List Int)) (q : Int), q ≤ endSS l q
 | [], q => Int.le_refl q
 | x :: r, q => by
  rw [endSS]
  have := endSS_ge r (q + x.length)
  omega
theorem markIntS_ev2 (l : List Int) (q : Int) (hl : l.length ≤ 1048576) (h0 : 0 ≤ q) (h1 : q ≤ 2305843009213693952) : Ev (fun k => laws_markIntS.f k l q) (q + l.length, marksI l.length q) := by
 refine ⟨l.length + 1, fun k hk => ?_⟩
 show laws_markIntS.f k l q = _
 unfold laws_markIntS.f
 simpa using markIntS_l l [] k q (by omega) (by simp <;> omega) h0 (by omega)
theorem endSS_le : ∀ (l : List (List Int)) (q : Int), (∀ x ∈ l, x.length ≤ 1048576) → endSS l q ≤ q + 1048576 * l.length
 | [], q, _ => by simp [endSS]
 | x :: r, q, h => by
  rw [endSS, List.length_cons]
  have := endSS_le r (q + x.length) (fun y hy => h y (by simp [hy]))
  have := h x (by simp)
  omega
theorem markIntSS_l (suf : List (List Int)) : ∀ (pre : List (List Int)) (q : Int), (pre.length : Int) + suf.length ≤ 1048576 → (∀ x ∈ suf, x.length ≤ 1048576) → 0 ≤ q → q + 1048576 * suf.length ≤ 2305843009213693952 →
  Ev (fun k => laws_markIntSS.l0 k (pre ++ suf) q (pre.length : Int)) (endSS suf q, pre ++ marksSS suf q) := by
 induction suf with
 | nil =>
  intro pre q h hs h0 h1
  refine Ev.succ ?_
  simp only [laws_markIntSS.l0, List.append_nil, Int.lt_irrefl, if_false]
  exact Ev.some_ (by simp [endSS, marksSS])
 | cons x suf ih =>
  intro pre q h hs h0 h1
  rw [List.length_cons] at h h1
  have hx := hs x (by simp)
  refine Ev.succ ?_
  simp only [laws_markIntSS.l0, if_pos (show ((pre.length : Int) < ((pre ++ x :: suf).length : Int)) by rw [len_mid]; omega), if_pos (show (0 : Int) ≤ pre.length by omega), getD_mid, wrap_id (show (-9223372036854775808 : Int) ≤ pre.length + 1 by omega) (show ((pre.length : Int) + 1 ≤ 9223372036854775807) by omega)]
  refine Ev.bind (markIntS_ev2 x q (by omega) h0 (by omega)) ?_
  simp only [set_mid]
  have := ih (pre ++ [marksI x.length q]) (q + x.length) (by rw [len_one]; omega) (fun y hy => hs y (by simp [hy])) (by omega) (by omega)
  rw [len_one, ← app_one] at this
  rw [show (endSS (x :: suf) q, pre ++ marksSS (x :: suf) q) = (endSS suf (q + x.length), (pre ++ [marksI x.length q]) ++ marksSS suf (q + x.length)) by rw [endSS, marksSS, List.append_assoc]; rfl]
  exact this
theorem markIntSS_ev2 (l : List (List Int)) (q : Int) (hl : l.length ≤ 1048576) (hs : ∀ x ∈ l, x.length ≤ 1048576) (h0 : 0 ≤ q) (h1 : q ≤ 1152921504606846976) : Ev (fun k => laws_markIntSS.f k l q) (endSS l q, marksSS l q) :=
 markIntSS_l l [] q (by simp; omega) hs h0 (by omega)
end Go.Proofs.Ytoipbblhmcpneaa.P

namespace Go.Proofs.Ytoipbblhmcpneaa.P
open Go.RowKit Go.Proofs.YtoipbblhmcpneaaW.PrintWords Go.Proofs.YtoipbblhmcpneaaW.PrintLast
set_option linter.unusedVariables false
set_option linter.unusedSimpArgs false
theorem markW_ev {f0 f1 : List (List Int)} {f2 : List Int} (h : okW f0 f1 f2) : ∃ (n : Int) (m0 m1 : List (List Int)) (m2 : List Int), 0 ≤ n ∧ n ≤ 1152921504606846976 ∧ Ev (fun k => laws_markWishes.f k f0 f1 f2 1) (n, m0, m1, m2) := by
 have a0 := h.a0
 have a1 := h.a1
 have a2 := h.a2
 have g0 := endSS_ge f0 1
 have l0 := endSS_le f0 1 h.b0
 have g1 := endSS_ge f1 (endSS f0 1)
 have l1 := endSS_le f1 (endSS f0 1) h.b1
 refine ⟨endSS f1 (endSS f0 1) + f2.length, marksSS f0 1, marksSS f1 (endSS f0 1), marksI f2.length (endSS f1 (endSS f0 1)), by omega, by omega, ?_⟩
 unfold laws_markWishes.f
 refine Ev.bind (markIntSS_ev2 f0 1 (by omega) h.b0 (by omega) (by omega)) ?_
 refine Ev.bind (markIntSS_ev2 f1 (endSS f0 1) (by omega) h.b1 (by omega) (by omega)) ?_
 refine Ev.bind (markIntS_ev2 f2 (endSS f1 (endSS f0 1)) (by omega) (by omega) (by omega)) ?_
 exact Ev.now _
end Go.Proofs.Ytoipbblhmcpneaa.P

namespace Go.Proofs.Ytoipbblhmcpneaa.P
open Go.RowKit Go.Proofs.YtoipbblhmcpneaaW.PrintWords Go.Proofs.YtoipbblhmcpneaaW.PrintLast
set_option linter.unusedVariables false
set_option linter.unusedSimpArgs false
def freeP (m a : List Int) (S g : Int) : Bool := decide (rd m g < 0) && decide (rd a g < S)
def pickG (p : Int → Bool) : Nat → Int → Option Int
 | 0, _ => none
 | d + 1, g => if p g = true then some g else pickG p d (g + 1)
theorem pickG_some (p : Int → Bool) : ∀ (d : Nat) (g x : Int), pickG p d g = some x → p x = true ∧ g ≤ x ∧ x < g + d
 | 0, g, x, h => by simp [pickG] at h
 | d + 1, g, x, h => by
  rw [pickG] at h
  by_cases hp : p g = true
  ·rw [if_pos hp] at h
   cases h
   exact ⟨hp, by omega, by omega⟩
  ·rw [if_neg hp] at h
   have := pickG_some p d (g + 1) x h
   exact ⟨this.1, by omega, by omega⟩
def mu (S : Int) : List Int → Nat
 | [] => 0
 | x :: r => (S - x).toNat + mu S r
theorem mu_set (S : Int) : ∀ (a : List Int) (i : Nat), i < a.length → rd a i < S → mu S (a.set i (rd a i + 1)) + 1 = mu S a
 | [], i, h, _ => by simp at h
 | x :: r, 0, _, h => by
  have e : rd (x :: r) ((0 : Nat) : Int) = x := rfl
  rw [e] at h ⊢
  rw [List.set_cons_zero, mu, mu]
  omega
 | x :: r, i + 1, h, g => by
  have e : rd (x :: r) ((i + 1 : Nat) : Int) = rd r (i : Int) := rfl
  rw [e] at g ⊢
  have := mu_set S r i (by simpa using h) g
  rw [List.set_cons_succ, mu, mu]
  omega
theorem specSkip (f0 f1 : List (List Int)) (f2 m a : List Int) (hm : m.length ≤ 1000) (x : Int) (hx : 0 ≤ x) (R : List Int × Bool) (hR : Ev (fun k => spec_MatchAll.l2 k m a x m.length m.length f0 f1 f2) R) (d : Nat) : ∀ (c : Nat), c + d = m.length → Ev (fun k => spec_MatchAll.l2 k m a x m.length c f0 f1 f2) R := by
 induction d with
 | zero =>
  intro c hc
  rw [show c = m.length by omega]
  exact hR
 | succ d ih =>
  intro c hc
  refine Ev.succ ?_
  simp only [spec_MatchAll.l2, if_pos (show (c : Int) < (m.length : Int) by omega), if_neg (show ¬ x < 0 by omega), wrap_id (show (-9223372036854775808 : Int) ≤ c + 1 by omega) (show ((c : Int) + 1 ≤ 9223372036854775807) by omega)]
  exact ih (c + 1) (by omega)
theorem specPick (f0 f1 : List (List Int)) (f2 m a : List Int) (hm : m.length ≤ 1000) (ha : a.length = m.length) (R : List Int × Bool)
  (hR : match pickG (freeP m a f1.length) m.length 0 with
   | some x => Ev (fun k => spec_MatchAll.l2 k m a x m.length m.length f0 f1 f2) R
   | none => Ev (fun k => spec_MatchAll.l2 k m a (-1) m.length m.length f0 f1 f2) R) : Ev (fun k => spec_MatchAll.l2 k m a (-1) m.length 0 f0 f1 f2) R := by
 have go : ∀ (d c : Nat), c + d = m.length → (match pickG (freeP m a f1.length) d c with
   | some x => Ev (fun k => spec_MatchAll.l2 k m a x m.length m.length f0 f1 f2) R
   | none => Ev (fun k => spec_MatchAll.l2 k m a (-1) m.length m.length f0 f1 f2) R) → Ev (fun k => spec_MatchAll.l2 k m a (-1) m.length c f0 f1 f2) R := by
  intro d
  induction d with
  | zero =>
   intro c hc h
   rw [show c = m.length by omega]
   exact h
  | succ d ih =>
   intro c hc h
   refine Ev.succ ?_
   have hn := ih (c + 1) (by omega)
   rw [pickG] at h
   simp only [spec_MatchAll.l2, if_pos (show (c : Int) < (m.length : Int) by omega), if_pos (show (-1 : Int) < 0 by omega), if_pos (show (0 : Int) ≤ c by omega), if_pos (show (c : Int) < (a.length : Int) by omega), wrap_id (show (-9223372036854775808 : Int) ≤ c + 1 by omega) (show ((c : Int) + 1 ≤ 9223372036854775807) by omega)]
   by_cases h1 : rd m c < 0
   ·simp only [if_pos h1]
    by_cases h2 : rd a c < (f1.length : Int)
    ·simp only [if_pos h2]
     rw [if_pos (show freeP m a f1.length c = true by simp [freeP, h1, h2])] at h
     exact specSkip f0 f1 f2 m a hm c (by omega) R h d (c + 1) (by omega)
    ·simp only [if_neg h2]
     rw [if_neg (show ¬ freeP m a f1.length c = true by simp [freeP, h2])] at h
     exact hn h
   ·simp only [if_neg h1]
    rw [if_neg (show ¬ freeP m a f1.length c = true by simp [freeP, h1])] at h
    exact hn h
 exact go m.length 0 (by omega) hR
theorem implPick (f0 f1 : List (List Int)) (f2 m a : List Int) (hm : m.length ≤ 1000) (ha : a.length = m.length) (hle : ∀ g : Int, 0 ≤ g → g < m.length → rd a g ≤ f1.length) (R : List Int × Bool)
  (hR : match pickG (freeP m a f1.length) m.length 0 with
   | some x => Ev (fun k => impl_MatchAll.j3 k m a x f0 f1 f2) R
   | none => Ev (fun k => impl_MatchAll.j3 k m a m.length f0 f1 f2) R) : Ev (fun k => impl_MatchAll.l2 k m a 0 f0 f1 f2) R := by
 have go : ∀ (d c : Nat), c + d = m.length → (match pickG (freeP m a f1.length) d c with
   | some x => Ev (fun k => impl_MatchAll.j3 k m a x f0 f1 f2) R
   | none => Ev (fun k => impl_MatchAll.j3 k m a m.length f0 f1 f2) R) → Ev (fun k => impl_MatchAll.l2 k m a c f0 f1 f2) R := by
  intro d
  induction d with
  | zero =>
   intro c hc h
   refine Ev.succ ?_
   simp only [impl_MatchAll.l2, if_neg (show ¬ (c : Int) < (m.length : Int) by omega)]
   rw [show c = m.length by omega]
   exact h
  | succ d ih =>
   intro c hc h
   refine Ev.succ ?_
   have hn := ih (c + 1) (by omega)
   have hl := hle c (by omega) (by omega)
   rw [pickG] at h
   simp only [impl_MatchAll.l2, if_pos (show (c : Int) < (m.length : Int) by omega), if_pos (show (0 : Int) ≤ c by omega), if_pos (show (c : Int) < (a.length : Int) by omega), wrap_id (show (-9223372036854775808 : Int) ≤ c + 1 by omega) (show ((c : Int) + 1 ≤ 9223372036854775807) by omega)]
   by_cases h1 : rd m c ≥ 0
   ·simp only [if_pos h1]
    rw [if_neg (show ¬ freeP m a f1.length c = true by simp [freeP]; omega)] at h
    exact hn h
   ·simp only [if_neg h1]
    by_cases h2 : rd a c = (f1.length : Int)
    ·simp only [if_pos h2]
     rw [if_neg (show ¬ freeP m a f1.length c = true by simp [freeP]; omega)] at h
     exact hn h
    ·simp only [if_neg h2]
     rw [if_pos (show freeP m a f1.length c = true by simp [freeP]; omega)] at h
     exact h
 exact go m.length 0 (by omega) hR
theorem matchAll_go {f0 f1 : List (List Int)} {f2 : List Int} (w : WOk f0 f1 f2 f0.length f1.length) (hG : f0.length ≤ 8) (hS : f1.length ≤ 8) (h2 : ∀ s : Int, 0 ≤ s → s < f1.length → 0 ≤ rd f2 s) (n : Nat) : ∀ (m a : List Int), Inv f0 f1 f2 f0.length f1.length m a → mu f1.length a = n →
  ∃ R : List Int × Bool, Ev (fun k => spec_MatchAll.l1 k m a f0 f1 f2) R ∧ Ev (fun k => impl_MatchAll.l1 k m a f0 f1 f2) R ∧ R.1.length ≤ 8 := by
 induction n with
 | zero =>
  intro m a h hn
  have hml := h.ok.len
  have hal := h.alen
  refine ⟨(m, true), Ev.succ ?_, Ev.succ ?_, by show m.length ≤ 8; omega⟩
  ·simp only [spec_MatchAll.l1]
   refine specPick f0 f1 f2 m a (by omega) (by omega) _ ?_
   cases hp : pickG (freeP m a f1.length) m.length 0 with
   | none =>
    refine Ev.succ ?_
    simp only [spec_MatchAll.l2, Int.lt_irrefl, if_false, if_pos (show (-1 : Int) < 0 by omega)]
    exact Ev.now _
   | some g =>
    obtain ⟨hf, g0, g1⟩ := pickG_some _ _ _ _ hp
    rw [freeP, Bool.and_eq_true, decide_eq_true_eq, decide_eq_true_eq] at hf
    have := mu_set f1.length a g.toNat (by omega) (by rw [show ((g.toNat : Nat) : Int) = g by omega]; exact hf.2)
    omega
  ·simp only [impl_MatchAll.l1]
   refine implPick f0 f1 f2 m a (by omega) (by omega) (fun g h0 h1 => (h.ain g h0 (by omega)).2) _ ?_
   cases hp : pickG (freeP m a f1.length) m.length 0 with
   | none =>
    refine Ev.succ ?_
    simp only [impl_MatchAll.j3, if_true]
    exact Ev.now _
   | some g =>
    obtain ⟨hf, g0, g1⟩ := pickG_some _ _ _ _ hp
    rw [freeP, Bool.and_eq_true, decide_eq_true_eq, decide_eq_true_eq] at hf
    have := mu_set f1.length a g.toNat (by omega) (by rw [show ((g.toNat : Nat) : Int) = g by omega]; exact hf.2)
    omega
 | succ n ih =>
  intro m a h hn
  have hml := h.ok.len
  have hal := h.alen
  have hr := w.r
  cases hp : pickG (freeP m a f1.length) m.length 0 with
  | none =>
   refine ⟨(m, true), Ev.succ ?_, Ev.succ ?_, by show m.length ≤ 8; omega⟩
   ·simp only [spec_MatchAll.l1]
    refine specPick f0 f1 f2 m a (by omega) (by omega) _ ?_
    rw [hp]
    refine Ev.succ ?_
    simp only [spec_MatchAll.l2, Int.lt_irrefl, if_false, if_pos (show (-1 : Int) < 0 by omega)]
    exact Ev.now _
   ·simp only [impl_MatchAll.l1]
    refine implPick f0 f1 f2 m a (by omega) (by omega) (fun g h0 h1 => (h.ain g h0 (by omega)).2) _ ?_
    rw [hp]
    refine Ev.succ ?_
    simp only [impl_MatchAll.j3, if_true]
    exact Ev.now _
  | some g =>
   obtain ⟨hf, g0, g1⟩ := pickG_some _ _ _ _ hp
   rw [freeP, Bool.and_eq_true, decide_eq_true_eq, decide_eq_true_eq] at hf
   have g2 : g < f0.length := by omega
   have hmu : mu f1.length (a.set g.toNat (rd a g + 1)) = n := by
    have := mu_set f1.length a g.toNat (by omega) (by rw [show ((g.toNat : Nat) : Int) = g by omega]; exact hf.2)
    rw [show ((g.toNat : Nat) : Int) = g by omega] at this
    omega
   have hai := h.ain g g0 g2
   have hrow := w.pg g g0 g2
   have hs := hrow.rd_in hai.1 hf.2
   have hlen := hrow.len
   have hps := (w.ps (rd (row_ f0 g) (rd a g)) hs.1 hs.2)
   have hpl := hps.len
   have hcap := h.ok.cap (rd (row_ f0 g) (rd a g)) hs.1 hs.2
   have hlow : ∀ x ∈ m, -1 ≤ x ∧ x < f1.length := fun x hx => by
    obtain ⟨i, hi, e⟩ := List.mem_iff_getElem.1 hx
    have hb := h.ok.low i (by omega) (by omega)
    have er : rd m (i : Int) = x := by
     unfold rd
     rw [Int.toNat_natCast, List.getD_eq_getElem?_getD, List.getElem?_eq_getElem hi, e]
     rfl
    rw [er] at hb
    exact hb
   have hne : rd m g ≠ rd (row_ f0 g) (rd a g) := by have := hf.1; omega
   have eT := implTakes_ev w (by omega) (by omega) hml hlow (rd (row_ f0 g) (rd a g)) g hs.1 hs.2 g0 g2
   have eTW := takes_would w hml hs.1 hs.2 g0 g2 hne
   have eW := specWould_ev f0 f1 f2 m (rd (row_ f0 g) (rd a g)) g hs.1 (by omega) (by omega) (by omega) (by omega)
   -- both sides up to the answer of the server
   have spec1 : ∀ (R : List Int × Bool), Ev (fun k => (spec_l12Would.f k f0 f1 f2 m (rd (row_ f0 g) (rd a g)) g).bind fun t => (if t = true then ((spec_l12Has.f k m (rd (row_ f0 g) (rd a g))).bind fun u => (if (u.length : Int) = (rd f2 (rd (row_ f0 g) (rd a g))) then ((spec_l12Worst.f k f0 f1 f2 m (rd (row_ f0 g) (rd a g))).bind fun o => (if 0 ≤ o then (if o < (m.length : Int) then (spec_MatchAll.l1 k ((m.set (o : Int).toNat (-1)).set (g : Int).toNat (rd (row_ f0 g) (rd a g))) (a.set g.toNat (rd a g + 1)) f0 f1 f2) else (none)) else (none))) else (spec_MatchAll.l1 k (m.set (g : Int).toNat (rd (row_ f0 g) (rd a g))) (a.set g.toNat (rd a g + 1)) f0 f1 f2))) else (spec_MatchAll.l1 k m (a.set g.toNat (rd a g + 1)) f0 f1 f2))) R → Ev (fun k => spec_MatchAll.l1 k m a f0 f1 f2) R := by
    intro R hR
    refine Ev.succ ?_
    simp only [spec_MatchAll.l1]
    refine specPick f0 f1 f2 m a (by omega) (by omega) _ ?_
    rw [hp]
    refine Ev.succ ?_
    simp only [spec_MatchAll.l2, Int.lt_irrefl, if_false, if_neg (show ¬ g < 0 by omega), if_pos g0, if_pos g2, if_pos (show g < (a.length : Int) by omega), rowL_is, if_pos hai.1, if_pos (show rd a g < ((row_ f0 g).length : Int) by omega), Option.bind_some, wrap_id (show (-9223372036854775808 : Int) ≤ rd a g + 1 by omega) (show (rd a g + 1 ≤ 9223372036854775807) by omega), if_pos hs.1, if_pos (show rd (row_ f0 g) (rd a g) < (f2.length : Int) by omega), if_pos (show g < (m.length : Int) by omega)]
    exact hR
   have impl1 : ∀ (R : List Int × Bool), Ev (fun k => (impl_takes.f k f0 f1 f2 m (rd (row_ f0 g) (rd a g)) g).bind fun bt => (if bt.2 = true then (if bt.1 ≥ 0 then (if 0 ≤ bt.1 then (if bt.1 < (m.length : Int) then (impl_MatchAll.l1 k ((m.set (bt.1 : Int).toNat (-1)).set (g : Int).toNat (rd (row_ f0 g) (rd a g))) (a.set g.toNat (rd a g + 1)) f0 f1 f2) else (none)) else (none)) else (impl_MatchAll.l1 k (m.set (g : Int).toNat (rd (row_ f0 g) (rd a g))) (a.set g.toNat (rd a g + 1)) f0 f1 f2)) else (impl_MatchAll.l1 k m (a.set g.toNat (rd a g + 1)) f0 f1 f2))) R → Ev (fun k => impl_MatchAll.l1 k m a f0 f1 f2) R := by
    intro R hR
    refine Ev.succ ?_
    simp only [impl_MatchAll.l1]
    refine implPick f0 f1 f2 m a (by omega) (by omega) (fun g h0 h1 => (h.ain g h0 (by omega)).2) _ ?_
    rw [hp]
    refine Ev.succ ?_
    simp only [impl_MatchAll.j3, if_neg (show ¬ g = (m.length : Int) by omega), if_pos g0, if_pos g2, if_pos (show g < (a.length : Int) by omega), rowL_is, if_pos hai.1, if_pos (show rd a g < ((row_ f0 g).length : Int) by omega), Option.bind_some, wrap_id (show (-9223372036854775808 : Int) ≤ rd a g + 1 by omega) (show (rd a g + 1 ≤ 9223372036854775807) by omega), if_pos (show g < (m.length : Int) by omega)]
    exact hR
   by_cases hw : wouldM f1 f2 m (rd (row_ f0 g) (rd a g)) g = true
   ·rw [hw] at eW eTW
    by_cases hc : (cnt m (rd (row_ f0 g) (rd a g)) : Int) < rd f2 (rd (row_ f0 g) (rd a g))
    ·obtain ⟨R, e1, e2, hR⟩ := ih _ _ (inv_free w h g0 g2 hf.1 hf.2 hc) hmu
     refine ⟨R, spec1 R ?_, impl1 R ?_, hR⟩
     ·refine Ev.bind eW ?_
      simp only [if_true]
      refine Ev.bind (l12Has_ev m _ (by omega)) ?_
      simp only [hasGo_len, if_neg (show ¬ (cnt m (rd (row_ f0 g) (rd a g)) : Int) = rd f2 (rd (row_ f0 g) (rd a g)) by omega)]
      exact e1
     ·rw [takesM, if_pos hc] at eT
      refine Ev.bind eT ?_
      simp only [if_true, if_neg (show ¬ (-1 : Int) ≥ 0 by omega)]
      exact e2
    ·have hw' := hw
     rw [wouldM, decide_eq_false hc, Bool.false_or, Bool.and_eq_true, decide_eq_true_eq, decide_eq_true_eq] at hw'
     obtain ⟨hb, _⟩ | ⟨o0, o1, os, ow⟩ := worst_ok f1 m (rd (row_ f0 g) (rd a g))
     ·omega
     obtain ⟨R, e1, e2, hR⟩ := ih _ _ (inv_swap w h g0 g2 hf.1 hf.2 (by omega) o0 (by omega) os (fun x h0 h1 e => ow x h0 (by omega) e) hw'.2) hmu
     refine ⟨R, spec1 R ?_, impl1 R ?_, hR⟩
     ·refine Ev.bind eW ?_
      simp only [if_true]
      refine Ev.bind (l12Has_ev m _ (by omega)) ?_
      simp only [hasGo_len, if_pos (show (cnt m (rd (row_ f0 g) (rd a g)) : Int) = rd f2 (rd (row_ f0 g) (rd a g)) by omega)]
      refine Ev.bind (specWorst_ev f0 f1 f2 m _ hs.1 (by omega) (by omega) (by omega)) ?_
      simp only [if_pos o0, if_pos o1]
      exact e1
     ·rw [takesM, if_neg hc, if_neg (by omega), if_neg (by omega)] at eT
      refine Ev.bind eT ?_
      simp only [if_true, if_pos (show worstM f1 m (rd (row_ f0 g) (rd a g)) ≥ 0 from o0), if_pos o0, if_pos o1]
      exact e2
   ·rw [Bool.eq_false_iff.2 hw] at eW eTW
    obtain ⟨R, e1, e2, hR⟩ := ih _ _ (inv_no w h g0 g2 hf.1 hf.2 (fun hc => hw ((would_iff f1 f2 m _ g).2 hc))) hmu
    refine ⟨R, spec1 R ?_, impl1 R ?_, hR⟩
    ·refine Ev.bind eW ?_
     simp only [Bool.false_eq_true, if_false]
     exact e1
    ·refine Ev.bind eT ?_
     simp only [eTW, Bool.false_eq_true, if_false]
     exact e2
theorem specStart (f0 f1 : List (List Int)) (f2 : List Int) (h0 : f0.length ≤ 8) (R : List Int × Bool) (hR : Ev (fun k => spec_MatchAll.l1 k (List.replicate f0.length (-1)) (List.replicate f0.length 0) f0 f1 f2) R) (d : Nat) : ∀ (c : Nat), c + d = f0.length → Ev (fun k => spec_MatchAll.l0 k (List.replicate c (-1)) f0.length c f0 f1 f2) R := by
 induction d with
 | zero =>
  intro c hc
  refine Ev.succ ?_
  simp only [spec_MatchAll.l0, if_neg (show ¬ (c : Int) < (f0.length : Int) by omega), List.length_replicate, if_pos (show (0 : Int) ≤ c by omega), Int.toNat_natCast, if_pos (show c ≤ 35184372088832 by omega)]
  rw [show c = f0.length by omega]
  exact hR
 | succ d ih =>
  intro c hc
  refine Ev.succ ?_
  have := ih (c + 1) (by omega)
  rw [List.replicate_succ'] at this
  simp only [spec_MatchAll.l0, if_pos (show (c : Int) < (f0.length : Int) by omega), List.length_replicate, if_pos (show c < 17592186044416 by omega), wrap_id (show (-9223372036854775808 : Int) ≤ c + 1 by omega) (show ((c : Int) + 1 ≤ 9223372036854775807) by omega)]
  exact this
theorem implStart (f0 f1 : List (List Int)) (f2 a : List Int) (R : List Int × Bool) (n : Nat) (hn : n ≤ 8) (hR : Ev (fun k => impl_MatchAll.l1 k (List.replicate n (-1)) a f0 f1 f2) R) (d : Nat) : ∀ (c : Nat), c + d = n → Ev (fun k => impl_MatchAll.l0 k (List.replicate c (-1) ++ List.replicate d 0) a n c f0 f1 f2) R := by
 induction d with
 | zero =>
  intro c hc
  refine Ev.succ ?_
  simp only [impl_MatchAll.l0, if_neg (show ¬ (c : Int) < (n : Int) by omega), List.replicate_zero, List.append_nil]
  rw [show c = n by omega]
  exact hR
 | succ d ih =>
  intro c hc
  refine Ev.succ ?_
  have := ih (c + 1) (by omega)
  rw [List.replicate_succ', List.append_assoc] at this
  simp only [impl_MatchAll.l0, if_pos (show (c : Int) < (n : Int) by omega), if_pos (show (0 : Int) ≤ c by omega), if_pos (show (c : Int) < ((List.replicate c (-1 : Int) ++ List.replicate (d + 1) 0).length : Int) by simp; omega), wrap_id (show (-9223372036854775808 : Int) ≤ c + 1 by omega) (show ((c : Int) + 1 ≤ 9223372036854775807) by omega)]
  have e : List.set (List.replicate c (-1 : Int) ++ List.replicate (d + 1) (0 : Int)) ((c : Int)).toNat (-1 : Int) = List.replicate c (-1 : Int) ++ ([-1] ++ List.replicate d (0 : Int)) := by
   rw [Int.toNat_natCast, List.set_append_right _ _ (by simp), List.length_replicate, Nat.sub_self, List.replicate_succ, List.set_cons_zero]
   rfl
  rw [e]
  exact this
theorem matchAll_ev {f0 f1 : List (List Int)} {f2 : List Int} (ok : okW f0 f1 f2) : ∃ R : List Int × Bool, Ev (fun k => spec_MatchAll.f k f0 f1 f2) R ∧ Ev (fun k => impl_MatchAll.f k f0 f1 f2) R ∧ R.1.length ≤ 8 := by
 by_cases h : goodW f0 f1 f2 = true
 ·have hl := goodW_len h
  have w := wOk_of h
  have hst := inv_start w (by omega) (by omega) (fun s h0 h1 => (room_of h s h0 h1).1)
  rw [Int.toNat_natCast] at hst
  obtain ⟨R, e1, e2, hR⟩ := matchAll_go w hl.2.1 hl.2.2.2.1 (fun s h0 h1 => (room_of h s h0 h1).1) _ _ _ hst rfl
  refine ⟨R, ?_, ?_, hR⟩
  ·unfold spec_MatchAll.f
   refine Ev.bind (specGoodW_ev ok) ?_
   simp only [h, if_true]
   exact specStart f0 f1 f2 hl.2.1 R e1 f0.length 0 (by omega)
  ·unfold impl_MatchAll.f
   refine Ev.bind (implGoodW_ev ok) ?_
   simp only [h, if_true, if_pos (show (0 : Int) ≤ (f0.length : Int) by omega), Int.toNat_natCast, if_pos (show f0.length ≤ 35184372088832 by omega), Option.bind_some, List.length_replicate]
   exact implStart f0 f1 f2 _ R f0.length hl.2.1 e2 f0.length 0 (by omega)
 ·refine ⟨([], false), ?_, ?_, by simp⟩
  ·unfold spec_MatchAll.f
   refine Ev.bind (specGoodW_ev ok) ?_
   simp only [h, if_false]
   exact Ev.now _
  ·unfold impl_MatchAll.f
   refine Ev.bind (implGoodW_ev ok) ?_
   simp only [h, if_false]
   exact Ev.now _
end Go.Proofs.Ytoipbblhmcpneaa.P

namespace Go.Proofs.Ytoipbblhmcpneaa.Pure
open Go.RowKit Go.Proofs.Ytoipbblhmcpneaa.P Go.Proofs.YtoipbblhmcpneaaW.PrintWords Go.Proofs.YtoipbblhmcpneaaW.PrintLast
set_option linter.unusedVariables false
set_option linter.unusedSimpArgs false
theorem FnExactMatchAll : laws_FnExactMatchAll.Pure := by
 intro s hs
 obtain ⟨⟨h0, h0'⟩, ⟨h1, h1'⟩, h2, h2'⟩ := hs
 refine Ev.rounds ?_
 unfold laws_FnExactMatchAll.f
 obtain ⟨r, er, hr⟩ := szWishes_ev s.f0 s.f1 s.f2 h0 (fun x hx => (h0' x hx).1) h1 (fun x hx => (h1' x hx).1) h2
 refine Ev.bind er ?_
 by_cases h : r < 0
 ·simp only [if_pos h]
  exact Ev.now _
 ·simp only [if_neg h]
  have ok := hr h
  obtain ⟨g, hs, hi, hk⟩ := matchAll_ev ok
  obtain ⟨n, m0, m1, m2, hn0, hn1, en⟩ := markW_ev ok
  refine Ev.bind (toWishes_ev ok) ?_
  refine Ev.bind hs ?_
  refine Ev.bind (toWishes_ev ok) ?_
  refine Ev.bind hi ?_
  refine Ev.bind (eqIntS_ev _ _ (by omega)) ?_
  simp only [decide_true, if_true, bne_self_eq_false]
  refine Ev.succ ?_
  simp only [laws_FnExactMatchAll.j0, Bool.false_eq_true, if_false]
  refine Ev.bind (toWishes_ev ok) ?_
  refine Ev.bind (eqWishes_ev ok) ?_
  simp only [if_true]
  refine Ev.bind en ?_
  simp only [if_neg (show ¬ (n < 0) by omega)]
  refine Ev.bind (eqIntS_ev _ _ (by omega)) ?_
  simp only [decide_true, if_true, bne_self_eq_false]
  refine Ev.succ ?_
  simp only [laws_FnExactMatchAll.j1, Bool.false_eq_true, if_false]
  refine Ev.bind (markIntS_ev _ 1 (by omega) (by omega) (by omega)) ?_
  refine Ev.bind (heldIntS_ev _ 1 (by omega) (by omega) (by omega)) ?_
  simp only [if_neg (show ¬ (1 + (g.1.length : Int)) < 0 by omega), if_true]
  refine Ev.bind (toWishes_ev ok) ?_
  refine Ev.bind hi ?_
  refine Ev.bind (eqIntS_ev _ _ (by omega)) ?_
  simp only [decide_true, if_true, bne_self_eq_false]
  refine Ev.succ ?_
  simp only [laws_FnExactMatchAll.j2, Bool.false_eq_true, if_false]
  refine Ev.bind (heldIntS_ev _ 1 (by omega) (by omega) (by omega)) ?_
  simp only [if_neg (show ¬ (1 + (g.1.length : Int)) < 0 by omega), if_true]
  exact Ev.now _
end Go.Proofs.Ytoipbblhmcpneaa.Pure
