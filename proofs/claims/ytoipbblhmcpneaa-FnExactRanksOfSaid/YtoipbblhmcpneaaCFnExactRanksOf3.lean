/- Functions, walks and plain lemmas that the law FnExactRanksOf reaches, part 3. -/
import Derived.Test.YtoipbblhmcpneaaCFnExactRanksOf2
import Derived.WalkKit
import Derived.ProofKit
import Derived.OpenShut
import Derived.ChangeOld
import Derived.Below
import Derived.SizedLaws
import Derived.ChangeArms
import Derived.DataElems
import Derived.Deep.Draws
import Derived.Deep.AppendLies
import Derived.Maps.AppendAt
import Derived.OwnWalk
import Derived.Laws.BytesArg
import Derived.Laws.MakeOwn
import Derived.Laws.OwnMore
import Derived.Deep.OwnRows
import Derived.Tactics
import Derived.Lib.ConvBytes
import Derived.Laws.Slices
import Derived.KernelRfl
import Derived.RowKit3
import Derived.Deep.LoopGhost
import Derived.Deep.QuietTactic
import Derived.BigQuiet
import Derived.WideLaws
import Derived.Deep.DeepCutAuto
import Derived.Deep.CutBlock
import Derived.Deep.RegionHeld3
import Derived.Laws.Rows
import Derived.Lib.AppendStr
import Derived.ArgAppend
import Derived.Laws.IdiomCopy
import Derived.OrdersHeld
import Derived.Laws.BitsLemmas
import Derived.RowKit
import Derived.WalkSpells
import Derived.Lib.SliceRun
import Derived.Shelf.Abstract
import Derived.ShutString
namespace Go.Proofs.Ytoipbblhmcpneaa.P
open Go.RowKit Go.Proofs.YtoipbblhmcpneaaW.PrintWords Go.Proofs.YtoipbblhmcpneaaW.PrintLast Go.Proofs.YtoipbblhmcpneaaW.PrintMore
attribute [local go_sem] max2_int min2_int max_two min_two max_three min_three max_four min_four   -- for this text's walks alone
set_option linter.unusedVariables false
set_option linter.unusedSimpArgs false
mutual
def laws_FnExactRanksOf.j0:Nat→List Int→List Int→Bool→List Int→List Int→Bool→Bool→List (List Int)→List (List Int)→List Int→List (List Int)→List (List Int)→List Int→Option (Bool)
 | 0,_,_,_,_,_,_,_,_,_,_,_,_,_=>none
 |k+1,x1,x6,x7,x9,x10,x11,x51,x406000,x406001,x406002,x433000,x433001,x433002=>if x51=true then(some false) else((laws_toWishes.f k x406000 x406001 x406002).bind fun bt441=>((laws_eqWishes.f k x433000 x433001 x433002 bt441.1 bt441.2.1 bt441.2.2).bind fun t450=>(if t450=true then((laws_toIntS.f k x1).bind fun t451=>((laws_eqIntS.f k x9 t451).bind fun t454=>(if t454=true then((laws_markWishes.f k x433000 x433001 x433002 1).bind fun bt455=>((laws_markIntS.f k x9 bt455.1).bind fun bt456=>(if bt456.1< 0 then(laws_FnExactRanksOf.j1 k x1 x6 x7 x10 true x406000 x406001 x406002) else((laws_eqIntS.f k x10 x6).bind fun t458=>(if t458=true then(laws_FnExactRanksOf.j1 k x1 x6 x7 x10 (x11 !=x7) x406000 x406001 x406002) else(laws_FnExactRanksOf.j1 k x1 x6 x7 x10 true x406000 x406001 x406002)))))) else(some false)))) else(some false))))
def laws_FnExactRanksOf.j1:Nat→List Int→List Int→Bool→List Int→Bool→List (List Int)→List (List Int)→List Int→Option (Bool)
 | 0,_,_,_,_,_,_,_,_=>none
 |k+1,x1,x6,x7,x10,x80,x406000,x406001,x406002=>if x80=true then(some false) else((laws_markIntS.f k x10 1).bind fun bt459=>((laws_heldIntS.f k bt459.2 1).bind fun t461=>(if t461< 0 then(some false) else(if t461=bt459.1 then((laws_toWishes.f k x406000 x406001 x406002).bind fun bt462=>((laws_toIntS.f k x1).bind fun t471=>((impl_RanksOf.f k bt462.1 bt462.2.1 bt462.2.2 t471).bind fun bt474=>((laws_eqIntS.f k bt474.1 x6).bind fun t478=>(if t478=true then(laws_FnExactRanksOf.j2 k bt459.2 bt459.1 (bt474.2 !=x7)) else(laws_FnExactRanksOf.j2 k bt459.2 bt459.1 true)))))) else(some false)))))
def laws_FnExactRanksOf.j2:Nat→List Int→Int→Bool→Option (Bool)
 | 0,_,_,_=>none
 |k+1,x10,x13,x108=>if x108=true then(some false) else((laws_heldIntS.f k x10 1).bind fun t479=>(if t479< 0 then(some false) else(if t479=x13 then(some true) else(some false))))
end
def laws_FnExactRanksOf.f (k:Nat) (l0_0:List (List Int)) (l0_1:List (List Int)) (l0_2:List Int) (l1:List Int):Option (Bool):=if (l1.length:Int) > 1048576 then(some true) else((laws_szWishes.f k l0_0 l0_1 l0_2 1048576).bind fun t406=>(if t406< 0 then(some true) else((laws_toWishes.f k l0_0 l0_1 l0_2).bind fun bt407=>((laws_toIntS.f k l1).bind fun t416=>((spec_RanksOf.f k bt407.1 bt407.2.1 bt407.2.2 t416).bind fun bt419=>((laws_toWishes.f k l0_0 l0_1 l0_2).bind fun bt423=>((laws_toIntS.f k l1).bind fun t433=>((impl_RanksOf.f k bt423.1 bt423.2.1 bt423.2.2 t433).bind fun bt436=>((laws_eqIntS.f k bt436.1 bt419.1).bind fun t440=>(if t440=true then(laws_FnExactRanksOf.j0 k l1 bt419.1 bt419.2 t433 bt436.1 bt436.2 (bt436.2 !=bt419.2) l0_0 l0_1 l0_2 bt423.1 bt423.2.1 bt423.2.2) else(laws_FnExactRanksOf.j0 k l1 bt419.1 bt419.2 t433 bt436.1 bt436.2 true l0_0 l0_1 l0_2 bt423.1 bt423.2.1 bt423.2.2)))))))))))
set_option maxHeartbeats 8000000 in
set_option maxRecDepth 100000 in
theorem laws_FnExactRanksOf.calls (k:Nat) (A0_0:Option Addr) (c0_0:Nat) (l0_0:List (List Int)) (A0_1:Option Addr) (c0_1:Nat) (l0_1:List (List Int)) (A0_2:Option Addr) (c0_2:Nat) (l0_2:List Int) (A1:Option Addr) (c1:Nat) (l1:List Int) (r:Bool) (w:World) (hr0_0:Kd.C (Kd.slice 3 (Kd.int .i64)) w A0_0 l0_0.length l0_0) (hc0_0:l0_0.length≤c0_0) (hr0_1:Kd.C (Kd.slice 3 (Kd.int .i64)) w A0_1 l0_1.length l0_1) (hc0_1:l0_1.length≤c0_1) (hr0_2:Kd.C (Kd.int .i64) w A0_2 l0_2.length l0_2) (hc0_2:l0_2.length≤c0_2) (hr1:Kd.C (Kd.int .i64) w A1 l1.length l1) (hc1:l1.length≤c1) (h:laws_FnExactRanksOf.f k l0_0 l0_1 l0_2 l1=some r) (hrt:r=true:=by rfl):
  Calls Try.prog 7 #[.agg #[.slice A0_0 l0_0.length c0_0,.slice A0_1 l0_1.length c0_1,.slice A0_2 l0_2.length c0_2],.slice A1 l1.length c1] w fun e w'=>e= .returned (.bool r)∧Below w.heap.size w w':=by
 have HRT:=Aside0.mk hrt
 clear hrt
 have hu30:=Try.underlying30
 have hu33:=Try.underlying33
 have HR0_0:=Aside0.mk hr0_0
 have HC0_0:=Aside0.mk hc0_0
 clear hr0_0 hc0_0
 have HR0_1:=Aside0.mk hr0_1
 have HC0_1:=Aside0.mk hc0_1
 clear hr0_1 hc0_1
 have HR0_2:=Aside0.mk hr0_2
 have HC0_2:=Aside0.mk hc0_2
 clear hr0_2 hc0_2
 have HR1:=Aside0.mk hr1
 have HC1:=Aside0.mk hc1
 clear hr1 hc1
 have HB:=Aside0.mk (Below.refl w.heap.size w)
 have H:(if (l1.length:Int) > 1048576 then(some true) else((laws_szWishes.f k l0_0 l0_1 l0_2 1048576).bind fun t406=>(if t406< 0 then(some true) else((laws_toWishes.f k l0_0 l0_1 l0_2).bind fun bt407=>((laws_toIntS.f k l1).bind fun t416=>((spec_RanksOf.f k bt407.1 bt407.2.1 bt407.2.2 t416).bind fun bt419=>((laws_toWishes.f k l0_0 l0_1 l0_2).bind fun bt423=>((laws_toIntS.f k l1).bind fun t433=>((impl_RanksOf.f k bt423.1 bt423.2.1 bt423.2.2 t433).bind fun bt436=>((laws_eqIntS.f k bt436.1 bt419.1).bind fun t440=>(if t440=true then(laws_FnExactRanksOf.j0 k l1 bt419.1 bt419.2 t433 bt436.1 bt436.2 (bt436.2 !=bt419.2) l0_0 l0_1 l0_2 bt423.1 bt423.2.1 bt423.2.2) else(laws_FnExactRanksOf.j0 k l1 bt419.1 bt419.2 t433 bt436.1 bt436.2 true l0_0 l0_1 l0_2 bt423.1 bt423.2.1 bt423.2.2))))))))))))=some r:=h
 clear h
 by_cases c3:(l1.length:Int) > 1048576
 ·rw [if_pos c3] at H
  have c3b0:decide (1048576< (l1.length:Int))=true:=decide_eq_true c3
  have c3b1:decide (1048576<l1.length)=true:=decide_eq_true (by omega)
  clear c3
  obtain rfl:=Option.some.inj H
  go_enter Try.func7,Try.ntmps7
  go_wp2_with (first|((with_reducible refine gate_dst (N:=2) rfl ?_);refine box_event ?hg (N:=2) ?hd (cs:= #[.slice A0_0 l0_0.length c0_0,.slice A0_1 l0_1.length c0_1,.slice A0_2 l0_2.length c0_2]) (t:=30) ?hr ?_;(case hd=>rfl);(case hg=>rfl);(case hr=>first|(go_simp;done)|(go_simp;rfl));intro gb405 hg w4 hbox hb;have n0_:=Aside0.mk (below_step (zb0 HB) hb);have n1_:=Aside0.mk (hbox);have n2_:=Aside0.mk ((by rw [hg];exact(below_size (zb0 HB)):w.heap.size≤gb405));have n3_:=Aside0.mk ((by rw [hg];exact(below_size (zb0 HB)):w.heap.size≤gb405));clear HB;have HB:=n0_;have BK405:=n1_;have GW405:=n2_;have GE405:=n3_;clear n0_ n1_ n2_ n3_;clear hb hbox hg))
  go_ret
  exact⟨by first|rfl|(simp [errW_none,errW_some]<;>rfl)|(simp [*,errW_none,errW_some]<;>rfl),by repeat(first|(with_reducible first|exact HB.out|apply below_alloc|apply pw_below_drewN|apply below_drew1|refine below_set ?_ GE405.out)|exact HB.out)⟩
 ·rw [if_neg c3] at H
  have c3b0:decide (1048576< (l1.length:Int))=false:=decide_eq_false c3
  have c3b1:decide (1048576<l1.length)=false:=decide_eq_false (by omega)
  clear c3
  replace H:=Option.bind_eq_some_iff.mp H
  obtain⟨t406,A50,H⟩:=H
  replace H:(if t406< 0 then(some true) else((laws_toWishes.f k l0_0 l0_1 l0_2).bind fun bt407=>((laws_toIntS.f k l1).bind fun t416=>((spec_RanksOf.f k bt407.1 bt407.2.1 bt407.2.2 t416).bind fun bt419=>((laws_toWishes.f k l0_0 l0_1 l0_2).bind fun bt423=>((laws_toIntS.f k l1).bind fun t433=>((impl_RanksOf.f k bt423.1 bt423.2.1 bt423.2.2 t433).bind fun bt436=>((laws_eqIntS.f k bt436.1 bt419.1).bind fun t440=>(if t440=true then(laws_FnExactRanksOf.j0 k l1 bt419.1 bt419.2 t433 bt436.1 bt436.2 (bt436.2 !=bt419.2) l0_0 l0_1 l0_2 bt423.1 bt423.2.1 bt423.2.2) else(laws_FnExactRanksOf.j0 k l1 bt419.1 bt419.2 t433 bt436.1 bt436.2 true l0_0 l0_1 l0_2 bt423.1 bt423.2.1 bt423.2.2))))))))))=some r:=H
  have A5:=Aside0.mk A50
  clear A50
  by_cases c6:t406< 0
  ·rw [if_pos c6] at H
   have c6b0:decide (t406< 0)=true:=decide_eq_true c6
   clear c6
   obtain rfl:=Option.some.inj H
   go_enter Try.func7,Try.ntmps7
   go_wp2_with (first|((with_reducible refine gate_dst (N:=2) rfl ?_);refine box_event ?hg (N:=2) ?hd (cs:= #[.slice A0_0 l0_0.length c0_0,.slice A0_1 l0_1.length c0_1,.slice A0_2 l0_2.length c0_2]) (t:=30) ?hr ?_;(case hd=>rfl);(case hg=>rfl);(case hr=>first|(go_simp;done)|(go_simp;rfl));intro gb405 hg w7 hbox hb;have n0_:=Aside0.mk (below_step (zb0 HB) hb);have n1_:=Aside0.mk (hbox);have n2_:=Aside0.mk ((by rw [hg];exact(below_size (zb0 HB)):w.heap.size≤gb405));have n3_:=Aside0.mk ((by rw [hg];exact(below_size (zb0 HB)):w.heap.size≤gb405));clear HB;have HB:=n0_;have BK405:=n1_;have GW405:=n2_;have GE405:=n3_;clear n0_ n1_ n2_ n3_;clear hb hbox hg;have hcz8_0:w7.cell? ⟨gb405,0,none⟩=some (.slice A0_0 l0_0.length c0_0):=(blk_cell BK405.out 0).trans rfl;have hcz8_1:w7.cell? ⟨gb405,1,none⟩=some (.slice A0_1 l0_1.length c0_1):=(blk_cell BK405.out 1).trans rfl;have hcz8_2:w7.cell? ⟨gb405,2,none⟩=some (.slice A0_2 l0_2.length c0_2):=(blk_cell BK405.out 2).trans rfl;have hfz8_0:=blk_frozen BK405.out 0;have hfz8_1:=blk_frozen BK405.out 1;have hfz8_2:=blk_frozen BK405.out 2)|((with_reducible refine gate_callee (f:=17) rfl ?_);refine goesL_ (some 22) rfl rfl Try.func17 (by kernel_rfl) rfl #[.agg #[.slice A0_0 l0_0.length c0_0,.slice A0_1 l0_1.length c0_1,.slice A0_2 l0_2.length c0_2],.int .i64 1048576] rfl zq2 ?_;(with_reducible refine(laws_szWishes.calls k _ _ l0_0 _ _ l0_1 _ _ l0_2 1048576 t406 _ ?side1 ?side2 ?side3 ?side4 ?side5 ?side6 A5.out).mono ?_);(case side1=>repeat(first|exact(Kd.C_below HR0_0.out HB.out)|(with_reducible refine Kd.C_alloc ?_ _)|(with_reducible refine Kd.C_drewN ?_ _)|(with_reducible refine Kd.C_drew ?_)));(case side2=>exact HC0_0.out);(case side3=>repeat(first|exact(Kd.C_below HR0_1.out HB.out)|(with_reducible refine Kd.C_alloc ?_ _)|(with_reducible refine Kd.C_drewN ?_ _)|(with_reducible refine Kd.C_drew ?_)));(case side4=>exact HC0_1.out);(case side5=>repeat(first|exact(Kd.C_below HR0_2.out HB.out)|(with_reducible refine Kd.C_alloc ?_ _)|(with_reducible refine Kd.C_drewN ?_ _)|(with_reducible refine Kd.C_drew ?_)));(case side6=>exact HC0_2.out);rintro e w9 ⟨rfl,hb⟩;refine⟨_,rfl,?_⟩;have n0_:=Aside0.mk (blk_below (g:=gb405) (o:= .cells #[.slice A0_0 l0_0.length c0_0,.slice A0_1 l0_1.length c0_1,.slice A0_2 l0_2.length c0_2] 30 (0,0)) (zq3 BK405) hb);have n1_:=Aside0.mk (below_step (zb1 HB GE405) hb);clear BK405;clear HB;have BK405:=n0_;have HB:=n1_;clear n0_ n1_;(try clear hb);(try clear hb2);(try clear hk);(try clear hi)))
   go_ret
   exact⟨by first|rfl|(simp [errW_none,errW_some]<;>rfl)|(simp [*,errW_none,errW_some]<;>rfl),by repeat(first|(with_reducible first|exact HB.out|apply below_alloc|apply pw_below_drewN|apply below_drew1|refine below_set ?_ GE405.out)|exact HB.out)⟩
  ·rw [if_neg c6] at H
   have c6b0:decide (t406< 0)=false:=decide_eq_false c6
   clear c6
   replace H:=Option.bind_eq_some_iff.mp H
   obtain⟨⟨t407,t410,t413⟩,A100,H⟩:=H
   replace H:((laws_toIntS.f k l1).bind fun t416=>((spec_RanksOf.f k t407 t410 t413 t416).bind fun bt419=>((laws_toWishes.f k l0_0 l0_1 l0_2).bind fun bt423=>((laws_toIntS.f k l1).bind fun t433=>((impl_RanksOf.f k bt423.1 bt423.2.1 bt423.2.2 t433).bind fun bt436=>((laws_eqIntS.f k bt436.1 bt419.1).bind fun t440=>(if t440=true then(laws_FnExactRanksOf.j0 k l1 bt419.1 bt419.2 t433 bt436.1 bt436.2 (bt436.2 !=bt419.2) l0_0 l0_1 l0_2 bt423.1 bt423.2.1 bt423.2.2) else(laws_FnExactRanksOf.j0 k l1 bt419.1 bt419.2 t433 bt436.1 bt436.2 true l0_0 l0_1 l0_2 bt423.1 bt423.2.1 bt423.2.2))))))))=some r:=H
   have A10:=Aside0.mk A100
   clear A100
   replace H:=Option.bind_eq_some_iff.mp H
   obtain⟨t416,A110,H⟩:=H
   replace H:((spec_RanksOf.f k t407 t410 t413 t416).bind fun bt419=>((laws_toWishes.f k l0_0 l0_1 l0_2).bind fun bt423=>((laws_toIntS.f k l1).bind fun t433=>((impl_RanksOf.f k bt423.1 bt423.2.1 bt423.2.2 t433).bind fun bt436=>((laws_eqIntS.f k bt436.1 bt419.1).bind fun t440=>(if t440=true then(laws_FnExactRanksOf.j0 k l1 bt419.1 bt419.2 t433 bt436.1 bt436.2 (bt436.2 !=bt419.2) l0_0 l0_1 l0_2 bt423.1 bt423.2.1 bt423.2.2) else(laws_FnExactRanksOf.j0 k l1 bt419.1 bt419.2 t433 bt436.1 bt436.2 true l0_0 l0_1 l0_2 bt423.1 bt423.2.1 bt423.2.2)))))))=some r:=H
   have A11:=Aside0.mk A110
   clear A110
   replace H:=Option.bind_eq_some_iff.mp H
   obtain⟨⟨t419,t422⟩,A120,H⟩:=H
   replace H:((laws_toWishes.f k l0_0 l0_1 l0_2).bind fun bt423=>((laws_toIntS.f k l1).bind fun t433=>((impl_RanksOf.f k bt423.1 bt423.2.1 bt423.2.2 t433).bind fun bt436=>((laws_eqIntS.f k bt436.1 t419).bind fun t440=>(if t440=true then(laws_FnExactRanksOf.j0 k l1 t419 t422 t433 bt436.1 bt436.2 (bt436.2 !=t422) l0_0 l0_1 l0_2 bt423.1 bt423.2.1 bt423.2.2) else(laws_FnExactRanksOf.j0 k l1 t419 t422 t433 bt436.1 bt436.2 true l0_0 l0_1 l0_2 bt423.1 bt423.2.1 bt423.2.2))))))=some r:=H
   have A12:=Aside0.mk A120
   clear A120
   replace H:=Option.bind_eq_some_iff.mp H
   obtain⟨⟨t423,t426,t429⟩,A130,H⟩:=H
   replace H:((laws_toIntS.f k l1).bind fun t433=>((impl_RanksOf.f k t423 t426 t429 t433).bind fun bt436=>((laws_eqIntS.f k bt436.1 t419).bind fun t440=>(if t440=true then(laws_FnExactRanksOf.j0 k l1 t419 t422 t433 bt436.1 bt436.2 (bt436.2 !=t422) l0_0 l0_1 l0_2 t423 t426 t429) else(laws_FnExactRanksOf.j0 k l1 t419 t422 t433 bt436.1 bt436.2 true l0_0 l0_1 l0_2 t423 t426 t429)))))=some r:=H
   have A13:=Aside0.mk A130
   clear A130
   replace H:=Option.bind_eq_some_iff.mp H
   obtain⟨t433,A140,H⟩:=H
   replace H:((impl_RanksOf.f k t423 t426 t429 t433).bind fun bt436=>((laws_eqIntS.f k bt436.1 t419).bind fun t440=>(if t440=true then(laws_FnExactRanksOf.j0 k l1 t419 t422 t433 bt436.1 bt436.2 (bt436.2 !=t422) l0_0 l0_1 l0_2 t423 t426 t429) else(laws_FnExactRanksOf.j0 k l1 t419 t422 t433 bt436.1 bt436.2 true l0_0 l0_1 l0_2 t423 t426 t429))))=some r:=H
   have A14:=Aside0.mk A140
   clear A140
   replace H:=Option.bind_eq_some_iff.mp H
   obtain⟨⟨t436,t439⟩,A150,H⟩:=H
   replace H:((laws_eqIntS.f k t436 t419).bind fun t440=>(if t440=true then(laws_FnExactRanksOf.j0 k l1 t419 t422 t433 t436 t439 (t439 !=t422) l0_0 l0_1 l0_2 t423 t426 t429) else(laws_FnExactRanksOf.j0 k l1 t419 t422 t433 t436 t439 true l0_0 l0_1 l0_2 t423 t426 t429)))=some r:=H
   have A15:=Aside0.mk A150
   clear A150
   have HC16:=Aside0.mk H
   clear H
   go_enter Try.func7,Try.ntmps7
   go_upto_region 11 with (first|((with_reducible refine gate_dst (N:=2) rfl ?_);refine box_event ?hg (N:=2) ?hd (cs:= #[.slice A0_0 l0_0.length c0_0,.slice A0_1 l0_1.length c0_1,.slice A0_2 l0_2.length c0_2]) (t:=30) ?hr ?_;(case hd=>rfl);(case hg=>rfl);(case hr=>first|(go_simp;done)|(go_simp;rfl));intro gb405 hg w17 hbox hb;have n0_:=Aside0.mk (below_step (zb0 HB) hb);have n1_:=Aside0.mk (hbox);have n2_:=Aside0.mk ((by rw [hg];exact(below_size (zb0 HB)):w.heap.size≤gb405));have n3_:=Aside0.mk ((by rw [hg];exact(below_size (zb0 HB)):w.heap.size≤gb405));clear HB;have HB:=n0_;have BK405:=n1_;have GW405:=n2_;have GE405:=n3_;clear n0_ n1_ n2_ n3_;clear hb hbox hg;have hcz18_0:w17.cell? ⟨gb405,0,none⟩=some (.slice A0_0 l0_0.length c0_0):=(blk_cell BK405.out 0).trans rfl;have hcz18_1:w17.cell? ⟨gb405,1,none⟩=some (.slice A0_1 l0_1.length c0_1):=(blk_cell BK405.out 1).trans rfl;have hcz18_2:w17.cell? ⟨gb405,2,none⟩=some (.slice A0_2 l0_2.length c0_2):=(blk_cell BK405.out 2).trans rfl;have hfz18_0:=blk_frozen BK405.out 0;have hfz18_1:=blk_frozen BK405.out 1;have hfz18_2:=blk_frozen BK405.out 2)|((with_reducible refine gate_callee (f:=17) rfl ?_);refine goesL_ (some 22) rfl rfl Try.func17 (by kernel_rfl) rfl #[.agg #[.slice A0_0 l0_0.length c0_0,.slice A0_1 l0_1.length c0_1,.slice A0_2 l0_2.length c0_2],.int .i64 1048576] rfl zq2 ?_;(with_reducible refine(laws_szWishes.calls k _ _ l0_0 _ _ l0_1 _ _ l0_2 1048576 t406 _ ?side1 ?side2 ?side3 ?side4 ?side5 ?side6 A5.out).mono ?_);(case side1=>repeat(first|exact(Kd.C_below HR0_0.out HB.out)|(with_reducible refine Kd.C_alloc ?_ _)|(with_reducible refine Kd.C_drewN ?_ _)|(with_reducible refine Kd.C_drew ?_)));(case side2=>exact HC0_0.out);(case side3=>repeat(first|exact(Kd.C_below HR0_1.out HB.out)|(with_reducible refine Kd.C_alloc ?_ _)|(with_reducible refine Kd.C_drewN ?_ _)|(with_reducible refine Kd.C_drew ?_)));(case side4=>exact HC0_1.out);(case side5=>repeat(first|exact(Kd.C_below HR0_2.out HB.out)|(with_reducible refine Kd.C_alloc ?_ _)|(with_reducible refine Kd.C_drewN ?_ _)|(with_reducible refine Kd.C_drew ?_)));(case side6=>exact HC0_2.out);rintro e w19 ⟨rfl,hb⟩;refine⟨_,rfl,?_⟩;have n0_:=Aside0.mk (blk_below (g:=gb405) (o:= .cells #[.slice A0_0 l0_0.length c0_0,.slice A0_1 l0_1.length c0_1,.slice A0_2 l0_2.length c0_2] 30 (0,0)) (zq3 BK405) hb);have n1_:=Aside0.mk (below_step (zb1 HB GE405) hb);clear BK405;clear HB;have BK405:=n0_;have HB:=n1_;clear n0_ n1_;(try clear hb);(try clear hb2);(try clear hk);(try clear hi);have hcz20_0:w19.cell? ⟨gb405,0,none⟩=some (.slice A0_0 l0_0.length c0_0):=(blk_cell BK405.out 0).trans rfl;have hcz20_1:w19.cell? ⟨gb405,1,none⟩=some (.slice A0_1 l0_1.length c0_1):=(blk_cell BK405.out 1).trans rfl;have hcz20_2:w19.cell? ⟨gb405,2,none⟩=some (.slice A0_2 l0_2.length c0_2):=(blk_cell BK405.out 2).trans rfl;have hfz20_0:=blk_frozen BK405.out 0;have hfz20_1:=blk_frozen BK405.out 1;have hfz20_2:=blk_frozen BK405.out 2)|((with_reducible refine gate_callee (f:=19) rfl ?_);refine goesL_ (some 27) rfl rfl Try.func19 (by kernel_rfl) rfl #[.agg #[.slice A0_0 l0_0.length c0_0,.slice A0_1 l0_1.length c0_1,.slice A0_2 l0_2.length c0_2]] rfl zq2 ?_;(with_reducible refine(laws_toWishes.calls k _ _ l0_0 _ _ l0_1 _ _ l0_2 t407 t410 t413 _ ?side1 ?side2 ?side3 ?side4 ?side5 ?side6 A10.out).mono ?_);(case side1=>repeat(first|exact(Kd.C_below HR0_0.out HB.out)|(with_reducible refine Kd.C_alloc ?_ _)|(with_reducible refine Kd.C_drewN ?_ _)|(with_reducible refine Kd.C_drew ?_)));(case side2=>exact HC0_0.out);(case side3=>repeat(first|exact(Kd.C_below HR0_1.out HB.out)|(with_reducible refine Kd.C_alloc ?_ _)|(with_reducible refine Kd.C_drewN ?_ _)|(with_reducible refine Kd.C_drew ?_)));(case side4=>exact HC0_1.out);(case side5=>repeat(first|exact(Kd.C_below HR0_2.out HB.out)|(with_reducible refine Kd.C_alloc ?_ _)|(with_reducible refine Kd.C_drewN ?_ _)|(with_reducible refine Kd.C_drew ?_)));(case side6=>exact HC0_2.out);rintro e w21 ⟨v408,v411,v414,rfl,ho0,ho1,ho2,hb⟩;refine⟨_,rfl,?_⟩;have n0_:=Aside0.mk (Kd.S_lower ho0 (below_size (zb1 HB GE405)));have n1_:=Aside0.mk (Kd.S_lower ho1 (below_size (zb1 HB GE405)));have n2_:=Aside0.mk (Kd.R_lower ho2 (below_size (zb1 HB GE405)));have n3_:=Aside0.mk (blk_below (g:=gb405) (o:= .cells #[.slice A0_0 l0_0.length c0_0,.slice A0_1 l0_1.length c0_1,.slice A0_2 l0_2.length c0_2] 30 (0,0)) (zq3 BK405) hb);have n4_:=Aside0.mk (below_step (zb1 HB GE405) hb);clear BK405;clear HB;have HO409:=n0_;have HO412:=n1_;have HO415:=n2_;have BK405:=n3_;have HB:=n4_;clear n0_ n1_ n2_ n3_ n4_;(try clear hb);(try clear hb2);(try clear hk);(try clear hi);(try clear ho0);(try clear ho1);(try clear ho2))|((with_reducible refine gate_callee (f:=14) rfl ?_);refine goesL_ (some 29) rfl rfl Try.func14 (by kernel_rfl) rfl #[.slice A1 l1.length c1] rfl zq2 ?_;(with_reducible refine(laws_toIntS.calls k _ _ l1 t416 _ ?side1 ?side2 A11.out).mono ?_);(case side1=>repeat(first|exact(Kd.C_below HR1.out HB.out)|(with_reducible refine Kd.C_alloc ?_ _)|(with_reducible refine Kd.C_drewN ?_ _)|(with_reducible refine Kd.C_drew ?_)));(case side2=>exact HC1.out);rintro e w22 ⟨v417,rfl,ho0,hb⟩;refine⟨_,rfl,?_⟩;have n0_:=Aside0.mk (Kd.S_elder' (by(with_reducible repeat(first|apply Kd.S_alloc|apply Kd.S_drewN|apply Kd.S_drew));exact HO409.out) (Kd.R_base ho0) hb);have n1_:=Aside0.mk (Kd.S_elder' (by(with_reducible repeat(first|apply Kd.S_alloc|apply Kd.S_drewN|apply Kd.S_drew));exact HO412.out) (Kd.R_base ho0) hb);have n2_:=Aside0.mk (Kd.R_elder' (zq4 HO415) (Kd.R_base ho0) hb);have n3_:=Aside0.mk (Kd.R_lower (Kd.R_new' ho0 (Kd.R_lt (zq4 HO415))) (below_size (zb1 HB GE405)));have n4_:=Aside0.mk (blk_below (g:=gb405) (o:= .cells #[.slice A0_0 l0_0.length c0_0,.slice A0_1 l0_1.length c0_1,.slice A0_2 l0_2.length c0_2] 30 (0,0)) (zq3 BK405) hb);have n5_:=Aside0.mk (below_step (zb1 HB GE405) hb);clear HO409;clear HO412;clear HO415;clear BK405;clear HB;have HO409:=n0_;have HO412:=n1_;have HO415:=n2_;have HO418:=n3_;have BK405:=n4_;have HB:=n5_;clear n0_ n1_ n2_ n3_ n4_ n5_;(try clear hb);(try clear hb2);(try clear hk);(try clear hi);(try clear ho0);obtain⟨Ao23,co23,eo23⟩:=Kd.S_slice HO409.out;subst eo23;obtain⟨Ao24,co24,eo24⟩:=Kd.S_slice HO412.out;subst eo24;obtain⟨Ao25,co25,eo25⟩:=Kd.R_slice HO415.out;subst eo25;obtain⟨Ao26,co26,eo26⟩:=Kd.R_slice HO418.out;subst eo26)|((with_reducible refine gate_callee (f:=29) rfl ?_);refine goesL_ (some 30) rfl rfl Try.func29 (by kernel_rfl) rfl #[.agg #[.slice Ao23 t407.length co23,.slice Ao24 t410.length co24,.slice Ao25 t413.length co25],.slice Ao26 t416.length co26] rfl zq2 ?_;(with_reducible refine(spec_RanksOf.calls k _ _ t407 _ _ t410 _ _ t413 _ _ t416 t419 t422 _ ?side1 ?side2 ?side3 ?side4 ?side5 ?side6 ?side7 ?side8 A12.out).mono ?_);(case side1=>repeat(first|exact(Kd.S_reads' HO409.out).2.2|(with_reducible refine Kd.C_alloc ?_ _)|(with_reducible refine Kd.C_drewN ?_ _)|(with_reducible refine Kd.C_drew ?_)));(case side2=>exact(Kd.S_reads' HO409.out).2.1);(case side3=>repeat(first|exact(Kd.S_reads' HO412.out).2.2|(with_reducible refine Kd.C_alloc ?_ _)|(with_reducible refine Kd.C_drewN ?_ _)|(with_reducible refine Kd.C_drew ?_)));(case side4=>exact(Kd.S_reads' HO412.out).2.1);(case side5=>repeat(first|exact(Kd.R_reads' HO415.out).2.2|(with_reducible refine Kd.C_alloc ?_ _)|(with_reducible refine Kd.C_drewN ?_ _)|(with_reducible refine Kd.C_drew ?_)));(case side6=>exact(Kd.R_reads' HO415.out).2.1);(case side7=>repeat(first|exact(Kd.R_reads' HO418.out).2.2|(with_reducible refine Kd.C_alloc ?_ _)|(with_reducible refine Kd.C_drewN ?_ _)|(with_reducible refine Kd.C_drew ?_)));(case side8=>exact(Kd.R_reads' HO418.out).2.1);rintro e w27 ⟨v420,rfl,ho0,hb⟩;refine⟨_,rfl,?_⟩;have n0_:=Aside0.mk (Kd.S_elder' (by(with_reducible repeat(first|apply Kd.S_alloc|apply Kd.S_drewN|apply Kd.S_drew));exact HO409.out) (Kd.R_base ho0) hb);have n1_:=Aside0.mk (Kd.S_elder' (by(with_reducible repeat(first|apply Kd.S_alloc|apply Kd.S_drewN|apply Kd.S_drew));exact HO412.out) (Kd.R_base ho0) hb);have n2_:=Aside0.mk (Kd.R_elder' (zq4 HO415) (Kd.R_base ho0) hb);have n3_:=Aside0.mk (Kd.R_elder' (zq4 HO418) (Kd.R_base ho0) hb);have n4_:=Aside0.mk (Kd.R_lower (Kd.R_new' (Kd.R_new' ho0 (Kd.R_lt (zq4 HO415))) (Kd.R_lt (zq4 HO418))) (below_size (zb1 HB GE405)));have n5_:=Aside0.mk (blk_below (g:=gb405) (o:= .cells #[.slice A0_0 l0_0.length c0_0,.slice A0_1 l0_1.length c0_1,.slice A0_2 l0_2.length c0_2] 30 (0,0)) (zq3 BK405) hb);have n6_:=Aside0.mk (below_step (zb1 HB GE405) hb);clear HO409;clear HO412;clear HO415;clear HO418;clear BK405;clear HB;have HO409:=n0_;have HO412:=n1_;have HO415:=n2_;have HO418:=n3_;have HO421:=n4_;have BK405:=n5_;have HB:=n6_;clear n0_ n1_ n2_ n3_ n4_ n5_ n6_;(try clear hb);(try clear hb2);(try clear hk);(try clear hi);(try clear ho0);have hcz28_0:w27.cell? ⟨gb405,0,none⟩=some (.slice A0_0 l0_0.length c0_0):=(blk_cell BK405.out 0).trans rfl;have hcz28_1:w27.cell? ⟨gb405,1,none⟩=some (.slice A0_1 l0_1.length c0_1):=(blk_cell BK405.out 1).trans rfl;have hcz28_2:w27.cell? ⟨gb405,2,none⟩=some (.slice A0_2 l0_2.length c0_2):=(blk_cell BK405.out 2).trans rfl;have hfz28_0:=blk_frozen BK405.out 0;have hfz28_1:=blk_frozen BK405.out 1;have hfz28_2:=blk_frozen BK405.out 2)|((with_reducible refine gate_callee (f:=19) rfl ?_);refine goesL_ (some 34) rfl rfl Try.func19 (by kernel_rfl) rfl #[.agg #[.slice A0_0 l0_0.length c0_0,.slice A0_1 l0_1.length c0_1,.slice A0_2 l0_2.length c0_2]] rfl zq2 ?_;(with_reducible refine(laws_toWishes.calls2 k _ _ l0_0 _ _ l0_1 _ _ l0_2 t423 t426 t429 _ ?side1 ?side2 ?side3 ?side4 ?side5 ?side6 A13.out).mono ?_);(case side1=>repeat(first|exact(Kd.C_below HR0_0.out HB.out)|(with_reducible refine Kd.C_alloc ?_ _)|(with_reducible refine Kd.C_drewN ?_ _)|(with_reducible refine Kd.C_drew ?_)));(case side2=>exact HC0_0.out);(case side3=>repeat(first|exact(Kd.C_below HR0_1.out HB.out)|(with_reducible refine Kd.C_alloc ?_ _)|(with_reducible refine Kd.C_drewN ?_ _)|(with_reducible refine Kd.C_drew ?_)));(case side4=>exact HC0_1.out);(case side5=>repeat(first|exact(Kd.C_below HR0_2.out HB.out)|(with_reducible refine Kd.C_alloc ?_ _)|(with_reducible refine Kd.C_drewN ?_ _)|(with_reducible refine Kd.C_drew ?_)));(case side6=>exact HC0_2.out);rintro e w29 ⟨M_,v424,v427,v430,rfl,ho0,ho1,ho2,hb⟩;refine⟨_,rfl,?_⟩;have n0_:=Aside0.mk (Kd.S_mono (Kd.S_told (Kd.S_told (Kd.S_told (Kd.S_old (by(with_reducible repeat(first|apply Kd.S_alloc|apply Kd.S_drewN|apply Kd.S_drew));exact HO409.out) hb) (Kd.S_base ho0)) (Kd.S_base ho1)) (Kd.R_base ho2)) (fun _ h_=>h_.1));have n1_:=Aside0.mk (Kd.S_mono (Kd.S_told (Kd.S_told (Kd.S_told (Kd.S_old (by(with_reducible repeat(first|apply Kd.S_alloc|apply Kd.S_drewN|apply Kd.S_drew));exact HO412.out) hb) (Kd.S_base ho0)) (Kd.S_base ho1)) (Kd.R_base ho2)) (fun _ h_=>h_.1));have n2_:=Aside0.mk (Kd.R_elder' (zq4 HO415) (Kd.R_base ho2) hb);have n3_:=Aside0.mk (Kd.R_elder' (zq4 HO418) (Kd.R_base ho2) hb);have n4_:=Aside0.mk (Kd.R_elder' (zq4 HO421) (Kd.R_base ho2) hb);have n5_:=Aside0.mk (Kd.S_lower (Kd.S_new' (Kd.S_new' (Kd.S_new' (Kd.S_new' (Kd.S_new' ho0 (Kd.S_lt (by(with_reducible repeat(first|apply Kd.S_alloc|apply Kd.S_drewN|apply Kd.S_drew));exact HO409.out))) (Kd.S_lt (by(with_reducible repeat(first|apply Kd.S_alloc|apply Kd.S_drewN|apply Kd.S_drew));exact HO412.out))) (Kd.R_lt (zq4 HO415))) (Kd.R_lt (zq4 HO418))) (Kd.R_lt (zq4 HO421))) (below_size (zb1 HB GE405)));have n6_:=Aside0.mk (Kd.S_lower (Kd.S_new' (Kd.S_new' (Kd.S_new' (Kd.S_new' (Kd.S_new' ho1 (Kd.S_lt (by(with_reducible repeat(first|apply Kd.S_alloc|apply Kd.S_drewN|apply Kd.S_drew));exact HO409.out))) (Kd.S_lt (by(with_reducible repeat(first|apply Kd.S_alloc|apply Kd.S_drewN|apply Kd.S_drew));exact HO412.out))) (Kd.R_lt (zq4 HO415))) (Kd.R_lt (zq4 HO418))) (Kd.R_lt (zq4 HO421))) (below_size (zb1 HB GE405)));have n7_:=Aside0.mk (Kd.R_lower (Kd.R_new' (Kd.R_new' (Kd.R_new' ho2 (Kd.R_lt (zq4 HO415))) (Kd.R_lt (zq4 HO418))) (Kd.R_lt (zq4 HO421))) (below_size (zb1 HB GE405)));have n8_:=Aside0.mk (blk_below (g:=gb405) (o:= .cells #[.slice A0_0 l0_0.length c0_0,.slice A0_1 l0_1.length c0_1,.slice A0_2 l0_2.length c0_2] 30 (0,0)) (zq3 BK405) hb);have n9_:=Aside0.mk (below_step (zb1 HB GE405) hb);clear HO409;clear HO412;clear HO415;clear HO418;clear HO421;clear BK405;clear HB;have HO409:=n0_;have HO412:=n1_;have HO415:=n2_;have HO418:=n3_;have HO421:=n4_;have HO425:=n5_;have HO428:=n6_;have HO431:=n7_;have BK405:=n8_;have HB:=n9_;clear n0_ n1_ n2_ n3_ n4_ n5_ n6_ n7_ n8_ n9_;(try clear hb);(try clear hb2);(try clear hk);(try clear hi);(try clear ho0);(try clear ho1);(try clear ho2))|((with_reducible refine gate_dst (N:=8) rfl ?_);refine box_event ?hg (N:=8) ?hd (cs:= #[.slice none 0 0,.slice none 0 0,.slice none 0 0]) (t:=33) ?hr ?_;(case hd=>rfl);(case hg=>rfl);(case hr=>first|(go_simp;done)|(go_simp;rfl));intro gb432 hg w30 hbox hb;have n0_:=Aside0.mk (Kd.S_below (by(with_reducible repeat(first|apply Kd.S_alloc|apply Kd.S_drewN|apply Kd.S_drew));exact HO409.out) hb);have n1_:=Aside0.mk (Kd.S_below (by(with_reducible repeat(first|apply Kd.S_alloc|apply Kd.S_drewN|apply Kd.S_drew));exact HO412.out) hb);have n2_:=Aside0.mk (Kd.R_below (zq4 HO415) hb);have n3_:=Aside0.mk (Kd.R_below (zq4 HO418) hb);have n4_:=Aside0.mk (Kd.R_below (zq4 HO421) hb);have n5_:=Aside0.mk (Kd.S_below (by(with_reducible repeat(first|apply Kd.S_alloc|apply Kd.S_drewN|apply Kd.S_drew));exact HO425.out) hb);have n6_:=Aside0.mk (Kd.S_below (by(with_reducible repeat(first|apply Kd.S_alloc|apply Kd.S_drewN|apply Kd.S_drew));exact HO428.out) hb);have n7_:=Aside0.mk (Kd.R_below (zq4 HO431) hb);have n8_:=Aside0.mk (blk_below (g:=gb405) (o:= .cells #[.slice A0_0 l0_0.length c0_0,.slice A0_1 l0_1.length c0_1,.slice A0_2 l0_2.length c0_2] 30 (0,0)) (zq3 BK405) hb);have n9_:=Aside0.mk (below_step (zb1 HB GE405) hb);have n10_:=Aside0.mk (hbox);have n11_:=Aside0.mk ((by rw [hg];exact(below_size (zb1 HB GE405)):w.heap.size≤gb432));have n12_:=Aside0.mk ((by rw [hg];exact(below_size (zb1 HB GE405)):w.heap.size≤gb432));have n13_:=Aside0.mk ((by rw [hg];exact Nat.ne_of_lt (blk_lt (g:=gb405) (o:= .cells #[.slice A0_0 l0_0.length c0_0,.slice A0_1 l0_1.length c0_1,.slice A0_2 l0_2.length c0_2] 30 (0,0)) (zq3 BK405)):gb405≠gb432));have n14_:=Aside0.mk ((by rw [hg];exact Nat.ne_of_gt (blk_lt (g:=gb405) (o:= .cells #[.slice A0_0 l0_0.length c0_0,.slice A0_1 l0_1.length c0_1,.slice A0_2 l0_2.length c0_2] 30 (0,0)) (zq3 BK405)):gb432≠gb405));clear HO409;clear HO412;clear HO415;clear HO418;clear HO421;clear HO425;clear HO428;clear HO431;clear BK405;clear HB;have HO409:=n0_;have HO412:=n1_;have HO415:=n2_;have HO418:=n3_;have HO421:=n4_;have HO425:=n5_;have HO428:=n6_;have HO431:=n7_;have BK405:=n8_;have HB:=n9_;have BK432:=n10_;have GW432:=n11_;have GE432:=n12_;have NB405_432:=n13_;have NB432_405:=n14_;clear n0_ n1_ n2_ n3_ n4_ n5_ n6_ n7_ n8_ n9_ n10_ n11_ n12_ n13_ n14_;clear hb hbox hg;obtain⟨Ao31,co31,eo31⟩:=Kd.S_slice HO425.out;subst eo31;have hnb32:=NB432_405.out;have hnc32:=NB405_432.out;have hcz33_0:w30.cell? ⟨gb432,0,none⟩=some (.slice none 0 0):=(blk_cell BK432.out 0).trans rfl;have hcz33_1:w30.cell? ⟨gb432,1,none⟩=some (.slice none 0 0):=(blk_cell BK432.out 1).trans rfl;have hcz33_2:w30.cell? ⟨gb432,2,none⟩=some (.slice none 0 0):=(blk_cell BK432.out 2).trans rfl;have hfz33_0:=blk_frozen BK432.out 0;have hfz33_1:=blk_frozen BK432.out 1;have hfz33_2:=blk_frozen BK432.out 2;obtain⟨Ao34,co34,eo34⟩:=Kd.S_slice HO428.out;subst eo34;obtain⟨Ao35,co35,eo35⟩:=Kd.R_slice HO431.out;subst eo35)|((with_reducible refine gate_callee (f:=14) rfl ?_);refine goesL_ (some 36) rfl rfl Try.func14 (by kernel_rfl) rfl #[.slice A1 l1.length c1] rfl zq2 ?_;(with_reducible refine(laws_toIntS.calls k _ _ l1 t433 _ ?side1 ?side2 A14.out).mono ?_);(case side1=>exact Kd.C_below HR1.out (zb2 HB GE405 GE432));(case side2=>exact HC1.out);rintro e w36 ⟨v434,rfl,ho0,hb⟩;refine⟨_,rfl,?_⟩;have n0_:=Aside0.mk (Kd.S_elder' (by(with_reducible repeat(first|apply Kd.S_alloc|apply Kd.S_drewN|apply Kd.S_drew));exact(Kd.S_mono (Kd.S_far (p:=⟨gb432,2,none⟩) (Kd.S_far (p:=⟨gb432,1,none⟩) (Kd.S_far (p:=⟨gb432,0,none⟩) (Kd.S_types HO409.out BK432.out (by decide)) (fun _ hk=>hk.2) (.slice Ao31 t423.length co31)) (fun _ hk=>hk.2) (.slice Ao34 t426.length co34)) (fun _ hk=>hk.2) (.slice Ao35 t429.length co35)) (fun _ h_=>h_.1))) (Kd.R_base ho0) hb);have n1_:=Aside0.mk (Kd.S_elder' (by(with_reducible repeat(first|apply Kd.S_alloc|apply Kd.S_drewN|apply Kd.S_drew));exact(Kd.S_mono (Kd.S_far (p:=⟨gb432,2,none⟩) (Kd.S_far (p:=⟨gb432,1,none⟩) (Kd.S_far (p:=⟨gb432,0,none⟩) (Kd.S_types HO412.out BK432.out (by decide)) (fun _ hk=>hk.2) (.slice Ao31 t423.length co31)) (fun _ hk=>hk.2) (.slice Ao34 t426.length co34)) (fun _ hk=>hk.2) (.slice Ao35 t429.length co35)) (fun _ h_=>h_.1))) (Kd.R_base ho0) hb);have n2_:=Aside0.mk (Kd.R_elder' (by(with_reducible repeat(first|apply Kd.R_alloc|apply Kd.R_drewN|apply Kd.R_drew));exact(Kd.R_mono (Kd.R_far (p:=⟨gb432,2,none⟩) (Kd.R_far (p:=⟨gb432,1,none⟩) (Kd.R_far (p:=⟨gb432,0,none⟩) (Kd.R_types HO415.out BK432.out (by decide)) (fun _ hk=>hk.2) (.slice Ao31 t423.length co31)) (fun _ hk=>hk.2) (.slice Ao34 t426.length co34)) (fun _ hk=>hk.2) (.slice Ao35 t429.length co35)) (fun _ h_=>h_.1))) (Kd.R_base ho0) hb);have n3_:=Aside0.mk (Kd.R_elder' (by(with_reducible repeat(first|apply Kd.R_alloc|apply Kd.R_drewN|apply Kd.R_drew));exact(Kd.R_mono (Kd.R_far (p:=⟨gb432,2,none⟩) (Kd.R_far (p:=⟨gb432,1,none⟩) (Kd.R_far (p:=⟨gb432,0,none⟩) (Kd.R_types HO418.out BK432.out (by decide)) (fun _ hk=>hk.2) (.slice Ao31 t423.length co31)) (fun _ hk=>hk.2) (.slice Ao34 t426.length co34)) (fun _ hk=>hk.2) (.slice Ao35 t429.length co35)) (fun _ h_=>h_.1))) (Kd.R_base ho0) hb);have n4_:=Aside0.mk (Kd.R_elder' (by(with_reducible repeat(first|apply Kd.R_alloc|apply Kd.R_drewN|apply Kd.R_drew));exact(Kd.R_mono (Kd.R_far (p:=⟨gb432,2,none⟩) (Kd.R_far (p:=⟨gb432,1,none⟩) (Kd.R_far (p:=⟨gb432,0,none⟩) (Kd.R_types HO421.out BK432.out (by decide)) (fun _ hk=>hk.2) (.slice Ao31 t423.length co31)) (fun _ hk=>hk.2) (.slice Ao34 t426.length co34)) (fun _ hk=>hk.2) (.slice Ao35 t429.length co35)) (fun _ h_=>h_.1))) (Kd.R_base ho0) hb);have n5_:=Aside0.mk (Kd.S_elder' (by(with_reducible repeat(first|apply Kd.S_alloc|apply Kd.S_drewN|apply Kd.S_drew));exact(Kd.S_mono (Kd.S_far (p:=⟨gb432,2,none⟩) (Kd.S_far (p:=⟨gb432,1,none⟩) (Kd.S_far (p:=⟨gb432,0,none⟩) (Kd.S_types HO425.out BK432.out (by decide)) (fun _ hk=>hk.2) (.slice Ao31 t423.length co31)) (fun _ hk=>hk.2) (.slice Ao34 t426.length co34)) (fun _ hk=>hk.2) (.slice Ao35 t429.length co35)) (fun _ h_=>h_.1))) (Kd.R_base ho0) hb);have n6_:=Aside0.mk (Kd.S_elder' (by(with_reducible repeat(first|apply Kd.S_alloc|apply Kd.S_drewN|apply Kd.S_drew));exact(Kd.S_mono (Kd.S_far (p:=⟨gb432,2,none⟩) (Kd.S_far (p:=⟨gb432,1,none⟩) (Kd.S_far (p:=⟨gb432,0,none⟩) (Kd.S_types HO428.out BK432.out (by decide)) (fun _ hk=>hk.2) (.slice Ao31 t423.length co31)) (fun _ hk=>hk.2) (.slice Ao34 t426.length co34)) (fun _ hk=>hk.2) (.slice Ao35 t429.length co35)) (fun _ h_=>h_.1))) (Kd.R_base ho0) hb);have n7_:=Aside0.mk (Kd.R_elder' (by(with_reducible repeat(first|apply Kd.R_alloc|apply Kd.R_drewN|apply Kd.R_drew));exact(Kd.R_mono (Kd.R_far (p:=⟨gb432,2,none⟩) (Kd.R_far (p:=⟨gb432,1,none⟩) (Kd.R_far (p:=⟨gb432,0,none⟩) (Kd.R_types HO431.out BK432.out (by decide)) (fun _ hk=>hk.2) (.slice Ao31 t423.length co31)) (fun _ hk=>hk.2) (.slice Ao34 t426.length co34)) (fun _ hk=>hk.2) (.slice Ao35 t429.length co35)) (fun _ h_=>h_.1))) (Kd.R_base ho0) hb);have n8_:=Aside0.mk (Kd.R_lower (Kd.R_new' (Kd.R_new' (Kd.R_new' (Kd.R_new' ho0 (Kd.R_lt (by(with_reducible repeat(first|apply Kd.R_alloc|apply Kd.R_drewN|apply Kd.R_drew));exact(Kd.R_mono (Kd.R_far (p:=⟨gb432,2,none⟩) (Kd.R_far (p:=⟨gb432,1,none⟩) (Kd.R_far (p:=⟨gb432,0,none⟩) (Kd.R_types HO415.out BK432.out (by decide)) (fun _ hk=>hk.2) (.slice Ao31 t423.length co31)) (fun _ hk=>hk.2) (.slice Ao34 t426.length co34)) (fun _ hk=>hk.2) (.slice Ao35 t429.length co35)) (fun _ h_=>h_.1))))) (Kd.R_lt (by(with_reducible repeat(first|apply Kd.R_alloc|apply Kd.R_drewN|apply Kd.R_drew));exact(Kd.R_mono (Kd.R_far (p:=⟨gb432,2,none⟩) (Kd.R_far (p:=⟨gb432,1,none⟩) (Kd.R_far (p:=⟨gb432,0,none⟩) (Kd.R_types HO418.out BK432.out (by decide)) (fun _ hk=>hk.2) (.slice Ao31 t423.length co31)) (fun _ hk=>hk.2) (.slice Ao34 t426.length co34)) (fun _ hk=>hk.2) (.slice Ao35 t429.length co35)) (fun _ h_=>h_.1))))) (Kd.R_lt (by(with_reducible repeat(first|apply Kd.R_alloc|apply Kd.R_drewN|apply Kd.R_drew));exact(Kd.R_mono (Kd.R_far (p:=⟨gb432,2,none⟩) (Kd.R_far (p:=⟨gb432,1,none⟩) (Kd.R_far (p:=⟨gb432,0,none⟩) (Kd.R_types HO421.out BK432.out (by decide)) (fun _ hk=>hk.2) (.slice Ao31 t423.length co31)) (fun _ hk=>hk.2) (.slice Ao34 t426.length co34)) (fun _ hk=>hk.2) (.slice Ao35 t429.length co35)) (fun _ h_=>h_.1))))) (Kd.R_lt (by(with_reducible repeat(first|apply Kd.R_alloc|apply Kd.R_drewN|apply Kd.R_drew));exact(Kd.R_mono (Kd.R_far (p:=⟨gb432,2,none⟩) (Kd.R_far (p:=⟨gb432,1,none⟩) (Kd.R_far (p:=⟨gb432,0,none⟩) (Kd.R_types HO431.out BK432.out (by decide)) (fun _ hk=>hk.2) (.slice Ao31 t423.length co31)) (fun _ hk=>hk.2) (.slice Ao34 t426.length co34)) (fun _ hk=>hk.2) (.slice Ao35 t429.length co35)) (fun _ h_=>h_.1))))) (below_size (zb2 HB GE405 GE432)));have n9_:=Aside0.mk (blk_below (g:=gb405) (o:= .cells #[.slice A0_0 l0_0.length c0_0,.slice A0_1 l0_1.length c0_1,.slice A0_2 l0_2.length c0_2] 30 (0,0)) (by(with_reducible repeat(first|refine blk_drewN ?_ _|refine blk_drew ?_ |refine blk_alloc ?_ _));refine blk_far ?_ NB405_432.out _;(with_reducible repeat(first|refine blk_drewN ?_ _|refine blk_drew ?_ |refine blk_alloc ?_ _));refine blk_far ?_ NB405_432.out _;(with_reducible repeat(first|refine blk_drewN ?_ _|refine blk_drew ?_ |refine blk_alloc ?_ _));refine blk_far ?_ NB405_432.out _;(with_reducible repeat(first|refine blk_drewN ?_ _|refine blk_drew ?_ |refine blk_alloc ?_ _));exact BK405.out) hb);have n10_:=Aside0.mk (blk_below (g:=gb432) (o:= .cells #[.slice Ao31 t423.length co31,.slice Ao34 t426.length co34,.slice Ao35 t429.length co35] 33 (0,0)) (by(with_reducible repeat(first|refine blk_drewN ?_ _|refine blk_drew ?_ |refine blk_alloc ?_ _));refine blk_put (cs:= #[.slice Ao31 t423.length co31,.slice Ao34 t426.length co34,.slice none 0 0]) ?_ 2 _ rfl;(with_reducible repeat(first|refine blk_drewN ?_ _|refine blk_drew ?_ |refine blk_alloc ?_ _));refine blk_put (cs:= #[.slice Ao31 t423.length co31,.slice none 0 0,.slice none 0 0]) ?_ 1 _ rfl;(with_reducible repeat(first|refine blk_drewN ?_ _|refine blk_drew ?_ |refine blk_alloc ?_ _));refine blk_put (cs:= #[.slice none 0 0,.slice none 0 0,.slice none 0 0]) ?_ 0 _ rfl;(with_reducible repeat(first|refine blk_drewN ?_ _|refine blk_drew ?_ |refine blk_alloc ?_ _));exact BK432.out) hb);have n11_:=Aside0.mk (below_step (zb2 HB GE405 GE432) hb);clear HO409;clear HO412;clear HO415;clear HO418;clear HO421;clear HO425;clear HO428;clear HO431;clear BK405;clear BK432;clear HB;have HO409:=n0_;have HO412:=n1_;have HO415:=n2_;have HO418:=n3_;have HO421:=n4_;have HO425:=n5_;have HO428:=n6_;have HO431:=n7_;have HO435:=n8_;have BK405:=n9_;have BK432:=n10_;have HB:=n11_;clear n0_ n1_ n2_ n3_ n4_ n5_ n6_ n7_ n8_ n9_ n10_ n11_;(try clear hb);(try clear hb2);(try clear hk);(try clear hi);(try clear ho0);have hcz37_0:w36.cell? ⟨gb432,0,none⟩=some (.slice Ao31 t423.length co31):=(blk_cell BK432.out 0).trans rfl;have hcz37_1:w36.cell? ⟨gb432,1,none⟩=some (.slice Ao34 t426.length co34):=(blk_cell BK432.out 1).trans rfl;have hcz37_2:w36.cell? ⟨gb432,2,none⟩=some (.slice Ao35 t429.length co35):=(blk_cell BK432.out 2).trans rfl;have hfz37_0:=blk_frozen BK432.out 0;have hfz37_1:=blk_frozen BK432.out 1;have hfz37_2:=blk_frozen BK432.out 2;obtain⟨Ao38,co38,eo38⟩:=Kd.R_slice HO435.out;subst eo38)|((with_reducible refine gate_callee (f:=30) rfl ?_);refine goesL_ (some 40) rfl rfl Try.func30 (by kernel_rfl) rfl #[.agg #[.slice Ao31 t423.length co31,.slice Ao34 t426.length co34,.slice Ao35 t429.length co35],.slice Ao38 t433.length co38] rfl zq2 ?_;(with_reducible refine(impl_RanksOf.calls k _ _ t423 _ _ t426 _ _ t429 _ _ t433 t436 t439 _ ?side1 ?side2 ?side3 ?side4 ?side5 ?side6 ?side7 ?side8 A15.out).mono ?_);(case side1=>repeat(first|exact(Kd.S_reads' HO425.out).2.2|(with_reducible refine Kd.C_alloc ?_ _)|(with_reducible refine Kd.C_drewN ?_ _)|(with_reducible refine Kd.C_drew ?_)));(case side2=>exact(Kd.S_reads' HO425.out).2.1);(case side3=>repeat(first|exact(Kd.S_reads' HO428.out).2.2|(with_reducible refine Kd.C_alloc ?_ _)|(with_reducible refine Kd.C_drewN ?_ _)|(with_reducible refine Kd.C_drew ?_)));(case side4=>exact(Kd.S_reads' HO428.out).2.1);(case side5=>repeat(first|exact(Kd.R_reads' HO431.out).2.2|(with_reducible refine Kd.C_alloc ?_ _)|(with_reducible refine Kd.C_drewN ?_ _)|(with_reducible refine Kd.C_drew ?_)));(case side6=>exact(Kd.R_reads' HO431.out).2.1);(case side7=>repeat(first|exact(Kd.R_reads' HO435.out).2.2|(with_reducible refine Kd.C_alloc ?_ _)|(with_reducible refine Kd.C_drewN ?_ _)|(with_reducible refine Kd.C_drew ?_)));(case side8=>exact(Kd.R_reads' HO435.out).2.1);rintro e w39 ⟨v437,rfl,ho0,hb⟩;refine⟨_,rfl,?_⟩;have n0_:=Aside0.mk (Kd.S_elder' (by(with_reducible repeat(first|apply Kd.S_alloc|apply Kd.S_drewN|apply Kd.S_drew));exact HO409.out) (Kd.R_base ho0) hb);have n1_:=Aside0.mk (Kd.S_elder' (by(with_reducible repeat(first|apply Kd.S_alloc|apply Kd.S_drewN|apply Kd.S_drew));exact HO412.out) (Kd.R_base ho0) hb);have n2_:=Aside0.mk (Kd.R_elder' (zq4 HO415) (Kd.R_base ho0) hb);have n3_:=Aside0.mk (Kd.R_elder' (zq4 HO418) (Kd.R_base ho0) hb);have n4_:=Aside0.mk (Kd.R_elder' (zq4 HO421) (Kd.R_base ho0) hb);have n5_:=Aside0.mk (Kd.S_elder' (by(with_reducible repeat(first|apply Kd.S_alloc|apply Kd.S_drewN|apply Kd.S_drew));exact HO425.out) (Kd.R_base ho0) hb);have n6_:=Aside0.mk (Kd.S_elder' (by(with_reducible repeat(first|apply Kd.S_alloc|apply Kd.S_drewN|apply Kd.S_drew));exact HO428.out) (Kd.R_base ho0) hb);have n7_:=Aside0.mk (Kd.R_elder' (zq4 HO431) (Kd.R_base ho0) hb);have n8_:=Aside0.mk (Kd.R_elder' (zq4 HO435) (Kd.R_base ho0) hb);have n9_:=Aside0.mk (Kd.R_lower (Kd.R_new' (Kd.R_new' (Kd.R_new' (Kd.R_new' (Kd.R_new' ho0 (Kd.R_lt (zq4 HO415))) (Kd.R_lt (zq4 HO418))) (Kd.R_lt (zq4 HO421))) (Kd.R_lt (zq4 HO431))) (Kd.R_lt (zq4 HO435))) (below_size (zb2 HB GE405 GE432)));have n10_:=Aside0.mk (blk_below (g:=gb405) (o:= .cells #[.slice A0_0 l0_0.length c0_0,.slice A0_1 l0_1.length c0_1,.slice A0_2 l0_2.length c0_2] 30 (0,0)) (zq3 BK405) hb);have n11_:=Aside0.mk (blk_below (g:=gb432) (o:= .cells #[.slice Ao31 t423.length co31,.slice Ao34 t426.length co34,.slice Ao35 t429.length co35] 33 (0,0)) (zq3 BK432) hb);have n12_:=Aside0.mk (below_step (zb2 HB GE405 GE432) hb);clear HO409;clear HO412;clear HO415;clear HO418;clear HO421;clear HO425;clear HO428;clear HO431;clear HO435;clear BK405;clear BK432;clear HB;have HO409:=n0_;have HO412:=n1_;have HO415:=n2_;have HO418:=n3_;have HO421:=n4_;have HO425:=n5_;have HO428:=n6_;have HO431:=n7_;have HO435:=n8_;have HO438:=n9_;have BK405:=n10_;have BK432:=n11_;have HB:=n12_;clear n0_ n1_ n2_ n3_ n4_ n5_ n6_ n7_ n8_ n9_ n10_ n11_ n12_;(try clear hb);(try clear hb2);(try clear hk);(try clear hi);(try clear ho0)))
   (try simp only [Act.put,List.setIfInBounds_toArray,List.set_cons_zero,List.set_cons_succ])
   go_cut [51] (fun v51 wc=> ∃ (kq:Nat) (x51_15:Bool),v51= .bool x51_15∧Aside0 (laws_FnExactRanksOf.j0 kq l1 t419 t422 t433 t436 t439 x51_15 l0_0 l0_1 l0_2 t423 t426 t429=some r)∧Aside0 (kq≤k)∧Aside0 (Kd.R (Kd.int .i64) 3 wc w.heap.size (fun k_=>some k_≠ ((.slice Ao38 t433.length co38):Value).ownBlock∧some k_≠ (v437:Value).ownBlock∧some k_≠ ((.slice Ao35 t429.length co35):Value).ownBlock) v420 t419)∧Aside0 (Kd.R (Kd.int .i64) 3 wc w.heap.size (fun k_=>some k_≠ (v420:Value).ownBlock∧some k_≠ (v437:Value).ownBlock∧some k_≠ ((.slice Ao35 t429.length co35):Value).ownBlock) (.slice Ao38 t433.length co38) t433)∧Aside0 (Kd.R (Kd.int .i64) 3 wc w.heap.size (fun k_=>some k_≠ (v420:Value).ownBlock∧some k_≠ ((.slice Ao38 t433.length co38):Value).ownBlock∧some k_≠ ((.slice Ao35 t429.length co35):Value).ownBlock) v437 t436)∧Aside0 (Kd.S (Kd.slice 3 (Kd.int .i64)) 22 wc w.heap.size (fun k_=>some k_≠ (v420:Value).ownBlock∧some k_≠ ((.slice Ao38 t433.length co38):Value).ownBlock∧some k_≠ (v437:Value).ownBlock∧some k_≠ ((.slice Ao34 t426.length co34):Value).ownBlock∧some k_≠ ((.slice Ao35 t429.length co35):Value).ownBlock∧k_<M_) (.slice Ao31 t423.length co31) t423)∧Aside0 (Kd.S (Kd.slice 3 (Kd.int .i64)) 22 wc w.heap.size (fun k_=>some k_≠ (v420:Value).ownBlock∧some k_≠ ((.slice Ao38 t433.length co38):Value).ownBlock∧some k_≠ (v437:Value).ownBlock∧some k_≠ ((.slice Ao31 t423.length co31):Value).ownBlock∧some k_≠ ((.slice Ao35 t429.length co35):Value).ownBlock∧M_≤k_) (.slice Ao34 t426.length co34) t426)∧Aside0 (Kd.R (Kd.int .i64) 3 wc w.heap.size (fun k_=>some k_≠ (v420:Value).ownBlock∧some k_≠ ((.slice Ao38 t433.length co38):Value).ownBlock∧some k_≠ (v437:Value).ownBlock) (.slice Ao35 t429.length co35) t429)∧Aside0 (wc.heap[gb405]?=some (.cells #[(.slice A0_0 l0_0.length c0_0),(.slice A0_1 l0_1.length c0_1),(.slice A0_2 l0_2.length c0_2)] 30 (0,0)))∧Aside0 (wc.heap[gb432]?=some (.cells #[(.slice Ao31 t423.length co31),(.slice Ao34 t426.length co34),(.slice Ao35 t429.length co35)] 33 (0,0)))∧Aside0 (Below w.heap.size w wc))
   case first=>
    have H:=HC16.out
    clear HC16
    replace H:=Option.bind_eq_some_iff.mp H
    obtain⟨t440,A400,H⟩:=H
    replace H:(if t440=true then(laws_FnExactRanksOf.j0 k l1 t419 t422 t433 t436 t439 (t439 !=t422) l0_0 l0_1 l0_2 t423 t426 t429) else(laws_FnExactRanksOf.j0 k l1 t419 t422 t433 t436 t439 true l0_0 l0_1 l0_2 t423 t426 t429))=some r:=H
    have A40:=Aside0.mk A400
    clear A400
    by_cases c41:t440=true
    ·subst c41
     have H1:(laws_FnExactRanksOf.j0 k l1 t419 t422 t433 t436 t439 (t439 !=t422) l0_0 l0_1 l0_2 t423 t426 t429)=some r:=by rw [if_pos rfl] at H;exact H
     clear H
     have H:=H1
     clear H1
     have H':=Aside0.mk H
     clear H
     obtain⟨Ao42,co42,eo42⟩:=Kd.R_slice HO438.out
     subst eo42
     obtain⟨Ao43,co43,eo43⟩:=Kd.R_slice HO421.out
     subst eo43
     go_wp2_with (first|((with_reducible refine gate_callee (f:=16) rfl ?_);refine goesL_ (some 45) rfl rfl Try.func16 (by kernel_rfl) rfl #[.slice Ao42 t436.length co42,.slice Ao43 t419.length co43] rfl zq2 ?_;(with_reducible refine(laws_eqIntS.calls k _ _ t436 _ _ t419 true _ ?side1 ?side2 ?side3 ?side4 A40.out).mono ?_);(case side1=>repeat(first|exact(Kd.R_reads' HO438.out).2.2|(with_reducible refine Kd.C_alloc ?_ _)|(with_reducible refine Kd.C_drewN ?_ _)|(with_reducible refine Kd.C_drew ?_)));(case side2=>exact(Kd.R_reads' HO438.out).2.1);(case side3=>repeat(first|exact(Kd.R_reads' HO421.out).2.2|(with_reducible refine Kd.C_alloc ?_ _)|(with_reducible refine Kd.C_drewN ?_ _)|(with_reducible refine Kd.C_drew ?_)));(case side4=>exact(Kd.R_reads' HO421.out).2.1);rintro e w' ⟨rfl,⟨nd,rfl⟩⟩;refine⟨_,rfl,?_⟩))
     go_meet
     case rel=>exact⟨_,((t439 !=t422)),(by first|rfl|(simp;done)|(simp [*];done)),H',⟨by first|omega|exact Nat.le_refl _⟩,⟨by(with_reducible repeat(first|apply Kd.R_alloc|apply Kd.R_drewN|apply Kd.R_drew));exact Kd.R_mono HO421.out (fun _ hk=>⟨hk.1.2,⟨hk.2,hk.1.1.2⟩⟩)⟩,⟨by(with_reducible repeat(first|apply Kd.R_alloc|apply Kd.R_drewN|apply Kd.R_drew));exact Kd.R_mono HO435.out (fun _ hk=>⟨hk.1.1.2,⟨hk.2,hk.1.2⟩⟩)⟩,⟨by(with_reducible repeat(first|apply Kd.R_alloc|apply Kd.R_drewN|apply Kd.R_drew));exact Kd.R_mono HO438.out (fun _ hk=>⟨hk.1.1.2,⟨hk.2,hk.1.2⟩⟩)⟩,⟨by(with_reducible repeat(first|apply Kd.S_alloc|apply Kd.S_drewN|apply Kd.S_drew));exact Kd.S_mono HO425.out (fun _ hk=>⟨hk.1.1.2,⟨hk.1.2,⟨hk.2,⟨hk.1.1.1.1.1.1.1.1,hk.1.1.1.1.1.1.1.2⟩⟩⟩⟩)⟩,⟨by(with_reducible repeat(first|apply Kd.S_alloc|apply Kd.S_drewN|apply Kd.S_drew));exact Kd.S_mono HO428.out (fun _ hk=>⟨hk.1.1.2,⟨hk.1.2,⟨hk.2,⟨hk.1.1.1.1.1.1.1.1,hk.1.1.1.1.1.1.1.2⟩⟩⟩⟩)⟩,⟨by(with_reducible repeat(first|apply Kd.R_alloc|apply Kd.R_drewN|apply Kd.R_drew));exact Kd.R_mono HO431.out (fun _ hk=>⟨hk.1.1.2,⟨hk.1.2,hk.2⟩⟩)⟩,⟨by(with_reducible repeat(first|refine blk_drewN ?_ _|refine blk_drew ?_ |refine blk_alloc ?_ _));exact BK405.out⟩,⟨by(with_reducible repeat(first|refine blk_drewN ?_ _|refine blk_drew ?_ |refine blk_alloc ?_ _));exact BK432.out⟩,⟨by repeat(first|(with_reducible first|exact HB.out|apply below_alloc|apply pw_below_drewN|apply below_drew1|refine below_set ?_ GE405.out|refine below_set ?_ GE432.out)|exact HB.out)⟩⟩
    ·replace c41:=Bool.eq_false_iff.mpr c41
     subst c41
     have H1:(laws_FnExactRanksOf.j0 k l1 t419 t422 t433 t436 t439 true l0_0 l0_1 l0_2 t423 t426 t429)=some r:=by rw [if_neg (show ¬ (false=true) by decide)] at H;exact H
     clear H
     have H:=H1
     clear H1
     exact absurd (H.trans (congrArg some HRT.out)) (by cases k<;>simp [laws_FnExactRanksOf.j0])
   case rest=>
    clear HC16
    try clear c1
    try clear c2
    try clear p2
    try clear c3
    try clear c3b0
    try clear c3b1
    try clear c4
    try clear c6
    try clear c6b0
    try clear c7
    try clear c14
    try clear c16
    try clear c17
    try clear c19
    try clear c29
    try clear c30
    try clear c32
    try clear c41
    try clear hcz18_0
    try clear hcz18_1
    try clear hcz18_2
    try clear hcz20_0
    try clear hcz20_1
    try clear hcz20_2
    try clear hcz28_0
    try clear hcz28_1
    try clear hcz28_2
    try clear hcz33_0
    try clear hcz33_1
    try clear hcz33_2
    try clear hcz37_0
    try clear hcz37_1
    try clear hcz37_2
    try clear hcz8_0
    try clear hcz8_1
    try clear hcz8_2
    try clear hfz18_0
    try clear hfz18_1
    try clear hfz18_2
    try clear hfz20_0
    try clear hfz20_1
    try clear hfz20_2
    try clear hfz28_0
    try clear hfz28_1
    try clear hfz28_2
    try clear hfz33_0
    try clear hfz33_1
    try clear hfz33_2
    try clear hfz37_0
    try clear hfz37_1
    try clear hfz37_2
    try clear hfz8_0
    try clear hfz8_1
    try clear hfz8_2
    obtain⟨kq,x51_15,rfl,HA,HJ15,HO_6,HO_9,HO_10,HO_433000,HO_433001,HO_433002,BK405,BK432,HB⟩:=hcut
    cases kq with
    |zero=>exact absurd HA.out (by simp [laws_FnExactRanksOf.j0])
    |succ kj15=>
     have H:=HA.out
     clear HA
     simp only [laws_FnExactRanksOf.j0] at H
     by_cases c44:x51_15=true
     ·subst c44
      have H1:(some false)=some r:=by rw [if_pos rfl] at H;exact H
      clear H
      have H:=H1
      clear H1
      exact absurd ((Option.some.inj H).trans HRT.out) (by decide)
     ·replace c44:=Bool.eq_false_iff.mpr c44
      subst c44
      have H1:((laws_toWishes.f kj15 l0_0 l0_1 l0_2).bind fun bt441=>((laws_eqWishes.f kj15 t423 t426 t429 bt441.1 bt441.2.1 bt441.2.2).bind fun t450=>(if t450=true then((laws_toIntS.f kj15 l1).bind fun t451=>((laws_eqIntS.f kj15 t433 t451).bind fun t454=>(if t454=true then((laws_markWishes.f kj15 t423 t426 t429 1).bind fun bt455=>((laws_markIntS.f kj15 t433 bt455.1).bind fun bt456=>(if bt456.1< 0 then(laws_FnExactRanksOf.j1 kj15 l1 t419 t422 t436 true l0_0 l0_1 l0_2) else((laws_eqIntS.f kj15 t436 t419).bind fun t458=>(if t458=true then(laws_FnExactRanksOf.j1 kj15 l1 t419 t422 t436 (t439 !=t422) l0_0 l0_1 l0_2) else(laws_FnExactRanksOf.j1 kj15 l1 t419 t422 t436 true l0_0 l0_1 l0_2)))))) else(some false)))) else(some false))))=some r:=by rw [if_neg (show ¬ (false=true) by decide)] at H;exact H
      clear H
      have H:=H1
      clear H1
      replace H:=Option.bind_eq_some_iff.mp H
      obtain⟨⟨t441,t444,t447⟩,A450,H⟩:=H
      replace H:((laws_eqWishes.f kj15 t423 t426 t429 t441 t444 t447).bind fun t450=>(if t450=true then((laws_toIntS.f kj15 l1).bind fun t451=>((laws_eqIntS.f kj15 t433 t451).bind fun t454=>(if t454=true then((laws_markWishes.f kj15 t423 t426 t429 1).bind fun bt455=>((laws_markIntS.f kj15 t433 bt455.1).bind fun bt456=>(if bt456.1< 0 then(laws_FnExactRanksOf.j1 kj15 l1 t419 t422 t436 true l0_0 l0_1 l0_2) else((laws_eqIntS.f kj15 t436 t419).bind fun t458=>(if t458=true then(laws_FnExactRanksOf.j1 kj15 l1 t419 t422 t436 (t439 !=t422) l0_0 l0_1 l0_2) else(laws_FnExactRanksOf.j1 kj15 l1 t419 t422 t436 true l0_0 l0_1 l0_2)))))) else(some false)))) else(some false)))=some r:=H
      have A45:=Aside0.mk A450
      clear A450
      replace H:=Option.bind_eq_some_iff.mp H
      obtain⟨t450,A460,H⟩:=H
      replace H:(if t450=true then((laws_toIntS.f kj15 l1).bind fun t451=>((laws_eqIntS.f kj15 t433 t451).bind fun t454=>(if t454=true then((laws_markWishes.f kj15 t423 t426 t429 1).bind fun bt455=>((laws_markIntS.f kj15 t433 bt455.1).bind fun bt456=>(if bt456.1< 0 then(laws_FnExactRanksOf.j1 kj15 l1 t419 t422 t436 true l0_0 l0_1 l0_2) else((laws_eqIntS.f kj15 t436 t419).bind fun t458=>(if t458=true then(laws_FnExactRanksOf.j1 kj15 l1 t419 t422 t436 (t439 !=t422) l0_0 l0_1 l0_2) else(laws_FnExactRanksOf.j1 kj15 l1 t419 t422 t436 true l0_0 l0_1 l0_2)))))) else(some false)))) else(some false))=some r:=H
      have A46:=Aside0.mk A460
      clear A460
      by_cases c47:t450=true
      ·subst c47
       have H1:((laws_toIntS.f kj15 l1).bind fun t451=>((laws_eqIntS.f kj15 t433 t451).bind fun t454=>(if t454=true then((laws_markWishes.f kj15 t423 t426 t429 1).bind fun bt455=>((laws_markIntS.f kj15 t433 bt455.1).bind fun bt456=>(if bt456.1< 0 then(laws_FnExactRanksOf.j1 kj15 l1 t419 t422 t436 true l0_0 l0_1 l0_2) else((laws_eqIntS.f kj15 t436 t419).bind fun t458=>(if t458=true then(laws_FnExactRanksOf.j1 kj15 l1 t419 t422 t436 (t439 !=t422) l0_0 l0_1 l0_2) else(laws_FnExactRanksOf.j1 kj15 l1 t419 t422 t436 true l0_0 l0_1 l0_2)))))) else(some false))))=some r:=by rw [if_pos rfl] at H;exact H
       clear H
       have H:=H1
       clear H1
       replace H:=Option.bind_eq_some_iff.mp H
       obtain⟨t451,A480,H⟩:=H
       replace H:((laws_eqIntS.f kj15 t433 t451).bind fun t454=>(if t454=true then((laws_markWishes.f kj15 t423 t426 t429 1).bind fun bt455=>((laws_markIntS.f kj15 t433 bt455.1).bind fun bt456=>(if bt456.1< 0 then(laws_FnExactRanksOf.j1 kj15 l1 t419 t422 t436 true l0_0 l0_1 l0_2) else((laws_eqIntS.f kj15 t436 t419).bind fun t458=>(if t458=true then(laws_FnExactRanksOf.j1 kj15 l1 t419 t422 t436 (t439 !=t422) l0_0 l0_1 l0_2) else(laws_FnExactRanksOf.j1 kj15 l1 t419 t422 t436 true l0_0 l0_1 l0_2)))))) else(some false)))=some r:=H
       have A48:=Aside0.mk A480
       clear A480
       replace H:=Option.bind_eq_some_iff.mp H
       obtain⟨t454,A490,H⟩:=H
       replace H:(if t454=true then((laws_markWishes.f kj15 t423 t426 t429 1).bind fun bt455=>((laws_markIntS.f kj15 t433 bt455.1).bind fun bt456=>(if bt456.1< 0 then(laws_FnExactRanksOf.j1 kj15 l1 t419 t422 t436 true l0_0 l0_1 l0_2) else((laws_eqIntS.f kj15 t436 t419).bind fun t458=>(if t458=true then(laws_FnExactRanksOf.j1 kj15 l1 t419 t422 t436 (t439 !=t422) l0_0 l0_1 l0_2) else(laws_FnExactRanksOf.j1 kj15 l1 t419 t422 t436 true l0_0 l0_1 l0_2)))))) else(some false))=some r:=H
       have A49:=Aside0.mk A490
       clear A490
       by_cases c50:t454=true
       ·subst c50
        have H1:((laws_markWishes.f kj15 t423 t426 t429 1).bind fun bt455=>((laws_markIntS.f kj15 t433 bt455.1).bind fun bt456=>(if bt456.1< 0 then(laws_FnExactRanksOf.j1 kj15 l1 t419 t422 t436 true l0_0 l0_1 l0_2) else((laws_eqIntS.f kj15 t436 t419).bind fun t458=>(if t458=true then(laws_FnExactRanksOf.j1 kj15 l1 t419 t422 t436 (t439 !=t422) l0_0 l0_1 l0_2) else(laws_FnExactRanksOf.j1 kj15 l1 t419 t422 t436 true l0_0 l0_1 l0_2))))))=some r:=by rw [if_pos rfl] at H;exact H
        clear H
        have H:=H1
        clear H1
        replace H:=Option.bind_eq_some_iff.mp H
        obtain⟨⟨t455,q1_,q2_,q3_⟩,A510,H⟩:=H
        replace H:((laws_markIntS.f kj15 t433 t455).bind fun bt456=>(if bt456.1< 0 then(laws_FnExactRanksOf.j1 kj15 l1 t419 t422 t436 true l0_0 l0_1 l0_2) else((laws_eqIntS.f kj15 t436 t419).bind fun t458=>(if t458=true then(laws_FnExactRanksOf.j1 kj15 l1 t419 t422 t436 (t439 !=t422) l0_0 l0_1 l0_2) else(laws_FnExactRanksOf.j1 kj15 l1 t419 t422 t436 true l0_0 l0_1 l0_2)))))=some r:=H
        have A51:=Aside0.mk A510
        clear A510
        replace H:=Option.bind_eq_some_iff.mp H
        obtain⟨⟨t456,t457⟩,A520,H⟩:=H
        replace H:(if t456< 0 then(laws_FnExactRanksOf.j1 kj15 l1 t419 t422 t436 true l0_0 l0_1 l0_2) else((laws_eqIntS.f kj15 t436 t419).bind fun t458=>(if t458=true then(laws_FnExactRanksOf.j1 kj15 l1 t419 t422 t436 (t439 !=t422) l0_0 l0_1 l0_2) else(laws_FnExactRanksOf.j1 kj15 l1 t419 t422 t436 true l0_0 l0_1 l0_2))))=some r:=H
        have A52:=Aside0.mk A520
        clear A520
        have HC53:=Aside0.mk H
        clear H
        try go_wp2
        have n0_:=Aside0.mk (Kd.R_drew HO_6.out)
        have n1_:=Aside0.mk (Kd.R_drew HO_9.out)
        have n2_:=Aside0.mk (Kd.R_drew HO_10.out)
        have n3_:=Aside0.mk (Kd.S_drew HO_433000.out)
        have n4_:=Aside0.mk (Kd.S_drew HO_433001.out)
        have n5_:=Aside0.mk (Kd.R_drew HO_433002.out)
        have n6_:=Aside0.mk (blk_drew BK405.out)
        have n7_:=Aside0.mk (blk_drew BK432.out)
        have n8_:=Aside0.mk (below_drew1 HB.out)
        clear HO_6
        clear HO_9
        clear HO_10
        clear HO_433000
        clear HO_433001
        clear HO_433002
        clear BK405
        clear BK432
        clear HB
        have HO_6:=n0_
        have HO_9:=n1_
        have HO_10:=n2_
        have HO_433000:=n3_
        have HO_433001:=n4_
        have HO_433002:=n5_
        have BK405:=n6_
        have BK432:=n7_
        have HB:=n8_
        clear n0_ n1_ n2_ n3_ n4_ n5_ n6_ n7_ n8_
        refine start_ (n:=5) (S:=fun w'=>w'.cell? ⟨gb432,0,none⟩=some (.slice Ao31 t423.length co31)∧w'.cell? ⟨gb432,1,none⟩=some (.slice Ao34 t426.length co34)∧w'.cell? ⟨gb432,2,none⟩=some (.slice Ao35 t429.length co35)∧w'.cell? ⟨gb405,0,none⟩=some (.slice A0_0 l0_0.length c0_0)∧w'.cell? ⟨gb405,1,none⟩=some (.slice A0_1 l0_1.length c0_1)∧w'.cell? ⟨gb405,2,none⟩=some (.slice A0_2 l0_2.length c0_2)) (ds:= []) #[false,false,false,false,false] (by kernel_rfl) rfl rfl ⟨(blk_cell BK432.out 0).trans rfl,(blk_cell BK432.out 1).trans rfl,(blk_cell BK432.out 2).trans rfl,(blk_cell BK405.out 0).trans rfl,(blk_cell BK405.out 1).trans rfl,(blk_cell BK405.out 2).trans rfl⟩ (fun hHeld=>?_)
        generalize wc.drew=w54 at HO_6 HO_9 HO_10 HO_433000 HO_433001 HO_433002 BK405 BK432 HB hHeld ⊢
        refine take_ (i:=0) (N:=some 52) (v:=?_) (a':=?_) #[true,false,false,false,false] rfl rfl (by kernel_rfl) (fun _ _ _ h=>h) (Or.inl ⟨by rfl,?_⟩) hHeld ?_ ?_
        rotate_left
        ·rintro w' ⟨s0,s1,s2,s3,s4,s5⟩
         go_simp
         with_reducible rfl
        rotate_left
        ·simp only [Act.put,List.setIfInBounds_toArray,List.set_cons_zero,List.set_cons_succ,i64_w,i32_w]
         rfl
        refine take_ (i:=1) (N:=some 53) (v:=?_) (a':=?_) #[true,true,false,false,false] rfl rfl (by kernel_rfl) (fun _ _ _ h=>h) (Or.inl ⟨by rfl,?_⟩) hHeld ?_ ?_
        rotate_left
        ·rintro w' ⟨s0,s1,s2,s3,s4,s5⟩
         go_simp
         with_reducible rfl
        rotate_left
        ·simp only [Act.put,List.setIfInBounds_toArray,List.set_cons_zero,List.set_cons_succ,i64_w,i32_w]
         rfl
        refine one_ (i:=2) (N:=some 54) #[true,true,true,false,false] rfl rfl (by kernel_rfl) (by decide) (fun K hK=>?_)
        refine goes_ Try.func19 (by kernel_rfl) rfl #[.agg #[.slice A0_0 l0_0.length c0_0,.slice A0_1 l0_1.length c0_1,.slice A0_2 l0_2.length c0_2]] (by rfl) rfl rfl zq2 ?_
        with_reducible refine(laws_toWishes.calls kj15 _ _ l0_0 _ _ l0_1 _ _ l0_2 t441 t444 t447 _ ?side1 ?side2 ?side3 ?side4 ?side5 ?side6 A45.out).mono ?_
        (case side1=>repeat(first|exact(Kd.C_below HR0_0.out HB.out)|(with_reducible refine Kd.C_alloc ?_ _)|(with_reducible refine Kd.C_drewN ?_ _)|(with_reducible refine Kd.C_drew ?_)))
        (case side2=>exact HC0_0.out)
        (case side3=>repeat(first|exact(Kd.C_below HR0_1.out HB.out)|(with_reducible refine Kd.C_alloc ?_ _)|(with_reducible refine Kd.C_drewN ?_ _)|(with_reducible refine Kd.C_drew ?_)))
        (case side4=>exact HC0_1.out)
        (case side5=>repeat(first|exact(Kd.C_below HR0_2.out HB.out)|(with_reducible refine Kd.C_alloc ?_ _)|(with_reducible refine Kd.C_drewN ?_ _)|(with_reducible refine Kd.C_drew ?_)))
        (case side6=>exact HC0_2.out)
        rintro e w55 ⟨v442,v445,v448,rfl,ho0,ho1,ho2,hb⟩
        refine⟨_,rfl,?_⟩
        have n0_:=Aside0.mk (Kd.R_elder' (zq4 HO_6) (Kd.R_base ho2) hb)
        have n1_:=Aside0.mk (Kd.R_elder' (zq4 HO_9) (Kd.R_base ho2) hb)
        have n2_:=Aside0.mk (Kd.R_elder' (zq4 HO_10) (Kd.R_base ho2) hb)
        have n3_:=Aside0.mk (Kd.S_mono (Kd.S_told (Kd.S_told (Kd.S_told (Kd.S_old (by(with_reducible repeat(first|apply Kd.S_alloc|apply Kd.S_drewN|apply Kd.S_drew));exact HO_433000.out) hb) (Kd.S_base ho0)) (Kd.S_base ho1)) (Kd.R_base ho2)) (fun _ h_=>h_.1))
        have n4_:=Aside0.mk (Kd.S_mono (Kd.S_told (Kd.S_told (Kd.S_told (Kd.S_old (by(with_reducible repeat(first|apply Kd.S_alloc|apply Kd.S_drewN|apply Kd.S_drew));exact HO_433001.out) hb) (Kd.S_base ho0)) (Kd.S_base ho1)) (Kd.R_base ho2)) (fun _ h_=>h_.1))
        have n5_:=Aside0.mk (Kd.R_elder' (zq4 HO_433002) (Kd.R_base ho2) hb)
        have n6_:=Aside0.mk (Kd.S_lower (Kd.S_new' (Kd.S_new' (Kd.S_new' (Kd.S_new' (Kd.S_new' (Kd.S_new' ho0 (Kd.R_lt (zq4 HO_6))) (Kd.R_lt (zq4 HO_9))) (Kd.R_lt (zq4 HO_10))) (Kd.S_lt (by(with_reducible repeat(first|apply Kd.S_alloc|apply Kd.S_drewN|apply Kd.S_drew));exact HO_433000.out))) (Kd.S_lt (by(with_reducible repeat(first|apply Kd.S_alloc|apply Kd.S_drewN|apply Kd.S_drew));exact HO_433001.out))) (Kd.R_lt (zq4 HO_433002))) (below_size (zb2 HB GE405 GE432)))
        have n7_:=Aside0.mk (Kd.S_lower (Kd.S_new' (Kd.S_new' (Kd.S_new' (Kd.S_new' (Kd.S_new' (Kd.S_new' ho1 (Kd.R_lt (zq4 HO_6))) (Kd.R_lt (zq4 HO_9))) (Kd.R_lt (zq4 HO_10))) (Kd.S_lt (by(with_reducible repeat(first|apply Kd.S_alloc|apply Kd.S_drewN|apply Kd.S_drew));exact HO_433000.out))) (Kd.S_lt (by(with_reducible repeat(first|apply Kd.S_alloc|apply Kd.S_drewN|apply Kd.S_drew));exact HO_433001.out))) (Kd.R_lt (zq4 HO_433002))) (below_size (zb2 HB GE405 GE432)))
        have n8_:=Aside0.mk (Kd.R_lower (Kd.R_new' (Kd.R_new' (Kd.R_new' (Kd.R_new' ho2 (Kd.R_lt (zq4 HO_6))) (Kd.R_lt (zq4 HO_9))) (Kd.R_lt (zq4 HO_10))) (Kd.R_lt (zq4 HO_433002))) (below_size (zb2 HB GE405 GE432)))
        have n9_:=Aside0.mk (blk_below (g:=gb405) (o:= .cells #[.slice A0_0 l0_0.length c0_0,.slice A0_1 l0_1.length c0_1,.slice A0_2 l0_2.length c0_2] 30 (0,0)) (zq3 BK405) hb)
        have n10_:=Aside0.mk (blk_below (g:=gb432) (o:= .cells #[.slice Ao31 t423.length co31,.slice Ao34 t426.length co34,.slice Ao35 t429.length co35] 33 (0,0)) (zq3 BK432) hb)
        have n11_:=Aside0.mk (below_step (zb2 HB GE405 GE432) hb)
        clear HO_6
        clear HO_9
        clear HO_10
        clear HO_433000
        clear HO_433001
        clear HO_433002
        clear BK405
        clear BK432
        clear HB
        have HO_6:=n0_
        have HO_9:=n1_
        have HO_10:=n2_
        have HO_433000:=n3_
        have HO_433001:=n4_
        have HO_433002:=n5_
        have HO443:=n6_
        have HO446:=n7_
        have HO449:=n8_
        have BK405:=n9_
        have BK432:=n10_
        have HB:=n11_
        clear n0_ n1_ n2_ n3_ n4_ n5_ n6_ n7_ n8_ n9_ n10_ n11_
        (try clear hb)
        (try clear hb2)
        (try clear hk)
        (try clear hi)
        (try clear ho0)
        (try clear ho1)
        (try clear ho2)
        obtain⟨Ao56,co56,eo56⟩:=Kd.S_slice HO443.out
        (first|subst eo56|(injection eo56 with f1_ f2_ f3_;have f4_:=f1_.symm;have f5_:=f3_.symm;clear f1_ f2_ f3_;subst f4_;subst f5_))
        obtain⟨Ao57,co57,eo57⟩:=Kd.S_slice HO446.out
        (first|subst eo57|(injection eo57 with f1_ f2_ f3_;have f4_:=f1_.symm;have f5_:=f3_.symm;clear f1_ f2_ f3_;subst f4_;subst f5_))
        obtain⟨Ao58,co58,eo58⟩:=Kd.R_slice HO449.out
        (first|subst eo58|(injection eo58 with f1_ f2_ f3_;have f4_:=f1_.symm;have f5_:=f3_.symm;clear f1_ f2_ f3_;subst f4_;subst f5_))
        refine hK.out _ _ ⟨(blk_cell BK432.out 0).trans rfl,(blk_cell BK432.out 1).trans rfl,(blk_cell BK432.out 2).trans rfl,(blk_cell BK405.out 0).trans rfl,(blk_cell BK405.out 1).trans rfl,(blk_cell BK405.out 2).trans rfl⟩ (fun hHeld=>?_)
        clear hK K
        refine norm_ (a':=?_) ?_ ?_
        rotate_left
        ·show Act.put _ (some 54) _=_
         simp only [Act.put,List.setIfInBounds_toArray,List.set_cons_zero,List.set_cons_succ,i64_w,i32_w]
         rfl
        refine one_ (i:=3) (N:=some 55) #[true,true,true,true,false] rfl rfl (by kernel_rfl) (by decide) (fun K hK=>?_)
        refine goes_ Try.func21 (by kernel_rfl) rfl #[.agg #[.slice Ao31 t423.length co31,.slice Ao34 t426.length co34,.slice Ao35 t429.length co35],.agg #[.slice Ao56 t441.length co56,.slice Ao57 t444.length co57,.slice Ao58 t447.length co58]] (by rfl) rfl rfl zq2 ?_
        with_reducible refine(laws_eqWishes.calls kj15 _ _ t423 _ _ t426 _ _ t429 _ _ t441 _ _ t444 _ _ t447 true _ ?side1 ?side2 ?side3 ?side4 ?side5 ?side6 ?side7 ?side8 ?side9 ?side10 ?side11 ?side12 A46.out).mono ?_
        (case side1=>repeat(first|exact(Kd.S_reads' HO_433000.out).2.2|(with_reducible refine Kd.C_alloc ?_ _)|(with_reducible refine Kd.C_drewN ?_ _)|(with_reducible refine Kd.C_drew ?_)))
        (case side2=>exact(Kd.S_reads' HO_433000.out).2.1)
        (case side3=>repeat(first|exact(Kd.S_reads' HO_433001.out).2.2|(with_reducible refine Kd.C_alloc ?_ _)|(with_reducible refine Kd.C_drewN ?_ _)|(with_reducible refine Kd.C_drew ?_)))
        (case side4=>exact(Kd.S_reads' HO_433001.out).2.1)
        (case side5=>repeat(first|exact(Kd.R_reads' HO_433002.out).2.2|(with_reducible refine Kd.C_alloc ?_ _)|(with_reducible refine Kd.C_drewN ?_ _)|(with_reducible refine Kd.C_drew ?_)))
        (case side6=>exact(Kd.R_reads' HO_433002.out).2.1)
        (case side7=>repeat(first|exact(Kd.S_reads' HO443.out).2.2|(with_reducible refine Kd.C_alloc ?_ _)|(with_reducible refine Kd.C_drewN ?_ _)|(with_reducible refine Kd.C_drew ?_)))
        (case side8=>exact(Kd.S_reads' HO443.out).2.1)
        (case side9=>repeat(first|exact(Kd.S_reads' HO446.out).2.2|(with_reducible refine Kd.C_alloc ?_ _)|(with_reducible refine Kd.C_drewN ?_ _)|(with_reducible refine Kd.C_drew ?_)))
        (case side10=>exact(Kd.S_reads' HO446.out).2.1)
        (case side11=>repeat(first|exact(Kd.R_reads' HO449.out).2.2|(with_reducible refine Kd.C_alloc ?_ _)|(with_reducible refine Kd.C_drewN ?_ _)|(with_reducible refine Kd.C_drew ?_)))
        (case side12=>exact(Kd.R_reads' HO449.out).2.1)
        rintro e w59 ⟨rfl,hb⟩
        refine⟨_,rfl,?_⟩
        have n0_:=Aside0.mk (Kd.R_below (zq4 HO_6) hb)
        have n1_:=Aside0.mk (Kd.R_below (zq4 HO_9) hb)
        have n2_:=Aside0.mk (Kd.R_below (zq4 HO_10) hb)
        have n3_:=Aside0.mk (Kd.S_below (by(with_reducible repeat(first|apply Kd.S_alloc|apply Kd.S_drewN|apply Kd.S_drew));exact HO_433000.out) hb)
        have n4_:=Aside0.mk (Kd.S_below (by(with_reducible repeat(first|apply Kd.S_alloc|apply Kd.S_drewN|apply Kd.S_drew));exact HO_433001.out) hb)
        have n5_:=Aside0.mk (Kd.R_below (zq4 HO_433002) hb)
        have n6_:=Aside0.mk (Kd.S_below (by(with_reducible repeat(first|apply Kd.S_alloc|apply Kd.S_drewN|apply Kd.S_drew));exact HO443.out) hb)
        have n7_:=Aside0.mk (Kd.S_below (by(with_reducible repeat(first|apply Kd.S_alloc|apply Kd.S_drewN|apply Kd.S_drew));exact HO446.out) hb)
        have n8_:=Aside0.mk (Kd.R_below (zq4 HO449) hb)
        have n9_:=Aside0.mk (blk_below (g:=gb405) (o:= .cells #[.slice A0_0 l0_0.length c0_0,.slice A0_1 l0_1.length c0_1,.slice A0_2 l0_2.length c0_2] 30 (0,0)) (zq3 BK405) hb)
        have n10_:=Aside0.mk (blk_below (g:=gb432) (o:= .cells #[.slice Ao31 t423.length co31,.slice Ao34 t426.length co34,.slice Ao35 t429.length co35] 33 (0,0)) (zq3 BK432) hb)
        have n11_:=Aside0.mk (below_step (zb2 HB GE405 GE432) hb)
        clear HO_6
        clear HO_9
        clear HO_10
        clear HO_433000
        clear HO_433001
        clear HO_433002
        clear HO443
        clear HO446
        clear HO449
        clear BK405
        clear BK432
        clear HB
        have HO_6:=n0_
        have HO_9:=n1_
        have HO_10:=n2_
        have HO_433000:=n3_
        have HO_433001:=n4_
        have HO_433002:=n5_
        have HO443:=n6_
        have HO446:=n7_
        have HO449:=n8_
        have BK405:=n9_
        have BK432:=n10_
        have HB:=n11_
        clear n0_ n1_ n2_ n3_ n4_ n5_ n6_ n7_ n8_ n9_ n10_ n11_
        (try clear hb)
        (try clear hb2)
        (try clear hk)
        (try clear hi)
        refine hK.out _ _ ⟨(blk_cell BK432.out 0).trans rfl,(blk_cell BK432.out 1).trans rfl,(blk_cell BK432.out 2).trans rfl,(blk_cell BK405.out 0).trans rfl,(blk_cell BK405.out 1).trans rfl,(blk_cell BK405.out 2).trans rfl⟩ (fun hHeld=>?_)
        clear hK K
        refine norm_ (a':=?_) ?_ ?_
        rotate_left
        ·show Act.put _ (some 55) _=_
         simp only [Act.put,List.setIfInBounds_toArray,List.set_cons_zero,List.set_cons_succ,i64_w,i32_w]
         rfl
        refine pure_ (i:=4) (N:=some 56) (v:=?_) (a':=?_) #[true,true,true,true,true] rfl rfl (by kernel_rfl) (fun _ _ _ h=>h) (Or.inl ⟨by rfl,?_⟩) ?_ ?_
        rotate_left
        ·intro w'
         go_simp
         with_reducible rfl
        rotate_left
        ·simp only [Act.put,List.setIfInBounds_toArray,List.set_cons_zero,List.set_cons_succ,i64_w,i32_w]
         rfl
        refine done_ (by kernel_rfl) ?_
        go_upto_region 20 with (first|((with_reducible refine gate_callee (f:=14) rfl ?_);refine goesL_ (some 59) rfl rfl Try.func14 (by kernel_rfl) rfl #[.slice A1 l1.length c1] rfl zq2 ?_;(with_reducible refine(laws_toIntS.calls kj15 _ _ l1 t451 _ ?side1 ?side2 A48.out).mono ?_);(case side1=>repeat(first|exact(Kd.C_below HR1.out HB.out)|(with_reducible refine Kd.C_alloc ?_ _)|(with_reducible refine Kd.C_drewN ?_ _)|(with_reducible refine Kd.C_drew ?_)));(case side2=>exact HC1.out);rintro e w60 ⟨v452,rfl,ho0,hb⟩;refine⟨_,rfl,?_⟩;have n0_:=Aside0.mk (Kd.R_elder' (zq4 HO_6) (Kd.R_base ho0) hb);have n1_:=Aside0.mk (Kd.R_elder' (zq4 HO_9) (Kd.R_base ho0) hb);have n2_:=Aside0.mk (Kd.R_elder' (zq4 HO_10) (Kd.R_base ho0) hb);have n3_:=Aside0.mk (Kd.S_elder' (by(with_reducible repeat(first|apply Kd.S_alloc|apply Kd.S_drewN|apply Kd.S_drew));exact HO_433000.out) (Kd.R_base ho0) hb);have n4_:=Aside0.mk (Kd.S_elder' (by(with_reducible repeat(first|apply Kd.S_alloc|apply Kd.S_drewN|apply Kd.S_drew));exact HO_433001.out) (Kd.R_base ho0) hb);have n5_:=Aside0.mk (Kd.R_elder' (zq4 HO_433002) (Kd.R_base ho0) hb);have n6_:=Aside0.mk (Kd.S_elder' (by(with_reducible repeat(first|apply Kd.S_alloc|apply Kd.S_drewN|apply Kd.S_drew));exact HO443.out) (Kd.R_base ho0) hb);have n7_:=Aside0.mk (Kd.S_elder' (by(with_reducible repeat(first|apply Kd.S_alloc|apply Kd.S_drewN|apply Kd.S_drew));exact HO446.out) (Kd.R_base ho0) hb);have n8_:=Aside0.mk (Kd.R_elder' (zq4 HO449) (Kd.R_base ho0) hb);have n9_:=Aside0.mk (Kd.R_lower (Kd.R_new' (Kd.R_new' (Kd.R_new' (Kd.R_new' (Kd.R_new' ho0 (Kd.R_lt (zq4 HO_6))) (Kd.R_lt (zq4 HO_9))) (Kd.R_lt (zq4 HO_10))) (Kd.R_lt (zq4 HO_433002))) (Kd.R_lt (zq4 HO449))) (below_size (zb2 HB GE405 GE432)));have n10_:=Aside0.mk (blk_below (g:=gb405) (o:= .cells #[.slice A0_0 l0_0.length c0_0,.slice A0_1 l0_1.length c0_1,.slice A0_2 l0_2.length c0_2] 30 (0,0)) (zq3 BK405) hb);have n11_:=Aside0.mk (blk_below (g:=gb432) (o:= .cells #[.slice Ao31 t423.length co31,.slice Ao34 t426.length co34,.slice Ao35 t429.length co35] 33 (0,0)) (zq3 BK432) hb);have n12_:=Aside0.mk (below_step (zb2 HB GE405 GE432) hb);clear HO_6;clear HO_9;clear HO_10;clear HO_433000;clear HO_433001;clear HO_433002;clear HO443;clear HO446;clear HO449;clear BK405;clear BK432;clear HB;have HO_6:=n0_;have HO_9:=n1_;have HO_10:=n2_;have HO_433000:=n3_;have HO_433001:=n4_;have HO_433002:=n5_;have HO443:=n6_;have HO446:=n7_;have HO449:=n8_;have HO453:=n9_;have BK405:=n10_;have BK432:=n11_;have HB:=n12_;clear n0_ n1_ n2_ n3_ n4_ n5_ n6_ n7_ n8_ n9_ n10_ n11_ n12_;(try clear hb);(try clear hb2);(try clear hk);(try clear hi);(try clear ho0);obtain⟨Ao61,co61,eo61⟩:=Kd.R_slice HO453.out;subst eo61;have hcw_0:w60.cell? ⟨gb432,0,none⟩=some (.slice Ao31 t423.length co31):=(blk_cell BK432.out 0).trans rfl;have hcw_1:w60.cell? ⟨gb432,1,none⟩=some (.slice Ao34 t426.length co34):=(blk_cell BK432.out 1).trans rfl;have hcw_2:w60.cell? ⟨gb432,2,none⟩=some (.slice Ao35 t429.length co35):=(blk_cell BK432.out 2).trans rfl;have hfw_0:=blk_frozen BK432.out 0;have hfw_1:=blk_frozen BK432.out 1;have hfw_2:=blk_frozen BK432.out 2)|((with_reducible refine gate_callee (f:=16) rfl ?_);refine goesL_ (some 60) rfl rfl Try.func16 (by kernel_rfl) rfl #[.slice Ao38 t433.length co38,.slice Ao61 t451.length co61] rfl zq2 ?_;(with_reducible refine(laws_eqIntS.calls kj15 _ _ t433 _ _ t451 true _ ?side1 ?side2 ?side3 ?side4 A49.out).mono ?_);(case side1=>repeat(first|exact(Kd.R_reads' HO_9.out).2.2|(with_reducible refine Kd.C_alloc ?_ _)|(with_reducible refine Kd.C_drewN ?_ _)|(with_reducible refine Kd.C_drew ?_)));(case side2=>exact(Kd.R_reads' HO_9.out).2.1);(case side3=>repeat(first|exact(Kd.R_reads' HO453.out).2.2|(with_reducible refine Kd.C_alloc ?_ _)|(with_reducible refine Kd.C_drewN ?_ _)|(with_reducible refine Kd.C_drew ?_)));(case side4=>exact(Kd.R_reads' HO453.out).2.1);rintro e w' ⟨rfl,⟨nd,rfl⟩⟩;refine⟨_,rfl,?_⟩)|((with_reducible refine gate_callee (f:=26) rfl ?_);refine goesL_ (some 64) rfl rfl Try.func26 (by kernel_rfl) rfl #[.agg #[.slice Ao31 t423.length co31,.slice Ao34 t426.length co34,.slice Ao35 t429.length co35],.int .i64 1] rfl zq2 ?_;have z0_:=Aside0.mk (Kd.S_types (Kd.S_types HO_433000.out BK405.out (by decide)) BK432.out (by decide));have z1_:=Aside0.mk (Kd.S_types (Kd.S_types HO_433001.out BK405.out (by decide)) BK432.out (by decide));have z2_:=Aside0.mk (Kd.R_types (Kd.R_types (Kd.R_tight rfl HO_433002.out) BK405.out (by decide)) BK432.out (by decide));(refine(laws_markWishes.calls kj15 _ _ _ _ _ _ t423 _ _ _ t426 _ _ _ t429 1 t455 q1_ q2_ q3_ w _ ?sB (by(with_reducible repeat(first|apply Kd.S_alloc|apply Kd.S_drewN|apply Kd.S_drew));exact z0_.out) (by(with_reducible repeat(first|apply Kd.S_alloc|apply Kd.S_drewN|apply Kd.S_drew));exact z1_.out) (zq4 z2_) ?s01 ?s02 ?s12 A51.out).mono ?_);(case sB=>repeat(first|(with_reducible first|exact HB.out|apply below_alloc|apply pw_below_drewN|apply below_drew1|refine below_set ?_ GE405.out|refine below_set ?_ GE432.out)|exact HB.out));(case s01=>intro k_ h0_ h1_;first|exact Nat.not_le_of_lt h0_.2 h1_.2|exact Nat.not_le_of_lt h0_.2.2 h1_.2.2|exact Nat.not_le_of_lt h0_.2.2.2 h1_.2.2.2|exact Nat.not_le_of_lt h0_.2.2.2.2 h1_.2.2.2.2|exact Nat.not_le_of_lt h0_.2.2.2.2.2 h1_.2.2.2.2.2|exact Nat.not_le_of_lt h0_.2.2.2.2.2.2 h1_.2.2.2.2.2.2|exact Nat.not_le_of_lt h0_.2.2.2.2.2.2.2 h1_.2.2.2.2.2.2.2|exact Nat.not_le_of_lt h0_.1.2 h1_.1.2|exact Nat.not_le_of_lt h0_.1.2.2 h1_.1.2.2|exact Nat.not_le_of_lt h0_.1.2.2.2 h1_.1.2.2.2|exact Nat.not_le_of_lt h0_.1.2.2.2.2 h1_.1.2.2.2.2|exact Nat.not_le_of_lt h0_.1.2.2.2.2.2 h1_.1.2.2.2.2.2|exact Nat.not_le_of_lt h0_.1.2.2.2.2.2.2 h1_.1.2.2.2.2.2.2|exact Nat.not_le_of_lt h0_.1.2.2.2.2.2.2.2 h1_.1.2.2.2.2.2.2.2|exact Nat.not_le_of_lt h0_.1.1.2 h1_.1.1.2|exact Nat.not_le_of_lt h0_.1.1.2.2 h1_.1.1.2.2|exact Nat.not_le_of_lt h0_.1.1.2.2.2 h1_.1.1.2.2.2|exact Nat.not_le_of_lt h0_.1.1.2.2.2.2 h1_.1.1.2.2.2.2|exact Nat.not_le_of_lt h0_.1.1.2.2.2.2.2 h1_.1.1.2.2.2.2.2|exact Nat.not_le_of_lt h0_.1.1.2.2.2.2.2.2 h1_.1.1.2.2.2.2.2.2|exact Nat.not_le_of_lt h0_.1.1.2.2.2.2.2.2.2 h1_.1.1.2.2.2.2.2.2.2|exact Nat.not_le_of_lt h0_.1.1.1.2 h1_.1.1.1.2|exact Nat.not_le_of_lt h0_.1.1.1.2.2 h1_.1.1.1.2.2|exact Nat.not_le_of_lt h0_.1.1.1.2.2.2 h1_.1.1.1.2.2.2|exact Nat.not_le_of_lt h0_.1.1.1.2.2.2.2 h1_.1.1.1.2.2.2.2|exact Nat.not_le_of_lt h0_.1.1.1.2.2.2.2.2 h1_.1.1.1.2.2.2.2.2|exact Nat.not_le_of_lt h0_.1.1.1.2.2.2.2.2.2 h1_.1.1.1.2.2.2.2.2.2|exact Nat.not_le_of_lt h0_.1.1.1.2.2.2.2.2.2.2 h1_.1.1.1.2.2.2.2.2.2.2|exact Nat.not_le_of_lt h0_.1.1.1.1.2 h1_.1.1.1.1.2|exact Nat.not_le_of_lt h0_.1.1.1.1.2.2 h1_.1.1.1.1.2.2|exact Nat.not_le_of_lt h0_.1.1.1.1.2.2.2 h1_.1.1.1.1.2.2.2|exact Nat.not_le_of_lt h0_.1.1.1.1.2.2.2.2 h1_.1.1.1.1.2.2.2.2|exact Nat.not_le_of_lt h0_.1.1.1.1.2.2.2.2.2 h1_.1.1.1.1.2.2.2.2.2|exact Nat.not_le_of_lt h0_.1.1.1.1.2.2.2.2.2.2 h1_.1.1.1.1.2.2.2.2.2.2|exact Nat.not_le_of_lt h0_.1.1.1.1.2.2.2.2.2.2.2 h1_.1.1.1.1.2.2.2.2.2.2.2|exact Nat.not_le_of_lt h0_.1.1.1.1.1.2 h1_.1.1.1.1.1.2|exact Nat.not_le_of_lt h0_.1.1.1.1.1.2.2 h1_.1.1.1.1.1.2.2|exact Nat.not_le_of_lt h0_.1.1.1.1.1.2.2.2 h1_.1.1.1.1.1.2.2.2|exact Nat.not_le_of_lt h0_.1.1.1.1.1.2.2.2.2 h1_.1.1.1.1.1.2.2.2.2|exact Nat.not_le_of_lt h0_.1.1.1.1.1.2.2.2.2.2 h1_.1.1.1.1.1.2.2.2.2.2|exact Nat.not_le_of_lt h0_.1.1.1.1.1.2.2.2.2.2.2 h1_.1.1.1.1.1.2.2.2.2.2.2|exact Nat.not_le_of_lt h0_.1.1.1.1.1.2.2.2.2.2.2.2 h1_.1.1.1.1.1.2.2.2.2.2.2.2|exact Nat.not_le_of_lt h0_.1.1.1.1.1.1.2 h1_.1.1.1.1.1.1.2|exact Nat.not_le_of_lt h0_.1.1.1.1.1.1.2.2 h1_.1.1.1.1.1.1.2.2|exact Nat.not_le_of_lt h0_.1.1.1.1.1.1.2.2.2 h1_.1.1.1.1.1.1.2.2.2|exact Nat.not_le_of_lt h0_.1.1.1.1.1.1.2.2.2.2 h1_.1.1.1.1.1.1.2.2.2.2|exact Nat.not_le_of_lt h0_.1.1.1.1.1.1.2.2.2.2.2 h1_.1.1.1.1.1.1.2.2.2.2.2|exact Nat.not_le_of_lt h0_.1.1.1.1.1.1.2.2.2.2.2.2 h1_.1.1.1.1.1.1.2.2.2.2.2.2|exact Nat.not_le_of_lt h0_.1.1.1.1.1.1.2.2.2.2.2.2.2 h1_.1.1.1.1.1.1.2.2.2.2.2.2.2|exact Nat.not_le_of_lt h0_.1.1.1.1.1.1.1.2 h1_.1.1.1.1.1.1.1.2|exact Nat.not_le_of_lt h0_.1.1.1.1.1.1.1.2.2 h1_.1.1.1.1.1.1.1.2.2|exact Nat.not_le_of_lt h0_.1.1.1.1.1.1.1.2.2.2 h1_.1.1.1.1.1.1.1.2.2.2|exact Nat.not_le_of_lt h0_.1.1.1.1.1.1.1.2.2.2.2 h1_.1.1.1.1.1.1.1.2.2.2.2|exact Nat.not_le_of_lt h0_.1.1.1.1.1.1.1.2.2.2.2.2 h1_.1.1.1.1.1.1.1.2.2.2.2.2|exact Nat.not_le_of_lt h0_.1.1.1.1.1.1.1.2.2.2.2.2.2 h1_.1.1.1.1.1.1.1.2.2.2.2.2.2|exact Nat.not_le_of_lt h0_.1.1.1.1.1.1.1.2.2.2.2.2.2.2 h1_.1.1.1.1.1.1.1.2.2.2.2.2.2.2|exact Nat.not_le_of_lt h0_.1.1.1.1.1.1.1.1.2 h1_.1.1.1.1.1.1.1.1.2|exact Nat.not_le_of_lt h0_.1.1.1.1.1.1.1.1.2.2 h1_.1.1.1.1.1.1.1.1.2.2|exact Nat.not_le_of_lt h0_.1.1.1.1.1.1.1.1.2.2.2 h1_.1.1.1.1.1.1.1.1.2.2.2|exact Nat.not_le_of_lt h0_.1.1.1.1.1.1.1.1.2.2.2.2 h1_.1.1.1.1.1.1.1.1.2.2.2.2|exact Nat.not_le_of_lt h0_.1.1.1.1.1.1.1.1.2.2.2.2.2 h1_.1.1.1.1.1.1.1.1.2.2.2.2.2|exact Nat.not_le_of_lt h0_.1.1.1.1.1.1.1.1.2.2.2.2.2.2 h1_.1.1.1.1.1.1.1.1.2.2.2.2.2.2|exact Nat.not_le_of_lt h0_.1.1.1.1.1.1.1.1.2.2.2.2.2.2.2 h1_.1.1.1.1.1.1.1.1.2.2.2.2.2.2.2|exact Nat.not_le_of_lt h0_.1.1.1.1.1.1.1.1.1.2 h1_.1.1.1.1.1.1.1.1.1.2|exact Nat.not_le_of_lt h0_.1.1.1.1.1.1.1.1.1.2.2 h1_.1.1.1.1.1.1.1.1.1.2.2|exact Nat.not_le_of_lt h0_.1.1.1.1.1.1.1.1.1.2.2.2 h1_.1.1.1.1.1.1.1.1.1.2.2.2|exact Nat.not_le_of_lt h0_.1.1.1.1.1.1.1.1.1.2.2.2.2 h1_.1.1.1.1.1.1.1.1.1.2.2.2.2|exact Nat.not_le_of_lt h0_.1.1.1.1.1.1.1.1.1.2.2.2.2.2 h1_.1.1.1.1.1.1.1.1.1.2.2.2.2.2|exact Nat.not_le_of_lt h0_.1.1.1.1.1.1.1.1.1.2.2.2.2.2.2 h1_.1.1.1.1.1.1.1.1.1.2.2.2.2.2.2|exact Nat.not_le_of_lt h0_.1.1.1.1.1.1.1.1.1.2.2.2.2.2.2.2 h1_.1.1.1.1.1.1.1.1.1.2.2.2.2.2.2.2|exact Nat.not_le_of_lt h0_.1.1.1.1.1.1.1.1.1.1.2 h1_.1.1.1.1.1.1.1.1.1.1.2|exact Nat.not_le_of_lt h0_.1.1.1.1.1.1.1.1.1.1.2.2 h1_.1.1.1.1.1.1.1.1.1.1.2.2|exact Nat.not_le_of_lt h0_.1.1.1.1.1.1.1.1.1.1.2.2.2 h1_.1.1.1.1.1.1.1.1.1.1.2.2.2|exact Nat.not_le_of_lt h0_.1.1.1.1.1.1.1.1.1.1.2.2.2.2 h1_.1.1.1.1.1.1.1.1.1.1.2.2.2.2|exact Nat.not_le_of_lt h0_.1.1.1.1.1.1.1.1.1.1.2.2.2.2.2 h1_.1.1.1.1.1.1.1.1.1.1.2.2.2.2.2|exact Nat.not_le_of_lt h0_.1.1.1.1.1.1.1.1.1.1.2.2.2.2.2.2 h1_.1.1.1.1.1.1.1.1.1.1.2.2.2.2.2.2|exact Nat.not_le_of_lt h0_.1.1.1.1.1.1.1.1.1.1.2.2.2.2.2.2.2 h1_.1.1.1.1.1.1.1.1.1.1.2.2.2.2.2.2.2|exact Nat.not_le_of_lt h0_.1.1.1.1.1.1.1.1.1.1.1.2 h1_.1.1.1.1.1.1.1.1.1.1.1.2|exact Nat.not_le_of_lt h0_.1.1.1.1.1.1.1.1.1.1.1.2.2 h1_.1.1.1.1.1.1.1.1.1.1.1.2.2|exact Nat.not_le_of_lt h0_.1.1.1.1.1.1.1.1.1.1.1.2.2.2 h1_.1.1.1.1.1.1.1.1.1.1.1.2.2.2|exact Nat.not_le_of_lt h0_.1.1.1.1.1.1.1.1.1.1.1.2.2.2.2 h1_.1.1.1.1.1.1.1.1.1.1.1.2.2.2.2|exact Nat.not_le_of_lt h0_.1.1.1.1.1.1.1.1.1.1.1.2.2.2.2.2 h1_.1.1.1.1.1.1.1.1.1.1.1.2.2.2.2.2|exact Nat.not_le_of_lt h0_.1.1.1.1.1.1.1.1.1.1.1.2.2.2.2.2.2 h1_.1.1.1.1.1.1.1.1.1.1.1.2.2.2.2.2.2|exact Nat.not_le_of_lt h0_.1.1.1.1.1.1.1.1.1.1.1.2.2.2.2.2.2.2 h1_.1.1.1.1.1.1.1.1.1.1.1.2.2.2.2.2.2.2|exact Nat.not_le_of_lt h0_.1.1.1.1.1.1.1.1.1.1.1.1.2 h1_.1.1.1.1.1.1.1.1.1.1.1.1.2|exact Nat.not_le_of_lt h0_.1.1.1.1.1.1.1.1.1.1.1.1.2.2 h1_.1.1.1.1.1.1.1.1.1.1.1.1.2.2|exact Nat.not_le_of_lt h0_.1.1.1.1.1.1.1.1.1.1.1.1.2.2.2 h1_.1.1.1.1.1.1.1.1.1.1.1.1.2.2.2|exact Nat.not_le_of_lt h0_.1.1.1.1.1.1.1.1.1.1.1.1.2.2.2.2 h1_.1.1.1.1.1.1.1.1.1.1.1.1.2.2.2.2|exact Nat.not_le_of_lt h0_.1.1.1.1.1.1.1.1.1.1.1.1.2.2.2.2.2 h1_.1.1.1.1.1.1.1.1.1.1.1.1.2.2.2.2.2|exact Nat.not_le_of_lt h0_.1.1.1.1.1.1.1.1.1.1.1.1.2.2.2.2.2.2 h1_.1.1.1.1.1.1.1.1.1.1.1.1.2.2.2.2.2.2|exact Nat.not_le_of_lt h0_.1.1.1.1.1.1.1.1.1.1.1.1.2.2.2.2.2.2.2 h1_.1.1.1.1.1.1.1.1.1.1.1.1.2.2.2.2.2.2.2|exact Nat.not_le_of_lt h0_.1.1.1.1.1.1.1.1.1.1.1.1.1.2 h1_.1.1.1.1.1.1.1.1.1.1.1.1.1.2|exact Nat.not_le_of_lt h0_.1.1.1.1.1.1.1.1.1.1.1.1.1.2.2 h1_.1.1.1.1.1.1.1.1.1.1.1.1.1.2.2|exact Nat.not_le_of_lt h0_.1.1.1.1.1.1.1.1.1.1.1.1.1.2.2.2 h1_.1.1.1.1.1.1.1.1.1.1.1.1.1.2.2.2|exact Nat.not_le_of_lt h0_.1.1.1.1.1.1.1.1.1.1.1.1.1.2.2.2.2 h1_.1.1.1.1.1.1.1.1.1.1.1.1.1.2.2.2.2|exact Nat.not_le_of_lt h0_.1.1.1.1.1.1.1.1.1.1.1.1.1.2.2.2.2.2 h1_.1.1.1.1.1.1.1.1.1.1.1.1.1.2.2.2.2.2|exact Nat.not_le_of_lt h0_.1.1.1.1.1.1.1.1.1.1.1.1.1.2.2.2.2.2.2 h1_.1.1.1.1.1.1.1.1.1.1.1.1.1.2.2.2.2.2.2|exact Nat.not_le_of_lt h0_.1.1.1.1.1.1.1.1.1.1.1.1.1.2.2.2.2.2.2.2 h1_.1.1.1.1.1.1.1.1.1.1.1.1.1.2.2.2.2.2.2.2);(case s02=>intro k_ h0_ h2_;first|exact h0_ h2_.1.1|exact h0_.1 h2_.1.1|exact h0_.2 h2_.1.1|exact h0_.2.1 h2_.1.1|exact h0_.2.2 h2_.1.1|exact h0_.2.2.1 h2_.1.1|exact h0_.2.2.2 h2_.1.1|exact h0_.2.2.2.1 h2_.1.1|exact h0_.2.2.2.2 h2_.1.1|exact h0_.2.2.2.2.1 h2_.1.1|exact h0_.2.2.2.2.2 h2_.1.1|exact h0_.2.2.2.2.2.1 h2_.1.1|exact h0_.2.2.2.2.2.2 h2_.1.1|exact h0_.2.2.2.2.2.2.1 h2_.1.1|exact h0_.1 h2_.1.1|exact h0_.1.1 h2_.1.1|exact h0_.1.2 h2_.1.1|exact h0_.1.2.1 h2_.1.1|exact h0_.1.2.2 h2_.1.1|exact h0_.1.2.2.1 h2_.1.1|exact h0_.1.2.2.2 h2_.1.1|exact h0_.1.2.2.2.1 h2_.1.1|exact h0_.1.2.2.2.2 h2_.1.1|exact h0_.1.2.2.2.2.1 h2_.1.1|exact h0_.1.2.2.2.2.2 h2_.1.1|exact h0_.1.2.2.2.2.2.1 h2_.1.1|exact h0_.1.2.2.2.2.2.2 h2_.1.1|exact h0_.1.2.2.2.2.2.2.1 h2_.1.1|exact h0_.1.1 h2_.1.1|exact h0_.1.1.1 h2_.1.1|exact h0_.1.1.2 h2_.1.1|exact h0_.1.1.2.1 h2_.1.1|exact h0_.1.1.2.2 h2_.1.1|exact h0_.1.1.2.2.1 h2_.1.1|exact h0_.1.1.2.2.2 h2_.1.1|exact h0_.1.1.2.2.2.1 h2_.1.1|exact h0_.1.1.2.2.2.2 h2_.1.1|exact h0_.1.1.2.2.2.2.1 h2_.1.1|exact h0_.1.1.2.2.2.2.2 h2_.1.1|exact h0_.1.1.2.2.2.2.2.1 h2_.1.1|exact h0_.1.1.2.2.2.2.2.2 h2_.1.1|exact h0_.1.1.2.2.2.2.2.2.1 h2_.1.1|exact h0_.1.1.1 h2_.1.1|exact h0_.1.1.1.1 h2_.1.1|exact h0_.1.1.1.2 h2_.1.1|exact h0_.1.1.1.2.1 h2_.1.1|exact h0_.1.1.1.2.2 h2_.1.1|exact h0_.1.1.1.2.2.1 h2_.1.1|exact h0_.1.1.1.2.2.2 h2_.1.1|exact h0_.1.1.1.2.2.2.1 h2_.1.1|exact h0_.1.1.1.2.2.2.2 h2_.1.1|exact h0_.1.1.1.2.2.2.2.1 h2_.1.1|exact h0_.1.1.1.2.2.2.2.2 h2_.1.1|exact h0_.1.1.1.2.2.2.2.2.1 h2_.1.1|exact h0_.1.1.1.2.2.2.2.2.2 h2_.1.1|exact h0_.1.1.1.2.2.2.2.2.2.1 h2_.1.1|exact h0_.1.1.1.1 h2_.1.1|exact h0_.1.1.1.1.1 h2_.1.1|exact h0_.1.1.1.1.2 h2_.1.1|exact h0_.1.1.1.1.2.1 h2_.1.1|exact h0_.1.1.1.1.2.2 h2_.1.1|exact h0_.1.1.1.1.2.2.1 h2_.1.1|exact h0_.1.1.1.1.2.2.2 h2_.1.1|exact h0_.1.1.1.1.2.2.2.1 h2_.1.1|exact h0_.1.1.1.1.2.2.2.2 h2_.1.1|exact h0_.1.1.1.1.2.2.2.2.1 h2_.1.1|exact h0_.1.1.1.1.2.2.2.2.2 h2_.1.1|exact h0_.1.1.1.1.2.2.2.2.2.1 h2_.1.1|exact h0_.1.1.1.1.2.2.2.2.2.2 h2_.1.1|exact h0_.1.1.1.1.2.2.2.2.2.2.1 h2_.1.1|exact h0_.1.1.1.1.1 h2_.1.1|exact h0_.1.1.1.1.1.1 h2_.1.1|exact h0_.1.1.1.1.1.2 h2_.1.1|exact h0_.1.1.1.1.1.2.1 h2_.1.1|exact h0_.1.1.1.1.1.2.2 h2_.1.1|exact h0_.1.1.1.1.1.2.2.1 h2_.1.1|exact h0_.1.1.1.1.1.2.2.2 h2_.1.1|exact h0_.1.1.1.1.1.2.2.2.1 h2_.1.1|exact h0_.1.1.1.1.1.2.2.2.2 h2_.1.1|exact h0_.1.1.1.1.1.2.2.2.2.1 h2_.1.1|exact h0_.1.1.1.1.1.2.2.2.2.2 h2_.1.1|exact h0_.1.1.1.1.1.2.2.2.2.2.1 h2_.1.1|exact h0_.1.1.1.1.1.2.2.2.2.2.2 h2_.1.1|exact h0_.1.1.1.1.1.2.2.2.2.2.2.1 h2_.1.1|exact h0_.1.1.1.1.1.1 h2_.1.1|exact h0_.1.1.1.1.1.1.1 h2_.1.1|exact h0_.1.1.1.1.1.1.2 h2_.1.1|exact h0_.1.1.1.1.1.1.2.1 h2_.1.1|exact h0_.1.1.1.1.1.1.2.2 h2_.1.1|exact h0_.1.1.1.1.1.1.2.2.1 h2_.1.1|exact h0_.1.1.1.1.1.1.2.2.2 h2_.1.1|exact h0_.1.1.1.1.1.1.2.2.2.1 h2_.1.1|exact h0_.1.1.1.1.1.1.2.2.2.2 h2_.1.1|exact h0_.1.1.1.1.1.1.2.2.2.2.1 h2_.1.1|exact h0_.1.1.1.1.1.1.2.2.2.2.2 h2_.1.1|exact h0_.1.1.1.1.1.1.2.2.2.2.2.1 h2_.1.1|exact h0_.1.1.1.1.1.1.2.2.2.2.2.2 h2_.1.1|exact h0_.1.1.1.1.1.1.2.2.2.2.2.2.1 h2_.1.1|exact h0_.1.1.1.1.1.1.1 h2_.1.1|exact h0_.1.1.1.1.1.1.1.1 h2_.1.1|exact h0_.1.1.1.1.1.1.1.2 h2_.1.1|exact h0_.1.1.1.1.1.1.1.2.1 h2_.1.1|exact h0_.1.1.1.1.1.1.1.2.2 h2_.1.1|exact h0_.1.1.1.1.1.1.1.2.2.1 h2_.1.1|exact h0_.1.1.1.1.1.1.1.2.2.2 h2_.1.1|exact h0_.1.1.1.1.1.1.1.2.2.2.1 h2_.1.1|exact h0_.1.1.1.1.1.1.1.2.2.2.2 h2_.1.1|exact h0_.1.1.1.1.1.1.1.2.2.2.2.1 h2_.1.1|exact h0_.1.1.1.1.1.1.1.2.2.2.2.2 h2_.1.1|exact h0_.1.1.1.1.1.1.1.2.2.2.2.2.1 h2_.1.1|exact h0_.1.1.1.1.1.1.1.2.2.2.2.2.2 h2_.1.1|exact h0_.1.1.1.1.1.1.1.2.2.2.2.2.2.1 h2_.1.1|exact h0_.1.1.1.1.1.1.1.1 h2_.1.1|exact h0_.1.1.1.1.1.1.1.1.1 h2_.1.1|exact h0_.1.1.1.1.1.1.1.1.2 h2_.1.1|exact h0_.1.1.1.1.1.1.1.1.2.1 h2_.1.1|exact h0_.1.1.1.1.1.1.1.1.2.2 h2_.1.1|exact h0_.1.1.1.1.1.1.1.1.2.2.1 h2_.1.1|exact h0_.1.1.1.1.1.1.1.1.2.2.2 h2_.1.1|exact h0_.1.1.1.1.1.1.1.1.2.2.2.1 h2_.1.1|exact h0_.1.1.1.1.1.1.1.1.2.2.2.2 h2_.1.1|exact h0_.1.1.1.1.1.1.1.1.2.2.2.2.1 h2_.1.1|exact h0_.1.1.1.1.1.1.1.1.2.2.2.2.2 h2_.1.1|exact h0_.1.1.1.1.1.1.1.1.2.2.2.2.2.1 h2_.1.1|exact h0_.1.1.1.1.1.1.1.1.2.2.2.2.2.2 h2_.1.1|exact h0_.1.1.1.1.1.1.1.1.2.2.2.2.2.2.1 h2_.1.1|exact h0_.1.1.1.1.1.1.1.1.1 h2_.1.1|exact h0_.1.1.1.1.1.1.1.1.1.1 h2_.1.1|exact h0_.1.1.1.1.1.1.1.1.1.2 h2_.1.1|exact h0_.1.1.1.1.1.1.1.1.1.2.1 h2_.1.1|exact h0_.1.1.1.1.1.1.1.1.1.2.2 h2_.1.1|exact h0_.1.1.1.1.1.1.1.1.1.2.2.1 h2_.1.1|exact h0_.1.1.1.1.1.1.1.1.1.2.2.2 h2_.1.1|exact h0_.1.1.1.1.1.1.1.1.1.2.2.2.1 h2_.1.1|exact h0_.1.1.1.1.1.1.1.1.1.2.2.2.2 h2_.1.1|exact h0_.1.1.1.1.1.1.1.1.1.2.2.2.2.1 h2_.1.1|exact h0_.1.1.1.1.1.1.1.1.1.2.2.2.2.2 h2_.1.1|exact h0_.1.1.1.1.1.1.1.1.1.2.2.2.2.2.1 h2_.1.1|exact h0_.1.1.1.1.1.1.1.1.1.2.2.2.2.2.2 h2_.1.1|exact h0_.1.1.1.1.1.1.1.1.1.2.2.2.2.2.2.1 h2_.1.1|exact h0_.1.1.1.1.1.1.1.1.1.1 h2_.1.1|exact h0_.1.1.1.1.1.1.1.1.1.1.1 h2_.1.1|exact h0_.1.1.1.1.1.1.1.1.1.1.2 h2_.1.1|exact h0_.1.1.1.1.1.1.1.1.1.1.2.1 h2_.1.1|exact h0_.1.1.1.1.1.1.1.1.1.1.2.2 h2_.1.1|exact h0_.1.1.1.1.1.1.1.1.1.1.2.2.1 h2_.1.1|exact h0_.1.1.1.1.1.1.1.1.1.1.2.2.2 h2_.1.1|exact h0_.1.1.1.1.1.1.1.1.1.1.2.2.2.1 h2_.1.1|exact h0_.1.1.1.1.1.1.1.1.1.1.2.2.2.2 h2_.1.1|exact h0_.1.1.1.1.1.1.1.1.1.1.2.2.2.2.1 h2_.1.1|exact h0_.1.1.1.1.1.1.1.1.1.1.2.2.2.2.2 h2_.1.1|exact h0_.1.1.1.1.1.1.1.1.1.1.2.2.2.2.2.1 h2_.1.1|exact h0_.1.1.1.1.1.1.1.1.1.1.2.2.2.2.2.2 h2_.1.1|exact h0_.1.1.1.1.1.1.1.1.1.1.2.2.2.2.2.2.1 h2_.1.1|exact h0_.1.1.1.1.1.1.1.1.1.1.1 h2_.1.1|exact h0_.1.1.1.1.1.1.1.1.1.1.1.1 h2_.1.1|exact h0_.1.1.1.1.1.1.1.1.1.1.1.2 h2_.1.1|exact h0_.1.1.1.1.1.1.1.1.1.1.1.2.1 h2_.1.1|exact h0_.1.1.1.1.1.1.1.1.1.1.1.2.2 h2_.1.1|exact h0_.1.1.1.1.1.1.1.1.1.1.1.2.2.1 h2_.1.1|exact h0_.1.1.1.1.1.1.1.1.1.1.1.2.2.2 h2_.1.1|exact h0_.1.1.1.1.1.1.1.1.1.1.1.2.2.2.1 h2_.1.1|exact h0_.1.1.1.1.1.1.1.1.1.1.1.2.2.2.2 h2_.1.1|exact h0_.1.1.1.1.1.1.1.1.1.1.1.2.2.2.2.1 h2_.1.1|exact h0_.1.1.1.1.1.1.1.1.1.1.1.2.2.2.2.2 h2_.1.1|exact h0_.1.1.1.1.1.1.1.1.1.1.1.2.2.2.2.2.1 h2_.1.1|exact h0_.1.1.1.1.1.1.1.1.1.1.1.2.2.2.2.2.2 h2_.1.1|exact h0_.1.1.1.1.1.1.1.1.1.1.1.2.2.2.2.2.2.1 h2_.1.1|exact h0_.1.1.1.1.1.1.1.1.1.1.1.1 h2_.1.1|exact h0_.1.1.1.1.1.1.1.1.1.1.1.1.1 h2_.1.1|exact h0_.1.1.1.1.1.1.1.1.1.1.1.1.2 h2_.1.1|exact h0_.1.1.1.1.1.1.1.1.1.1.1.1.2.1 h2_.1.1|exact h0_.1.1.1.1.1.1.1.1.1.1.1.1.2.2 h2_.1.1|exact h0_.1.1.1.1.1.1.1.1.1.1.1.1.2.2.1 h2_.1.1|exact h0_.1.1.1.1.1.1.1.1.1.1.1.1.2.2.2 h2_.1.1|exact h0_.1.1.1.1.1.1.1.1.1.1.1.1.2.2.2.1 h2_.1.1|exact h0_.1.1.1.1.1.1.1.1.1.1.1.1.2.2.2.2 h2_.1.1|exact h0_.1.1.1.1.1.1.1.1.1.1.1.1.2.2.2.2.1 h2_.1.1|exact h0_.1.1.1.1.1.1.1.1.1.1.1.1.2.2.2.2.2 h2_.1.1|exact h0_.1.1.1.1.1.1.1.1.1.1.1.1.2.2.2.2.2.1 h2_.1.1|exact h0_.1.1.1.1.1.1.1.1.1.1.1.1.2.2.2.2.2.2 h2_.1.1|exact h0_.1.1.1.1.1.1.1.1.1.1.1.1.2.2.2.2.2.2.1 h2_.1.1);(case s12=>intro k_ h1_ h2_;first|exact h1_ h2_.1.1|exact h1_.1 h2_.1.1|exact h1_.2 h2_.1.1|exact h1_.2.1 h2_.1.1|exact h1_.2.2 h2_.1.1|exact h1_.2.2.1 h2_.1.1|exact h1_.2.2.2 h2_.1.1|exact h1_.2.2.2.1 h2_.1.1|exact h1_.2.2.2.2 h2_.1.1|exact h1_.2.2.2.2.1 h2_.1.1|exact h1_.2.2.2.2.2 h2_.1.1|exact h1_.2.2.2.2.2.1 h2_.1.1|exact h1_.2.2.2.2.2.2 h2_.1.1|exact h1_.2.2.2.2.2.2.1 h2_.1.1|exact h1_.1 h2_.1.1|exact h1_.1.1 h2_.1.1|exact h1_.1.2 h2_.1.1|exact h1_.1.2.1 h2_.1.1|exact h1_.1.2.2 h2_.1.1|exact h1_.1.2.2.1 h2_.1.1|exact h1_.1.2.2.2 h2_.1.1|exact h1_.1.2.2.2.1 h2_.1.1|exact h1_.1.2.2.2.2 h2_.1.1|exact h1_.1.2.2.2.2.1 h2_.1.1|exact h1_.1.2.2.2.2.2 h2_.1.1|exact h1_.1.2.2.2.2.2.1 h2_.1.1|exact h1_.1.2.2.2.2.2.2 h2_.1.1|exact h1_.1.2.2.2.2.2.2.1 h2_.1.1|exact h1_.1.1 h2_.1.1|exact h1_.1.1.1 h2_.1.1|exact h1_.1.1.2 h2_.1.1|exact h1_.1.1.2.1 h2_.1.1|exact h1_.1.1.2.2 h2_.1.1|exact h1_.1.1.2.2.1 h2_.1.1|exact h1_.1.1.2.2.2 h2_.1.1|exact h1_.1.1.2.2.2.1 h2_.1.1|exact h1_.1.1.2.2.2.2 h2_.1.1|exact h1_.1.1.2.2.2.2.1 h2_.1.1|exact h1_.1.1.2.2.2.2.2 h2_.1.1|exact h1_.1.1.2.2.2.2.2.1 h2_.1.1|exact h1_.1.1.2.2.2.2.2.2 h2_.1.1|exact h1_.1.1.2.2.2.2.2.2.1 h2_.1.1|exact h1_.1.1.1 h2_.1.1|exact h1_.1.1.1.1 h2_.1.1|exact h1_.1.1.1.2 h2_.1.1|exact h1_.1.1.1.2.1 h2_.1.1|exact h1_.1.1.1.2.2 h2_.1.1|exact h1_.1.1.1.2.2.1 h2_.1.1|exact h1_.1.1.1.2.2.2 h2_.1.1|exact h1_.1.1.1.2.2.2.1 h2_.1.1|exact h1_.1.1.1.2.2.2.2 h2_.1.1|exact h1_.1.1.1.2.2.2.2.1 h2_.1.1|exact h1_.1.1.1.2.2.2.2.2 h2_.1.1|exact h1_.1.1.1.2.2.2.2.2.1 h2_.1.1|exact h1_.1.1.1.2.2.2.2.2.2 h2_.1.1|exact h1_.1.1.1.2.2.2.2.2.2.1 h2_.1.1|exact h1_.1.1.1.1 h2_.1.1|exact h1_.1.1.1.1.1 h2_.1.1|exact h1_.1.1.1.1.2 h2_.1.1|exact h1_.1.1.1.1.2.1 h2_.1.1|exact h1_.1.1.1.1.2.2 h2_.1.1|exact h1_.1.1.1.1.2.2.1 h2_.1.1|exact h1_.1.1.1.1.2.2.2 h2_.1.1|exact h1_.1.1.1.1.2.2.2.1 h2_.1.1|exact h1_.1.1.1.1.2.2.2.2 h2_.1.1|exact h1_.1.1.1.1.2.2.2.2.1 h2_.1.1|exact h1_.1.1.1.1.2.2.2.2.2 h2_.1.1|exact h1_.1.1.1.1.2.2.2.2.2.1 h2_.1.1|exact h1_.1.1.1.1.2.2.2.2.2.2 h2_.1.1|exact h1_.1.1.1.1.2.2.2.2.2.2.1 h2_.1.1|exact h1_.1.1.1.1.1 h2_.1.1|exact h1_.1.1.1.1.1.1 h2_.1.1|exact h1_.1.1.1.1.1.2 h2_.1.1|exact h1_.1.1.1.1.1.2.1 h2_.1.1|exact h1_.1.1.1.1.1.2.2 h2_.1.1|exact h1_.1.1.1.1.1.2.2.1 h2_.1.1|exact h1_.1.1.1.1.1.2.2.2 h2_.1.1|exact h1_.1.1.1.1.1.2.2.2.1 h2_.1.1|exact h1_.1.1.1.1.1.2.2.2.2 h2_.1.1|exact h1_.1.1.1.1.1.2.2.2.2.1 h2_.1.1|exact h1_.1.1.1.1.1.2.2.2.2.2 h2_.1.1|exact h1_.1.1.1.1.1.2.2.2.2.2.1 h2_.1.1|exact h1_.1.1.1.1.1.2.2.2.2.2.2 h2_.1.1|exact h1_.1.1.1.1.1.2.2.2.2.2.2.1 h2_.1.1|exact h1_.1.1.1.1.1.1 h2_.1.1|exact h1_.1.1.1.1.1.1.1 h2_.1.1|exact h1_.1.1.1.1.1.1.2 h2_.1.1|exact h1_.1.1.1.1.1.1.2.1 h2_.1.1|exact h1_.1.1.1.1.1.1.2.2 h2_.1.1|exact h1_.1.1.1.1.1.1.2.2.1 h2_.1.1|exact h1_.1.1.1.1.1.1.2.2.2 h2_.1.1|exact h1_.1.1.1.1.1.1.2.2.2.1 h2_.1.1|exact h1_.1.1.1.1.1.1.2.2.2.2 h2_.1.1|exact h1_.1.1.1.1.1.1.2.2.2.2.1 h2_.1.1|exact h1_.1.1.1.1.1.1.2.2.2.2.2 h2_.1.1|exact h1_.1.1.1.1.1.1.2.2.2.2.2.1 h2_.1.1|exact h1_.1.1.1.1.1.1.2.2.2.2.2.2 h2_.1.1|exact h1_.1.1.1.1.1.1.2.2.2.2.2.2.1 h2_.1.1|exact h1_.1.1.1.1.1.1.1 h2_.1.1|exact h1_.1.1.1.1.1.1.1.1 h2_.1.1|exact h1_.1.1.1.1.1.1.1.2 h2_.1.1|exact h1_.1.1.1.1.1.1.1.2.1 h2_.1.1|exact h1_.1.1.1.1.1.1.1.2.2 h2_.1.1|exact h1_.1.1.1.1.1.1.1.2.2.1 h2_.1.1|exact h1_.1.1.1.1.1.1.1.2.2.2 h2_.1.1|exact h1_.1.1.1.1.1.1.1.2.2.2.1 h2_.1.1|exact h1_.1.1.1.1.1.1.1.2.2.2.2 h2_.1.1|exact h1_.1.1.1.1.1.1.1.2.2.2.2.1 h2_.1.1|exact h1_.1.1.1.1.1.1.1.2.2.2.2.2 h2_.1.1|exact h1_.1.1.1.1.1.1.1.2.2.2.2.2.1 h2_.1.1|exact h1_.1.1.1.1.1.1.1.2.2.2.2.2.2 h2_.1.1|exact h1_.1.1.1.1.1.1.1.2.2.2.2.2.2.1 h2_.1.1|exact h1_.1.1.1.1.1.1.1.1 h2_.1.1|exact h1_.1.1.1.1.1.1.1.1.1 h2_.1.1|exact h1_.1.1.1.1.1.1.1.1.2 h2_.1.1|exact h1_.1.1.1.1.1.1.1.1.2.1 h2_.1.1|exact h1_.1.1.1.1.1.1.1.1.2.2 h2_.1.1|exact h1_.1.1.1.1.1.1.1.1.2.2.1 h2_.1.1|exact h1_.1.1.1.1.1.1.1.1.2.2.2 h2_.1.1|exact h1_.1.1.1.1.1.1.1.1.2.2.2.1 h2_.1.1|exact h1_.1.1.1.1.1.1.1.1.2.2.2.2 h2_.1.1|exact h1_.1.1.1.1.1.1.1.1.2.2.2.2.1 h2_.1.1|exact h1_.1.1.1.1.1.1.1.1.2.2.2.2.2 h2_.1.1|exact h1_.1.1.1.1.1.1.1.1.2.2.2.2.2.1 h2_.1.1|exact h1_.1.1.1.1.1.1.1.1.2.2.2.2.2.2 h2_.1.1|exact h1_.1.1.1.1.1.1.1.1.2.2.2.2.2.2.1 h2_.1.1|exact h1_.1.1.1.1.1.1.1.1.1 h2_.1.1|exact h1_.1.1.1.1.1.1.1.1.1.1 h2_.1.1|exact h1_.1.1.1.1.1.1.1.1.1.2 h2_.1.1|exact h1_.1.1.1.1.1.1.1.1.1.2.1 h2_.1.1|exact h1_.1.1.1.1.1.1.1.1.1.2.2 h2_.1.1|exact h1_.1.1.1.1.1.1.1.1.1.2.2.1 h2_.1.1|exact h1_.1.1.1.1.1.1.1.1.1.2.2.2 h2_.1.1|exact h1_.1.1.1.1.1.1.1.1.1.2.2.2.1 h2_.1.1|exact h1_.1.1.1.1.1.1.1.1.1.2.2.2.2 h2_.1.1|exact h1_.1.1.1.1.1.1.1.1.1.2.2.2.2.1 h2_.1.1|exact h1_.1.1.1.1.1.1.1.1.1.2.2.2.2.2 h2_.1.1|exact h1_.1.1.1.1.1.1.1.1.1.2.2.2.2.2.1 h2_.1.1|exact h1_.1.1.1.1.1.1.1.1.1.2.2.2.2.2.2 h2_.1.1|exact h1_.1.1.1.1.1.1.1.1.1.2.2.2.2.2.2.1 h2_.1.1|exact h1_.1.1.1.1.1.1.1.1.1.1 h2_.1.1|exact h1_.1.1.1.1.1.1.1.1.1.1.1 h2_.1.1|exact h1_.1.1.1.1.1.1.1.1.1.1.2 h2_.1.1|exact h1_.1.1.1.1.1.1.1.1.1.1.2.1 h2_.1.1|exact h1_.1.1.1.1.1.1.1.1.1.1.2.2 h2_.1.1|exact h1_.1.1.1.1.1.1.1.1.1.1.2.2.1 h2_.1.1|exact h1_.1.1.1.1.1.1.1.1.1.1.2.2.2 h2_.1.1|exact h1_.1.1.1.1.1.1.1.1.1.1.2.2.2.1 h2_.1.1|exact h1_.1.1.1.1.1.1.1.1.1.1.2.2.2.2 h2_.1.1|exact h1_.1.1.1.1.1.1.1.1.1.1.2.2.2.2.1 h2_.1.1|exact h1_.1.1.1.1.1.1.1.1.1.1.2.2.2.2.2 h2_.1.1|exact h1_.1.1.1.1.1.1.1.1.1.1.2.2.2.2.2.1 h2_.1.1|exact h1_.1.1.1.1.1.1.1.1.1.1.2.2.2.2.2.2 h2_.1.1|exact h1_.1.1.1.1.1.1.1.1.1.1.2.2.2.2.2.2.1 h2_.1.1|exact h1_.1.1.1.1.1.1.1.1.1.1.1 h2_.1.1|exact h1_.1.1.1.1.1.1.1.1.1.1.1.1 h2_.1.1|exact h1_.1.1.1.1.1.1.1.1.1.1.1.2 h2_.1.1|exact h1_.1.1.1.1.1.1.1.1.1.1.1.2.1 h2_.1.1|exact h1_.1.1.1.1.1.1.1.1.1.1.1.2.2 h2_.1.1|exact h1_.1.1.1.1.1.1.1.1.1.1.1.2.2.1 h2_.1.1|exact h1_.1.1.1.1.1.1.1.1.1.1.1.2.2.2 h2_.1.1|exact h1_.1.1.1.1.1.1.1.1.1.1.1.2.2.2.1 h2_.1.1|exact h1_.1.1.1.1.1.1.1.1.1.1.1.2.2.2.2 h2_.1.1|exact h1_.1.1.1.1.1.1.1.1.1.1.1.2.2.2.2.1 h2_.1.1|exact h1_.1.1.1.1.1.1.1.1.1.1.1.2.2.2.2.2 h2_.1.1|exact h1_.1.1.1.1.1.1.1.1.1.1.1.2.2.2.2.2.1 h2_.1.1|exact h1_.1.1.1.1.1.1.1.1.1.1.1.2.2.2.2.2.2 h2_.1.1|exact h1_.1.1.1.1.1.1.1.1.1.1.1.2.2.2.2.2.2.1 h2_.1.1|exact h1_.1.1.1.1.1.1.1.1.1.1.1.1 h2_.1.1|exact h1_.1.1.1.1.1.1.1.1.1.1.1.1.1 h2_.1.1|exact h1_.1.1.1.1.1.1.1.1.1.1.1.1.2 h2_.1.1|exact h1_.1.1.1.1.1.1.1.1.1.1.1.1.2.1 h2_.1.1|exact h1_.1.1.1.1.1.1.1.1.1.1.1.1.2.2 h2_.1.1|exact h1_.1.1.1.1.1.1.1.1.1.1.1.1.2.2.1 h2_.1.1|exact h1_.1.1.1.1.1.1.1.1.1.1.1.1.2.2.2 h2_.1.1|exact h1_.1.1.1.1.1.1.1.1.1.1.1.1.2.2.2.1 h2_.1.1|exact h1_.1.1.1.1.1.1.1.1.1.1.1.1.2.2.2.2 h2_.1.1|exact h1_.1.1.1.1.1.1.1.1.1.1.1.1.2.2.2.2.1 h2_.1.1|exact h1_.1.1.1.1.1.1.1.1.1.1.1.1.2.2.2.2.2 h2_.1.1|exact h1_.1.1.1.1.1.1.1.1.1.1.1.1.2.2.2.2.2.1 h2_.1.1|exact h1_.1.1.1.1.1.1.1.1.1.1.1.1.2.2.2.2.2.2 h2_.1.1|exact h1_.1.1.1.1.1.1.1.1.1.1.1.1.2.2.2.2.2.2.1 h2_.1.1);rintro e w9 ⟨rfl,s0_,s1_,s2_,hb_,hk_⟩;refine⟨_,rfl,?_⟩;have n0_:=Aside0.mk (Kd.R_reok rfl (Kd.R_kept (ok:=fun k_=>some k_= (v420:Value).ownBlock) (by(with_reducible repeat(first|apply Kd.R_alloc|apply Kd.R_drewN|apply Kd.R_drew));exact Kd.R_tight rfl HO_6.out) hk_ (fun k_ e_ h_=>by rcases h_ with h_|h_|h_<;>first|exact h_ e_|exact h_.1 e_|exact h_.2 e_|exact h_.2.1 e_|exact h_.2.2 e_|exact h_.2.2.1 e_|exact h_.2.2.2 e_|exact h_.2.2.2.1 e_|exact h_.2.2.2.2 e_|exact h_.2.2.2.2.1 e_|exact h_.2.2.2.2.2 e_|exact h_.2.2.2.2.2.1 e_|exact h_.2.2.2.2.2.2 e_|exact h_.2.2.2.2.2.2.1 e_|exact h_.1 e_|exact h_.1.1 e_|exact h_.1.2 e_|exact h_.1.2.1 e_|exact h_.1.2.2 e_|exact h_.1.2.2.1 e_|exact h_.1.2.2.2 e_|exact h_.1.2.2.2.1 e_|exact h_.1.2.2.2.2 e_|exact h_.1.2.2.2.2.1 e_|exact h_.1.2.2.2.2.2 e_|exact h_.1.2.2.2.2.2.1 e_|exact h_.1.2.2.2.2.2.2 e_|exact h_.1.2.2.2.2.2.2.1 e_|exact h_.1.1 e_|exact h_.1.1.1 e_|exact h_.1.1.2 e_|exact h_.1.1.2.1 e_|exact h_.1.1.2.2 e_|exact h_.1.1.2.2.1 e_|exact h_.1.1.2.2.2 e_|exact h_.1.1.2.2.2.1 e_|exact h_.1.1.2.2.2.2 e_|exact h_.1.1.2.2.2.2.1 e_|exact h_.1.1.2.2.2.2.2 e_|exact h_.1.1.2.2.2.2.2.1 e_|exact h_.1.1.2.2.2.2.2.2 e_|exact h_.1.1.2.2.2.2.2.2.1 e_|exact h_.1.1.1 e_|exact h_.1.1.1.1 e_|exact h_.1.1.1.2 e_|exact h_.1.1.1.2.1 e_|exact h_.1.1.1.2.2 e_|exact h_.1.1.1.2.2.1 e_|exact h_.1.1.1.2.2.2 e_|exact h_.1.1.1.2.2.2.1 e_|exact h_.1.1.1.2.2.2.2 e_|exact h_.1.1.1.2.2.2.2.1 e_|exact h_.1.1.1.2.2.2.2.2 e_|exact h_.1.1.1.2.2.2.2.2.1 e_|exact h_.1.1.1.2.2.2.2.2.2 e_|exact h_.1.1.1.2.2.2.2.2.2.1 e_|exact h_.1.1.1.1 e_|exact h_.1.1.1.1.1 e_|exact h_.1.1.1.1.2 e_|exact h_.1.1.1.1.2.1 e_|exact h_.1.1.1.1.2.2 e_|exact h_.1.1.1.1.2.2.1 e_|exact h_.1.1.1.1.2.2.2 e_|exact h_.1.1.1.1.2.2.2.1 e_|exact h_.1.1.1.1.2.2.2.2 e_|exact h_.1.1.1.1.2.2.2.2.1 e_|exact h_.1.1.1.1.2.2.2.2.2 e_|exact h_.1.1.1.1.2.2.2.2.2.1 e_|exact h_.1.1.1.1.2.2.2.2.2.2 e_|exact h_.1.1.1.1.2.2.2.2.2.2.1 e_|exact h_.1.1.1.1.1 e_|exact h_.1.1.1.1.1.1 e_|exact h_.1.1.1.1.1.2 e_|exact h_.1.1.1.1.1.2.1 e_|exact h_.1.1.1.1.1.2.2 e_|exact h_.1.1.1.1.1.2.2.1 e_|exact h_.1.1.1.1.1.2.2.2 e_|exact h_.1.1.1.1.1.2.2.2.1 e_|exact h_.1.1.1.1.1.2.2.2.2 e_|exact h_.1.1.1.1.1.2.2.2.2.1 e_|exact h_.1.1.1.1.1.2.2.2.2.2 e_|exact h_.1.1.1.1.1.2.2.2.2.2.1 e_|exact h_.1.1.1.1.1.2.2.2.2.2.2 e_|exact h_.1.1.1.1.1.2.2.2.2.2.2.1 e_|exact h_.1.1.1.1.1.1 e_|exact h_.1.1.1.1.1.1.1 e_|exact h_.1.1.1.1.1.1.2 e_|exact h_.1.1.1.1.1.1.2.1 e_|exact h_.1.1.1.1.1.1.2.2 e_|exact h_.1.1.1.1.1.1.2.2.1 e_|exact h_.1.1.1.1.1.1.2.2.2 e_|exact h_.1.1.1.1.1.1.2.2.2.1 e_|exact h_.1.1.1.1.1.1.2.2.2.2 e_|exact h_.1.1.1.1.1.1.2.2.2.2.1 e_|exact h_.1.1.1.1.1.1.2.2.2.2.2 e_|exact h_.1.1.1.1.1.1.2.2.2.2.2.1 e_|exact h_.1.1.1.1.1.1.2.2.2.2.2.2 e_|exact h_.1.1.1.1.1.1.2.2.2.2.2.2.1 e_|exact h_.1.1.1.1.1.1.1 e_|exact h_.1.1.1.1.1.1.1.1 e_|exact h_.1.1.1.1.1.1.1.2 e_|exact h_.1.1.1.1.1.1.1.2.1 e_|exact h_.1.1.1.1.1.1.1.2.2 e_|exact h_.1.1.1.1.1.1.1.2.2.1 e_|exact h_.1.1.1.1.1.1.1.2.2.2 e_|exact h_.1.1.1.1.1.1.1.2.2.2.1 e_|exact h_.1.1.1.1.1.1.1.2.2.2.2 e_|exact h_.1.1.1.1.1.1.1.2.2.2.2.1 e_|exact h_.1.1.1.1.1.1.1.2.2.2.2.2 e_|exact h_.1.1.1.1.1.1.1.2.2.2.2.2.1 e_|exact h_.1.1.1.1.1.1.1.2.2.2.2.2.2 e_|exact h_.1.1.1.1.1.1.1.2.2.2.2.2.2.1 e_|exact h_.1.1.1.1.1.1.1.1 e_|exact h_.1.1.1.1.1.1.1.1.1 e_|exact h_.1.1.1.1.1.1.1.1.2 e_|exact h_.1.1.1.1.1.1.1.1.2.1 e_|exact h_.1.1.1.1.1.1.1.1.2.2 e_|exact h_.1.1.1.1.1.1.1.1.2.2.1 e_|exact h_.1.1.1.1.1.1.1.1.2.2.2 e_|exact h_.1.1.1.1.1.1.1.1.2.2.2.1 e_|exact h_.1.1.1.1.1.1.1.1.2.2.2.2 e_|exact h_.1.1.1.1.1.1.1.1.2.2.2.2.1 e_|exact h_.1.1.1.1.1.1.1.1.2.2.2.2.2 e_|exact h_.1.1.1.1.1.1.1.1.2.2.2.2.2.1 e_|exact h_.1.1.1.1.1.1.1.1.2.2.2.2.2.2 e_|exact h_.1.1.1.1.1.1.1.1.2.2.2.2.2.2.1 e_|exact h_.1.1.1.1.1.1.1.1.1 e_|exact h_.1.1.1.1.1.1.1.1.1.1 e_|exact h_.1.1.1.1.1.1.1.1.1.2 e_|exact h_.1.1.1.1.1.1.1.1.1.2.1 e_|exact h_.1.1.1.1.1.1.1.1.1.2.2 e_|exact h_.1.1.1.1.1.1.1.1.1.2.2.1 e_|exact h_.1.1.1.1.1.1.1.1.1.2.2.2 e_|exact h_.1.1.1.1.1.1.1.1.1.2.2.2.1 e_|exact h_.1.1.1.1.1.1.1.1.1.2.2.2.2 e_|exact h_.1.1.1.1.1.1.1.1.1.2.2.2.2.1 e_|exact h_.1.1.1.1.1.1.1.1.1.2.2.2.2.2 e_|exact h_.1.1.1.1.1.1.1.1.1.2.2.2.2.2.1 e_|exact h_.1.1.1.1.1.1.1.1.1.2.2.2.2.2.2 e_|exact h_.1.1.1.1.1.1.1.1.1.2.2.2.2.2.2.1 e_|exact h_.1.1.1.1.1.1.1.1.1.1 e_|exact h_.1.1.1.1.1.1.1.1.1.1.1 e_|exact h_.1.1.1.1.1.1.1.1.1.1.2 e_|exact h_.1.1.1.1.1.1.1.1.1.1.2.1 e_|exact h_.1.1.1.1.1.1.1.1.1.1.2.2 e_|exact h_.1.1.1.1.1.1.1.1.1.1.2.2.1 e_|exact h_.1.1.1.1.1.1.1.1.1.1.2.2.2 e_|exact h_.1.1.1.1.1.1.1.1.1.1.2.2.2.1 e_|exact h_.1.1.1.1.1.1.1.1.1.1.2.2.2.2 e_|exact h_.1.1.1.1.1.1.1.1.1.1.2.2.2.2.1 e_|exact h_.1.1.1.1.1.1.1.1.1.1.2.2.2.2.2 e_|exact h_.1.1.1.1.1.1.1.1.1.1.2.2.2.2.2.1 e_|exact h_.1.1.1.1.1.1.1.1.1.1.2.2.2.2.2.2 e_|exact h_.1.1.1.1.1.1.1.1.1.1.2.2.2.2.2.2.1 e_|exact h_.1.1.1.1.1.1.1.1.1.1.1 e_|exact h_.1.1.1.1.1.1.1.1.1.1.1.1 e_|exact h_.1.1.1.1.1.1.1.1.1.1.1.2 e_|exact h_.1.1.1.1.1.1.1.1.1.1.1.2.1 e_|exact h_.1.1.1.1.1.1.1.1.1.1.1.2.2 e_|exact h_.1.1.1.1.1.1.1.1.1.1.1.2.2.1 e_|exact h_.1.1.1.1.1.1.1.1.1.1.1.2.2.2 e_|exact h_.1.1.1.1.1.1.1.1.1.1.1.2.2.2.1 e_|exact h_.1.1.1.1.1.1.1.1.1.1.1.2.2.2.2 e_|exact h_.1.1.1.1.1.1.1.1.1.1.1.2.2.2.2.1 e_|exact h_.1.1.1.1.1.1.1.1.1.1.1.2.2.2.2.2 e_|exact h_.1.1.1.1.1.1.1.1.1.1.1.2.2.2.2.2.1 e_|exact h_.1.1.1.1.1.1.1.1.1.1.1.2.2.2.2.2.2 e_|exact h_.1.1.1.1.1.1.1.1.1.1.1.2.2.2.2.2.2.1 e_|exact h_.1.1.1.1.1.1.1.1.1.1.1.1 e_|exact h_.1.1.1.1.1.1.1.1.1.1.1.1.1 e_|exact h_.1.1.1.1.1.1.1.1.1.1.1.1.2 e_|exact h_.1.1.1.1.1.1.1.1.1.1.1.1.2.1 e_|exact h_.1.1.1.1.1.1.1.1.1.1.1.1.2.2 e_|exact h_.1.1.1.1.1.1.1.1.1.1.1.1.2.2.1 e_|exact h_.1.1.1.1.1.1.1.1.1.1.1.1.2.2.2 e_|exact h_.1.1.1.1.1.1.1.1.1.1.1.1.2.2.2.1 e_|exact h_.1.1.1.1.1.1.1.1.1.1.1.1.2.2.2.2 e_|exact h_.1.1.1.1.1.1.1.1.1.1.1.1.2.2.2.2.1 e_|exact h_.1.1.1.1.1.1.1.1.1.1.1.1.2.2.2.2.2 e_|exact h_.1.1.1.1.1.1.1.1.1.1.1.1.2.2.2.2.2.1 e_|exact h_.1.1.1.1.1.1.1.1.1.1.1.1.2.2.2.2.2.2 e_|exact h_.1.1.1.1.1.1.1.1.1.1.1.1.2.2.2.2.2.2.1 e_|exact(HO_6.out.1 k_ e_.symm) h_.1.1|exact(HO_6.out.1 k_ e_.symm).1 h_.1.1|exact(HO_6.out.1 k_ e_.symm).2 h_.1.1|exact(HO_6.out.1 k_ e_.symm).2.1 h_.1.1|exact(HO_6.out.1 k_ e_.symm).2.2 h_.1.1|exact(HO_6.out.1 k_ e_.symm).2.2.1 h_.1.1|exact(HO_6.out.1 k_ e_.symm).2.2.2 h_.1.1|exact(HO_6.out.1 k_ e_.symm).2.2.2.1 h_.1.1|exact(HO_6.out.1 k_ e_.symm).2.2.2.2 h_.1.1|exact(HO_6.out.1 k_ e_.symm).2.2.2.2.1 h_.1.1|exact(HO_6.out.1 k_ e_.symm).2.2.2.2.2 h_.1.1|exact(HO_6.out.1 k_ e_.symm).2.2.2.2.2.1 h_.1.1|exact(HO_6.out.1 k_ e_.symm).1 h_.1.1|exact(HO_6.out.1 k_ e_.symm).1.1 h_.1.1|exact(HO_6.out.1 k_ e_.symm).1.2 h_.1.1|exact(HO_6.out.1 k_ e_.symm).1.2.1 h_.1.1|exact(HO_6.out.1 k_ e_.symm).1.2.2 h_.1.1|exact(HO_6.out.1 k_ e_.symm).1.2.2.1 h_.1.1|exact(HO_6.out.1 k_ e_.symm).1.2.2.2 h_.1.1|exact(HO_6.out.1 k_ e_.symm).1.2.2.2.1 h_.1.1|exact(HO_6.out.1 k_ e_.symm).1.2.2.2.2 h_.1.1|exact(HO_6.out.1 k_ e_.symm).1.2.2.2.2.1 h_.1.1|exact(HO_6.out.1 k_ e_.symm).1.2.2.2.2.2 h_.1.1|exact(HO_6.out.1 k_ e_.symm).1.2.2.2.2.2.1 h_.1.1|exact(HO_6.out.1 k_ e_.symm).1.1 h_.1.1|exact(HO_6.out.1 k_ e_.symm).1.1.1 h_.1.1|exact(HO_6.out.1 k_ e_.symm).1.1.2 h_.1.1|exact(HO_6.out.1 k_ e_.symm).1.1.2.1 h_.1.1|exact(HO_6.out.1 k_ e_.symm).1.1.2.2 h_.1.1|exact(HO_6.out.1 k_ e_.symm).1.1.2.2.1 h_.1.1|exact(HO_6.out.1 k_ e_.symm).1.1.2.2.2 h_.1.1|exact(HO_6.out.1 k_ e_.symm).1.1.2.2.2.1 h_.1.1|exact(HO_6.out.1 k_ e_.symm).1.1.2.2.2.2 h_.1.1|exact(HO_6.out.1 k_ e_.symm).1.1.2.2.2.2.1 h_.1.1|exact(HO_6.out.1 k_ e_.symm).1.1.2.2.2.2.2 h_.1.1|exact(HO_6.out.1 k_ e_.symm).1.1.2.2.2.2.2.1 h_.1.1|exact(HO_6.out.1 k_ e_.symm).1.1.1 h_.1.1|exact(HO_6.out.1 k_ e_.symm).1.1.1.1 h_.1.1|exact(HO_6.out.1 k_ e_.symm).1.1.1.2 h_.1.1|exact(HO_6.out.1 k_ e_.symm).1.1.1.2.1 h_.1.1|exact(HO_6.out.1 k_ e_.symm).1.1.1.2.2 h_.1.1|exact(HO_6.out.1 k_ e_.symm).1.1.1.2.2.1 h_.1.1|exact(HO_6.out.1 k_ e_.symm).1.1.1.2.2.2 h_.1.1|exact(HO_6.out.1 k_ e_.symm).1.1.1.2.2.2.1 h_.1.1|exact(HO_6.out.1 k_ e_.symm).1.1.1.2.2.2.2 h_.1.1|exact(HO_6.out.1 k_ e_.symm).1.1.1.2.2.2.2.1 h_.1.1|exact(HO_6.out.1 k_ e_.symm).1.1.1.2.2.2.2.2 h_.1.1|exact(HO_6.out.1 k_ e_.symm).1.1.1.2.2.2.2.2.1 h_.1.1|exact(HO_6.out.1 k_ e_.symm).1.1.1.1 h_.1.1|exact(HO_6.out.1 k_ e_.symm).1.1.1.1.1 h_.1.1|exact(HO_6.out.1 k_ e_.symm).1.1.1.1.2 h_.1.1|exact(HO_6.out.1 k_ e_.symm).1.1.1.1.2.1 h_.1.1|exact(HO_6.out.1 k_ e_.symm).1.1.1.1.2.2 h_.1.1|exact(HO_6.out.1 k_ e_.symm).1.1.1.1.2.2.1 h_.1.1|exact(HO_6.out.1 k_ e_.symm).1.1.1.1.2.2.2 h_.1.1|exact(HO_6.out.1 k_ e_.symm).1.1.1.1.2.2.2.1 h_.1.1|exact(HO_6.out.1 k_ e_.symm).1.1.1.1.2.2.2.2 h_.1.1|exact(HO_6.out.1 k_ e_.symm).1.1.1.1.2.2.2.2.1 h_.1.1|exact(HO_6.out.1 k_ e_.symm).1.1.1.1.2.2.2.2.2 h_.1.1|exact(HO_6.out.1 k_ e_.symm).1.1.1.1.2.2.2.2.2.1 h_.1.1|exact(HO_6.out.1 k_ e_.symm).1.1.1.1.1 h_.1.1|exact(HO_6.out.1 k_ e_.symm).1.1.1.1.1.1 h_.1.1|exact(HO_6.out.1 k_ e_.symm).1.1.1.1.1.2 h_.1.1|exact(HO_6.out.1 k_ e_.symm).1.1.1.1.1.2.1 h_.1.1|exact(HO_6.out.1 k_ e_.symm).1.1.1.1.1.2.2 h_.1.1|exact(HO_6.out.1 k_ e_.symm).1.1.1.1.1.2.2.1 h_.1.1|exact(HO_6.out.1 k_ e_.symm).1.1.1.1.1.2.2.2 h_.1.1|exact(HO_6.out.1 k_ e_.symm).1.1.1.1.1.2.2.2.1 h_.1.1|exact(HO_6.out.1 k_ e_.symm).1.1.1.1.1.2.2.2.2 h_.1.1|exact(HO_6.out.1 k_ e_.symm).1.1.1.1.1.2.2.2.2.1 h_.1.1|exact(HO_6.out.1 k_ e_.symm).1.1.1.1.1.2.2.2.2.2 h_.1.1|exact(HO_6.out.1 k_ e_.symm).1.1.1.1.1.2.2.2.2.2.1 h_.1.1)) (fun k_ e_=>HO_6.out.1 k_ e_));have n1_:=Aside0.mk (Kd.R_reok rfl (Kd.R_kept (ok:=fun k_=>some k_= ((.slice Ao38 t433.length co38):Value).ownBlock) (by(with_reducible repeat(first|apply Kd.R_alloc|apply Kd.R_drewN|apply Kd.R_drew));exact Kd.R_tight rfl HO_9.out) hk_ (fun k_ e_ h_=>by rcases h_ with h_|h_|h_<;>first|exact h_ e_|exact h_.1 e_|exact h_.2 e_|exact h_.2.1 e_|exact h_.2.2 e_|exact h_.2.2.1 e_|exact h_.2.2.2 e_|exact h_.2.2.2.1 e_|exact h_.2.2.2.2 e_|exact h_.2.2.2.2.1 e_|exact h_.2.2.2.2.2 e_|exact h_.2.2.2.2.2.1 e_|exact h_.2.2.2.2.2.2 e_|exact h_.2.2.2.2.2.2.1 e_|exact h_.1 e_|exact h_.1.1 e_|exact h_.1.2 e_|exact h_.1.2.1 e_|exact h_.1.2.2 e_|exact h_.1.2.2.1 e_|exact h_.1.2.2.2 e_|exact h_.1.2.2.2.1 e_|exact h_.1.2.2.2.2 e_|exact h_.1.2.2.2.2.1 e_|exact h_.1.2.2.2.2.2 e_|exact h_.1.2.2.2.2.2.1 e_|exact h_.1.2.2.2.2.2.2 e_|exact h_.1.2.2.2.2.2.2.1 e_|exact h_.1.1 e_|exact h_.1.1.1 e_|exact h_.1.1.2 e_|exact h_.1.1.2.1 e_|exact h_.1.1.2.2 e_|exact h_.1.1.2.2.1 e_|exact h_.1.1.2.2.2 e_|exact h_.1.1.2.2.2.1 e_|exact h_.1.1.2.2.2.2 e_|exact h_.1.1.2.2.2.2.1 e_|exact h_.1.1.2.2.2.2.2 e_|exact h_.1.1.2.2.2.2.2.1 e_|exact h_.1.1.2.2.2.2.2.2 e_|exact h_.1.1.2.2.2.2.2.2.1 e_|exact h_.1.1.1 e_|exact h_.1.1.1.1 e_|exact h_.1.1.1.2 e_|exact h_.1.1.1.2.1 e_|exact h_.1.1.1.2.2 e_|exact h_.1.1.1.2.2.1 e_|exact h_.1.1.1.2.2.2 e_|exact h_.1.1.1.2.2.2.1 e_|exact h_.1.1.1.2.2.2.2 e_|exact h_.1.1.1.2.2.2.2.1 e_|exact h_.1.1.1.2.2.2.2.2 e_|exact h_.1.1.1.2.2.2.2.2.1 e_|exact h_.1.1.1.2.2.2.2.2.2 e_|exact h_.1.1.1.2.2.2.2.2.2.1 e_|exact h_.1.1.1.1 e_|exact h_.1.1.1.1.1 e_|exact h_.1.1.1.1.2 e_|exact h_.1.1.1.1.2.1 e_|exact h_.1.1.1.1.2.2 e_|exact h_.1.1.1.1.2.2.1 e_|exact h_.1.1.1.1.2.2.2 e_|exact h_.1.1.1.1.2.2.2.1 e_|exact h_.1.1.1.1.2.2.2.2 e_|exact h_.1.1.1.1.2.2.2.2.1 e_|exact h_.1.1.1.1.2.2.2.2.2 e_|exact h_.1.1.1.1.2.2.2.2.2.1 e_|exact h_.1.1.1.1.2.2.2.2.2.2 e_|exact h_.1.1.1.1.2.2.2.2.2.2.1 e_|exact h_.1.1.1.1.1 e_|exact h_.1.1.1.1.1.1 e_|exact h_.1.1.1.1.1.2 e_|exact h_.1.1.1.1.1.2.1 e_|exact h_.1.1.1.1.1.2.2 e_|exact h_.1.1.1.1.1.2.2.1 e_|exact h_.1.1.1.1.1.2.2.2 e_|exact h_.1.1.1.1.1.2.2.2.1 e_|exact h_.1.1.1.1.1.2.2.2.2 e_|exact h_.1.1.1.1.1.2.2.2.2.1 e_|exact h_.1.1.1.1.1.2.2.2.2.2 e_|exact h_.1.1.1.1.1.2.2.2.2.2.1 e_|exact h_.1.1.1.1.1.2.2.2.2.2.2 e_|exact h_.1.1.1.1.1.2.2.2.2.2.2.1 e_|exact h_.1.1.1.1.1.1 e_|exact h_.1.1.1.1.1.1.1 e_|exact h_.1.1.1.1.1.1.2 e_|exact h_.1.1.1.1.1.1.2.1 e_|exact h_.1.1.1.1.1.1.2.2 e_|exact h_.1.1.1.1.1.1.2.2.1 e_|exact h_.1.1.1.1.1.1.2.2.2 e_|exact h_.1.1.1.1.1.1.2.2.2.1 e_|exact h_.1.1.1.1.1.1.2.2.2.2 e_|exact h_.1.1.1.1.1.1.2.2.2.2.1 e_|exact h_.1.1.1.1.1.1.2.2.2.2.2 e_|exact h_.1.1.1.1.1.1.2.2.2.2.2.1 e_|exact h_.1.1.1.1.1.1.2.2.2.2.2.2 e_|exact h_.1.1.1.1.1.1.2.2.2.2.2.2.1 e_|exact h_.1.1.1.1.1.1.1 e_|exact h_.1.1.1.1.1.1.1.1 e_|exact h_.1.1.1.1.1.1.1.2 e_|exact h_.1.1.1.1.1.1.1.2.1 e_|exact h_.1.1.1.1.1.1.1.2.2 e_|exact h_.1.1.1.1.1.1.1.2.2.1 e_|exact h_.1.1.1.1.1.1.1.2.2.2 e_|exact h_.1.1.1.1.1.1.1.2.2.2.1 e_|exact h_.1.1.1.1.1.1.1.2.2.2.2 e_|exact h_.1.1.1.1.1.1.1.2.2.2.2.1 e_|exact h_.1.1.1.1.1.1.1.2.2.2.2.2 e_|exact h_.1.1.1.1.1.1.1.2.2.2.2.2.1 e_|exact h_.1.1.1.1.1.1.1.2.2.2.2.2.2 e_|exact h_.1.1.1.1.1.1.1.2.2.2.2.2.2.1 e_|exact h_.1.1.1.1.1.1.1.1 e_|exact h_.1.1.1.1.1.1.1.1.1 e_|exact h_.1.1.1.1.1.1.1.1.2 e_|exact h_.1.1.1.1.1.1.1.1.2.1 e_|exact h_.1.1.1.1.1.1.1.1.2.2 e_|exact h_.1.1.1.1.1.1.1.1.2.2.1 e_|exact h_.1.1.1.1.1.1.1.1.2.2.2 e_|exact h_.1.1.1.1.1.1.1.1.2.2.2.1 e_|exact h_.1.1.1.1.1.1.1.1.2.2.2.2 e_|exact h_.1.1.1.1.1.1.1.1.2.2.2.2.1 e_|exact h_.1.1.1.1.1.1.1.1.2.2.2.2.2 e_|exact h_.1.1.1.1.1.1.1.1.2.2.2.2.2.1 e_|exact h_.1.1.1.1.1.1.1.1.2.2.2.2.2.2 e_|exact h_.1.1.1.1.1.1.1.1.2.2.2.2.2.2.1 e_|exact h_.1.1.1.1.1.1.1.1.1 e_|exact h_.1.1.1.1.1.1.1.1.1.1 e_|exact h_.1.1.1.1.1.1.1.1.1.2 e_|exact h_.1.1.1.1.1.1.1.1.1.2.1 e_|exact h_.1.1.1.1.1.1.1.1.1.2.2 e_|exact h_.1.1.1.1.1.1.1.1.1.2.2.1 e_|exact h_.1.1.1.1.1.1.1.1.1.2.2.2 e_|exact h_.1.1.1.1.1.1.1.1.1.2.2.2.1 e_|exact h_.1.1.1.1.1.1.1.1.1.2.2.2.2 e_|exact h_.1.1.1.1.1.1.1.1.1.2.2.2.2.1 e_|exact h_.1.1.1.1.1.1.1.1.1.2.2.2.2.2 e_|exact h_.1.1.1.1.1.1.1.1.1.2.2.2.2.2.1 e_|exact h_.1.1.1.1.1.1.1.1.1.2.2.2.2.2.2 e_|exact h_.1.1.1.1.1.1.1.1.1.2.2.2.2.2.2.1 e_|exact h_.1.1.1.1.1.1.1.1.1.1 e_|exact h_.1.1.1.1.1.1.1.1.1.1.1 e_|exact h_.1.1.1.1.1.1.1.1.1.1.2 e_|exact h_.1.1.1.1.1.1.1.1.1.1.2.1 e_|exact h_.1.1.1.1.1.1.1.1.1.1.2.2 e_|exact h_.1.1.1.1.1.1.1.1.1.1.2.2.1 e_|exact h_.1.1.1.1.1.1.1.1.1.1.2.2.2 e_|exact h_.1.1.1.1.1.1.1.1.1.1.2.2.2.1 e_|exact h_.1.1.1.1.1.1.1.1.1.1.2.2.2.2 e_|exact h_.1.1.1.1.1.1.1.1.1.1.2.2.2.2.1 e_|exact h_.1.1.1.1.1.1.1.1.1.1.2.2.2.2.2 e_|exact h_.1.1.1.1.1.1.1.1.1.1.2.2.2.2.2.1 e_|exact h_.1.1.1.1.1.1.1.1.1.1.2.2.2.2.2.2 e_|exact h_.1.1.1.1.1.1.1.1.1.1.2.2.2.2.2.2.1 e_|exact h_.1.1.1.1.1.1.1.1.1.1.1 e_|exact h_.1.1.1.1.1.1.1.1.1.1.1.1 e_|exact h_.1.1.1.1.1.1.1.1.1.1.1.2 e_|exact h_.1.1.1.1.1.1.1.1.1.1.1.2.1 e_|exact h_.1.1.1.1.1.1.1.1.1.1.1.2.2 e_|exact h_.1.1.1.1.1.1.1.1.1.1.1.2.2.1 e_|exact h_.1.1.1.1.1.1.1.1.1.1.1.2.2.2 e_|exact h_.1.1.1.1.1.1.1.1.1.1.1.2.2.2.1 e_|exact h_.1.1.1.1.1.1.1.1.1.1.1.2.2.2.2 e_|exact h_.1.1.1.1.1.1.1.1.1.1.1.2.2.2.2.1 e_|exact h_.1.1.1.1.1.1.1.1.1.1.1.2.2.2.2.2 e_|exact h_.1.1.1.1.1.1.1.1.1.1.1.2.2.2.2.2.1 e_|exact h_.1.1.1.1.1.1.1.1.1.1.1.2.2.2.2.2.2 e_|exact h_.1.1.1.1.1.1.1.1.1.1.1.2.2.2.2.2.2.1 e_|exact h_.1.1.1.1.1.1.1.1.1.1.1.1 e_|exact h_.1.1.1.1.1.1.1.1.1.1.1.1.1 e_|exact h_.1.1.1.1.1.1.1.1.1.1.1.1.2 e_|exact h_.1.1.1.1.1.1.1.1.1.1.1.1.2.1 e_|exact h_.1.1.1.1.1.1.1.1.1.1.1.1.2.2 e_|exact h_.1.1.1.1.1.1.1.1.1.1.1.1.2.2.1 e_|exact h_.1.1.1.1.1.1.1.1.1.1.1.1.2.2.2 e_|exact h_.1.1.1.1.1.1.1.1.1.1.1.1.2.2.2.1 e_|exact h_.1.1.1.1.1.1.1.1.1.1.1.1.2.2.2.2 e_|exact h_.1.1.1.1.1.1.1.1.1.1.1.1.2.2.2.2.1 e_|exact h_.1.1.1.1.1.1.1.1.1.1.1.1.2.2.2.2.2 e_|exact h_.1.1.1.1.1.1.1.1.1.1.1.1.2.2.2.2.2.1 e_|exact h_.1.1.1.1.1.1.1.1.1.1.1.1.2.2.2.2.2.2 e_|exact h_.1.1.1.1.1.1.1.1.1.1.1.1.2.2.2.2.2.2.1 e_|exact(HO_9.out.1 k_ e_.symm) h_.1.1|exact(HO_9.out.1 k_ e_.symm).1 h_.1.1|exact(HO_9.out.1 k_ e_.symm).2 h_.1.1|exact(HO_9.out.1 k_ e_.symm).2.1 h_.1.1|exact(HO_9.out.1 k_ e_.symm).2.2 h_.1.1|exact(HO_9.out.1 k_ e_.symm).2.2.1 h_.1.1|exact(HO_9.out.1 k_ e_.symm).2.2.2 h_.1.1|exact(HO_9.out.1 k_ e_.symm).2.2.2.1 h_.1.1|exact(HO_9.out.1 k_ e_.symm).2.2.2.2 h_.1.1|exact(HO_9.out.1 k_ e_.symm).2.2.2.2.1 h_.1.1|exact(HO_9.out.1 k_ e_.symm).2.2.2.2.2 h_.1.1|exact(HO_9.out.1 k_ e_.symm).2.2.2.2.2.1 h_.1.1|exact(HO_9.out.1 k_ e_.symm).1 h_.1.1|exact(HO_9.out.1 k_ e_.symm).1.1 h_.1.1|exact(HO_9.out.1 k_ e_.symm).1.2 h_.1.1|exact(HO_9.out.1 k_ e_.symm).1.2.1 h_.1.1|exact(HO_9.out.1 k_ e_.symm).1.2.2 h_.1.1|exact(HO_9.out.1 k_ e_.symm).1.2.2.1 h_.1.1|exact(HO_9.out.1 k_ e_.symm).1.2.2.2 h_.1.1|exact(HO_9.out.1 k_ e_.symm).1.2.2.2.1 h_.1.1|exact(HO_9.out.1 k_ e_.symm).1.2.2.2.2 h_.1.1|exact(HO_9.out.1 k_ e_.symm).1.2.2.2.2.1 h_.1.1|exact(HO_9.out.1 k_ e_.symm).1.2.2.2.2.2 h_.1.1|exact(HO_9.out.1 k_ e_.symm).1.2.2.2.2.2.1 h_.1.1|exact(HO_9.out.1 k_ e_.symm).1.1 h_.1.1|exact(HO_9.out.1 k_ e_.symm).1.1.1 h_.1.1|exact(HO_9.out.1 k_ e_.symm).1.1.2 h_.1.1|exact(HO_9.out.1 k_ e_.symm).1.1.2.1 h_.1.1|exact(HO_9.out.1 k_ e_.symm).1.1.2.2 h_.1.1|exact(HO_9.out.1 k_ e_.symm).1.1.2.2.1 h_.1.1|exact(HO_9.out.1 k_ e_.symm).1.1.2.2.2 h_.1.1|exact(HO_9.out.1 k_ e_.symm).1.1.2.2.2.1 h_.1.1|exact(HO_9.out.1 k_ e_.symm).1.1.2.2.2.2 h_.1.1|exact(HO_9.out.1 k_ e_.symm).1.1.2.2.2.2.1 h_.1.1|exact(HO_9.out.1 k_ e_.symm).1.1.2.2.2.2.2 h_.1.1|exact(HO_9.out.1 k_ e_.symm).1.1.2.2.2.2.2.1 h_.1.1|exact(HO_9.out.1 k_ e_.symm).1.1.1 h_.1.1|exact(HO_9.out.1 k_ e_.symm).1.1.1.1 h_.1.1|exact(HO_9.out.1 k_ e_.symm).1.1.1.2 h_.1.1|exact(HO_9.out.1 k_ e_.symm).1.1.1.2.1 h_.1.1|exact(HO_9.out.1 k_ e_.symm).1.1.1.2.2 h_.1.1|exact(HO_9.out.1 k_ e_.symm).1.1.1.2.2.1 h_.1.1|exact(HO_9.out.1 k_ e_.symm).1.1.1.2.2.2 h_.1.1|exact(HO_9.out.1 k_ e_.symm).1.1.1.2.2.2.1 h_.1.1|exact(HO_9.out.1 k_ e_.symm).1.1.1.2.2.2.2 h_.1.1|exact(HO_9.out.1 k_ e_.symm).1.1.1.2.2.2.2.1 h_.1.1|exact(HO_9.out.1 k_ e_.symm).1.1.1.2.2.2.2.2 h_.1.1|exact(HO_9.out.1 k_ e_.symm).1.1.1.2.2.2.2.2.1 h_.1.1|exact(HO_9.out.1 k_ e_.symm).1.1.1.1 h_.1.1|exact(HO_9.out.1 k_ e_.symm).1.1.1.1.1 h_.1.1|exact(HO_9.out.1 k_ e_.symm).1.1.1.1.2 h_.1.1|exact(HO_9.out.1 k_ e_.symm).1.1.1.1.2.1 h_.1.1|exact(HO_9.out.1 k_ e_.symm).1.1.1.1.2.2 h_.1.1|exact(HO_9.out.1 k_ e_.symm).1.1.1.1.2.2.1 h_.1.1|exact(HO_9.out.1 k_ e_.symm).1.1.1.1.2.2.2 h_.1.1|exact(HO_9.out.1 k_ e_.symm).1.1.1.1.2.2.2.1 h_.1.1|exact(HO_9.out.1 k_ e_.symm).1.1.1.1.2.2.2.2 h_.1.1|exact(HO_9.out.1 k_ e_.symm).1.1.1.1.2.2.2.2.1 h_.1.1|exact(HO_9.out.1 k_ e_.symm).1.1.1.1.2.2.2.2.2 h_.1.1|exact(HO_9.out.1 k_ e_.symm).1.1.1.1.2.2.2.2.2.1 h_.1.1|exact(HO_9.out.1 k_ e_.symm).1.1.1.1.1 h_.1.1|exact(HO_9.out.1 k_ e_.symm).1.1.1.1.1.1 h_.1.1|exact(HO_9.out.1 k_ e_.symm).1.1.1.1.1.2 h_.1.1|exact(HO_9.out.1 k_ e_.symm).1.1.1.1.1.2.1 h_.1.1|exact(HO_9.out.1 k_ e_.symm).1.1.1.1.1.2.2 h_.1.1|exact(HO_9.out.1 k_ e_.symm).1.1.1.1.1.2.2.1 h_.1.1|exact(HO_9.out.1 k_ e_.symm).1.1.1.1.1.2.2.2 h_.1.1|exact(HO_9.out.1 k_ e_.symm).1.1.1.1.1.2.2.2.1 h_.1.1|exact(HO_9.out.1 k_ e_.symm).1.1.1.1.1.2.2.2.2 h_.1.1|exact(HO_9.out.1 k_ e_.symm).1.1.1.1.1.2.2.2.2.1 h_.1.1|exact(HO_9.out.1 k_ e_.symm).1.1.1.1.1.2.2.2.2.2 h_.1.1|exact(HO_9.out.1 k_ e_.symm).1.1.1.1.1.2.2.2.2.2.1 h_.1.1)) (fun k_ e_=>HO_9.out.1 k_ e_));have n2_:=Aside0.mk (Kd.R_reok rfl (Kd.R_kept (ok:=fun k_=>some k_= (v437:Value).ownBlock) (by(with_reducible repeat(first|apply Kd.R_alloc|apply Kd.R_drewN|apply Kd.R_drew));exact Kd.R_tight rfl HO_10.out) hk_ (fun k_ e_ h_=>by rcases h_ with h_|h_|h_<;>first|exact h_ e_|exact h_.1 e_|exact h_.2 e_|exact h_.2.1 e_|exact h_.2.2 e_|exact h_.2.2.1 e_|exact h_.2.2.2 e_|exact h_.2.2.2.1 e_|exact h_.2.2.2.2 e_|exact h_.2.2.2.2.1 e_|exact h_.2.2.2.2.2 e_|exact h_.2.2.2.2.2.1 e_|exact h_.2.2.2.2.2.2 e_|exact h_.2.2.2.2.2.2.1 e_|exact h_.1 e_|exact h_.1.1 e_|exact h_.1.2 e_|exact h_.1.2.1 e_|exact h_.1.2.2 e_|exact h_.1.2.2.1 e_|exact h_.1.2.2.2 e_|exact h_.1.2.2.2.1 e_|exact h_.1.2.2.2.2 e_|exact h_.1.2.2.2.2.1 e_|exact h_.1.2.2.2.2.2 e_|exact h_.1.2.2.2.2.2.1 e_|exact h_.1.2.2.2.2.2.2 e_|exact h_.1.2.2.2.2.2.2.1 e_|exact h_.1.1 e_|exact h_.1.1.1 e_|exact h_.1.1.2 e_|exact h_.1.1.2.1 e_|exact h_.1.1.2.2 e_|exact h_.1.1.2.2.1 e_|exact h_.1.1.2.2.2 e_|exact h_.1.1.2.2.2.1 e_|exact h_.1.1.2.2.2.2 e_|exact h_.1.1.2.2.2.2.1 e_|exact h_.1.1.2.2.2.2.2 e_|exact h_.1.1.2.2.2.2.2.1 e_|exact h_.1.1.2.2.2.2.2.2 e_|exact h_.1.1.2.2.2.2.2.2.1 e_|exact h_.1.1.1 e_|exact h_.1.1.1.1 e_|exact h_.1.1.1.2 e_|exact h_.1.1.1.2.1 e_|exact h_.1.1.1.2.2 e_|exact h_.1.1.1.2.2.1 e_|exact h_.1.1.1.2.2.2 e_|exact h_.1.1.1.2.2.2.1 e_|exact h_.1.1.1.2.2.2.2 e_|exact h_.1.1.1.2.2.2.2.1 e_|exact h_.1.1.1.2.2.2.2.2 e_|exact h_.1.1.1.2.2.2.2.2.1 e_|exact h_.1.1.1.2.2.2.2.2.2 e_|exact h_.1.1.1.2.2.2.2.2.2.1 e_|exact h_.1.1.1.1 e_|exact h_.1.1.1.1.1 e_|exact h_.1.1.1.1.2 e_|exact h_.1.1.1.1.2.1 e_|exact h_.1.1.1.1.2.2 e_|exact h_.1.1.1.1.2.2.1 e_|exact h_.1.1.1.1.2.2.2 e_|exact h_.1.1.1.1.2.2.2.1 e_|exact h_.1.1.1.1.2.2.2.2 e_|exact h_.1.1.1.1.2.2.2.2.1 e_|exact h_.1.1.1.1.2.2.2.2.2 e_|exact h_.1.1.1.1.2.2.2.2.2.1 e_|exact h_.1.1.1.1.2.2.2.2.2.2 e_|exact h_.1.1.1.1.2.2.2.2.2.2.1 e_|exact h_.1.1.1.1.1 e_|exact h_.1.1.1.1.1.1 e_|exact h_.1.1.1.1.1.2 e_|exact h_.1.1.1.1.1.2.1 e_|exact h_.1.1.1.1.1.2.2 e_|exact h_.1.1.1.1.1.2.2.1 e_|exact h_.1.1.1.1.1.2.2.2 e_|exact h_.1.1.1.1.1.2.2.2.1 e_|exact h_.1.1.1.1.1.2.2.2.2 e_|exact h_.1.1.1.1.1.2.2.2.2.1 e_|exact h_.1.1.1.1.1.2.2.2.2.2 e_|exact h_.1.1.1.1.1.2.2.2.2.2.1 e_|exact h_.1.1.1.1.1.2.2.2.2.2.2 e_|exact h_.1.1.1.1.1.2.2.2.2.2.2.1 e_|exact h_.1.1.1.1.1.1 e_|exact h_.1.1.1.1.1.1.1 e_|exact h_.1.1.1.1.1.1.2 e_|exact h_.1.1.1.1.1.1.2.1 e_|exact h_.1.1.1.1.1.1.2.2 e_|exact h_.1.1.1.1.1.1.2.2.1 e_|exact h_.1.1.1.1.1.1.2.2.2 e_|exact h_.1.1.1.1.1.1.2.2.2.1 e_|exact h_.1.1.1.1.1.1.2.2.2.2 e_|exact h_.1.1.1.1.1.1.2.2.2.2.1 e_|exact h_.1.1.1.1.1.1.2.2.2.2.2 e_|exact h_.1.1.1.1.1.1.2.2.2.2.2.1 e_|exact h_.1.1.1.1.1.1.2.2.2.2.2.2 e_|exact h_.1.1.1.1.1.1.2.2.2.2.2.2.1 e_|exact h_.1.1.1.1.1.1.1 e_|exact h_.1.1.1.1.1.1.1.1 e_|exact h_.1.1.1.1.1.1.1.2 e_|exact h_.1.1.1.1.1.1.1.2.1 e_|exact h_.1.1.1.1.1.1.1.2.2 e_|exact h_.1.1.1.1.1.1.1.2.2.1 e_|exact h_.1.1.1.1.1.1.1.2.2.2 e_|exact h_.1.1.1.1.1.1.1.2.2.2.1 e_|exact h_.1.1.1.1.1.1.1.2.2.2.2 e_|exact h_.1.1.1.1.1.1.1.2.2.2.2.1 e_|exact h_.1.1.1.1.1.1.1.2.2.2.2.2 e_|exact h_.1.1.1.1.1.1.1.2.2.2.2.2.1 e_|exact h_.1.1.1.1.1.1.1.2.2.2.2.2.2 e_|exact h_.1.1.1.1.1.1.1.2.2.2.2.2.2.1 e_|exact h_.1.1.1.1.1.1.1.1 e_|exact h_.1.1.1.1.1.1.1.1.1 e_|exact h_.1.1.1.1.1.1.1.1.2 e_|exact h_.1.1.1.1.1.1.1.1.2.1 e_|exact h_.1.1.1.1.1.1.1.1.2.2 e_|exact h_.1.1.1.1.1.1.1.1.2.2.1 e_|exact h_.1.1.1.1.1.1.1.1.2.2.2 e_|exact h_.1.1.1.1.1.1.1.1.2.2.2.1 e_|exact h_.1.1.1.1.1.1.1.1.2.2.2.2 e_|exact h_.1.1.1.1.1.1.1.1.2.2.2.2.1 e_|exact h_.1.1.1.1.1.1.1.1.2.2.2.2.2 e_|exact h_.1.1.1.1.1.1.1.1.2.2.2.2.2.1 e_|exact h_.1.1.1.1.1.1.1.1.2.2.2.2.2.2 e_|exact h_.1.1.1.1.1.1.1.1.2.2.2.2.2.2.1 e_|exact h_.1.1.1.1.1.1.1.1.1 e_|exact h_.1.1.1.1.1.1.1.1.1.1 e_|exact h_.1.1.1.1.1.1.1.1.1.2 e_|exact h_.1.1.1.1.1.1.1.1.1.2.1 e_|exact h_.1.1.1.1.1.1.1.1.1.2.2 e_|exact h_.1.1.1.1.1.1.1.1.1.2.2.1 e_|exact h_.1.1.1.1.1.1.1.1.1.2.2.2 e_|exact h_.1.1.1.1.1.1.1.1.1.2.2.2.1 e_|exact h_.1.1.1.1.1.1.1.1.1.2.2.2.2 e_|exact h_.1.1.1.1.1.1.1.1.1.2.2.2.2.1 e_|exact h_.1.1.1.1.1.1.1.1.1.2.2.2.2.2 e_|exact h_.1.1.1.1.1.1.1.1.1.2.2.2.2.2.1 e_|exact h_.1.1.1.1.1.1.1.1.1.2.2.2.2.2.2 e_|exact h_.1.1.1.1.1.1.1.1.1.2.2.2.2.2.2.1 e_|exact h_.1.1.1.1.1.1.1.1.1.1 e_|exact h_.1.1.1.1.1.1.1.1.1.1.1 e_|exact h_.1.1.1.1.1.1.1.1.1.1.2 e_|exact h_.1.1.1.1.1.1.1.1.1.1.2.1 e_|exact h_.1.1.1.1.1.1.1.1.1.1.2.2 e_|exact h_.1.1.1.1.1.1.1.1.1.1.2.2.1 e_|exact h_.1.1.1.1.1.1.1.1.1.1.2.2.2 e_|exact h_.1.1.1.1.1.1.1.1.1.1.2.2.2.1 e_|exact h_.1.1.1.1.1.1.1.1.1.1.2.2.2.2 e_|exact h_.1.1.1.1.1.1.1.1.1.1.2.2.2.2.1 e_|exact h_.1.1.1.1.1.1.1.1.1.1.2.2.2.2.2 e_|exact h_.1.1.1.1.1.1.1.1.1.1.2.2.2.2.2.1 e_|exact h_.1.1.1.1.1.1.1.1.1.1.2.2.2.2.2.2 e_|exact h_.1.1.1.1.1.1.1.1.1.1.2.2.2.2.2.2.1 e_|exact h_.1.1.1.1.1.1.1.1.1.1.1 e_|exact h_.1.1.1.1.1.1.1.1.1.1.1.1 e_|exact h_.1.1.1.1.1.1.1.1.1.1.1.2 e_|exact h_.1.1.1.1.1.1.1.1.1.1.1.2.1 e_|exact h_.1.1.1.1.1.1.1.1.1.1.1.2.2 e_|exact h_.1.1.1.1.1.1.1.1.1.1.1.2.2.1 e_|exact h_.1.1.1.1.1.1.1.1.1.1.1.2.2.2 e_|exact h_.1.1.1.1.1.1.1.1.1.1.1.2.2.2.1 e_|exact h_.1.1.1.1.1.1.1.1.1.1.1.2.2.2.2 e_|exact h_.1.1.1.1.1.1.1.1.1.1.1.2.2.2.2.1 e_|exact h_.1.1.1.1.1.1.1.1.1.1.1.2.2.2.2.2 e_|exact h_.1.1.1.1.1.1.1.1.1.1.1.2.2.2.2.2.1 e_|exact h_.1.1.1.1.1.1.1.1.1.1.1.2.2.2.2.2.2 e_|exact h_.1.1.1.1.1.1.1.1.1.1.1.2.2.2.2.2.2.1 e_|exact h_.1.1.1.1.1.1.1.1.1.1.1.1 e_|exact h_.1.1.1.1.1.1.1.1.1.1.1.1.1 e_|exact h_.1.1.1.1.1.1.1.1.1.1.1.1.2 e_|exact h_.1.1.1.1.1.1.1.1.1.1.1.1.2.1 e_|exact h_.1.1.1.1.1.1.1.1.1.1.1.1.2.2 e_|exact h_.1.1.1.1.1.1.1.1.1.1.1.1.2.2.1 e_|exact h_.1.1.1.1.1.1.1.1.1.1.1.1.2.2.2 e_|exact h_.1.1.1.1.1.1.1.1.1.1.1.1.2.2.2.1 e_|exact h_.1.1.1.1.1.1.1.1.1.1.1.1.2.2.2.2 e_|exact h_.1.1.1.1.1.1.1.1.1.1.1.1.2.2.2.2.1 e_|exact h_.1.1.1.1.1.1.1.1.1.1.1.1.2.2.2.2.2 e_|exact h_.1.1.1.1.1.1.1.1.1.1.1.1.2.2.2.2.2.1 e_|exact h_.1.1.1.1.1.1.1.1.1.1.1.1.2.2.2.2.2.2 e_|exact h_.1.1.1.1.1.1.1.1.1.1.1.1.2.2.2.2.2.2.1 e_|exact(HO_10.out.1 k_ e_.symm) h_.1.1|exact(HO_10.out.1 k_ e_.symm).1 h_.1.1|exact(HO_10.out.1 k_ e_.symm).2 h_.1.1|exact(HO_10.out.1 k_ e_.symm).2.1 h_.1.1|exact(HO_10.out.1 k_ e_.symm).2.2 h_.1.1|exact(HO_10.out.1 k_ e_.symm).2.2.1 h_.1.1|exact(HO_10.out.1 k_ e_.symm).2.2.2 h_.1.1|exact(HO_10.out.1 k_ e_.symm).2.2.2.1 h_.1.1|exact(HO_10.out.1 k_ e_.symm).2.2.2.2 h_.1.1|exact(HO_10.out.1 k_ e_.symm).2.2.2.2.1 h_.1.1|exact(HO_10.out.1 k_ e_.symm).2.2.2.2.2 h_.1.1|exact(HO_10.out.1 k_ e_.symm).2.2.2.2.2.1 h_.1.1|exact(HO_10.out.1 k_ e_.symm).1 h_.1.1|exact(HO_10.out.1 k_ e_.symm).1.1 h_.1.1|exact(HO_10.out.1 k_ e_.symm).1.2 h_.1.1|exact(HO_10.out.1 k_ e_.symm).1.2.1 h_.1.1|exact(HO_10.out.1 k_ e_.symm).1.2.2 h_.1.1|exact(HO_10.out.1 k_ e_.symm).1.2.2.1 h_.1.1|exact(HO_10.out.1 k_ e_.symm).1.2.2.2 h_.1.1|exact(HO_10.out.1 k_ e_.symm).1.2.2.2.1 h_.1.1|exact(HO_10.out.1 k_ e_.symm).1.2.2.2.2 h_.1.1|exact(HO_10.out.1 k_ e_.symm).1.2.2.2.2.1 h_.1.1|exact(HO_10.out.1 k_ e_.symm).1.2.2.2.2.2 h_.1.1|exact(HO_10.out.1 k_ e_.symm).1.2.2.2.2.2.1 h_.1.1|exact(HO_10.out.1 k_ e_.symm).1.1 h_.1.1|exact(HO_10.out.1 k_ e_.symm).1.1.1 h_.1.1|exact(HO_10.out.1 k_ e_.symm).1.1.2 h_.1.1|exact(HO_10.out.1 k_ e_.symm).1.1.2.1 h_.1.1|exact(HO_10.out.1 k_ e_.symm).1.1.2.2 h_.1.1|exact(HO_10.out.1 k_ e_.symm).1.1.2.2.1 h_.1.1|exact(HO_10.out.1 k_ e_.symm).1.1.2.2.2 h_.1.1|exact(HO_10.out.1 k_ e_.symm).1.1.2.2.2.1 h_.1.1|exact(HO_10.out.1 k_ e_.symm).1.1.2.2.2.2 h_.1.1|exact(HO_10.out.1 k_ e_.symm).1.1.2.2.2.2.1 h_.1.1|exact(HO_10.out.1 k_ e_.symm).1.1.2.2.2.2.2 h_.1.1|exact(HO_10.out.1 k_ e_.symm).1.1.2.2.2.2.2.1 h_.1.1|exact(HO_10.out.1 k_ e_.symm).1.1.1 h_.1.1|exact(HO_10.out.1 k_ e_.symm).1.1.1.1 h_.1.1|exact(HO_10.out.1 k_ e_.symm).1.1.1.2 h_.1.1|exact(HO_10.out.1 k_ e_.symm).1.1.1.2.1 h_.1.1|exact(HO_10.out.1 k_ e_.symm).1.1.1.2.2 h_.1.1|exact(HO_10.out.1 k_ e_.symm).1.1.1.2.2.1 h_.1.1|exact(HO_10.out.1 k_ e_.symm).1.1.1.2.2.2 h_.1.1|exact(HO_10.out.1 k_ e_.symm).1.1.1.2.2.2.1 h_.1.1|exact(HO_10.out.1 k_ e_.symm).1.1.1.2.2.2.2 h_.1.1|exact(HO_10.out.1 k_ e_.symm).1.1.1.2.2.2.2.1 h_.1.1|exact(HO_10.out.1 k_ e_.symm).1.1.1.2.2.2.2.2 h_.1.1|exact(HO_10.out.1 k_ e_.symm).1.1.1.2.2.2.2.2.1 h_.1.1|exact(HO_10.out.1 k_ e_.symm).1.1.1.1 h_.1.1|exact(HO_10.out.1 k_ e_.symm).1.1.1.1.1 h_.1.1|exact(HO_10.out.1 k_ e_.symm).1.1.1.1.2 h_.1.1|exact(HO_10.out.1 k_ e_.symm).1.1.1.1.2.1 h_.1.1|exact(HO_10.out.1 k_ e_.symm).1.1.1.1.2.2 h_.1.1|exact(HO_10.out.1 k_ e_.symm).1.1.1.1.2.2.1 h_.1.1|exact(HO_10.out.1 k_ e_.symm).1.1.1.1.2.2.2 h_.1.1|exact(HO_10.out.1 k_ e_.symm).1.1.1.1.2.2.2.1 h_.1.1|exact(HO_10.out.1 k_ e_.symm).1.1.1.1.2.2.2.2 h_.1.1|exact(HO_10.out.1 k_ e_.symm).1.1.1.1.2.2.2.2.1 h_.1.1|exact(HO_10.out.1 k_ e_.symm).1.1.1.1.2.2.2.2.2 h_.1.1|exact(HO_10.out.1 k_ e_.symm).1.1.1.1.2.2.2.2.2.1 h_.1.1|exact(HO_10.out.1 k_ e_.symm).1.1.1.1.1 h_.1.1|exact(HO_10.out.1 k_ e_.symm).1.1.1.1.1.1 h_.1.1|exact(HO_10.out.1 k_ e_.symm).1.1.1.1.1.2 h_.1.1|exact(HO_10.out.1 k_ e_.symm).1.1.1.1.1.2.1 h_.1.1|exact(HO_10.out.1 k_ e_.symm).1.1.1.1.1.2.2 h_.1.1|exact(HO_10.out.1 k_ e_.symm).1.1.1.1.1.2.2.1 h_.1.1|exact(HO_10.out.1 k_ e_.symm).1.1.1.1.1.2.2.2 h_.1.1|exact(HO_10.out.1 k_ e_.symm).1.1.1.1.1.2.2.2.1 h_.1.1|exact(HO_10.out.1 k_ e_.symm).1.1.1.1.1.2.2.2.2 h_.1.1|exact(HO_10.out.1 k_ e_.symm).1.1.1.1.1.2.2.2.2.1 h_.1.1|exact(HO_10.out.1 k_ e_.symm).1.1.1.1.1.2.2.2.2.2 h_.1.1|exact(HO_10.out.1 k_ e_.symm).1.1.1.1.1.2.2.2.2.2.1 h_.1.1)) (fun k_ e_=>HO_10.out.1 k_ e_));have n3_:=Aside0.mk (Kd.S_mono s0_ (fun k_ h_=>h_.1.1));have n4_:=Aside0.mk (Kd.S_mono s1_ (fun k_ h_=>h_.1.1));have n5_:=Aside0.mk (Kd.R_reok rfl s2_ (fun k_ e_=>HO_433002.out.1 k_ e_));have n6_:=Aside0.mk (blk_kept_ (g:=gb405) (o:= .cells #[(.slice A0_0 l0_0.length c0_0),(.slice A0_1 l0_1.length c0_1),(.slice A0_2 l0_2.length c0_2)] 30 (0,0)) (zq3 BK405) hk_ (fun h_=>by rcases h_ with h_|h_|h_<;>exact h_.1.2 rfl));have n7_:=Aside0.mk (blk_kept_ (g:=gb432) (o:= .cells #[(.slice Ao31 t423.length co31),(.slice Ao34 t426.length co34),(.slice Ao35 t429.length co35)] 33 (0,0)) (zq3 BK432) hk_ (fun h_=>by rcases h_ with h_|h_|h_<;>exact h_.2 rfl));have n8_:=Aside0.mk (hb_);clear HO_6 HO_9 HO_10 HO_433000 HO_433001 HO_433002 BK405 BK432 HB HO443 HO446 HO449 HO453;have HO_6:=n0_;have HO_9:=n1_;have HO_10:=n2_;have HO_433000:=n3_;have HO_433001:=n4_;have HO_433002:=n5_;have BK405:=n6_;have BK432:=n7_;have HB:=n8_;clear n0_ n1_ n2_ n3_ n4_ n5_ n6_ n7_ n8_;clear z0_ z1_ z2_ s0_ s1_ s2_ hb_ hk_)|((with_reducible refine gate_callee (f:=27) rfl ?_);refine goesL_ (some 67) rfl rfl Try.func27 (by kernel_rfl) rfl #[.slice Ao38 t433.length co38,.int .i64 t455] rfl zq2 ?_;(with_reducible refine(laws_markIntS.calls kj15 (fun k_=>some k_= (.slice Ao38 t433.length co38:Value).ownBlock) (.slice Ao38 t433.length co38) t433 t455 t456 t457 w _ ?side1 ?side2 A52.out).mono ?_);(case side1=>repeat(first|(with_reducible first|exact HB.out|apply below_alloc|apply pw_below_drewN|apply below_drew1|refine below_set ?_ GE405.out|refine below_set ?_ GE432.out)|exact HB.out));(case side2=>exact Kd.R_tight rfl HO_9.out);rintro e w62 ⟨rfl,hy0,hb,hkp⟩;refine⟨_,rfl,?_⟩;have n0_:=Aside0.mk (Kd.R_mono (ok':=fun k_=>some k_≠ (.slice Ao38 t433.length co38:Value).ownBlock∧some k_≠ (v437:Value).ownBlock∧some k_≠ (.slice Ao35 t429.length co35:Value).ownBlock∧some k_≠ (.slice Ao58 t447.length co58:Value).ownBlock∧some k_≠ (.slice Ao61 t451.length co61:Value).ownBlock) (Kd.R_keptB (HO_6.out) hkp (fun k_ hk_ hs_=>(hk_.1.1.1) hs_)) (fun k_ hk_=>⟨hk_.1.1.1.1,hk_.1.1.1.2.1,hk_.1.1.1.2.2,hk_.1.1.2,hk_.1.2⟩));have n1_:=Aside0.mk (Kd.R_reok rfl hy0 (fun k_ e_=>HO_9.out.1 k_ e_));have n2_:=Aside0.mk (Kd.R_mono (ok':=fun k_=>some k_≠ (v420:Value).ownBlock∧some k_≠ (.slice Ao38 t433.length co38:Value).ownBlock∧some k_≠ (.slice Ao35 t429.length co35:Value).ownBlock∧some k_≠ (.slice Ao58 t447.length co58:Value).ownBlock∧some k_≠ (.slice Ao61 t451.length co61:Value).ownBlock) (Kd.R_keptB (HO_10.out) hkp (fun k_ hk_ hs_=>(hk_.1.1.2.1) hs_)) (fun k_ hk_=>⟨hk_.1.1.1.1,hk_.1.1.1.2.1,hk_.1.1.1.2.2,hk_.1.1.2,hk_.1.2⟩));have n3_:=Aside0.mk (Kd.S_mono (ok':=fun k_=>some k_≠ (v420:Value).ownBlock∧some k_≠ (.slice Ao38 t433.length co38:Value).ownBlock∧some k_≠ (v437:Value).ownBlock∧some k_≠ (.slice Ao34 t426.length co34:Value).ownBlock∧some k_≠ (.slice Ao35 t429.length co35:Value).ownBlock∧some k_≠ (.slice Ao56 t441.length co56:Value).ownBlock∧some k_≠ (.slice Ao57 t444.length co57:Value).ownBlock∧some k_≠ (.slice Ao58 t447.length co58:Value).ownBlock∧some k_≠ (.slice Ao61 t451.length co61:Value).ownBlock) (Kd.S_keptB (HO_433000.out) hkp (fun k_ hk_ hs_=>(hk_.1.1.1.1.2.1) hs_)) (fun k_ hk_=>⟨hk_.1.1.1.1.1.1,hk_.1.1.1.1.1.2.1,hk_.1.1.1.1.1.2.2.1,hk_.1.1.1.1.1.2.2.2.1,hk_.1.1.1.1.1.2.2.2.2.1,hk_.1.1.1.1.2,hk_.1.1.1.2,hk_.1.1.2,hk_.1.2⟩));have n4_:=Aside0.mk (Kd.S_mono (ok':=fun k_=>some k_≠ (v420:Value).ownBlock∧some k_≠ (.slice Ao38 t433.length co38:Value).ownBlock∧some k_≠ (v437:Value).ownBlock∧some k_≠ (.slice Ao31 t423.length co31:Value).ownBlock∧some k_≠ (.slice Ao35 t429.length co35:Value).ownBlock∧some k_≠ (.slice Ao56 t441.length co56:Value).ownBlock∧some k_≠ (.slice Ao57 t444.length co57:Value).ownBlock∧some k_≠ (.slice Ao58 t447.length co58:Value).ownBlock∧some k_≠ (.slice Ao61 t451.length co61:Value).ownBlock) (Kd.S_keptB (HO_433001.out) hkp (fun k_ hk_ hs_=>(hk_.1.1.1.1.2.1) hs_)) (fun k_ hk_=>⟨hk_.1.1.1.1.1.1,hk_.1.1.1.1.1.2.1,hk_.1.1.1.1.1.2.2.1,hk_.1.1.1.1.1.2.2.2.1,hk_.1.1.1.1.1.2.2.2.2.1,hk_.1.1.1.1.2,hk_.1.1.1.2,hk_.1.1.2,hk_.1.2⟩));have n5_:=Aside0.mk (Kd.R_mono (ok':=fun k_=>some k_≠ (v420:Value).ownBlock∧some k_≠ (.slice Ao38 t433.length co38:Value).ownBlock∧some k_≠ (v437:Value).ownBlock∧some k_≠ (.slice Ao58 t447.length co58:Value).ownBlock∧some k_≠ (.slice Ao61 t451.length co61:Value).ownBlock) (Kd.R_keptB (HO_433002.out) hkp (fun k_ hk_ hs_=>(hk_.1.1.2.1) hs_)) (fun k_ hk_=>⟨hk_.1.1.1.1,hk_.1.1.1.2.1,hk_.1.1.1.2.2,hk_.1.1.2,hk_.1.2⟩));have n6_:=Aside0.mk (blk_kept (zq3 BK405) hkp (fun hs_=>(fun e_=>(Kd.R_ne HO_9.out BK405.out (by decide)) e_) hs_));have n7_:=Aside0.mk (blk_kept (zq3 BK432) hkp (fun hs_=>(fun e_=>(Kd.R_ne HO_9.out BK432.out (by decide)) e_) hs_));have n12_:=Aside0.mk (hb);clear HO_6;clear HO_9;clear HO_10;clear HO_433000;clear HO_433001;clear HO_433002;clear BK405;clear BK432;clear HB;have HO_6:=n0_;have HO_9:=n1_;have HO_10:=n2_;have HO_433000:=n3_;have HO_433001:=n4_;have HO_433002:=n5_;have BK405:=n6_;have BK432:=n7_;have HB:=n12_;clear n0_ n1_ n2_ n3_ n4_ n5_ n6_ n7_ n12_;(try clear hb);(try clear hkp);(try clear hy0)))
        (try simp only [Act.put,List.setIfInBounds_toArray,List.set_cons_zero,List.set_cons_succ])
        go_cut [80] (fun v80 wc=> ∃ (kq:Nat) (x80_52:Bool),v80= .bool x80_52∧Aside0 (laws_FnExactRanksOf.j1 kq l1 t419 t422 t436 x80_52 l0_0 l0_1 l0_2=some r)∧Aside0 (kq≤kj15)∧Aside0 (Kd.R (Kd.int .i64) 3 wc w.heap.size (fun k_=>some k_≠ (v437:Value).ownBlock∧some k_≠ ((.slice Ao35 t429.length co35):Value).ownBlock) v420 t419)∧Aside0 (Kd.R (Kd.int .i64) 3 wc w.heap.size (fun k_=>some k_≠ (v420:Value).ownBlock∧some k_≠ ((.slice Ao35 t429.length co35):Value).ownBlock) v437 t436)∧Aside0 (Kd.S (Kd.slice 3 (Kd.int .i64)) 22 wc w.heap.size (fun k_=>some k_≠ (v420:Value).ownBlock∧some k_≠ (v437:Value).ownBlock∧some k_≠ ((.slice Ao34 t426.length co34):Value).ownBlock∧some k_≠ ((.slice Ao35 t429.length co35):Value).ownBlock) (.slice Ao31 t423.length co31) q1_)∧Aside0 (Kd.S (Kd.slice 3 (Kd.int .i64)) 22 wc w.heap.size (fun k_=>some k_≠ (v420:Value).ownBlock∧some k_≠ (v437:Value).ownBlock∧some k_≠ ((.slice Ao31 t423.length co31):Value).ownBlock∧some k_≠ ((.slice Ao35 t429.length co35):Value).ownBlock) (.slice Ao34 t426.length co34) q2_)∧Aside0 (Kd.R (Kd.int .i64) 3 wc w.heap.size (fun k_=>some k_≠ (v420:Value).ownBlock∧some k_≠ (v437:Value).ownBlock) (.slice Ao35 t429.length co35) q3_)∧Aside0 (wc.heap[gb405]?=some (.cells #[(.slice A0_0 l0_0.length c0_0),(.slice A0_1 l0_1.length c0_1),(.slice A0_2 l0_2.length c0_2)] 30 (0,0)))∧Aside0 (wc.heap[gb432]?=some (.cells #[(.slice Ao31 t423.length co31),(.slice Ao34 t426.length co34),(.slice Ao35 t429.length co35)] 33 (0,0)))∧Aside0 (Below w.heap.size w wc))
        case first=>
         have H:=HC53.out
         clear HC53
         by_cases c63:t456< 0
         ·rw [if_pos c63] at H
          have c63b0:decide (t456< 0)=true:=decide_eq_true c63
          clear c63
          (first|rw [c63b0]|(simp only [i64_w,i32_w];rw [c63b0])|skip)
          exact absurd (H.trans (congrArg some HRT.out)) (by cases kj15<;>simp [laws_FnExactRanksOf.j1])
         ·rw [if_neg c63] at H
          have c63b0:decide (t456< 0)=false:=decide_eq_false c63
          clear c63
          (first|rw [c63b0]|(simp only [i64_w,i32_w];rw [c63b0])|skip)
          replace H:=Option.bind_eq_some_iff.mp H
          obtain⟨t458,A640,H⟩:=H
          replace H:(if t458=true then(laws_FnExactRanksOf.j1 kj15 l1 t419 t422 t436 (t439 !=t422) l0_0 l0_1 l0_2) else(laws_FnExactRanksOf.j1 kj15 l1 t419 t422 t436 true l0_0 l0_1 l0_2))=some r:=H
          have A64:=Aside0.mk A640
          clear A640
          by_cases c65:t458=true
          ·subst c65
           have H1:(laws_FnExactRanksOf.j1 kj15 l1 t419 t422 t436 (t439 !=t422) l0_0 l0_1 l0_2)=some r:=by rw [if_pos rfl] at H;exact H
           clear H
           have H:=H1
           clear H1
           have H':=Aside0.mk H
           clear H
           obtain⟨Ao66,co66,eo66⟩:=Kd.R_slice HO_10.out
           subst eo66
           obtain⟨Ao67,co67,eo67⟩:=Kd.R_slice HO_6.out
           subst eo67
           go_wp2_with (first|(go_at_call 16;(with_reducible refine(laws_eqIntS.calls kj15 _ _ t436 _ _ t419 true _ ?side1 ?side2 ?side3 ?side4 A64.out).mono ?_);(case side1=>repeat(first|exact(Kd.R_reads' HO_10.out).2.2|(with_reducible refine Kd.C_alloc ?_ _)|(with_reducible refine Kd.C_drewN ?_ _)|(with_reducible refine Kd.C_drew ?_)));(case side2=>exact(Kd.R_reads' HO_10.out).2.1);(case side3=>repeat(first|exact(Kd.R_reads' HO_6.out).2.2|(with_reducible refine Kd.C_alloc ?_ _)|(with_reducible refine Kd.C_drewN ?_ _)|(with_reducible refine Kd.C_drew ?_)));(case side4=>exact(Kd.R_reads' HO_6.out).2.1);rintro e w' ⟨rfl,⟨nd,rfl⟩⟩))
           go_meet
           case rel=>exact⟨_,((t439 !=t422)),(by first|rfl|(simp;done)|(simp [*];done)),H',⟨by have:=HJ15.out;first|omega|exact Nat.le_refl _⟩,⟨by(with_reducible repeat(first|apply Kd.R_alloc|apply Kd.R_drewN|apply Kd.R_drew));exact Kd.R_mono HO_6.out (fun _ hk=>⟨hk.2.1,hk.2.2.1⟩)⟩,⟨by(with_reducible repeat(first|apply Kd.R_alloc|apply Kd.R_drewN|apply Kd.R_drew));exact Kd.R_mono HO_10.out (fun _ hk=>⟨hk.1,hk.2.2.1⟩)⟩,⟨by(with_reducible repeat(first|apply Kd.S_alloc|apply Kd.S_drewN|apply Kd.S_drew));exact Kd.S_mono HO_433000.out (fun _ hk=>⟨hk.1,⟨hk.2.2.1,⟨hk.2.2.2.1,hk.2.2.2.2.1⟩⟩⟩)⟩,⟨by(with_reducible repeat(first|apply Kd.S_alloc|apply Kd.S_drewN|apply Kd.S_drew));exact Kd.S_mono HO_433001.out (fun _ hk=>⟨hk.1,⟨hk.2.2.1,⟨hk.2.2.2.1,hk.2.2.2.2.1⟩⟩⟩)⟩,⟨by(with_reducible repeat(first|apply Kd.R_alloc|apply Kd.R_drewN|apply Kd.R_drew));exact Kd.R_mono HO_433002.out (fun _ hk=>⟨hk.1,hk.2.2.1⟩)⟩,⟨by(with_reducible repeat(first|refine blk_drewN ?_ _|refine blk_drew ?_ |refine blk_alloc ?_ _));exact BK405.out⟩,⟨by(with_reducible repeat(first|refine blk_drewN ?_ _|refine blk_drew ?_ |refine blk_alloc ?_ _));exact BK432.out⟩,⟨by repeat(first|(with_reducible first|exact HB.out|apply below_alloc|apply pw_below_drewN|apply below_drew1|refine below_set ?_ GE405.out|refine below_set ?_ GE432.out)|exact HB.out)⟩⟩
          ·replace c65:=Bool.eq_false_iff.mpr c65
           subst c65
           have H1:(laws_FnExactRanksOf.j1 kj15 l1 t419 t422 t436 true l0_0 l0_1 l0_2)=some r:=by rw [if_neg (show ¬ (false=true) by decide)] at H;exact H
           clear H
           have H:=H1
           clear H1
           exact absurd (H.trans (congrArg some HRT.out)) (by cases kj15<;>simp [laws_FnExactRanksOf.j1])
        case rest=>
         clear HC53
         try clear c1
         try clear c2
         try clear p2
         try clear c3
         try clear c3b0
         try clear c3b1
         try clear c4
         try clear c5
         try clear c6
         try clear c6b0
         try clear c7
         try clear c14
         try clear c16
         try clear c17
         try clear c19
         try clear c21
         try clear c27
         try clear c29
         try clear c30
         try clear c32
         try clear c41
         try clear c44
         try clear c47
         try clear c50
         try clear c63
         try clear c63b0
         try clear c65
         try clear hcz18_0
         try clear hcz18_1
         try clear hcz18_2
         try clear hcz20_0
         try clear hcz20_1
         try clear hcz20_2
         try clear hcz28_0
         try clear hcz28_1
         try clear hcz28_2
         try clear hcz33_0
         try clear hcz33_1
         try clear hcz33_2
         try clear hcz37_0
         try clear hcz37_1
         try clear hcz37_2
         try clear hcz8_0
         try clear hcz8_1
         try clear hcz8_2
         try clear hfz18_0
         try clear hfz18_1
         try clear hfz18_2
         try clear hfz20_0
         try clear hfz20_1
         try clear hfz20_2
         try clear hfz28_0
         try clear hfz28_1
         try clear hfz28_2
         try clear hfz33_0
         try clear hfz33_1
         try clear hfz33_2
         try clear hfz37_0
         try clear hfz37_1
         try clear hfz37_2
         try clear hfz8_0
         try clear hfz8_1
         try clear hfz8_2
         try clear p2
         obtain⟨kq,x80_52,rfl,HA,HJ52,HO_6,HO_10,HO_433000,HO_433001,HO_433002,BK405,BK432,HB⟩:=hcut
         cases kq with
         |zero=>exact absurd HA.out (by simp [laws_FnExactRanksOf.j1])
         |succ kj52=>
          have H:=HA.out
          clear HA
          simp only [laws_FnExactRanksOf.j1] at H
          by_cases c68:x80_52=true
          ·subst c68
           have H1:(some false)=some r:=by rw [if_pos rfl] at H;exact H
           clear H
           have H:=H1
           clear H1
           exact absurd ((Option.some.inj H).trans HRT.out) (by decide)
          ·replace c68:=Bool.eq_false_iff.mpr c68
           subst c68
           have H1:((laws_markIntS.f kj52 t436 1).bind fun bt459=>((laws_heldIntS.f kj52 bt459.2 1).bind fun t461=>(if t461< 0 then(some false) else(if t461=bt459.1 then((laws_toWishes.f kj52 l0_0 l0_1 l0_2).bind fun bt462=>((laws_toIntS.f kj52 l1).bind fun t471=>((impl_RanksOf.f kj52 bt462.1 bt462.2.1 bt462.2.2 t471).bind fun bt474=>((laws_eqIntS.f kj52 bt474.1 t419).bind fun t478=>(if t478=true then(laws_FnExactRanksOf.j2 kj52 bt459.2 bt459.1 (bt474.2 !=t422)) else(laws_FnExactRanksOf.j2 kj52 bt459.2 bt459.1 true)))))) else(some false)))))=some r:=by rw [if_neg (show ¬ (false=true) by decide)] at H;exact H
           clear H
           have H:=H1
           clear H1
           replace H:=Option.bind_eq_some_iff.mp H
           obtain⟨⟨t459,t460⟩,A690,H⟩:=H
           replace H:((laws_heldIntS.f kj52 t460 1).bind fun t461=>(if t461< 0 then(some false) else(if t461=t459 then((laws_toWishes.f kj52 l0_0 l0_1 l0_2).bind fun bt462=>((laws_toIntS.f kj52 l1).bind fun t471=>((impl_RanksOf.f kj52 bt462.1 bt462.2.1 bt462.2.2 t471).bind fun bt474=>((laws_eqIntS.f kj52 bt474.1 t419).bind fun t478=>(if t478=true then(laws_FnExactRanksOf.j2 kj52 t460 t459 (bt474.2 !=t422)) else(laws_FnExactRanksOf.j2 kj52 t460 t459 true)))))) else(some false))))=some r:=H
           have A69:=Aside0.mk A690
           clear A690
           replace H:=Option.bind_eq_some_iff.mp H
           obtain⟨t461,A700,H⟩:=H
           replace H:(if t461< 0 then(some false) else(if t461=t459 then((laws_toWishes.f kj52 l0_0 l0_1 l0_2).bind fun bt462=>((laws_toIntS.f kj52 l1).bind fun t471=>((impl_RanksOf.f kj52 bt462.1 bt462.2.1 bt462.2.2 t471).bind fun bt474=>((laws_eqIntS.f kj52 bt474.1 t419).bind fun t478=>(if t478=true then(laws_FnExactRanksOf.j2 kj52 t460 t459 (bt474.2 !=t422)) else(laws_FnExactRanksOf.j2 kj52 t460 t459 true)))))) else(some false)))=some r:=H
           have A70:=Aside0.mk A700
           clear A700
           by_cases c71:t461< 0
           ·rw [if_pos c71] at H
            have c71b0:decide (t461< 0)=true:=decide_eq_true c71
            clear c71
            exact absurd ((Option.some.inj H).trans HRT.out) (by decide)
           ·rw [if_neg c71] at H
            have c71b0:decide (t461< 0)=false:=decide_eq_false c71
            clear c71
            by_cases c72:t461=t459
            ·rw [if_pos c72] at H
             have c72b0:(t461==t459)=true:=beq_iff_eq.mpr c72
             have c72b1:(t461 !=t459)=false:=bne_eq_false_iff_eq.mpr c72
             clear c72
             replace H:=Option.bind_eq_some_iff.mp H
             obtain⟨⟨t462,t465,t468⟩,A730,H⟩:=H
             replace H:((laws_toIntS.f kj52 l1).bind fun t471=>((impl_RanksOf.f kj52 t462 t465 t468 t471).bind fun bt474=>((laws_eqIntS.f kj52 bt474.1 t419).bind fun t478=>(if t478=true then(laws_FnExactRanksOf.j2 kj52 t460 t459 (bt474.2 !=t422)) else(laws_FnExactRanksOf.j2 kj52 t460 t459 true)))))=some r:=H
             have A73:=Aside0.mk A730
             clear A730
             replace H:=Option.bind_eq_some_iff.mp H
             obtain⟨t471,A740,H⟩:=H
             replace H:((impl_RanksOf.f kj52 t462 t465 t468 t471).bind fun bt474=>((laws_eqIntS.f kj52 bt474.1 t419).bind fun t478=>(if t478=true then(laws_FnExactRanksOf.j2 kj52 t460 t459 (bt474.2 !=t422)) else(laws_FnExactRanksOf.j2 kj52 t460 t459 true))))=some r:=H
             have A74:=Aside0.mk A740
             clear A740
             replace H:=Option.bind_eq_some_iff.mp H
             obtain⟨⟨t474,t477⟩,A750,H⟩:=H
             replace H:((laws_eqIntS.f kj52 t474 t419).bind fun t478=>(if t478=true then(laws_FnExactRanksOf.j2 kj52 t460 t459 (t477 !=t422)) else(laws_FnExactRanksOf.j2 kj52 t460 t459 true)))=some r:=H
             have A75:=Aside0.mk A750
             clear A750
             have HC76:=Aside0.mk H
             clear H
             obtain⟨Ao77,co77,eo77⟩:=Kd.R_slice HO_10.out
             subst eo77
             go_upto_region 31 with (first|((with_reducible refine gate_callee (f:=27) rfl ?_);refine goesL_ (some 83) rfl rfl Try.func27 (by kernel_rfl) rfl #[.slice Ao77 t436.length co77,.int .i64 1] rfl zq2 ?_;(with_reducible refine(laws_markIntS.calls kj52 (fun k_=>some k_= (.slice Ao77 t436.length co77:Value).ownBlock) (.slice Ao77 t436.length co77) t436 1 t459 t460 w _ ?side1 ?side2 A69.out).mono ?_);(case side1=>repeat(first|(with_reducible first|exact HB.out|apply below_alloc|apply pw_below_drewN|apply below_drew1|refine below_set ?_ GE405.out|refine below_set ?_ GE432.out)|exact HB.out));(case side2=>exact Kd.R_tight rfl HO_10.out);rintro e w78 ⟨rfl,hy0,hb,hkp⟩;refine⟨_,rfl,?_⟩;have n0_:=Aside0.mk (Kd.R_mono (ok':=fun k_=>some k_≠ (.slice Ao77 t436.length co77:Value).ownBlock∧some k_≠ (.slice Ao35 t429.length co35:Value).ownBlock) (Kd.R_keptB (HO_6.out) hkp (fun k_ hk_ hs_=>(hk_.1) hs_)) (fun k_ hk_=>⟨hk_.1.1,hk_.1.2⟩));have n1_:=Aside0.mk (Kd.R_reok rfl hy0 (fun k_ e_=>HO_10.out.1 k_ e_));have n2_:=Aside0.mk (Kd.S_mono (ok':=fun k_=>some k_≠ (v420:Value).ownBlock∧some k_≠ (.slice Ao77 t436.length co77:Value).ownBlock∧some k_≠ (.slice Ao34 t426.length co34:Value).ownBlock∧some k_≠ (.slice Ao35 t429.length co35:Value).ownBlock) (Kd.S_keptB (HO_433000.out) hkp (fun k_ hk_ hs_=>(hk_.2.1) hs_)) (fun k_ hk_=>⟨hk_.1.1,hk_.1.2.1,hk_.1.2.2.1,hk_.1.2.2.2⟩));have n3_:=Aside0.mk (Kd.S_mono (ok':=fun k_=>some k_≠ (v420:Value).ownBlock∧some k_≠ (.slice Ao77 t436.length co77:Value).ownBlock∧some k_≠ (.slice Ao31 t423.length co31:Value).ownBlock∧some k_≠ (.slice Ao35 t429.length co35:Value).ownBlock) (Kd.S_keptB (HO_433001.out) hkp (fun k_ hk_ hs_=>(hk_.2.1) hs_)) (fun k_ hk_=>⟨hk_.1.1,hk_.1.2.1,hk_.1.2.2.1,hk_.1.2.2.2⟩));have n4_:=Aside0.mk (Kd.R_mono (ok':=fun k_=>some k_≠ (v420:Value).ownBlock∧some k_≠ (.slice Ao77 t436.length co77:Value).ownBlock) (Kd.R_keptB (HO_433002.out) hkp (fun k_ hk_ hs_=>(hk_.2) hs_)) (fun k_ hk_=>⟨hk_.1.1,hk_.1.2⟩));have n5_:=Aside0.mk (blk_kept (zq3 BK405) hkp (fun hs_=>(fun e_=>(Kd.R_ne HO_10.out BK405.out (by decide)) e_) hs_));have n6_:=Aside0.mk (blk_kept (zq3 BK432) hkp (fun hs_=>(fun e_=>(Kd.R_ne HO_10.out BK432.out (by decide)) e_) hs_));have n7_:=Aside0.mk (hb);clear HO_6;clear HO_10;clear HO_433000;clear HO_433001;clear HO_433002;clear BK405;clear BK432;clear HB;have HO_6:=n0_;have HO_10:=n1_;have HO_433000:=n2_;have HO_433001:=n3_;have HO_433002:=n4_;have BK405:=n5_;have BK432:=n6_;have HB:=n7_;clear n0_ n1_ n2_ n3_ n4_ n5_ n6_ n7_;(try clear hb);(try clear hkp);(try clear hy0))|((with_reducible refine gate_callee (f:=28) rfl ?_);refine goesL_ (some 86) rfl rfl Try.func28 (by kernel_rfl) rfl #[.slice Ao77 t460.length co77,.int .i64 1] rfl (by(try simp only [List.map_toArray,List.map_cons,List.map_nil]);first|done|(rw [show t460.length=t436.length from (Kd.R_reads' HO_10.out).1.symm]<;>rfl)|rfl|(simp only [List.length_drop,List.length_take];rfl)) ?_;(with_reducible refine(laws_heldIntS.calls kj52 _ _ t460 1 t461 _ ?side1 ?side2 A70.out).mono ?_);(case side1=>repeat(first|exact(Kd.R_reads' HO_10.out).2.2|(with_reducible refine Kd.C_alloc ?_ _)|(with_reducible refine Kd.C_drewN ?_ _)|(with_reducible refine Kd.C_drew ?_)));(case side2=>rw [show t460.length=t436.length from (Kd.R_reads' HO_10.out).1.symm];exact(Kd.R_reads' HO_10.out).2.1);rintro e w' ⟨rfl,⟨nd,rfl⟩⟩;refine⟨_,rfl,?_⟩;have hnb79:=NB405_432.out;have hnc79:=NB432_405.out;have hcz80_0:w78.cell? ⟨gb405,0,none⟩=some (.slice A0_0 l0_0.length c0_0):=(blk_cell BK405.out 0).trans rfl;have hcz80_1:w78.cell? ⟨gb405,1,none⟩=some (.slice A0_1 l0_1.length c0_1):=(blk_cell BK405.out 1).trans rfl;have hcz80_2:w78.cell? ⟨gb405,2,none⟩=some (.slice A0_2 l0_2.length c0_2):=(blk_cell BK405.out 2).trans rfl;have hfz80_0:=blk_frozen BK405.out 0;have hfz80_1:=blk_frozen BK405.out 1;have hfz80_2:=blk_frozen BK405.out 2)|((with_reducible refine gate_callee (f:=19) rfl ?_);refine goesL_ (some 94) rfl rfl Try.func19 (by kernel_rfl) rfl #[.agg #[.slice A0_0 l0_0.length c0_0,.slice A0_1 l0_1.length c0_1,.slice A0_2 l0_2.length c0_2]] rfl zq2 ?_;(with_reducible refine(laws_toWishes.calls kj52 _ _ l0_0 _ _ l0_1 _ _ l0_2 t462 t465 t468 _ ?side1 ?side2 ?side3 ?side4 ?side5 ?side6 A73.out).mono ?_);(case side1=>repeat(first|exact(Kd.C_below HR0_0.out (zb2 HB GE405 GE432))|(with_reducible refine Kd.C_alloc ?_ _)|(with_reducible refine Kd.C_drewN ?_ _)|(with_reducible refine Kd.C_drew ?_)));(case side2=>exact HC0_0.out);(case side3=>repeat(first|exact(Kd.C_below HR0_1.out (zb2 HB GE405 GE432))|(with_reducible refine Kd.C_alloc ?_ _)|(with_reducible refine Kd.C_drewN ?_ _)|(with_reducible refine Kd.C_drew ?_)));(case side4=>exact HC0_1.out);(case side5=>repeat(first|exact(Kd.C_below HR0_2.out (zb2 HB GE405 GE432))|(with_reducible refine Kd.C_alloc ?_ _)|(with_reducible refine Kd.C_drewN ?_ _)|(with_reducible refine Kd.C_drew ?_)));(case side6=>exact HC0_2.out);rintro e w81 ⟨v463,v466,v469,rfl,ho0,ho1,ho2,hb⟩;refine⟨_,rfl,?_⟩;have n0_:=Aside0.mk (Kd.R_elder' (zq4 HO_6) (Kd.R_base ho2) hb);have n1_:=Aside0.mk (Kd.R_elder' (zq4 HO_10) (Kd.R_base ho2) hb);have n2_:=Aside0.mk (Kd.S_mono (Kd.S_told (Kd.S_told (Kd.S_told (Kd.S_old (by(with_reducible repeat(first|apply Kd.S_alloc|apply Kd.S_drewN|apply Kd.S_drew));exact HO_433000.out) hb) (Kd.S_base ho0)) (Kd.S_base ho1)) (Kd.R_base ho2)) (fun _ h_=>h_.1));have n3_:=Aside0.mk (Kd.S_mono (Kd.S_told (Kd.S_told (Kd.S_told (Kd.S_old (by(with_reducible repeat(first|apply Kd.S_alloc|apply Kd.S_drewN|apply Kd.S_drew));exact HO_433001.out) hb) (Kd.S_base ho0)) (Kd.S_base ho1)) (Kd.R_base ho2)) (fun _ h_=>h_.1));have n4_:=Aside0.mk (Kd.R_elder' (zq4 HO_433002) (Kd.R_base ho2) hb);have n5_:=Aside0.mk (Kd.S_lower (Kd.S_new' (Kd.S_new' (Kd.S_new' (Kd.S_new' (Kd.S_new' ho0 (Kd.R_lt (zq4 HO_6))) (Kd.R_lt (zq4 HO_10))) (Kd.S_lt (by(with_reducible repeat(first|apply Kd.S_alloc|apply Kd.S_drewN|apply Kd.S_drew));exact HO_433000.out))) (Kd.S_lt (by(with_reducible repeat(first|apply Kd.S_alloc|apply Kd.S_drewN|apply Kd.S_drew));exact HO_433001.out))) (Kd.R_lt (zq4 HO_433002))) (below_size (zb2 HB GE405 GE432)));have n6_:=Aside0.mk (Kd.S_lower (Kd.S_new' (Kd.S_new' (Kd.S_new' (Kd.S_new' (Kd.S_new' ho1 (Kd.R_lt (zq4 HO_6))) (Kd.R_lt (zq4 HO_10))) (Kd.S_lt (by(with_reducible repeat(first|apply Kd.S_alloc|apply Kd.S_drewN|apply Kd.S_drew));exact HO_433000.out))) (Kd.S_lt (by(with_reducible repeat(first|apply Kd.S_alloc|apply Kd.S_drewN|apply Kd.S_drew));exact HO_433001.out))) (Kd.R_lt (zq4 HO_433002))) (below_size (zb2 HB GE405 GE432)));have n7_:=Aside0.mk (Kd.R_lower (Kd.R_new' (Kd.R_new' (Kd.R_new' ho2 (Kd.R_lt (zq4 HO_6))) (Kd.R_lt (zq4 HO_10))) (Kd.R_lt (zq4 HO_433002))) (below_size (zb2 HB GE405 GE432)));have n8_:=Aside0.mk (blk_below (g:=gb405) (o:= .cells #[.slice A0_0 l0_0.length c0_0,.slice A0_1 l0_1.length c0_1,.slice A0_2 l0_2.length c0_2] 30 (0,0)) (zq3 BK405) hb);have n9_:=Aside0.mk (blk_below (g:=gb432) (o:= .cells #[.slice Ao31 t423.length co31,.slice Ao34 t426.length co34,.slice Ao35 t429.length co35] 33 (0,0)) (zq3 BK432) hb);have n10_:=Aside0.mk (below_step (zb2 HB GE405 GE432) hb);clear HO_6;clear HO_10;clear HO_433000;clear HO_433001;clear HO_433002;clear BK405;clear BK432;clear HB;have HO_6:=n0_;have HO_10:=n1_;have HO_433000:=n2_;have HO_433001:=n3_;have HO_433002:=n4_;have HO464:=n5_;have HO467:=n6_;have HO470:=n7_;have BK405:=n8_;have BK432:=n9_;have HB:=n10_;clear n0_ n1_ n2_ n3_ n4_ n5_ n6_ n7_ n8_ n9_ n10_;(try clear hb);(try clear hb2);(try clear hk);(try clear hi);(try clear ho0);(try clear ho1);(try clear ho2))|((with_reducible refine gate_callee (f:=14) rfl ?_);refine goesL_ (some 96) rfl rfl Try.func14 (by kernel_rfl) rfl #[.slice A1 l1.length c1] rfl zq2 ?_;(with_reducible refine(laws_toIntS.calls kj52 _ _ l1 t471 _ ?side1 ?side2 A74.out).mono ?_);(case side1=>repeat(first|exact(Kd.C_below HR1.out HB.out)|(with_reducible refine Kd.C_alloc ?_ _)|(with_reducible refine Kd.C_drewN ?_ _)|(with_reducible refine Kd.C_drew ?_)));(case side2=>exact HC1.out);rintro e w82 ⟨v472,rfl,ho0,hb⟩;refine⟨_,rfl,?_⟩;have n0_:=Aside0.mk (Kd.R_elder' (zq4 HO_6) (Kd.R_base ho0) hb);have n1_:=Aside0.mk (Kd.R_elder' (zq4 HO_10) (Kd.R_base ho0) hb);have n2_:=Aside0.mk (Kd.S_elder' (by(with_reducible repeat(first|apply Kd.S_alloc|apply Kd.S_drewN|apply Kd.S_drew));exact HO_433000.out) (Kd.R_base ho0) hb);have n3_:=Aside0.mk (Kd.S_elder' (by(with_reducible repeat(first|apply Kd.S_alloc|apply Kd.S_drewN|apply Kd.S_drew));exact HO_433001.out) (Kd.R_base ho0) hb);have n4_:=Aside0.mk (Kd.R_elder' (zq4 HO_433002) (Kd.R_base ho0) hb);have n5_:=Aside0.mk (Kd.S_elder' (by(with_reducible repeat(first|apply Kd.S_alloc|apply Kd.S_drewN|apply Kd.S_drew));exact HO464.out) (Kd.R_base ho0) hb);have n6_:=Aside0.mk (Kd.S_elder' (by(with_reducible repeat(first|apply Kd.S_alloc|apply Kd.S_drewN|apply Kd.S_drew));exact HO467.out) (Kd.R_base ho0) hb);have n7_:=Aside0.mk (Kd.R_elder' (zq4 HO470) (Kd.R_base ho0) hb);have n8_:=Aside0.mk (Kd.R_lower (Kd.R_new' (Kd.R_new' (Kd.R_new' (Kd.R_new' ho0 (Kd.R_lt (zq4 HO_6))) (Kd.R_lt (zq4 HO_10))) (Kd.R_lt (zq4 HO_433002))) (Kd.R_lt (zq4 HO470))) (below_size (zb2 HB GE405 GE432)));have n9_:=Aside0.mk (blk_below (g:=gb405) (o:= .cells #[.slice A0_0 l0_0.length c0_0,.slice A0_1 l0_1.length c0_1,.slice A0_2 l0_2.length c0_2] 30 (0,0)) (zq3 BK405) hb);have n10_:=Aside0.mk (blk_below (g:=gb432) (o:= .cells #[.slice Ao31 t423.length co31,.slice Ao34 t426.length co34,.slice Ao35 t429.length co35] 33 (0,0)) (zq3 BK432) hb);have n11_:=Aside0.mk (below_step (zb2 HB GE405 GE432) hb);clear HO_6;clear HO_10;clear HO_433000;clear HO_433001;clear HO_433002;clear HO464;clear HO467;clear HO470;clear BK405;clear BK432;clear HB;have HO_6:=n0_;have HO_10:=n1_;have HO_433000:=n2_;have HO_433001:=n3_;have HO_433002:=n4_;have HO464:=n5_;have HO467:=n6_;have HO470:=n7_;have HO473:=n8_;have BK405:=n9_;have BK432:=n10_;have HB:=n11_;clear n0_ n1_ n2_ n3_ n4_ n5_ n6_ n7_ n8_ n9_ n10_ n11_;(try clear hb);(try clear hb2);(try clear hk);(try clear hi);(try clear ho0);obtain⟨Ao83,co83,eo83⟩:=Kd.S_slice HO464.out;subst eo83;obtain⟨Ao84,co84,eo84⟩:=Kd.S_slice HO467.out;subst eo84;obtain⟨Ao85,co85,eo85⟩:=Kd.R_slice HO470.out;subst eo85;obtain⟨Ao86,co86,eo86⟩:=Kd.R_slice HO473.out;subst eo86)|((with_reducible refine gate_callee (f:=30) rfl ?_);refine goesL_ (some 97) rfl rfl Try.func30 (by kernel_rfl) rfl #[.agg #[.slice Ao83 t462.length co83,.slice Ao84 t465.length co84,.slice Ao85 t468.length co85],.slice Ao86 t471.length co86] rfl zq2 ?_;(with_reducible refine(impl_RanksOf.calls kj52 _ _ t462 _ _ t465 _ _ t468 _ _ t471 t474 t477 _ ?side1 ?side2 ?side3 ?side4 ?side5 ?side6 ?side7 ?side8 A75.out).mono ?_);(case side1=>repeat(first|exact(Kd.S_reads' HO464.out).2.2|(with_reducible refine Kd.C_alloc ?_ _)|(with_reducible refine Kd.C_drewN ?_ _)|(with_reducible refine Kd.C_drew ?_)));(case side2=>exact(Kd.S_reads' HO464.out).2.1);(case side3=>repeat(first|exact(Kd.S_reads' HO467.out).2.2|(with_reducible refine Kd.C_alloc ?_ _)|(with_reducible refine Kd.C_drewN ?_ _)|(with_reducible refine Kd.C_drew ?_)));(case side4=>exact(Kd.S_reads' HO467.out).2.1);(case side5=>repeat(first|exact(Kd.R_reads' HO470.out).2.2|(with_reducible refine Kd.C_alloc ?_ _)|(with_reducible refine Kd.C_drewN ?_ _)|(with_reducible refine Kd.C_drew ?_)));(case side6=>exact(Kd.R_reads' HO470.out).2.1);(case side7=>repeat(first|exact(Kd.R_reads' HO473.out).2.2|(with_reducible refine Kd.C_alloc ?_ _)|(with_reducible refine Kd.C_drewN ?_ _)|(with_reducible refine Kd.C_drew ?_)));(case side8=>exact(Kd.R_reads' HO473.out).2.1);rintro e w87 ⟨v475,rfl,ho0,hb⟩;refine⟨_,rfl,?_⟩;have n0_:=Aside0.mk (Kd.R_elder' (zq4 HO_6) (Kd.R_base ho0) hb);have n1_:=Aside0.mk (Kd.R_elder' (zq4 HO_10) (Kd.R_base ho0) hb);have n2_:=Aside0.mk (Kd.S_elder' (by(with_reducible repeat(first|apply Kd.S_alloc|apply Kd.S_drewN|apply Kd.S_drew));exact HO_433000.out) (Kd.R_base ho0) hb);have n3_:=Aside0.mk (Kd.S_elder' (by(with_reducible repeat(first|apply Kd.S_alloc|apply Kd.S_drewN|apply Kd.S_drew));exact HO_433001.out) (Kd.R_base ho0) hb);have n4_:=Aside0.mk (Kd.R_elder' (zq4 HO_433002) (Kd.R_base ho0) hb);have n5_:=Aside0.mk (Kd.S_elder' (by(with_reducible repeat(first|apply Kd.S_alloc|apply Kd.S_drewN|apply Kd.S_drew));exact HO464.out) (Kd.R_base ho0) hb);have n6_:=Aside0.mk (Kd.S_elder' (by(with_reducible repeat(first|apply Kd.S_alloc|apply Kd.S_drewN|apply Kd.S_drew));exact HO467.out) (Kd.R_base ho0) hb);have n7_:=Aside0.mk (Kd.R_elder' (zq4 HO470) (Kd.R_base ho0) hb);have n8_:=Aside0.mk (Kd.R_elder' (zq4 HO473) (Kd.R_base ho0) hb);have n9_:=Aside0.mk (Kd.R_lower (Kd.R_new' (Kd.R_new' (Kd.R_new' (Kd.R_new' (Kd.R_new' ho0 (Kd.R_lt (zq4 HO_6))) (Kd.R_lt (zq4 HO_10))) (Kd.R_lt (zq4 HO_433002))) (Kd.R_lt (zq4 HO470))) (Kd.R_lt (zq4 HO473))) (below_size (zb2 HB GE405 GE432)));have n10_:=Aside0.mk (blk_below (g:=gb405) (o:= .cells #[.slice A0_0 l0_0.length c0_0,.slice A0_1 l0_1.length c0_1,.slice A0_2 l0_2.length c0_2] 30 (0,0)) (zq3 BK405) hb);have n11_:=Aside0.mk (blk_below (g:=gb432) (o:= .cells #[.slice Ao31 t423.length co31,.slice Ao34 t426.length co34,.slice Ao35 t429.length co35] 33 (0,0)) (zq3 BK432) hb);have n12_:=Aside0.mk (below_step (zb2 HB GE405 GE432) hb);clear HO_6;clear HO_10;clear HO_433000;clear HO_433001;clear HO_433002;clear HO464;clear HO467;clear HO470;clear HO473;clear BK405;clear BK432;clear HB;have HO_6:=n0_;have HO_10:=n1_;have HO_433000:=n2_;have HO_433001:=n3_;have HO_433002:=n4_;have HO464:=n5_;have HO467:=n6_;have HO470:=n7_;have HO473:=n8_;have HO476:=n9_;have BK405:=n10_;have BK432:=n11_;have HB:=n12_;clear n0_ n1_ n2_ n3_ n4_ n5_ n6_ n7_ n8_ n9_ n10_ n11_ n12_;(try clear hb);(try clear hb2);(try clear hk);(try clear hi);(try clear ho0)))
             (try simp only [Act.put,List.setIfInBounds_toArray,List.set_cons_zero,List.set_cons_succ])
             go_cut [108] (fun v108 wc=> ∃ (kq:Nat) (x108_75:Bool),v108= .bool x108_75∧Aside0 (laws_FnExactRanksOf.j2 kq t460 t459 x108_75=some r)∧Aside0 (kq≤kj52)∧Aside0 (Kd.R (Kd.int .i64) 3 wc w.heap.size (fun k_=>some k_≠ ((.slice Ao35 t429.length co35):Value).ownBlock) (.slice Ao77 t436.length co77) t460)∧Aside0 (Kd.S (Kd.slice 3 (Kd.int .i64)) 22 wc w.heap.size (fun k_=>some k_≠ ((.slice Ao77 t436.length co77):Value).ownBlock∧some k_≠ ((.slice Ao34 t426.length co34):Value).ownBlock∧some k_≠ ((.slice Ao35 t429.length co35):Value).ownBlock) (.slice Ao31 t423.length co31) q1_)∧Aside0 (Kd.S (Kd.slice 3 (Kd.int .i64)) 22 wc w.heap.size (fun k_=>some k_≠ ((.slice Ao77 t436.length co77):Value).ownBlock∧some k_≠ ((.slice Ao31 t423.length co31):Value).ownBlock∧some k_≠ ((.slice Ao35 t429.length co35):Value).ownBlock) (.slice Ao34 t426.length co34) q2_)∧Aside0 (Kd.R (Kd.int .i64) 3 wc w.heap.size (fun k_=>some k_≠ ((.slice Ao77 t436.length co77):Value).ownBlock) (.slice Ao35 t429.length co35) q3_)∧Aside0 (wc.heap[gb405]?=some (.cells #[(.slice A0_0 l0_0.length c0_0),(.slice A0_1 l0_1.length c0_1),(.slice A0_2 l0_2.length c0_2)] 30 (0,0)))∧Aside0 (wc.heap[gb432]?=some (.cells #[(.slice Ao31 t423.length co31),(.slice Ao34 t426.length co34),(.slice Ao35 t429.length co35)] 33 (0,0)))∧Aside0 (Below w.heap.size w wc))
             case first=>
              have H:=HC76.out
              clear HC76
              replace H:=Option.bind_eq_some_iff.mp H
              obtain⟨t478,A880,H⟩:=H
              replace H:(if t478=true then(laws_FnExactRanksOf.j2 kj52 t460 t459 (t477 !=t422)) else(laws_FnExactRanksOf.j2 kj52 t460 t459 true))=some r:=H
              have A88:=Aside0.mk A880
              clear A880
              by_cases c89:t478=true
              ·subst c89
               have H1:(laws_FnExactRanksOf.j2 kj52 t460 t459 (t477 !=t422))=some r:=by rw [if_pos rfl] at H;exact H
               clear H
               have H:=H1
               clear H1
               have H':=Aside0.mk H
               clear H
               obtain⟨Ao90,co90,eo90⟩:=Kd.R_slice HO476.out
               subst eo90
               obtain⟨Ao91,co91,eo91⟩:=Kd.R_slice HO_6.out
               subst eo91
               go_wp2_with (first|((with_reducible refine gate_callee (f:=16) rfl ?_);refine goesL_ (some 102) rfl rfl Try.func16 (by kernel_rfl) rfl #[.slice Ao90 t474.length co90,.slice Ao91 t419.length co91] rfl zq2 ?_;(with_reducible refine(laws_eqIntS.calls kj52 _ _ t474 _ _ t419 true _ ?side1 ?side2 ?side3 ?side4 A88.out).mono ?_);(case side1=>repeat(first|exact(Kd.R_reads' HO476.out).2.2|(with_reducible refine Kd.C_alloc ?_ _)|(with_reducible refine Kd.C_drewN ?_ _)|(with_reducible refine Kd.C_drew ?_)));(case side2=>exact(Kd.R_reads' HO476.out).2.1);(case side3=>repeat(first|exact(Kd.R_reads' HO_6.out).2.2|(with_reducible refine Kd.C_alloc ?_ _)|(with_reducible refine Kd.C_drewN ?_ _)|(with_reducible refine Kd.C_drew ?_)));(case side4=>exact(Kd.R_reads' HO_6.out).2.1);rintro e w' ⟨rfl,⟨nd,rfl⟩⟩;refine⟨_,rfl,?_⟩))
               go_meet
               case rel=>exact⟨_,((t477 !=t422)),(by first|rfl|(simp;done)|(simp [*];done)),H',⟨by have:=HJ15.out;have:=HJ52.out;first|omega|exact Nat.le_refl _⟩,⟨by(with_reducible repeat(first|apply Kd.R_alloc|apply Kd.R_drewN|apply Kd.R_drew));exact Kd.R_mono HO_10.out (fun _ hk=>hk.1.1.1.2)⟩,⟨by(with_reducible repeat(first|apply Kd.S_alloc|apply Kd.S_drewN|apply Kd.S_drew));exact Kd.S_mono HO_433000.out (fun _ hk=>⟨hk.1.1.1.1.1.2.1,⟨hk.1.1.1.1.1.2.2.1,hk.1.1.1.1.1.2.2.2⟩⟩)⟩,⟨by(with_reducible repeat(first|apply Kd.S_alloc|apply Kd.S_drewN|apply Kd.S_drew));exact Kd.S_mono HO_433001.out (fun _ hk=>⟨hk.1.1.1.1.1.2.1,⟨hk.1.1.1.1.1.2.2.1,hk.1.1.1.1.1.2.2.2⟩⟩)⟩,⟨by(with_reducible repeat(first|apply Kd.R_alloc|apply Kd.R_drewN|apply Kd.R_drew));exact Kd.R_mono HO_433002.out (fun _ hk=>hk.1.1.1.2)⟩,⟨by(with_reducible repeat(first|refine blk_drewN ?_ _|refine blk_drew ?_ |refine blk_alloc ?_ _));exact BK405.out⟩,⟨by(with_reducible repeat(first|refine blk_drewN ?_ _|refine blk_drew ?_ |refine blk_alloc ?_ _));exact BK432.out⟩,⟨by repeat(first|(with_reducible first|exact HB.out|apply below_alloc|apply pw_below_drewN|apply below_drew1|refine below_set ?_ GE405.out|refine below_set ?_ GE432.out)|exact HB.out)⟩⟩
              ·replace c89:=Bool.eq_false_iff.mpr c89
               subst c89
               have H1:(laws_FnExactRanksOf.j2 kj52 t460 t459 true)=some r:=by rw [if_neg (show ¬ (false=true) by decide)] at H;exact H
               clear H
               have H:=H1
               clear H1
               exact absurd (H.trans (congrArg some HRT.out)) (by cases kj52<;>simp [laws_FnExactRanksOf.j2])
             case rest=>
              clear HC76
              try clear c1
              try clear c2
              try clear p2
              try clear c3
              try clear c3b0
              try clear c3b1
              try clear c4
              try clear c5
              try clear c6
              try clear c6b0
              try clear c7
              try clear c8
              try clear c14
              try clear c16
              try clear c17
              try clear c19
              try clear c21
              try clear c27
              try clear c28
              try clear c29
              try clear c30
              try clear c32
              try clear c41
              try clear c44
              try clear c47
              try clear c50
              try clear c63
              try clear c63b0
              try clear c65
              try clear c68
              try clear c71
              try clear c71b0
              try clear c72
              try clear c72b0
              try clear c72b1
              try clear c79
              try clear c89
              try clear hcz18_0
              try clear hcz18_1
              try clear hcz18_2
              try clear hcz20_0
              try clear hcz20_1
              try clear hcz20_2
              try clear hcz28_0
              try clear hcz28_1
              try clear hcz28_2
              try clear hcz33_0
              try clear hcz33_1
              try clear hcz33_2
              try clear hcz37_0
              try clear hcz37_1
              try clear hcz37_2
              try clear hcz80_0
              try clear hcz80_1
              try clear hcz80_2
              try clear hcz8_0
              try clear hcz8_1
              try clear hcz8_2
              try clear hfz18_0
              try clear hfz18_1
              try clear hfz18_2
              try clear hfz20_0
              try clear hfz20_1
              try clear hfz20_2
              try clear hfz28_0
              try clear hfz28_1
              try clear hfz28_2
              try clear hfz33_0
              try clear hfz33_1
              try clear hfz33_2
              try clear hfz37_0
              try clear hfz37_1
              try clear hfz37_2
              try clear hfz80_0
              try clear hfz80_1
              try clear hfz80_2
              try clear hfz8_0
              try clear hfz8_1
              try clear hfz8_2
              try clear p2
              obtain⟨kq,x108_75,rfl,HA,HJ75,HO_10,HO_433000,HO_433001,HO_433002,BK405,BK432,HB⟩:=hcut
              have hl10_75:=(Kd.R_reads' HO_10.out).1
              rw [hl10_75] at HO_10
              (try simp only [hl10_75])
              (try simp only [hl10_75] at BK405)
              (try simp only [hl10_75] at BK432)
              (try simp only [hl10_75] at HO_433000)
              (try simp only [hl10_75] at HO_433001)
              (try simp only [hl10_75] at HO_433002)
              cases kq with
              |zero=>exact absurd HA.out (by simp [laws_FnExactRanksOf.j2])
              |succ kj75=>
               have H:=HA.out
               clear HA
               simp only [laws_FnExactRanksOf.j2] at H
               by_cases c92:x108_75=true
               ·subst c92
                have H1:(some false)=some r:=by rw [if_pos rfl] at H;exact H
                clear H
                have H:=H1
                clear H1
                exact absurd ((Option.some.inj H).trans HRT.out) (by decide)
               ·replace c92:=Bool.eq_false_iff.mpr c92
                subst c92
                have H1:((laws_heldIntS.f kj75 t460 1).bind fun t479=>(if t479< 0 then(some false) else(if t479=t459 then(some true) else(some false))))=some r:=by rw [if_neg (show ¬ (false=true) by decide)] at H;exact H
                clear H
                have H:=H1
                clear H1
                replace H:=Option.bind_eq_some_iff.mp H
                obtain⟨t479,A930,H⟩:=H
                replace H:(if t479< 0 then(some false) else(if t479=t459 then(some true) else(some false)))=some r:=H
                have A93:=Aside0.mk A930
                clear A930
                by_cases c94:t479< 0
                ·rw [if_pos c94] at H
                 have c94b0:decide (t479< 0)=true:=decide_eq_true c94
                 clear c94
                 exact absurd ((Option.some.inj H).trans HRT.out) (by decide)
                ·rw [if_neg c94] at H
                 have c94b0:decide (t479< 0)=false:=decide_eq_false c94
                 clear c94
                 by_cases c95:t479=t459
                 ·rw [if_pos c95] at H
                  have c95b0:(t479==t459)=true:=beq_iff_eq.mpr c95
                  have c95b1:(t479 !=t459)=false:=bne_eq_false_iff_eq.mpr c95
                  clear c95
                  obtain rfl:=Option.some.inj H
                  go_wp2_with (first|((with_reducible refine gate_callee (f:=28) rfl ?_);refine goesL_ (some 111) rfl rfl Try.func28 (by kernel_rfl) rfl #[.slice Ao77 t460.length co77,.int .i64 1] rfl zq2 ?_;(with_reducible refine(laws_heldIntS.calls kj75 _ _ t460 1 t479 _ ?side1 ?side2 A93.out).mono ?_);(case side1=>repeat(first|exact(Kd.R_reads' HO_10.out).2.2|(with_reducible refine Kd.C_alloc ?_ _)|(with_reducible refine Kd.C_drewN ?_ _)|(with_reducible refine Kd.C_drew ?_)));(case side2=>exact(Kd.R_reads' HO_10.out).2.1);rintro e w' ⟨rfl,⟨nd,rfl⟩⟩;refine⟨_,rfl,?_⟩))
                  go_ret
                  exact⟨by first|rfl|(simp [errW_none,errW_some]<;>rfl)|(simp [*,errW_none,errW_some]<;>rfl),by repeat(first|(with_reducible first|exact HB.out|apply below_alloc|apply pw_below_drewN|apply below_drew1|refine below_set ?_ GE405.out|refine below_set ?_ GE432.out)|exact HB.out)⟩
                 ·rw [if_neg c95] at H
                  have c95b0:(t479==t459)=false:=beq_eq_false_iff_ne.mpr c95
                  have c95b1:(t479 !=t459)=true:=bne_iff_ne.mpr c95
                  exact absurd ((Option.some.inj H).trans HRT.out) (by decide)
            ·rw [if_neg c72] at H
             have c72b0:(t461==t459)=false:=beq_eq_false_iff_ne.mpr c72
             have c72b1:(t461 !=t459)=true:=bne_iff_ne.mpr c72
             exact absurd ((Option.some.inj H).trans HRT.out) (by decide)
       ·replace c50:=Bool.eq_false_iff.mpr c50
        subst c50
        have H1:(some false)=some r:=by rw [if_neg (show ¬ (false=true) by decide)] at H;exact H
        clear H
        have H:=H1
        clear H1
        exact absurd ((Option.some.inj H).trans HRT.out) (by decide)
      ·replace c47:=Bool.eq_false_iff.mpr c47
       subst c47
       have H1:(some false)=some r:=by rw [if_neg (show ¬ (false=true) by decide)] at H;exact H
       clear H
       have H:=H1
       clear H1
       exact absurd ((Option.some.inj H).trans HRT.out) (by decide)
end Go.Proofs.Ytoipbblhmcpneaa.P

namespace Go.Proofs.Ytoipbblhmcpneaa.P
open Go.RowKit Go.Proofs.YtoipbblhmcpneaaW.PrintWords Go.Proofs.YtoipbblhmcpneaaW.PrintLast
def wfS30 (s : S30) : Prop := (fun l : List (List Int) => l.length ≤ maxLen ∧ ∀ x ∈ l, (fun l : List Int => l.length ≤ maxLen ∧ ∀ x ∈ l, (fun n : Int => (Lit.int .i64 n).wf = true) x) x) s.f0 ∧ (fun l : List (List Int) => l.length ≤ maxLen ∧ ∀ x ∈ l, (fun l : List Int => l.length ≤ maxLen ∧ ∀ x ∈ l, (fun n : Int => (Lit.int .i64 n).wf = true) x) x) s.f1 ∧ (fun l : List Int => l.length ≤ maxLen ∧ ∀ x ∈ l, (fun n : Int => (Lit.int .i64 n).wf = true) x) s.f2
/-- The one pure statement of laws_FnExactRanksOf. -/
def laws_FnExactRanksOf.Pure : Prop := ∀ (s0 : S30) (l1 : List Int), wfS30 s0 → (fun l : List Int => l.length ≤ maxLen ∧ ∀ x ∈ l, (fun n : Int => (Lit.int .i64 n).wf = true) x) l1 → ∃ k, laws_FnExactRanksOf.f k s0.f0 s0.f1 s0.f2 l1 = some true
end Go.Proofs.Ytoipbblhmcpneaa.P

namespace Go.Proofs.Ytoipbblhmcpneaa.P
open Go.RowKit Go.Proofs.YtoipbblhmcpneaaW.PrintWords Go.Proofs.YtoipbblhmcpneaaW.PrintLast
set_option linter.unusedVariables false
set_option linter.unusedSimpArgs false
theorem rd_mid (pre : List Int) (x : Int) (suf : List Int) : rd (pre ++ x :: suf) (pre.length : Int) = x := getD_mid _ pre x suf
theorem eqIntS_l (s : List Int) : ∀ (t pre qre : List Int) (k : Nat), s.length < k → pre.length = qre.length → s.length = t.length → (pre.length : Int) + s.length ≤ 1099511627776 →
  laws_eqIntS.l0 k (pre ++ s) (qre ++ t) (pre.length : Int) = some (decide (s = t)) := by
 induction s with
 | nil =>
  intro t pre qre k hk hq hl hb
  obtain ⟨k, rfl⟩ : ∃ m, k = m + 1 := ⟨k - 1, by omega⟩
  obtain rfl : t = [] := List.eq_nil_of_length_eq_zero (by simpa using hl.symm)
  simp only [laws_eqIntS.l0]
  rw [if_neg (by simp)]
  simp
 | cons x s ih =>
  intro t pre qre k hk hq hl hb
  cases t with
  | nil => simp at hl
  | cons y t =>
   simp only [List.length_cons] at hk hl hb
   obtain ⟨k, rfl⟩ : ∃ m, k = m + 1 := ⟨k - 1, by omega⟩
   have h := ih t (pre ++ [x]) (qre ++ [y]) k (by omega) (by simp; omega) (by omega) (by simp; omega)
   have hy : rd (qre ++ y :: t) (pre.length : Int) = y := by rw [hq]; exact rd_mid qre y t
   simp only [laws_eqIntS.l0]
   rw [if_pos (by simp <;> omega), if_pos (by omega), if_pos (by simp <;> omega), rd_mid, hy, wrap_id (by omega) (by omega)]
   by_cases e : x = y
   ·subst e
    rw [if_pos rfl]
    simpa using h
   ·rw [if_neg e]
    simp [e]
theorem eqIntS_ev (s t : List Int) (hs : s.length ≤ 1099511627776) : Ev (fun k => laws_eqIntS.f k s t) (decide (s = t)) := by
 refine ⟨s.length + 1, fun k hk => ?_⟩
 show laws_eqIntS.f k s t = _
 unfold laws_eqIntS.f
 by_cases hl : s.length = t.length
 ·rw [if_pos (by omega)]
  exact eqIntS_l s t [] [] k (by omega) rfl hl (by simp; omega)
 ·rw [if_neg (by omega)]
  have : s ≠ t := fun e => hl (by rw [e])
  simp [this]
end Go.Proofs.Ytoipbblhmcpneaa.P

namespace Go.Proofs.Ytoipbblhmcpneaa.P
open Go.RowKit Go.Proofs.YtoipbblhmcpneaaW.PrintWords Go.Proofs.YtoipbblhmcpneaaW.PrintLast
set_option linter.unusedVariables false
set_option linter.unusedSimpArgs false
-- a list taken over
theorem toIntS_l (suf : List Int) : ∀ (pre : List Int), ((pre ++ suf).length : Int) ≤ 1099511627776 → Ev (fun k => laws_toIntS.l0 k (pre ++ suf) (pre ++ List.replicate suf.length 0) pre.length) (pre ++ suf) := by
 induction suf with
 | nil =>
  intro pre h
  refine Ev.succ ?_
  simp only [laws_toIntS.l0, List.append_nil, Int.lt_irrefl, if_false, List.length_nil, List.replicate_zero]
  exact Ev.now _
 | cons x suf ih =>
  intro pre h
  refine Ev.succ ?_
  rw [len_mid] at h
  have := ih (pre ++ [x]) (by rw [← app_one, len_mid]; exact h)
  rw [← app_one, len_one] at this
  have hr : ((pre ++ List.replicate (x :: suf).length (0 : Int)).length : Int) = pre.length + suf.length + 1 := by simp; omega
  simp only [laws_toIntS.l0]
  simp only [len_mid, hr, if_pos (show ((pre.length : Int) < pre.length + suf.length + 1) by omega), if_pos (show (0 : Int) ≤ pre.length by omega), rd_mid, wrap_id (show (-9223372036854775808 : Int) ≤ pre.length + 1 by omega) (show ((pre.length : Int) + 1 ≤ 9223372036854775807) by omega)]
  rw [List.length_cons, List.replicate_succ, set_mid, app_one pre x (List.replicate suf.length 0)]
  exact this
theorem toIntS_ev (l : List Int) (hl : l.length ≤ 1048576) : Ev (fun k => laws_toIntS.f k l) l := by
 unfold laws_toIntS.f
 simp only [if_pos (show (0 : Int) ≤ (l.length : Int) by omega), Int.toNat_natCast, if_pos (show l.length ≤ 35184372088832 by omega)]
 have := toIntS_l l [] (by simp only [List.nil_append]; omega)
 exact this
end Go.Proofs.Ytoipbblhmcpneaa.P

namespace Go.Proofs.Ytoipbblhmcpneaa.P
open Go.RowKit Go.Proofs.YtoipbblhmcpneaaW.PrintWords Go.Proofs.YtoipbblhmcpneaaW.PrintLast
set_option linter.unusedVariables false
set_option linter.unusedSimpArgs false
theorem rdSS_mid (pre : List (List Int)) (x : List Int) (suf : List (List Int)) : rd_L1 (pre ++ x :: suf) (pre.length : Int) = x := getD_mid _ pre x suf
theorem eqSame_l (suf : List (List Int)) (hs : ∀ x ∈ suf, x.length ≤ 1048576) : ∀ (pre : List (List Int)), ((pre ++ suf).length : Int) ≤ 1099511627776 → Ev (fun k => laws_eqIntSS.l0 k (pre ++ suf) (pre ++ suf) pre.length) true := by
 induction suf with
 | nil =>
  intro pre h
  refine Ev.succ ?_
  simp only [laws_eqIntSS.l0, List.append_nil, Int.lt_irrefl, if_false]
  exact Ev.now _
 | cons x suf ih =>
  intro pre h
  refine Ev.succ ?_
  rw [len_mid] at h
  have := ih (fun y hy => hs y (List.mem_cons_of_mem _ hy)) (pre ++ [x]) (by rw [← app_one, len_mid]; exact h)
  rw [← app_one, len_one] at this
  have hx := hs x (List.mem_cons_self ..)
  simp only [laws_eqIntSS.l0]
  simp only [len_mid, if_pos (show ((pre.length : Int) < pre.length + suf.length + 1) by omega), if_pos (show (0 : Int) ≤ pre.length by omega), rdSS_mid, wrap_id (show (-9223372036854775808 : Int) ≤ pre.length + 1 by omega) (show ((pre.length : Int) + 1 ≤ 9223372036854775807) by omega)]
  refine Ev.bind (eqIntS_ev x x (by omega)) ?_
  simp only [decide_true, if_true]
  exact this
theorem eqSame_ev (l : List (List Int)) (hl : l.length ≤ 1048576) (hs : ∀ x ∈ l, x.length ≤ 1048576) : Ev (fun k => laws_eqIntSS.f k l l) true := by
 unfold laws_eqIntSS.f
 simp only [if_true]
 exact eqSame_l l hs [] (by simp only [List.nil_append]; omega)
end Go.Proofs.Ytoipbblhmcpneaa.P

namespace Go.Proofs.Ytoipbblhmcpneaa.P
open Go.RowKit Go.Proofs.YtoipbblhmcpneaaW.PrintWords Go.Proofs.YtoipbblhmcpneaaW.PrintLast
set_option linter.unusedVariables false
set_option linter.unusedSimpArgs false
-- rows of numbers: sizes, copies, comparisons
theorem szIntS_is (l : List Int) (hl : l.length ≤ maxLen) (a : Int) (h0 : 0 ≤ a) (h1 : a ≤ 1048576) : laws_szIntS.f l a = some (if a - l.length < 0 then -1 else a - l.length) := by
 have hm : l.length ≤ 9223372036854775807 := by unfold maxLen at hl; exact hl
 unfold laws_szIntS.f
 rw [wrap_id (by omega) (by omega)]
 split <;> rfl
def szGo : List (List Int) → Int → Int
 | [], a => a
 | x :: r, a => if a - x.length < 0 then -1 else szGo r (a - x.length)
theorem szGo_le : ∀ (l : List (List Int)) (a : Int), 0 ≤ a → szGo l a ≤ a ∧ (¬ szGo l a < 0 → ∀ x ∈ l, (x.length : Int) ≤ a)
 | [], a, h => ⟨Int.le_refl _, fun _ x hx => by simp at hx⟩
 | y :: r, a, h => by
  rw [szGo]
  by_cases h1 : a - y.length < 0
  ·rw [if_pos h1]
   exact ⟨by omega, fun hc => absurd (by omega) hc⟩
  ·rw [if_neg h1]
   have h2 := szGo_le r (a - y.length) (by omega)
   refine ⟨by omega, fun hc x hx => ?_⟩
   rcases List.mem_cons.1 hx with rfl | hx
   ·omega
   ·have := h2.2 hc x hx
    omega
theorem szIntSS_l (suf : List (List Int)) : ∀ (pre : List (List Int)) (a : Int), ((pre ++ suf).length : Int) ≤ 1099511627776 → (∀ x ∈ suf, x.length ≤ maxLen) → 0 ≤ a → a ≤ 1048576 → Ev (fun k => laws_szIntSS.l0 k (pre ++ suf) a pre.length) (szGo suf a) := by
 induction suf with
 | nil =>
  intro pre a h hm h0 h1
  refine Ev.succ ?_
  simp only [laws_szIntSS.l0, List.append_nil, Int.lt_irrefl, if_false, szGo]
  exact Ev.now _
 | cons x suf ih =>
  intro pre a h hm h0 h1
  refine Ev.succ ?_
  rw [len_mid] at h
  have hx := hm x (List.mem_cons_self ..)
  simp only [laws_szIntSS.l0, len_mid, rdSS_mid, if_pos (show ((pre.length : Int) < pre.length + suf.length + 1) by omega), if_pos (show (0 : Int) ≤ pre.length by omega), wrap_id (show (-9223372036854775808 : Int) ≤ pre.length + 1 by omega) (show ((pre.length : Int) + 1 ≤ 9223372036854775807) by omega)]
  rw [szIntS_is x hx a h0 h1, szGo]
  simp only [Option.bind_some]
  by_cases h2 : a - x.length < 0
  ·simp only [if_pos h2, if_pos (show (-1 : Int) < 0 by omega)]
   exact Ev.now _
  ·simp only [if_neg h2]
   have := ih (pre ++ [x]) (a - x.length) (by rw [← app_one, len_mid]; exact h) (fun y hy => hm y (List.mem_cons_of_mem _ hy)) (by omega) (by omega)
   rw [← app_one, len_one] at this
   exact this
def szSS (l : List (List Int)) (a : Int) : Int := if a - l.length < 0 then -1 else szGo l (a - l.length)
theorem szIntSS_ev (l : List (List Int)) (hl : l.length ≤ maxLen) (hm : ∀ x ∈ l, x.length ≤ maxLen) (a : Int) (h0 : 0 ≤ a) (h1 : a ≤ 1048576) : Ev (fun k => laws_szIntSS.f k l a) (szSS l a) := by
 have hm' : l.length ≤ 9223372036854775807 := by unfold maxLen at hl; exact hl
 unfold laws_szIntSS.f szSS
 rw [wrap_id (by omega) (by omega)]
 by_cases h2 : a - l.length < 0
 ·simp only [if_pos h2]
  exact Ev.now _
 ·simp only [if_neg h2]
  exact szIntSS_l l [] (a - l.length) (by simp only [List.nil_append]; omega) hm (by omega) (by omega)
theorem szSS_le (l : List (List Int)) (a : Int) (h0 : 0 ≤ a) : szSS l a ≤ a ∧ (¬ szSS l a < 0 → (l.length : Int) ≤ a ∧ ∀ x ∈ l, (x.length : Int) ≤ a) := by
 unfold szSS
 by_cases h2 : a - l.length < 0
 ·rw [if_pos h2]
  exact ⟨by omega, fun hc => absurd (by omega) hc⟩
 ·rw [if_neg h2]
  have := szGo_le l (a - l.length) (by omega)
  exact ⟨by omega, fun hc => ⟨by omega, fun x hx => by have := this.2 hc x hx; omega⟩⟩
theorem toIntSS_l (suf : List (List Int)) (hs : ∀ x ∈ suf, x.length ≤ 1048576) : ∀ (pre : List (List Int)), ((pre ++ suf).length : Int) ≤ 1099511627776 → Ev (fun k => laws_toIntSS.l0 k (pre ++ suf) (pre ++ List.replicate suf.length []) pre.length) (pre ++ suf) := by
 induction suf with
 | nil =>
  intro pre h
  refine Ev.succ ?_
  simp only [laws_toIntSS.l0, List.append_nil, Int.lt_irrefl, if_false, List.length_nil, List.replicate_zero]
  exact Ev.now _
 | cons x suf ih =>
  intro pre h
  refine Ev.succ ?_
  rw [len_mid] at h
  have := ih (fun y hy => hs y (List.mem_cons_of_mem _ hy)) (pre ++ [x]) (by rw [← app_one, len_mid]; exact h)
  rw [← app_one, len_one] at this
  have hr : ((pre ++ List.replicate (x :: suf).length ([] : List Int)).length : Int) = pre.length + suf.length + 1 := by simp; omega
  simp only [laws_toIntSS.l0]
  simp only [len_mid, hr, if_pos (show ((pre.length : Int) < pre.length + suf.length + 1) by omega), if_pos (show (0 : Int) ≤ pre.length by omega), rdSS_mid, wrap_id (show (-9223372036854775808 : Int) ≤ pre.length + 1 by omega) (show ((pre.length : Int) + 1 ≤ 9223372036854775807) by omega)]
  refine Ev.bind (toIntS_ev x (hs x (List.mem_cons_self ..))) ?_
  rw [List.length_cons, List.replicate_succ, set_mid, app_one pre x (List.replicate suf.length [])]
  exact this
theorem toIntSS_ev (l : List (List Int)) (hl : l.length ≤ 1048576) (hs : ∀ x ∈ l, x.length ≤ 1048576) : Ev (fun k => laws_toIntSS.f k l) l := by
 unfold laws_toIntSS.f
 simp only [if_pos (show (0 : Int) ≤ (l.length : Int) by omega), Int.toNat_natCast, if_pos (show l.length ≤ 11728124029610 by omega)]
 have := toIntSS_l l hs [] (by simp only [List.nil_append]; omega)
 exact this
end Go.Proofs.Ytoipbblhmcpneaa.P

namespace Go.Proofs.Ytoipbblhmcpneaa.P
open Go.RowKit Go.Proofs.YtoipbblhmcpneaaW.PrintWords Go.Proofs.YtoipbblhmcpneaaW.PrintLast
set_option linter.unusedVariables false
set_option linter.unusedSimpArgs false
-- the place of a number in a list, both sides
def placeGo (x : Int) : List Int → Int → Option Int
 | [], _ => none
 | y :: r, i => if y = x then some i else placeGo x r (i + 1)
theorem has_l (x : Int) (suf : List Int) : ∀ (pre : List Int), ((pre ++ suf).length : Int) ≤ 1099511627776 → Ev (fun k => spec_l1Has.l0 k x (pre ++ suf) ((pre ++ suf).length : Int) pre.length) (placeGo x suf pre.length).isSome := by
 induction suf with
 | nil =>
  intro pre h
  refine Ev.succ ?_
  simp only [spec_l1Has.l0, List.append_nil, Int.lt_irrefl, if_false, placeGo, Option.isSome_none]
  exact Ev.now _
 | cons y suf ih =>
  intro pre h
  refine Ev.succ ?_
  rw [len_mid] at h ⊢
  have := ih (pre ++ [y]) (by rw [← app_one, len_mid]; exact h)
  rw [← app_one, len_mid, len_one] at this
  simp only [spec_l1Has.l0, placeGo]
  simp only [if_pos (show ((pre.length : Int) < pre.length + suf.length + 1) by omega), if_pos (show (0 : Int) ≤ pre.length by omega), len_mid, rd_mid, wrap_id (show (-9223372036854775808 : Int) ≤ pre.length + 1 by omega) (show ((pre.length : Int) + 1 ≤ 9223372036854775807) by omega)]
  by_cases h1 : y = x
  ·simp only [if_pos h1, Option.isSome_some]
   exact Ev.now _
  ·simp only [if_neg h1]
   exact this
theorem place_l (l : List Int) (x : Int) (suf : List Int) : ∀ (pre : List Int), ((pre ++ suf).length : Int) ≤ 1099511627776 → Ev (fun k => spec_l12Place.l0 k l x (pre ++ suf) ((pre ++ suf).length : Int) pre.length) ((placeGo x suf pre.length).getD (l.length : Int)) := by
 induction suf with
 | nil =>
  intro pre h
  refine Ev.succ ?_
  simp only [spec_l12Place.l0, List.append_nil, Int.lt_irrefl, if_false, placeGo, Option.getD_none]
  exact Ev.now _
 | cons y suf ih =>
  intro pre h
  refine Ev.succ ?_
  rw [len_mid] at h ⊢
  have := ih (pre ++ [y]) (by rw [← app_one, len_mid]; exact h)
  rw [← app_one, len_mid, len_one] at this
  simp only [spec_l12Place.l0, placeGo]
  simp only [if_pos (show ((pre.length : Int) < pre.length + suf.length + 1) by omega), if_pos (show (0 : Int) ≤ pre.length by omega), len_mid, rd_mid, wrap_id (show (-9223372036854775808 : Int) ≤ pre.length + 1 by omega) (show ((pre.length : Int) + 1 ≤ 9223372036854775807) by omega)]
  by_cases h1 : y = x
  ·simp only [if_pos h1, Option.getD_some]
   exact Ev.now _
  ·simp only [if_neg h1]
   exact this
theorem index_l (x : Int) (suf : List Int) : ∀ (pre : List Int), ((pre ++ suf).length : Int) ≤ 1099511627776 → Ev (fun k => slices_Index_int.l0 k (pre ++ suf) x ((pre ++ suf).length : Int) pre.length) ((placeGo x suf pre.length).getD (-1)) := by
 induction suf with
 | nil =>
  intro pre h
  refine Ev.succ ?_
  simp only [slices_Index_int.l0, List.append_nil, Int.lt_irrefl, if_false, placeGo, Option.getD_none]
  exact Ev.now _
 | cons y suf ih =>
  intro pre h
  refine Ev.succ ?_
  rw [len_mid] at h ⊢
  have := ih (pre ++ [y]) (by rw [← app_one, len_mid]; exact h)
  rw [← app_one, len_mid, len_one] at this
  simp only [slices_Index_int.l0, placeGo]
  simp only [if_pos (show ((pre.length : Int) < pre.length + suf.length + 1) by omega), if_pos (show (0 : Int) ≤ pre.length by omega), len_mid, rd_mid, wrap_id (show (-9223372036854775808 : Int) ≤ pre.length + 1 by omega) (show ((pre.length : Int) + 1 ≤ 9223372036854775807) by omega)]
  by_cases h1 : y = x
  ·simp only [if_pos h1, if_pos h1.symm, Option.getD_some]
   exact Ev.now _
  ·simp only [if_neg h1, if_neg (fun hc => h1 (Eq.symm hc))]
   exact this
theorem placeGo_ge (x : Int) : ∀ (l : List Int) (i r : Int), placeGo x l i = some r → i ≤ r
 | [], _, _, h => by cases h
 | y :: l, i, r, h => by
  rw [placeGo] at h
  split at h
  ·cases h
   omega
  ·have := placeGo_ge x l (i + 1) r h
   omega
theorem has_ev (x : Int) (l : List Int) (h : (l.length : Int) ≤ 1099511627776) : Ev (fun k => spec_l1Has.f k l x) (placeGo x l 0).isSome := by
 have := has_l x l [] h
 exact this
theorem place_ev (x : Int) (l : List Int) (h : (l.length : Int) ≤ 1099511627776) : Ev (fun k => spec_l12Place.f k l x) ((placeGo x l 0).getD (l.length : Int)) := by
 have := place_l l x l [] h
 exact this
theorem index_ev (x : Int) (l : List Int) (h : (l.length : Int) ≤ 1099511627776) : Ev (fun k => slices_Index_int.f k l x) ((placeGo x l 0).getD (-1)) := by
 have := index_l x l [] h
 exact this
end Go.Proofs.Ytoipbblhmcpneaa.P

namespace Go.Proofs.Ytoipbblhmcpneaa.P
open Go.RowKit Go.Proofs.YtoipbblhmcpneaaW.PrintWords Go.Proofs.YtoipbblhmcpneaaW.PrintLast
set_option linter.unusedVariables false
set_option linter.unusedSimpArgs false
-- sweeps over a list of numbers, and a list taken over, both sides
theorem specIn (a b c : Int) : spec_l1In.f a b c = some (decide (b ≤ a ∧ a ≤ c)) := by
 unfold spec_l1In.f
 by_cases h : a ≥ b
 ·rw [if_pos h]
  congr 1
  by_cases h2 : a ≤ c
  ·rw [decide_eq_true h2, decide_eq_true ⟨h, h2⟩]
  ·rw [decide_eq_false h2, decide_eq_false (fun hc => h2 hc.2)]
 ·rw [if_neg h, decide_eq_false (fun hc => h hc.1)]
theorem implIn (a b c : Int) : impl_in.f a b c = some (decide (b ≤ a ∧ a ≤ c)) := specIn a b c
def allIn (a b : Int) (l : List Int) : Bool := l.all fun x => decide (a ≤ x ∧ x ≤ b)
theorem implAll_l (a b : Int) (suf : List Int) : ∀ (pre : List Int), ((pre ++ suf).length : Int) ≤ 1099511627776 → Ev (fun k => impl_allIn.l0 k a b (pre ++ suf) ((pre ++ suf).length : Int) pre.length) (allIn a b suf) := by
 induction suf with
 | nil =>
  intro pre h
  refine Ev.succ ?_
  simp only [impl_allIn.l0, List.append_nil, Int.lt_irrefl, if_false]
  exact Ev.now _
 | cons x suf ih =>
  intro pre h
  refine Ev.succ ?_
  rw [len_mid] at h ⊢
  simp only [impl_allIn.l0]
  simp only [if_pos (show ((pre.length : Int) < pre.length + suf.length + 1) by omega), if_pos (show (0 : Int) ≤ pre.length by omega), len_mid, rd_mid, implIn, Option.bind_some, wrap_id (show (-9223372036854775808 : Int) ≤ pre.length + 1 by omega) (show ((pre.length : Int) + 1 ≤ 9223372036854775807) by omega)]
  by_cases hx : a ≤ x ∧ x ≤ b
  ·have := ih (pre ++ [x]) (by rw [← app_one, len_mid]; exact h)
   rw [← app_one, len_mid, len_one] at this
   simp only [hx, and_self, decide_true, if_true]
   rw [show allIn a b (x :: suf) = allIn a b suf by simp [allIn, hx]]
   exact this
  ·simp only [decide_eq_true_eq, if_neg hx]
   rw [show allIn a b (x :: suf) = false by simp [allIn]; intro h1 h2; exact absurd ⟨h1, h2⟩ hx]
   exact Ev.now _
theorem implAll_ev (a b : Int) (l : List Int) (h : (l.length : Int) ≤ 1099511627776) : Ev (fun k => impl_allIn.f k l a b) (allIn a b l) := by
 have := implAll_l a b l [] h
 exact this
end Go.Proofs.Ytoipbblhmcpneaa.P

namespace Go.Proofs.Ytoipbblhmcpneaa.P
open Go.RowKit Go.Proofs.YtoipbblhmcpneaaW.PrintWords Go.Proofs.YtoipbblhmcpneaaW.PrintLast
set_option linter.unusedVariables false
set_option linter.unusedSimpArgs false
-- the given sweep over a list of numbers
theorem specAll_l (a b : Int) (suf : List Int) : ∀ (pre : List Int), ((pre ++ suf).length : Int) ≤ 1099511627776 → Ev (fun k => spec_l1All.l0 k a b (pre ++ suf) ((pre ++ suf).length : Int) pre.length) (allIn a b suf) := by
 induction suf with
 | nil =>
  intro pre h
  refine Ev.succ ?_
  simp only [spec_l1All.l0, List.append_nil, Int.lt_irrefl, if_false]
  exact Ev.now _
 | cons x suf ih =>
  intro pre h
  refine Ev.succ ?_
  rw [len_mid] at h ⊢
  simp only [spec_l1All.l0]
  simp only [if_pos (show ((pre.length : Int) < pre.length + suf.length + 1) by omega), if_pos (show (0 : Int) ≤ pre.length by omega), len_mid, rd_mid, specIn, Option.bind_some, wrap_id (show (-9223372036854775808 : Int) ≤ pre.length + 1 by omega) (show ((pre.length : Int) + 1 ≤ 9223372036854775807) by omega)]
  by_cases hx : a ≤ x ∧ x ≤ b
  ·have := ih (pre ++ [x]) (by rw [← app_one, len_mid]; exact h)
   rw [← app_one, len_mid, len_one] at this
   simp only [hx, and_self, decide_true, if_true]
   rw [show allIn a b (x :: suf) = allIn a b suf by simp [allIn, hx]]
   exact this
  ·simp only [decide_eq_true_eq, if_neg hx]
   rw [show allIn a b (x :: suf) = false by simp [allIn]; intro h1 h2; exact absurd ⟨h1, h2⟩ hx]
   exact Ev.now _
theorem specAll_ev (a b : Int) (l : List Int) (h : (l.length : Int) ≤ 1099511627776) : Ev (fun k => spec_l1All.f k l a b) (allIn a b l) := by
 have := specAll_l a b l [] h
 exact this
end Go.Proofs.Ytoipbblhmcpneaa.P

namespace Go.Proofs.Ytoipbblhmcpneaa.P
open Go.RowKit Go.Proofs.YtoipbblhmcpneaaW.PrintWords Go.Proofs.YtoipbblhmcpneaaW.PrintLast
set_option linter.unusedVariables false
set_option linter.unusedSimpArgs false
-- good wishes, both sides
structure okW (f0 f1 : List (List Int)) (f2 : List Int) : Prop where
 a0 : f0.length ≤ 1048576
 a1 : f1.length ≤ 1048576
 a2 : f2.length ≤ 1048576
 b0 : ∀ x ∈ f0, x.length ≤ 1048576
 b1 : ∀ x ∈ f1, x.length ≤ 1048576
theorem szWishes_ev (f0 f1 : List (List Int)) (f2 : List Int) (h0 : f0.length ≤ maxLen) (h0' : ∀ x ∈ f0, x.length ≤ maxLen) (h1 : f1.length ≤ maxLen) (h1' : ∀ x ∈ f1, x.length ≤ maxLen) (h2 : f2.length ≤ maxLen) :
  ∃ r, Ev (fun k => laws_szWishes.f k f0 f1 f2 1048576) r ∧ (¬ r < 0 → okW f0 f1 f2) := by
 unfold laws_szWishes.f
 have e0 := szIntSS_ev f0 h0 h0' 1048576 (by omega) (by omega)
 have l0 := szSS_le f0 1048576 (by omega)
 generalize szSS f0 1048576 = r0 at e0 l0
 by_cases c0 : r0 < 0
 ·refine ⟨-1, Ev.bind e0 ?_, fun h => absurd (by omega) h⟩
  simp only [if_pos c0]
  exact Ev.now _
 have e1 := szIntSS_ev f1 h1 h1' r0 (by omega) (by omega)
 have l1 := szSS_le f1 r0 (by omega)
 generalize szSS f1 r0 = r1 at e1 l1
 by_cases c1 : r1 < 0
 ·refine ⟨-1, Ev.bind e0 ?_, fun h => absurd (by omega) h⟩
  simp only [if_neg c0]
  refine Ev.bind e1 ?_
  simp only [if_pos c1]
  exact Ev.now _
 have e2 := szIntS_is f2 h2 r1 (by omega) (by omega)
 by_cases c2 : r1 - f2.length < 0
 ·refine ⟨-1, Ev.bind e0 ?_, fun h => absurd (by omega) h⟩
  simp only [if_neg c0]
  refine Ev.bind e1 ?_
  simp only [if_neg c1, e2, Option.bind_some, if_pos c2, if_pos (show (-1 : Int) < 0 by omega)]
  exact Ev.now _
 ·refine ⟨r1 - f2.length, Ev.bind e0 ?_, fun _ => ⟨by have := (l0.2 c0).1; omega, by have := (l1.2 c1).1; omega, by omega, fun x hx => by have := (l0.2 c0).2 x hx; omega, fun x hx => by have := (l1.2 c1).2 x hx; omega⟩⟩
  simp only [if_neg c0]
  refine Ev.bind e1 ?_
  simp only [if_neg c1, e2, Option.bind_some, if_neg c2]
  exact Ev.now _
theorem toWishes_ev {f0 f1 : List (List Int)} {f2 : List Int} (h : okW f0 f1 f2) : Ev (fun k => laws_toWishes.f k f0 f1 f2) (f0, f1, f2) := by
 unfold laws_toWishes.f
 refine Ev.bind (toIntSS_ev f0 h.a0 h.b0) ?_
 refine Ev.bind (toIntSS_ev f1 h.a1 h.b1) ?_
 refine Ev.bind (toIntS_ev f2 h.a2) ?_
 exact Ev.now _
theorem eqWishes_ev {f0 f1 : List (List Int)} {f2 : List Int} (h : okW f0 f1 f2) : Ev (fun k => laws_eqWishes.f k f0 f1 f2 f0 f1 f2) true := by
 unfold laws_eqWishes.f
 refine Ev.bind (eqSame_ev f0 h.a0 h.b0) ?_
 simp only [if_true]
 refine Ev.bind (eqSame_ev f1 h.a1 h.b1) ?_
 simp only [if_true]
 refine Ev.bind (eqIntS_ev f2 f2 (by have := h.a2; omega)) ?_
 simp only [decide_true, if_true]
 exact Ev.now _
def dupGo : List Int → List Int → Bool
 | _, [] => true
 | pre, x :: r => !(placeGo x pre 0).isSome && dupGo (pre ++ [x]) r
def rowOk (m : Int) (l : List Int) : Bool := decide ((l.length : Int) = m) && (allIn 0 (m - 1) l && dupGo [] l)
theorem l12All_l (m : Int) (h0 : 0 ≤ m) (h1 : m ≤ 1048576) (suf : List Int) : ∀ (pre : List Int), ((pre ++ suf).length : Int) ≤ 1048576 →
  Ev (fun k => spec_l12All.l0 k (pre ++ suf) m (pre ++ suf) ((pre ++ suf).length : Int) pre.length) (decide (((pre ++ suf).length : Int) = m) && (allIn 0 (m - 1) suf && dupGo pre suf)) := by
 induction suf with
 | nil =>
  intro pre h
  refine Ev.succ ?_
  simp only [spec_l12All.l0, List.append_nil, Int.lt_irrefl, if_false]
  refine Ev.some_ ?_
  rw [show allIn 0 (m - 1) [] = true from rfl, dupGo, Bool.and_true, Bool.and_true]
  rfl
 | cons x suf ih =>
  intro pre h
  refine Ev.succ ?_
  rw [len_mid] at h ⊢
  have := ih (pre ++ [x]) (by rw [← app_one, len_mid]; exact h)
  rw [← app_one, len_mid, len_one] at this
  have ht : (pre ++ x :: suf).take ((pre.length : Int)).toNat = pre := by rw [Int.toNat_natCast]; exact List.take_left ..
  rw [show allIn 0 (m - 1) (x :: suf) = (decide (0 ≤ x ∧ x ≤ m - 1) && allIn 0 (m - 1) suf) from rfl, dupGo]
  simp only [spec_l12All.l0]
  simp only [len_mid, if_pos (show ((pre.length : Int) < pre.length + suf.length + 1) by omega), if_pos (show (0 : Int) ≤ pre.length by omega), rd_mid, wrap_id (show (-9223372036854775808 : Int) ≤ pre.length + 1 by omega) (show ((pre.length : Int) + 1 ≤ 9223372036854775807) by omega), wrap_id (show (-9223372036854775808 : Int) ≤ m - 1 by omega) (show (m - 1 ≤ 9223372036854775807) by omega), specIn, Option.bind_some, decide_eq_true_eq, if_pos (show (pre.length : Int) ≤ pre.length + suf.length + 1 by omega), ht]
  by_cases hx : 0 ≤ x ∧ x ≤ m - 1
  ·simp only [if_pos hx]
   refine Ev.bind (has_ev x pre (by omega)) ?_
   rw [decide_eq_true hx, Bool.true_and]
   cases hp : (placeGo x pre 0).isSome with
   | true =>
    simp only [if_true, Bool.not_true, Bool.false_and, Bool.and_false]
    exact Ev.now _
   | false =>
    simp only [Bool.false_eq_true, if_false, Bool.not_false, Bool.true_and]
    exact this
  ·simp only [if_neg hx]
   rw [decide_eq_false hx, Bool.false_and, Bool.false_and, Bool.and_false]
   exact Ev.now _
theorem l12All_ev (l : List Int) (m : Int) (h0 : 0 ≤ m) (h1 : m ≤ 1048576) (hl : l.length ≤ 1048576) : Ev (fun k => spec_l12All.f k l m) (rowOk m l) := by
 have := l12All_l m h0 h1 l [] (by simp only [List.nil_append]; omega)
 exact this
theorem orders_l1 (Z : List (List Int)) (m : Int) (R : Bool) (X : List (List Int)) (t i : Int) (suf : List Int) : ∀ (pre : List Int), ((pre ++ suf).length : Int) ≤ 1048576 →
  Ev (fun k => if dupGo pre suf = true then impl_orders.l0 k Z m X t (wrap64 (i + 1)) else some false) R →
  Ev (fun k => impl_orders.l1 k Z m (pre ++ suf) X t i (pre ++ suf) ((pre ++ suf).length : Int) pre.length) R := by
 induction suf with
 | nil =>
  intro pre h hR
  refine Ev.succ ?_
  rw [dupGo] at hR
  simp only [if_true] at hR
  simp only [impl_orders.l1, List.append_nil, Int.lt_irrefl, if_false]
  exact hR
 | cons x suf ih =>
  intro pre h hR
  refine Ev.succ ?_
  rw [len_mid] at h ⊢
  have := ih (pre ++ [x]) (by rw [← app_one, len_mid]; exact h)
  rw [← app_one, len_mid, len_one] at this
  have ht : (pre ++ x :: suf).take ((pre.length : Int)).toNat = pre := by rw [Int.toNat_natCast]; exact List.take_left ..
  rw [dupGo] at hR
  simp only [impl_orders.l1]
  simp only [len_mid, if_pos (show ((pre.length : Int) < pre.length + suf.length + 1) by omega), if_pos (show (0 : Int) ≤ pre.length by omega), rd_mid, wrap_id (show (-9223372036854775808 : Int) ≤ pre.length + 1 by omega) (show ((pre.length : Int) + 1 ≤ 9223372036854775807) by omega), if_pos (show (pre.length : Int) ≤ pre.length + suf.length + 1 by omega), ht, slices_Contains_int.f]
  have hi : Ev (fun k => (slices_Index_int.f k pre x).bind fun t170 => (some (decide (t170 ≥ 0)))) (placeGo x pre 0).isSome := by
   refine Ev.bind (index_ev x pre (by omega)) ?_
   refine Ev.some_ ?_
   cases hp : placeGo x pre 0 with
   | none => rfl
   | some r =>
    have := placeGo_ge x pre 0 r hp
    exact decide_eq_true this
  refine Ev.bind hi ?_
  cases hp : (placeGo x pre 0).isSome with
  | true =>
   rw [hp] at hR
   simp only [Bool.not_true, Bool.false_and, Bool.false_eq_true, if_false] at hR
   simp only [if_true]
   exact hR
  | false =>
   rw [hp] at hR
   simp only [Bool.not_false, Bool.true_and] at hR
   simp only [Bool.false_eq_true, if_false]
   exact this hR
theorem orders_l0 (m : Int) (h0 : 0 ≤ m) (h1 : m ≤ 1048576) (suf : List (List Int)) (hs : ∀ x ∈ suf, x.length ≤ 1048576) : ∀ (pre : List (List Int)), ((pre ++ suf).length : Int) ≤ 1048576 →
  Ev (fun k => impl_orders.l0 k (pre ++ suf) m (pre ++ suf) ((pre ++ suf).length : Int) pre.length) (suf.all (rowOk m) && decide (1 ≤ ((pre ++ suf).length : Int) ∧ ((pre ++ suf).length : Int) ≤ 8)) := by
 induction suf with
 | nil =>
  intro pre h
  refine Ev.succ ?_
  simp only [impl_orders.l0, List.append_nil, Int.lt_irrefl, if_false, implIn, Option.bind_some, List.all_nil, Bool.true_and]
  exact Ev.now _
 | cons x suf ih =>
  intro pre h
  refine Ev.succ ?_
  rw [len_mid] at h ⊢
  have := ih (fun y hy => hs y (List.mem_cons_of_mem _ hy)) (pre ++ [x]) (by rw [← app_one, len_mid]; exact h)
  rw [← app_one, len_mid, len_one] at this
  have hx := hs x (List.mem_cons_self ..)
  have bad : Ev (fun k => impl_orders.j1 k (pre ++ x :: suf) m x (pre ++ x :: suf) ((pre.length : Int) + suf.length + 1) pre.length true) false := by
   refine Ev.succ ?_
   simp only [impl_orders.j1, if_true]
   exact Ev.now _
  rw [List.all_cons]
  simp only [impl_orders.l0]
  simp only [len_mid, if_pos (show ((pre.length : Int) < pre.length + suf.length + 1) by omega), if_pos (show (0 : Int) ≤ pre.length by omega), rdSS_mid, wrap_id (show (-9223372036854775808 : Int) ≤ m - 1 by omega) (show (m - 1 ≤ 9223372036854775807) by omega)]
  rw [rowOk]
  by_cases hl : (x.length : Int) = m
  ·simp only [if_pos hl]
   rw [decide_eq_true hl, Bool.true_and]
   refine Ev.bind (implAll_ev _ _ x (by omega)) ?_
   cases ha : allIn 0 (m - 1) x with
   | true =>
    rw [Bool.true_and]
    refine Ev.succ ?_
    simp only [impl_orders.j1, Bool.not_true, Bool.false_eq_true, if_false]
    refine orders_l1 _ m _ _ _ _ x [] (by simp only [List.nil_append]; omega) ?_
    cases hd : dupGo [] x with
    | true =>
     simp only [if_true, Bool.true_and, wrap_id (show (-9223372036854775808 : Int) ≤ pre.length + 1 by omega) (show ((pre.length : Int) + 1 ≤ 9223372036854775807) by omega)]
     exact this
    | false =>
     simp only [Bool.false_eq_true, if_false, Bool.false_and]
     exact Ev.now _
   | false =>
    rw [Bool.false_and, Bool.false_and]
    exact bad
  ·simp only [if_neg hl]
   rw [decide_eq_false hl, Bool.false_and, Bool.false_and]
   exact bad
theorem orders_ev (l : List (List Int)) (m : Int) (h0 : 0 ≤ m) (h1 : m ≤ 1048576) (hl : l.length ≤ 1048576) (hs : ∀ x ∈ l, x.length ≤ 1048576) : Ev (fun k => impl_orders.f k l m) (l.all (rowOk m) && decide (1 ≤ (l.length : Int) ∧ (l.length : Int) ≤ 8)) := by
 have := orders_l0 m h0 h1 l hs [] (by simp only [List.nil_append]; omega)
 exact this
def goodW (f0 f1 : List (List Int)) (f2 : List Int) : Bool := f0.all (rowOk f1.length) && (f1.all (rowOk f0.length) && (decide (1 ≤ (f0.length : Int) ∧ (f0.length : Int) ≤ 8) && (decide (1 ≤ (f1.length : Int) ∧ (f1.length : Int) ≤ 8) && (decide ((f2.length : Int) = f1.length) && allIn 0 8 f2))))
theorem implGoodW_ev {f0 f1 : List (List Int)} {f2 : List Int} (h : okW f0 f1 f2) : Ev (fun k => impl_GoodWishes.f k f0 f1 f2) (goodW f0 f1 f2) := by
 have a0 := h.a0
 have a1 := h.a1
 have a2 := h.a2
 unfold impl_GoodWishes.f goodW
 refine Ev.bind (orders_ev f0 f1.length (by omega) (by omega) a0 h.b0) ?_
 have e1 := orders_ev f1 f0.length (by omega) (by omega) a1 h.b1
 have e2 := implAll_ev 0 8 f2 (by omega)
 generalize f0.all (rowOk f1.length) = p0
 generalize f1.all (rowOk f0.length) = p1 at e1 ⊢
 generalize decide (1 ≤ (f0.length : Int) ∧ (f0.length : Int) ≤ 8) = q0
 generalize decide (1 ≤ (f1.length : Int) ∧ (f1.length : Int) ≤ 8) = q1 at e1 ⊢
 generalize allIn 0 8 f2 = p2 at e2 ⊢
 cases p0
 ·simp only [Bool.false_and, Bool.false_eq_true, if_false]
  exact Ev.now _
 cases q0
 ·simp only [Bool.and_false, Bool.false_and, Bool.true_and, Bool.false_eq_true, if_false]
  exact Ev.now _
 simp only [Bool.true_and, if_true]
 refine Ev.bind e1 ?_
 cases p1
 ·simp only [Bool.false_and, Bool.false_eq_true, if_false]
  exact Ev.now _
 cases q1
 ·simp only [Bool.and_false, Bool.false_and, Bool.true_and, Bool.false_eq_true, if_false]
  exact Ev.now _
 simp only [Bool.true_and, if_true]
 by_cases hc : (f2.length : Int) = f1.length
 ·simp only [if_pos hc, decide_eq_true hc, Bool.true_and]
  exact Ev.bind e2 (Ev.now _)
 ·simp only [if_neg hc, decide_eq_false hc, Bool.false_and]
  exact Ev.now _
theorem specW_l1 (f0 f1 : List (List Int)) (f2 : List Int) (h : okW f0 f1 f2) (suf : List (List Int)) : ∀ (pre : List (List Int)), pre ++ suf = f1 →
  Ev (fun k => spec_GoodWishes.l1 k f0.length f1.length f1 f1.length pre.length f0 f1 f2) (suf.all (rowOk f0.length) && (decide (1 ≤ (f0.length : Int) ∧ (f0.length : Int) ≤ 8) && (decide (1 ≤ (f1.length : Int) ∧ (f1.length : Int) ≤ 8) && (decide ((f2.length : Int) = f1.length) && allIn 0 8 f2)))) := by
 have a0 := h.a0
 have a1 := h.a1
 have a2 := h.a2
 induction suf with
 | nil =>
  intro pre hp
  refine Ev.succ ?_
  rw [List.append_nil] at hp
  subst hp
  have e2 := specAll_ev 0 8 f2 (by omega)
  simp only [spec_GoodWishes.l1, Int.lt_irrefl, if_false, List.all_nil, Bool.true_and, specIn, Option.bind_some]
  generalize decide (1 ≤ (f0.length : Int) ∧ (f0.length : Int) ≤ 8) = q0
  generalize decide (1 ≤ (pre.length : Int) ∧ (pre.length : Int) ≤ 8) = q1
  generalize allIn 0 8 f2 = p2 at e2 ⊢
  cases q0
  ·simp only [Bool.false_and, Bool.false_eq_true, if_false]
   exact Ev.now _
  cases q1
  ·simp only [Bool.false_and, Bool.true_and, Bool.false_eq_true, if_false, if_true]
   exact Ev.now _
  simp only [Bool.true_and, if_true]
  by_cases hc : (f2.length : Int) = pre.length
  ·simp only [if_pos hc, decide_eq_true hc, Bool.true_and]
   exact Ev.bind e2 (Ev.now _)
  ·simp only [if_neg hc, decide_eq_false hc, Bool.false_and]
   exact Ev.now _
 | cons x suf ih =>
  intro pre hp
  refine Ev.succ ?_
  have hn : (f1.length : Int) = pre.length + suf.length + 1 := by rw [← hp, len_mid]
  have hx : rd_L1 f1 (pre.length : Int) = x := by rw [← hp, rdSS_mid]
  have hm : x.length ≤ 1048576 := h.b1 x (by rw [← hp]; simp)
  have := ih (pre ++ [x]) (by rw [← app_one]; exact hp)
  rw [len_one] at this
  simp only [spec_GoodWishes.l1, if_pos (show (pre.length : Int) < f1.length by omega), if_pos (show (0 : Int) ≤ pre.length by omega), hx, wrap_id (show (-9223372036854775808 : Int) ≤ pre.length + 1 by omega) (show ((pre.length : Int) + 1 ≤ 9223372036854775807) by omega)]
  refine Ev.bind (l12All_ev x f0.length (by omega) (by omega) hm) ?_
  rw [List.all_cons]
  cases hr : rowOk f0.length x with
  | true =>
   simp only [if_true, Bool.true_and]
   exact this
  | false =>
   simp only [Bool.false_eq_true, if_false, Bool.false_and]
   exact Ev.now _
theorem specW_l0 (f0 f1 : List (List Int)) (f2 : List Int) (h : okW f0 f1 f2) (suf : List (List Int)) : ∀ (pre : List (List Int)), pre ++ suf = f0 →
  Ev (fun k => spec_GoodWishes.l0 k f0.length f1.length f0 f0.length pre.length f0 f1 f2) (suf.all (rowOk f1.length) && (f1.all (rowOk f0.length) && (decide (1 ≤ (f0.length : Int) ∧ (f0.length : Int) ≤ 8) && (decide (1 ≤ (f1.length : Int) ∧ (f1.length : Int) ≤ 8) && (decide ((f2.length : Int) = f1.length) && allIn 0 8 f2))))) := by
 have a0 := h.a0
 have a1 := h.a1
 induction suf with
 | nil =>
  intro pre hp
  refine Ev.succ ?_
  rw [List.append_nil] at hp
  have := specW_l1 f0 f1 f2 h f1 [] rfl
  subst hp
  simp only [spec_GoodWishes.l0, Int.lt_irrefl, if_false, List.all_nil, Bool.true_and]
  exact this
 | cons x suf ih =>
  intro pre hp
  refine Ev.succ ?_
  have hn : (f0.length : Int) = pre.length + suf.length + 1 := by rw [← hp, len_mid]
  have hx : rd_L1 f0 (pre.length : Int) = x := by rw [← hp, rdSS_mid]
  have hm : x.length ≤ 1048576 := h.b0 x (by rw [← hp]; simp)
  have := ih (pre ++ [x]) (by rw [← app_one]; exact hp)
  rw [len_one] at this
  simp only [spec_GoodWishes.l0, if_pos (show (pre.length : Int) < f0.length by omega), if_pos (show (0 : Int) ≤ pre.length by omega), hx, wrap_id (show (-9223372036854775808 : Int) ≤ pre.length + 1 by omega) (show ((pre.length : Int) + 1 ≤ 9223372036854775807) by omega)]
  refine Ev.bind (l12All_ev x f1.length (by omega) (by omega) hm) ?_
  rw [List.all_cons]
  cases hr : rowOk f1.length x with
  | true =>
   simp only [if_true, Bool.true_and]
   exact this
  | false =>
   simp only [Bool.false_eq_true, if_false, Bool.false_and]
   exact Ev.now _
theorem specGoodW_ev {f0 f1 : List (List Int)} {f2 : List Int} (h : okW f0 f1 f2) : Ev (fun k => spec_GoodWishes.f k f0 f1 f2) (goodW f0 f1 f2) := specW_l0 f0 f1 f2 h f0 [] rfl
end Go.Proofs.Ytoipbblhmcpneaa.P

namespace Go.Proofs.Ytoipbblhmcpneaa.P
open Go.RowKit Go.Proofs.YtoipbblhmcpneaaW.PrintWords Go.Proofs.YtoipbblhmcpneaaW.PrintLast
set_option linter.unusedVariables false
set_option linter.unusedSimpArgs false
-- good matches, both sides
def cnt (l : List Int) (j : Int) : Nat := l.countP fun x => decide (x = j)
def hasGo (j : Int) : List Int → Int → List Int
 | [], _ => []
 | x :: r, i => if x = j then i :: hasGo j r (i + 1) else hasGo j r (i + 1)
theorem hasGo_len (j : Int) : ∀ (l : List Int) (i : Int), (hasGo j l i).length = cnt l j
 | [], _ => rfl
 | x :: r, i => by
  unfold hasGo cnt
  rw [List.countP_cons]
  have := hasGo_len j r (i + 1)
  unfold cnt at this
  by_cases h : x = j
  ·rw [if_pos h, List.length_cons, this, decide_eq_true h, if_pos rfl]
  ·rw [if_neg h, this, decide_eq_false h, if_neg Bool.false_ne_true, Nat.add_zero]
theorem cnt_le (l : List Int) (j : Int) : cnt l j ≤ l.length := List.countP_le_length ..
theorem l12Has_l (j : Int) (suf : List Int) : ∀ (pre out : List Int), ((pre ++ suf).length : Int) ≤ 1048576 → out.length ≤ pre.length →
  Ev (fun k => spec_l12Has.l0 k j out (pre ++ suf) ((pre ++ suf).length : Int) pre.length) (out ++ hasGo j suf pre.length) := by
 induction suf with
 | nil =>
  intro pre out h ho
  refine Ev.succ ?_
  simp only [spec_l12Has.l0, List.append_nil, Int.lt_irrefl, if_false, hasGo]
  exact Ev.now _
 | cons x suf ih =>
  intro pre out h ho
  refine Ev.succ ?_
  rw [len_mid] at h ⊢
  have := fun o ho => ih (pre ++ [x]) o (by rw [← app_one, len_mid]; exact h) ho
  rw [← app_one, len_mid, len_one] at this
  simp only [spec_l12Has.l0]
  simp only [if_pos (show ((pre.length : Int) < pre.length + suf.length + 1) by omega), if_pos (show (0 : Int) ≤ pre.length by omega), len_mid, rd_mid, wrap_id (show (-9223372036854775808 : Int) ≤ pre.length + 1 by omega) (show ((pre.length : Int) + 1 ≤ 9223372036854775807) by omega), hasGo]
  by_cases h1 : x = j
  ·simp only [if_pos h1, if_pos (show out.length < 17592186044416 by omega)]
   rw [app_one out (pre.length : Int) (hasGo j suf (pre.length + 1))]
   exact this (out ++ [(pre.length : Int)]) (by simp only [List.length_append, List.length_singleton]; omega)
  ·simp only [if_neg h1]
   exact this out (by rw [List.length_append]; omega)
theorem l12Has_ev (l : List Int) (j : Int) (h : l.length ≤ 1048576) : Ev (fun k => spec_l12Has.f k l j) (hasGo j l 0) := by
 have := l12Has_l j l [] [] (by simp only [List.nil_append]; omega) (by simp)
 exact this
theorem rd_set {acc : List Int} {x j : Int} (hx : 0 ≤ x) (hx1 : x < acc.length) (hj : 0 ≤ j) (y : Int) : rd (acc.set x.toNat y) j = if j = x then y else rd acc j := by
 unfold rd
 rw [List.getD_eq_getElem?_getD, List.getD_eq_getElem?_getD, List.getElem?_set]
 by_cases h : j = x
 ·subst h
  rw [if_pos rfl, if_pos rfl, if_pos (by omega)]
  rfl
 ·rw [if_neg (by omega), if_neg h]
theorem loads_l (m : Nat) (hm : m ≤ 1000) (suf : List Int) (hs : ∀ x ∈ suf, -1 ≤ x ∧ x < m) : ∀ (pre acc : List Int), ((pre ++ suf).length : Int) ≤ 1048576 → acc.length = m → (∀ j : Int, 0 ≤ j → rd acc j = cnt pre j) →
  ∃ r, Ev (fun k => impl_loads.l0 k acc (pre ++ suf) ((pre ++ suf).length : Int) pre.length) r ∧ r.length = m ∧ ∀ j : Int, 0 ≤ j → rd r j = cnt (pre ++ suf) j := by
 induction suf with
 | nil =>
  intro pre acc h ha hr
  refine ⟨acc, Ev.succ ?_, ha, by rw [List.append_nil]; exact hr⟩
  simp only [impl_loads.l0, List.append_nil, Int.lt_irrefl, if_false]
  exact Ev.now _
 | cons x suf ih =>
  intro pre acc h ha hr
  rw [len_mid] at h
  have hx := hs x (List.mem_cons_self ..)
  have hi := ih (fun y hy => hs y (List.mem_cons_of_mem _ hy)) (pre ++ [x])
  rw [← app_one, len_mid, len_one] at hi
  have hc : ∀ j, cnt (pre ++ [x]) j = cnt pre j + if x = j then 1 else 0 := by
   intro j
   unfold cnt
   rw [List.countP_append, List.countP_cons, List.countP_nil, Nat.zero_add]
   by_cases e : x = j
   ·rw [decide_eq_true e, if_pos rfl, if_pos e]
   ·rw [decide_eq_false e, if_neg Bool.false_ne_true, if_neg e]
  by_cases h1 : x ≥ 0
  ·have hb := cnt_le pre x
   obtain ⟨r, er, e1, e2⟩ := hi (acc.set x.toNat (wrap64 ((rd acc x) + 1))) h (by rw [List.length_set]; exact ha) (by
    intro j hj
    rw [rd_set h1 (by omega) hj, hc, hr x h1, wrap_id (by omega) (by omega)]
    by_cases e : j = x
    ·rw [if_pos e, if_pos e.symm, e]
     omega
    ·rw [if_neg e, if_neg (fun c => e c.symm), hr j hj]
     omega)
   refine ⟨r, Ev.succ ?_, e1, e2⟩
   simp only [impl_loads.l0]
   simp only [len_mid, if_pos (show ((pre.length : Int) < pre.length + suf.length + 1) by omega), if_pos (show (0 : Int) ≤ pre.length by omega), rd_mid, wrap_id (show (-9223372036854775808 : Int) ≤ pre.length + 1 by omega) (show ((pre.length : Int) + 1 ≤ 9223372036854775807) by omega), if_pos h1, if_pos (show 0 ≤ x from h1), if_pos (show x < (acc.length : Int) by omega)]
   exact er
  ·obtain ⟨r, er, e1, e2⟩ := hi acc h ha (by
    intro j hj
    rw [hc, if_neg (by omega), Nat.add_zero, hr j hj])
   refine ⟨r, Ev.succ ?_, e1, e2⟩
   simp only [impl_loads.l0]
   simp only [len_mid, if_pos (show ((pre.length : Int) < pre.length + suf.length + 1) by omega), if_pos (show (0 : Int) ≤ pre.length by omega), rd_mid, wrap_id (show (-9223372036854775808 : Int) ≤ pre.length + 1 by omega) (show ((pre.length : Int) + 1 ≤ 9223372036854775807) by omega), if_neg h1]
   exact er
theorem rd_zero (m : Nat) (j : Int) : rd (List.replicate m (0 : Int)) j = 0 := by
 unfold rd
 rw [List.getD_eq_getElem?_getD, List.getElem?_replicate]
 split <;> rfl
theorem loads_ev (f0 f1 : List (List Int)) (f2 l : List Int) (hl : l.length ≤ 1048576) (hm : f1.length ≤ 1000) (hs : ∀ x ∈ l, -1 ≤ x ∧ x < f1.length) :
  ∃ r, Ev (fun k => impl_loads.f k f0 f1 f2 l) r ∧ r.length = f1.length ∧ ∀ j : Int, 0 ≤ j → rd r j = cnt l j := by
 unfold impl_loads.f
 simp only [if_pos (show (0 : Int) ≤ (f1.length : Int) by omega), Int.toNat_natCast, if_pos (show f1.length ≤ 35184372088832 by omega)]
 exact loads_l f1.length hm l hs [] (List.replicate f1.length 0) (by simp only [List.nil_append]; omega) (by simp) (fun j hj => by rw [rd_zero]; rfl)
def capGo (l : List Int) : List Int → Int → Bool
 | [], _ => true
 | c :: r, j => if (cnt l j : Int) > c then false else capGo l r (j + 1)
theorem specCap_l (l : List Int) (hl : l.length ≤ 1048576) (suf : List Int) : ∀ (pre : List Int), ((pre ++ suf).length : Int) ≤ 1048576 →
  Ev (fun k => spec_GoodMatch.l0 k l (pre ++ suf) ((pre ++ suf).length : Int) pre.length) (capGo l suf pre.length) := by
 induction suf with
 | nil =>
  intro pre h
  refine Ev.succ ?_
  simp only [spec_GoodMatch.l0, List.append_nil, Int.lt_irrefl, if_false, capGo]
  exact Ev.now _
 | cons x suf ih =>
  intro pre h
  refine Ev.succ ?_
  rw [len_mid] at h ⊢
  have := ih (pre ++ [x]) (by rw [← app_one, len_mid]; exact h)
  rw [← app_one, len_mid, len_one] at this
  simp only [spec_GoodMatch.l0, capGo]
  simp only [if_pos (show ((pre.length : Int) < pre.length + suf.length + 1) by omega), if_pos (show (0 : Int) ≤ pre.length by omega), len_mid, rd_mid, wrap_id (show (-9223372036854775808 : Int) ≤ pre.length + 1 by omega) (show ((pre.length : Int) + 1 ≤ 9223372036854775807) by omega)]
  refine Ev.bind (l12Has_ev l pre.length hl) ?_
  rw [hasGo_len]
  by_cases h1 : (cnt l pre.length : Int) > x
  ·simp only [if_pos h1]
   exact Ev.now _
  ·simp only [if_neg h1]
   exact this
theorem implCap_l (f0 f1 : List (List Int)) (l t : List Int) (ht : ∀ j : Int, 0 ≤ j → rd t j = cnt l j) (suf : List Int) : ∀ (pre : List Int), ((pre ++ suf).length : Int) ≤ 1048576 → t.length = (pre ++ suf).length →
  Ev (fun k => impl_GoodMatch.l0 k t ((pre ++ suf).length : Int) pre.length f0 f1 (pre ++ suf)) (capGo l suf pre.length) := by
 induction suf with
 | nil =>
  intro pre h he
  refine Ev.succ ?_
  simp only [impl_GoodMatch.l0, List.append_nil, Int.lt_irrefl, if_false, capGo]
  exact Ev.now _
 | cons x suf ih =>
  intro pre h he
  refine Ev.succ ?_
  have he' : (t.length : Int) = pre.length + suf.length + 1 := by rw [he, len_mid]
  rw [len_mid] at h ⊢
  have := ih (pre ++ [x]) (by rw [← app_one, len_mid]; exact h) (by rw [← app_one]; exact he)
  rw [← app_one, len_mid, len_one] at this
  simp only [impl_GoodMatch.l0, capGo]
  simp only [if_pos (show ((pre.length : Int) < pre.length + suf.length + 1) by omega), if_pos (show (0 : Int) ≤ pre.length by omega), len_mid, rd_mid, if_pos (show (pre.length : Int) < (t.length : Int) by omega), ht (pre.length : Int) (by omega), wrap_id (show (-9223372036854775808 : Int) ≤ pre.length + 1 by omega) (show ((pre.length : Int) + 1 ≤ 9223372036854775807) by omega)]
  by_cases h1 : (cnt l pre.length : Int) > x
  ·simp only [if_pos h1]
   exact Ev.now _
  ·simp only [if_neg h1]
   exact this
theorem goodW_len {f0 f1 : List (List Int)} {f2 : List Int} (h : goodW f0 f1 f2 = true) : 1 ≤ f0.length ∧ f0.length ≤ 8 ∧ 1 ≤ f1.length ∧ f1.length ≤ 8 ∧ f2.length = f1.length := by
 unfold goodW at h
 simp only [Bool.and_eq_true, decide_eq_true_eq] at h
 omega
def goodM (f0 f1 : List (List Int)) (f2 l : List Int) : Bool := goodW f0 f1 f2 && (decide ((l.length : Int) = f0.length) && (allIn (-1) (wrap64 ((f1.length : Int) - 1)) l && capGo l f2 0))
theorem specGoodM_ev {f0 f1 : List (List Int)} {f2 : List Int} (h : okW f0 f1 f2) (l : List Int) (hl : l.length ≤ 1048576) : Ev (fun k => spec_GoodMatch.f k f0 f1 f2 l) (goodM f0 f1 f2 l) := by
 unfold spec_GoodMatch.f goodM
 have bad : Ev (fun k => spec_GoodMatch.j0 k l true f0 f1 f2) false := by
  refine Ev.succ ?_
  simp only [spec_GoodMatch.j0, if_true]
  exact Ev.now _
 refine Ev.bind (specGoodW_ev h) ?_
 cases hw : goodW f0 f1 f2 with
 | false =>
  simp only [Bool.false_eq_true, if_false, Bool.false_and]
  exact bad
 | true =>
  simp only [if_true, Bool.true_and]
  by_cases h1 : (l.length : Int) = f0.length
  ·simp only [if_pos h1]
   rw [decide_eq_true h1, Bool.true_and]
   refine Ev.bind (specAll_ev _ _ l (by omega)) ?_
   cases ha : allIn (-1) (wrap64 ((f1.length : Int) - 1)) l with
   | false =>
    rw [Bool.false_and]
    exact bad
   | true =>
    rw [Bool.true_and]
    refine Ev.succ ?_
    simp only [spec_GoodMatch.j0, Bool.not_true, Bool.false_eq_true, if_false]
    exact specCap_l l hl f2 [] (by have := h.a2; simp only [List.nil_append]; omega)
  ·simp only [if_neg h1]
   rw [decide_eq_false h1, Bool.false_and]
   exact bad
theorem implGoodM_ev {f0 f1 : List (List Int)} {f2 : List Int} (h : okW f0 f1 f2) (l : List Int) (hl : l.length ≤ 1048576) : Ev (fun k => impl_GoodMatch.f k f0 f1 f2 l) (goodM f0 f1 f2 l) := by
 unfold impl_GoodMatch.f goodM
 have bad : Ev (fun k => impl_GoodMatch.j0 k l true f0 f1 f2) false := by
  refine Ev.succ ?_
  simp only [impl_GoodMatch.j0, if_true]
  exact Ev.now _
 refine Ev.bind (implGoodW_ev h) ?_
 cases hw : goodW f0 f1 f2 with
 | false =>
  simp only [Bool.false_eq_true, if_false, Bool.false_and]
  exact bad
 | true =>
  have hn := goodW_len hw
  simp only [if_true, Bool.true_and]
  by_cases h1 : (l.length : Int) = f0.length
  ·simp only [if_pos h1]
   rw [decide_eq_true h1, Bool.true_and]
   refine Ev.bind (implAll_ev _ _ l (by omega)) ?_
   cases ha : allIn (-1) (wrap64 ((f1.length : Int) - 1)) l with
   | false =>
    rw [Bool.false_and]
    exact bad
   | true =>
    rw [Bool.true_and]
    rw [wrap_id (by omega) (by omega)] at ha
    refine Ev.succ ?_
    simp only [impl_GoodMatch.j0, Bool.not_true, Bool.false_eq_true, if_false]
    obtain ⟨t, et, e1, e2⟩ := loads_ev f0 f1 f2 l hl (by omega) (fun x hx => by
     have := List.all_eq_true.1 ha x hx
     rw [decide_eq_true_eq] at this
     omega)
    refine Ev.bind et ?_
    have := implCap_l f0 f1 l t e2 f2 [] (by have := h.a2; simp only [List.nil_append]; omega) (by simp only [List.nil_append]; omega)
    rw [show (t.length : Int) = ((([] : List Int) ++ f2).length : Int) by simp only [List.nil_append]; omega]
    exact this
  ·simp only [if_neg h1]
   rw [decide_eq_false h1, Bool.false_and]
   exact bad
end Go.Proofs.Ytoipbblhmcpneaa.P

namespace Go.Proofs.Ytoipbblhmcpneaa.P
open Go.RowKit Go.Proofs.YtoipbblhmcpneaaW.PrintWords Go.Proofs.YtoipbblhmcpneaaW.PrintLast
set_option linter.unusedVariables false
set_option linter.unusedSimpArgs false
theorem erase_len_le {α : Type} [DecidableEq α] {x : α} : ∀ {M : List α}, x ∈ M → (M.erase x).length + 1 = M.length := by
 intro M h
 have := List.length_erase_of_mem h
 have h2 : 0 < M.length := List.length_pos_of_mem h
 omega
theorem nodup_le {α : Type} [DecidableEq α] : ∀ (L M : List α), L.Nodup → (∀ x ∈ L, x ∈ M) → L.length ≤ M.length
 | [], _, _, _ => Nat.zero_le _
 | x :: L, M, hn, hs => by
  have hx : x ∈ M := hs x (by simp)
  rw [List.nodup_cons] at hn
  have h := nodup_le L (M.erase x) hn.2 (fun y hy => by
   have : y ≠ x := fun e => hn.1 (e ▸ hy)
   exact (List.mem_erase_of_ne this).2 (hs y (by simp [hy])))
  have := erase_len_le hx
  simp only [List.length_cons]
  omega
end Go.Proofs.Ytoipbblhmcpneaa.P

namespace Go.Proofs.Ytoipbblhmcpneaa.P
open Go.RowKit Go.Proofs.YtoipbblhmcpneaaW.PrintWords Go.Proofs.YtoipbblhmcpneaaW.PrintLast
set_option linter.unusedVariables false
set_option linter.unusedSimpArgs false
-- who serves whom: places, who would be taken, and what a round of asking keeps (no function of the program)
def row_ (f : List (List Int)) (i : Int) : List Int := f.getD i.toNat []
def pl (l : List Int) (x : Int) : Int := (placeGo x l 0).getD (l.length : Int)
theorem placeGo_some (x : Int) : ∀ (l : List Int) (i : Int), x ∈ l → ∃ k : Nat, k < l.length ∧ placeGo x l i = some (i + k) ∧ rd l k = x ∧ ∀ j : Nat, j < k → rd l j ≠ x
 | [], _, h => by simp at h
 | y :: r, i, h => by
  unfold placeGo
  by_cases e : y = x
  ·exact ⟨0, by simp, by rw [if_pos e]; simp, e, fun j hj => absurd hj (Nat.not_lt_zero _)⟩
  ·rw [if_neg e]
   obtain ⟨k, h1, h2, h3, h4⟩ := placeGo_some x r (i + 1) ((List.mem_cons.1 h).resolve_left (fun c => e c.symm))
   refine ⟨k + 1, by simpa using h1, by rw [h2]; congr 1; omega, ?_, ?_⟩
   ·rw [← h3]
    rfl
   ·intro j hj
    cases j with
    | zero => exact e
    | succ j => exact h4 j (by omega)
theorem placeGo_none (x : Int) : ∀ (l : List Int) (i : Int), x ∉ l → placeGo x l i = none
 | [], _, _ => rfl
 | y :: r, i, h => by
  unfold placeGo
  rw [if_neg (fun e => h (by rw [e]; exact List.mem_cons_self ..))]
  exact placeGo_none x r (i + 1) (fun c => h (List.mem_cons_of_mem _ c))
theorem dupGo_nodup : ∀ (l pre : List Int), pre.Nodup → dupGo pre l = true → (pre ++ l).Nodup
 | [], pre, h, _ => by rw [List.append_nil]; exact h
 | x :: r, pre, h, hd => by
  unfold dupGo at hd
  rw [Bool.and_eq_true, Bool.not_eq_true'] at hd
  rw [app_one]
  refine dupGo_nodup r (pre ++ [x]) ?_ hd.2
  refine List.nodup_append.2 ⟨h, by simp, fun a ha b hb => ?_⟩
  rw [List.mem_singleton] at hb
  subst hb
  intro e
  subst e
  obtain ⟨k, _, h2, _⟩ := placeGo_some a pre 0 ha
  rw [h2] at hd
  simp at hd
/-- a list of all from 0 to m, each once -/
structure Perm_ (m : Int) (l : List Int) : Prop where
 len : (l.length : Int) = m
 low : ∀ x ∈ l, 0 ≤ x ∧ x < m
 nodup : l.Nodup
theorem allIn_mem {a b : Int} {l : List Int} (h : allIn a b l = true) : ∀ x ∈ l, a ≤ x ∧ x ≤ b := by
 intro x hx
 unfold allIn at h
 have := List.all_eq_true.1 h x hx
 rwa [decide_eq_true_eq] at this
theorem rowOk_perm {m : Int} {l : List Int} (h : rowOk m l = true) : Perm_ m l := by
 unfold rowOk at h
 rw [Bool.and_eq_true, Bool.and_eq_true, decide_eq_true_eq] at h
 refine ⟨h.1, fun x hx => ?_, ?_⟩
 ·have := allIn_mem h.2.1 x hx
  omega
 ·have := dupGo_nodup l [] (by simp) h.2.2
  simpa using this
theorem Perm_.mem {m : Int} {l : List Int} (h : Perm_ m l) {x : Int} (h0 : 0 ≤ x) (h1 : x < m) : x ∈ l := by
 by_cases hx : x ∈ l
 ·exact hx
 ·have hq := nodup_le (x :: l) ((List.range m.toNat).map fun (i : Nat) => (i : Int)) (List.nodup_cons.2 ⟨hx, h.nodup⟩) (fun y hy => by
   rw [List.mem_map]
   have : 0 ≤ y ∧ y < m := by
    rcases List.mem_cons.1 hy with rfl | hy
    ·exact ⟨h0, h1⟩
    ·exact h.low y hy
   exact ⟨y.toNat, List.mem_range.2 (by omega), by omega⟩)
  rw [List.length_cons, List.length_map, List.length_range] at hq
  have := h.len
  omega
theorem Perm_.pl_out {m : Int} {l : List Int} (h : Perm_ m l) {x : Int} (h0 : x < 0) : pl l x = m := by
 unfold pl
 rw [placeGo_none x l 0 (fun c => by have := h.low x c; omega), Option.getD_none, h.len]
end Go.Proofs.Ytoipbblhmcpneaa.P

namespace Go.Proofs.Ytoipbblhmcpneaa.P
open Go.RowKit Go.Proofs.YtoipbblhmcpneaaW.PrintWords Go.Proofs.YtoipbblhmcpneaaW.PrintLast
set_option linter.unusedVariables false
set_option linter.unusedSimpArgs false
-- the rounds of asking: what they keep, that the end is stable, and that no group does better (no function of the program)
/-- good wishes: all lists are orders -/
structure WOk (f0 f1 : List (List Int)) (f2 : List Int) (G S : Int) : Prop where
 g : (f0.length : Int) = G
 s : (f1.length : Int) = S
 r : (f2.length : Int) = S
 pg : ∀ g : Int, 0 ≤ g → g < G → Perm_ S (row_ f0 g)
 ps : ∀ s : Int, 0 ≤ s → s < S → Perm_ G (row_ f1 s)
end Go.Proofs.Ytoipbblhmcpneaa.P

namespace Go.Proofs.Ytoipbblhmcpneaa.P
open Go.RowKit Go.Proofs.YtoipbblhmcpneaaW.PrintWords Go.Proofs.YtoipbblhmcpneaaW.PrintLast
set_option linter.unusedVariables false
set_option linter.unusedSimpArgs false
-- who a server would take, and who is in the way: the program and the reference
theorem rowL_is (f : List (List Int)) (i : Int) : rd_L1 f i = row_ f i := rfl
theorem row_mem {f : List (List Int)} {i : Int} (h0 : 0 ≤ i) (h1 : i < f.length) : row_ f i ∈ f := by
 unfold row_
 rw [List.getD_eq_getElem?_getD, List.getElem?_eq_getElem (by omega)]
 exact List.getElem_mem _
theorem wOk_of {f0 f1 : List (List Int)} {f2 : List Int} (h : goodW f0 f1 f2 = true) : WOk f0 f1 f2 f0.length f1.length := by
 have hl := goodW_len h
 unfold goodW at h
 simp only [Bool.and_eq_true] at h
 refine ⟨rfl, rfl, by omega, fun g h0 h1 => ?_, fun s h0 h1 => ?_⟩
 ·exact rowOk_perm (List.all_eq_true.1 h.1 _ (row_mem h0 h1))
 ·exact rowOk_perm (List.all_eq_true.1 h.2.1 _ (row_mem h0 h1))
theorem plEv (x : Int) (l : List Int) (h : (l.length : Int) ≤ 1099511627776) : Ev (fun k => spec_l12Place.f k l x) (pl l x) := place_ev x l h
theorem ixEv {m : Int} {l : List Int} (hp : Perm_ m l) (hm : m ≤ 1000) {x : Int} (h0 : 0 ≤ x) (h1 : x < m) : Ev (fun k => slices_Index_int.f k l x) (pl l x) := by
 have hl := hp.len
 have := index_ev x l (by omega)
 obtain ⟨k, _, h2, _⟩ := placeGo_some x l 0 (hp.mem h0 h1)
 unfold pl
 rw [h2] at this ⊢
 exact this
end Go.Proofs.Ytoipbblhmcpneaa.P

namespace Go.Proofs.Ytoipbblhmcpneaa.P
open Go.RowKit Go.Proofs.YtoipbblhmcpneaaW.PrintWords Go.Proofs.YtoipbblhmcpneaaW.PrintLast
set_option linter.unusedVariables false
set_option linter.unusedSimpArgs false
-- who is in the way of a match: the program and the reference
structure Bd (f0 f1 : List (List Int)) (f2 m : List Int) : Prop where
 w : WOk f0 f1 f2 f0.length f1.length
 lg : f0.length ≤ 8
 ls : f1.length ≤ 8
 lm : m.length = f0.length
 lr : f2.length = f1.length
 low : ∀ x ∈ m, -1 ≤ x ∧ x < f1.length
theorem bd_of {f0 f1 : List (List Int)} {f2 m : List Int} (h : goodM f0 f1 f2 m = true) : Bd f0 f1 f2 m := by
 have h' := h
 unfold goodM at h'
 rw [Bool.and_eq_true, Bool.and_eq_true, Bool.and_eq_true, decide_eq_true_eq] at h'
 have hl := goodW_len h'.1
 refine ⟨wOk_of h'.1, by omega, by omega, by omega, by omega, fun x hx => ?_⟩
 have := allIn_mem h'.2.2.1 x hx
 rw [wrap_id (by omega) (by omega)] at this
 omega
/-- the places of all groups' servers in their lists -/
def ranksGo (f0 : List (List Int)) : Int → List Int → List Int
 | _, [] => []
 | g, x :: r => pl (row_ f0 g) x :: ranksGo f0 (g + 1) r
theorem ranksGo_len (f0 : List (List Int)) : ∀ (l : List Int) (g : Int), (ranksGo f0 g l).length = l.length
 | [], _ => rfl
 | x :: r, g => by rw [ranksGo, List.length_cons, ranksGo_len f0 r, List.length_cons]
theorem implRanks_l {f0 f1 : List (List Int)} {f2 : List Int} (w : WOk f0 f1 f2 f0.length f1.length) (hg8 : f0.length ≤ 8) (hs8 : f1.length ≤ 8) (suf : List Int) : ∀ (pre out : List Int), ((pre ++ suf).length : Int) = f0.length → out.length ≤ pre.length → (∀ x ∈ suf, -1 ≤ x ∧ x < f1.length) →
  Ev (fun k => impl_ranks.l0 k out (pre ++ suf) ((pre ++ suf).length : Int) pre.length f0 f1 f2) (out ++ ranksGo f0 pre.length suf) := by
 induction suf with
 | nil =>
  intro pre out h ho hx
  refine Ev.succ ?_
  simp only [impl_ranks.l0, List.append_nil, Int.lt_irrefl, if_false, ranksGo]
  exact Ev.now _
 | cons x suf ih =>
  intro pre out h ho hx
  refine Ev.succ ?_
  rw [len_mid] at h ⊢
  have hxx := hx x (List.mem_cons_self ..)
  have := fun o ho => ih (pre ++ [x]) o (by rw [← app_one, len_mid]; exact h) ho (fun y hm => hx y (List.mem_cons_of_mem _ hm))
  rw [← app_one, len_mid, len_one] at this
  have hp := w.pg pre.length (by omega) (by omega)
  have h2 := this (out ++ [pl (row_ f0 pre.length) x]) (by simp only [List.length_append, List.length_singleton]; omega)
  rw [← app_one] at h2
  simp only [impl_ranks.l0, ranksGo]
  simp only [if_pos (show ((pre.length : Int) < pre.length + suf.length + 1) by omega), if_pos (show (0 : Int) ≤ pre.length by omega), len_mid, rd_mid, wrap_id (show (-9223372036854775808 : Int) ≤ pre.length + 1 by omega) (show ((pre.length : Int) + 1 ≤ 9223372036854775807) by omega), rowL_is]
  by_cases hn : x ≥ 0
  ·simp only [if_pos hn, if_pos (show (pre.length : Int) < (f0.length : Int) by omega)]
   refine Ev.bind (ixEv hp (by omega) hn hxx.2) ?_
   simp only [if_pos (show out.length < 17592186044416 by omega)]
   exact h2
  ·simp only [if_neg hn, if_pos (show out.length < 17592186044416 by omega)]
   rw [hp.pl_out (by omega)] at h2 ⊢
   exact h2
def ranksM (f0 : List (List Int)) (m : List Int) : List Int := ranksGo f0 0 m
theorem ranksM_len (f0 : List (List Int)) (m : List Int) : (ranksM f0 m).length = m.length := ranksGo_len f0 m 0
theorem implRanks_ev {f0 f1 : List (List Int)} {f2 m : List Int} (h : Bd f0 f1 f2 m) : Ev (fun k => impl_ranks.f k f0 f1 f2 m) (ranksM f0 m) := by
 have := implRanks_l h.w h.lg h.ls m [] [] (by have := h.lm; simp only [List.nil_append]; omega) (by simp) h.low
 exact this
end Go.Proofs.Ytoipbblhmcpneaa.P

namespace Go.Proofs.Ytoipbblhmcpneaa.P
open Go.RowKit Go.Proofs.YtoipbblhmcpneaaW.PrintWords Go.Proofs.YtoipbblhmcpneaaW.PrintLast
set_option linter.unusedVariables false
set_option linter.unusedSimpArgs false
def marksI : Nat → Int → List Int
 | 0, _ => []
 | n + 1, q => q :: marksI n (q + 1)
theorem markIntS_l (suf : List Int) : ∀ (pre : List Int) (k : Nat) (q : Int), suf.length < k → (pre.length : Int) + suf.length ≤ 1099511627776 → 0 ≤ q → q + suf.length ≤ 4611686018427387904 →
  laws_markIntS.l0 k (pre ++ suf) q (pre.length : Int) = some (q + suf.length, pre ++ marksI suf.length q) := by
 induction suf with
 | nil =>
  intro pre k q hk hb h0 h1
  obtain ⟨k, rfl⟩ : ∃ m, k = m + 1 := ⟨k - 1, by omega⟩
  simp only [laws_markIntS.l0]
  rw [if_neg (by simp)]
  simp [marksI]
 | cons x suf ih =>
  intro pre k q hk hb h0 h1
  simp only [List.length_cons] at hk hb h1
  obtain ⟨k, rfl⟩ : ∃ m, k = m + 1 := ⟨k - 1, by omega⟩
  have h := ih (pre ++ [q]) k (q + 1) (by omega) (by simp <;> omega) (by omega) (by omega)
  simp only [laws_markIntS.l0]
  rw [if_pos (by simp <;> omega), if_pos (by omega), set_mid, wrap_id (x := q + 1) (by omega) (by omega), wrap_id (x := (pre.length : Int) + 1) (by omega) (by omega)]
  rw [len_one] at h
  rw [app_one, h]
  simp only [marksI, List.length_cons, List.append_assoc, List.cons_append, List.nil_append, Option.some.injEq, Prod.mk.injEq, and_true]
  omega
theorem markIntS_ev (l : List Int) (q : Int) (hl : l.length ≤ 1099511627776) (h0 : 0 ≤ q) (h1 : q ≤ 1099511627776) : Ev (fun k => laws_markIntS.f k l q) (q + l.length, marksI l.length q) := by
 refine ⟨l.length + 1, fun k hk => ?_⟩
 show laws_markIntS.f k l q = _
 unfold laws_markIntS.f
 simpa using markIntS_l l [] k q (by omega) (by simp <;> omega) h0 (by omega)
theorem heldIntS_l (n : Nat) : ∀ (pre : List Int) (k : Nat) (q : Int), n < k → (pre.length : Int) + n ≤ 1099511627776 → 0 ≤ q → q + n ≤ 4611686018427387904 →
  laws_heldIntS.l0 k (pre ++ marksI n q) q (pre.length : Int) = some (q + n) := by
 induction n with
 | zero =>
  intro pre k q hk hb h0 h1
  obtain ⟨k, rfl⟩ : ∃ m, k = m + 1 := ⟨k - 1, by omega⟩
  simp only [laws_heldIntS.l0]
  rw [show marksI 0 q = [] from rfl, if_neg (by simp)]
  simp
 | succ n ih =>
  intro pre k q hk hb h0 h1
  obtain ⟨k, rfl⟩ : ∃ m, k = m + 1 := ⟨k - 1, by omega⟩
  have h := ih (pre ++ [q]) k (q + 1) (by omega) (by simp <;> omega) (by omega) (by omega)
  simp only [laws_heldIntS.l0]
  rw [show marksI (n + 1) q = q :: marksI n (q + 1) from rfl]
  rw [if_pos (by simp <;> omega), if_pos (by omega), rd_mid, if_pos rfl, wrap_id (x := q + 1) (by omega) (by omega), wrap_id (x := (pre.length : Int) + 1) (by omega) (by omega)]
  rw [len_one] at h
  rw [app_one, h]
  simp only [Option.some.injEq]
  omega
theorem heldIntS_ev (n : Nat) (q : Int) (hl : n ≤ 1099511627776) (h0 : 0 ≤ q) (h1 : q ≤ 1099511627776) : Ev (fun k => laws_heldIntS.f k (marksI n q) q) (q + n) := by
 refine ⟨n + 1, fun k hk => ?_⟩
 show laws_heldIntS.f k (marksI n q) q = _
 unfold laws_heldIntS.f
 exact heldIntS_l n [] k q (by omega) (by simp <;> omega) h0 (by omega)
end Go.Proofs.Ytoipbblhmcpneaa.P

namespace Go.Proofs.Ytoipbblhmcpneaa.P
open Go.RowKit Go.Proofs.YtoipbblhmcpneaaW.PrintWords Go.Proofs.YtoipbblhmcpneaaW.PrintLast
set_option linter.unusedVariables false
set_option linter.unusedSimpArgs false
def marksSS : List (List Int) → Int → List (List Int)
 | [], _ => []
 | x :: r, q => marksI x.length q :: marksSS r (q + x.length)
def endSS : List (List Int) → Int → Int
 | [], q => q
 | x :: r, q => endSS r (q + x.length)
theorem endSS_ge : ∀ (l : List (List Int)) (q : Int), q ≤ endSS l q
 | [], q => Int.le_refl q
 | x :: r, q => by
  rw [endSS]
  have := endSS_ge r (q + x.length)
  omega
theorem markIntS_ev2 (l : List Int) (q : Int) (hl : l.length ≤ 1048576) (h0 : 0 ≤ q) (h1 : q ≤ 2305843009213693952) : Ev (fun k => laws_markIntS.f k l q) (q + l.length, marksI l.length q) := by
 refine ⟨l.length + 1, fun k hk => ?_⟩
 show laws_markIntS.f k l q = _
 unfold laws_markIntS.f
 simpa using markIntS_l l [] k q (by omega) (by simp <;> omega) h0 (by omega)
theorem endSS_le : ∀ (l : List (List Int)) (q : Int), (∀ x ∈ l, x.length ≤ 1048576) → endSS l q ≤ q + 1048576 * l.length
 | [], q, _ => by simp [endSS]
 | x :: r, q, h => by
  rw [endSS, List.length_cons]
  have := endSS_le r (q + x.length) (fun y hy => h y (by simp [hy]))
  have := h x (by simp)
  omega
theorem markIntSS_l (suf : List (List Int)) : ∀ (pre : List (List Int)) (q : Int), (pre.length : Int) + suf.length ≤ 1048576 → (∀ x ∈ suf, x.length ≤ 1048576) → 0 ≤ q → q + 1048576 * suf.length ≤ 2305843009213693952 →
  Ev (fun k => laws_markIntSS.l0 k (pre ++ suf) q (pre.length : Int)) (endSS suf q, pre ++ marksSS suf q) := by
 induction suf with
 | nil =>
  intro pre q h hs h0 h1
  refine Ev.succ ?_
  simp only [laws_markIntSS.l0, List.append_nil, Int.lt_irrefl, if_false]
  exact Ev.some_ (by simp [endSS, marksSS])
 | cons x suf ih =>
  intro pre q h hs h0 h1
  rw [List.length_cons] at h h1
  have hx := hs x (by simp)
  refine Ev.succ ?_
  simp only [laws_markIntSS.l0, if_pos (show ((pre.length : Int) < ((pre ++ x :: suf).length : Int)) by rw [len_mid]; omega), if_pos (show (0 : Int) ≤ pre.length by omega), getD_mid, wrap_id (show (-9223372036854775808 : Int) ≤ pre.length + 1 by omega) (show ((pre.length : Int) + 1 ≤ 9223372036854775807) by omega)]
  refine Ev.bind (markIntS_ev2 x q (by omega) h0 (by omega)) ?_
  simp only [set_mid]
  have := ih (pre ++ [marksI x.length q]) (q + x.length) (by rw [len_one]; omega) (fun y hy => hs y (by simp [hy])) (by omega) (by omega)
  rw [len_one, ← app_one] at this
  rw [show (endSS (x :: suf) q, pre ++ marksSS (x :: suf) q) = (endSS suf (q + x.length), (pre ++ [marksI x.length q]) ++ marksSS suf (q + x.length)) by rw [endSS, marksSS, List.append_assoc]; rfl]
  exact this
theorem markIntSS_ev2 (l : List (List Int)) (q : Int) (hl : l.length ≤ 1048576) (hs : ∀ x ∈ l, x.length ≤ 1048576) (h0 : 0 ≤ q) (h1 : q ≤ 1152921504606846976) : Ev (fun k => laws_markIntSS.f k l q) (endSS l q, marksSS l q) :=
 markIntSS_l l [] q (by simp; omega) hs h0 (by omega)
end Go.Proofs.Ytoipbblhmcpneaa.P

namespace Go.Proofs.Ytoipbblhmcpneaa.P
open Go.RowKit Go.Proofs.YtoipbblhmcpneaaW.PrintWords Go.Proofs.YtoipbblhmcpneaaW.PrintLast
set_option linter.unusedVariables false
set_option linter.unusedSimpArgs false
theorem markW_ev {f0 f1 : List (List Int)} {f2 : List Int} (h : okW f0 f1 f2) : ∃ (n : Int) (m0 m1 : List (List Int)) (m2 : List Int), 0 ≤ n ∧ n ≤ 1152921504606846976 ∧ Ev (fun k => laws_markWishes.f k f0 f1 f2 1) (n, m0, m1, m2) := by
 have a0 := h.a0
 have a1 := h.a1
 have a2 := h.a2
 have g0 := endSS_ge f0 1
 have l0 := endSS_le f0 1 h.b0
 have g1 := endSS_ge f1 (endSS f0 1)
 have l1 := endSS_le f1 (endSS f0 1) h.b1
 refine ⟨endSS f1 (endSS f0 1) + f2.length, marksSS f0 1, marksSS f1 (endSS f0 1), marksI f2.length (endSS f1 (endSS f0 1)), by omega, by omega, ?_⟩
 unfold laws_markWishes.f
 refine Ev.bind (markIntSS_ev2 f0 1 (by omega) h.b0 (by omega) (by omega)) ?_
 refine Ev.bind (markIntSS_ev2 f1 (endSS f0 1) (by omega) h.b1 (by omega) (by omega)) ?_
 refine Ev.bind (markIntS_ev2 f2 (endSS f1 (endSS f0 1)) (by omega) (by omega) (by omega)) ?_
 exact Ev.now _
end Go.Proofs.Ytoipbblhmcpneaa.P

namespace Go.Proofs.Ytoipbblhmcpneaa.P
open Go.RowKit Go.Proofs.YtoipbblhmcpneaaW.PrintWords Go.Proofs.YtoipbblhmcpneaaW.PrintLast
set_option linter.unusedVariables false
set_option linter.unusedSimpArgs false
theorem specRanks_l {f0 f1 : List (List Int)} {f2 : List Int} (w : WOk f0 f1 f2 f0.length f1.length) (hg8 : f0.length ≤ 8) (hs8 : f1.length ≤ 8) (suf : List Int) : ∀ (pre out : List Int), ((pre ++ suf).length : Int) = f0.length → out.length ≤ pre.length →
  Ev (fun k => spec_RanksOf.l0 k out (pre ++ suf) ((pre ++ suf).length : Int) pre.length f0 f1 f2) (out ++ ranksGo f0 pre.length suf, true) := by
 induction suf with
 | nil =>
  intro pre out h ho
  refine Ev.succ ?_
  simp only [spec_RanksOf.l0, List.append_nil, Int.lt_irrefl, if_false, ranksGo]
  exact Ev.now _
 | cons x suf ih =>
  intro pre out h ho
  refine Ev.succ ?_
  rw [len_mid] at h ⊢
  have hp := w.pg pre.length (by omega) (by omega)
  have h2 := ih (pre ++ [x]) (out ++ [pl (row_ f0 pre.length) x]) (by rw [← app_one, len_mid]; exact h) (by simp only [List.length_append, List.length_singleton]; omega)
  rw [← app_one, len_mid, len_one] at h2
  rw [← app_one] at h2
  simp only [spec_RanksOf.l0, ranksGo]
  simp only [if_pos (show ((pre.length : Int) < pre.length + suf.length + 1) by omega), if_pos (show (0 : Int) ≤ pre.length by omega), len_mid, rd_mid, wrap_id (show (-9223372036854775808 : Int) ≤ pre.length + 1 by omega) (show ((pre.length : Int) + 1 ≤ 9223372036854775807) by omega), rowL_is, if_pos (show (pre.length : Int) < (f0.length : Int) by omega)]
  refine Ev.bind (plEv x _ (by have := hp.len; omega)) ?_
  simp only [if_pos (show out.length < 17592186044416 by omega)]
  exact h2
def ranksOf (f0 f1 : List (List Int)) (f2 m : List Int) : List Int × Bool := if goodM f0 f1 f2 m = true then (ranksM f0 m, true) else ([], false)
theorem ranksOf_len (f0 f1 : List (List Int)) (f2 m : List Int) : (ranksOf f0 f1 f2 m).1.length ≤ 8 := by
 unfold ranksOf
 split
 ·rename_i h
  have b := bd_of h
  have := b.lm
  have := b.lg
  show (ranksM f0 m).length ≤ 8
  rw [ranksM_len]
  omega
 ·simp
theorem specRanksOf_ev {f0 f1 : List (List Int)} {f2 : List Int} (ok : okW f0 f1 f2) (m : List Int) (hm : m.length ≤ 1048576) : Ev (fun k => spec_RanksOf.f k f0 f1 f2 m) (ranksOf f0 f1 f2 m) := by
 unfold spec_RanksOf.f ranksOf
 refine Ev.bind (specGoodM_ev ok m hm) ?_
 by_cases h : goodM f0 f1 f2 m = true
 ·have b := bd_of h
  simp only [if_pos h]
  exact specRanks_l b.w b.lg b.ls m [] [] (by have := b.lm; simp only [List.nil_append]; omega) (by simp)
 ·simp only [if_neg h]
  exact Ev.now _
theorem implRanksOf_ev {f0 f1 : List (List Int)} {f2 : List Int} (ok : okW f0 f1 f2) (m : List Int) (hm : m.length ≤ 1048576) : Ev (fun k => impl_RanksOf.f k f0 f1 f2 m) (ranksOf f0 f1 f2 m) := by
 unfold impl_RanksOf.f ranksOf
 refine Ev.bind (implGoodM_ev ok m hm) ?_
 by_cases h : goodM f0 f1 f2 m = true
 ·have b := bd_of h
  simp only [if_pos h]
  exact Ev.bind (implRanks_ev b) (Ev.now _)
 ·simp only [if_neg h]
  exact Ev.now _
end Go.Proofs.Ytoipbblhmcpneaa.P

namespace Go.Proofs.Ytoipbblhmcpneaa.Pure
open Go.RowKit Go.Proofs.Ytoipbblhmcpneaa.P Go.Proofs.YtoipbblhmcpneaaW.PrintWords Go.Proofs.YtoipbblhmcpneaaW.PrintLast
set_option linter.unusedVariables false
set_option linter.unusedSimpArgs false
theorem FnExactRanksOf : laws_FnExactRanksOf.Pure := by
 intro s l hs _
 obtain ⟨⟨h0, h0'⟩, ⟨h1, h1'⟩, h2, h2'⟩ := hs
 refine Ev.rounds ?_
 unfold laws_FnExactRanksOf.f
 by_cases hq : (l.length : Int) > 1048576
 ·simp only [if_pos hq]
  exact Ev.now _
 simp only [if_neg hq]
 have hl : l.length ≤ 1048576 := by omega
 obtain ⟨r, er, hr⟩ := szWishes_ev s.f0 s.f1 s.f2 h0 (fun x hx => (h0' x hx).1) h1 (fun x hx => (h1' x hx).1) h2
 refine Ev.bind er ?_
 by_cases h : r < 0
 ·simp only [if_pos h]
  exact Ev.now _
 ·simp only [if_neg h]
  have ok := hr h
  have hk := ranksOf_len s.f0 s.f1 s.f2 l
  have hi := implRanksOf_ev ok l hl
  obtain ⟨n, m0, m1, m2, hn0, hn1, en⟩ := markW_ev ok
  refine Ev.bind (toWishes_ev ok) ?_
  refine Ev.bind (toIntS_ev l hl) ?_
  refine Ev.bind (specRanksOf_ev ok l hl) ?_
  refine Ev.bind (toWishes_ev ok) ?_
  refine Ev.bind (toIntS_ev l hl) ?_
  refine Ev.bind hi ?_
  generalize ranksOf s.f0 s.f1 s.f2 l = g at hk hi
  refine Ev.bind (eqIntS_ev _ _ (by omega)) ?_
  simp only [decide_true, if_true, bne_self_eq_false]
  refine Ev.succ ?_
  simp only [laws_FnExactRanksOf.j0, Bool.false_eq_true, if_false]
  refine Ev.bind (toWishes_ev ok) ?_
  refine Ev.bind (eqWishes_ev ok) ?_
  simp only [if_true]
  refine Ev.bind (toIntS_ev l hl) ?_
  refine Ev.bind (eqIntS_ev _ _ (by omega)) ?_
  simp only [decide_true, if_true]
  refine Ev.bind en ?_
  refine Ev.bind (markIntS_ev2 l n (by omega) hn0 (by omega)) ?_
  simp only [if_neg (show ¬ (n + (l.length : Int) < 0) by omega)]
  refine Ev.bind (eqIntS_ev _ _ (by omega)) ?_
  simp only [decide_true, if_true, bne_self_eq_false]
  refine Ev.succ ?_
  simp only [laws_FnExactRanksOf.j1, Bool.false_eq_true, if_false]
  refine Ev.bind (markIntS_ev _ 1 (by omega) (by omega) (by omega)) ?_
  refine Ev.bind (heldIntS_ev _ 1 (by omega) (by omega) (by omega)) ?_
  simp only [if_neg (show ¬ (1 + (g.1.length : Int)) < 0 by omega), if_true]
  refine Ev.bind (toWishes_ev ok) ?_
  refine Ev.bind (toIntS_ev l hl) ?_
  refine Ev.bind hi ?_
  refine Ev.bind (eqIntS_ev _ _ (by omega)) ?_
  simp only [decide_true, if_true, bne_self_eq_false]
  refine Ev.succ ?_
  simp only [laws_FnExactRanksOf.j2, Bool.false_eq_true, if_false]
  refine Ev.bind (heldIntS_ev _ 1 (by omega) (by omega) (by omega)) ?_
  simp only [if_neg (show ¬ (1 + (g.1.length : Int)) < 0 by omega), if_true]
  exact Ev.now _
end Go.Proofs.Ytoipbblhmcpneaa.Pure
