/- Functions, walks and plain lemmas that the law FnExactLearn reaches, part 5. -/
import Derived.Test.YtcbofebikbbknaaCFnExactLearn4
import Derived.WalkKit
import Derived.ProofKit
import Derived.OpenShut
import Derived.ChangeOld
import Derived.Below
import Derived.SizedLaws
import Derived.ChangeArms
import Derived.DataElems
import Derived.Deep.Draws
import Derived.Deep.AppendLies
import Derived.Maps.AppendAt
import Derived.OwnWalk
import Derived.Laws.BytesArg
import Derived.Laws.MakeOwn
import Derived.Laws.OwnMore
import Derived.Deep.OwnRows
import Derived.Tactics
import Derived.Lib.ConvBytes
import Derived.Laws.Slices
import Derived.KernelRfl
import Derived.RowKit3
import Derived.Deep.LoopGhost
import Derived.Deep.QuietTactic
import Derived.BigQuiet
import Derived.WideLaws
import Derived.Deep.DeepCutAuto
import Derived.Deep.CutBlock
import Derived.Deep.RegionHeld3
import Derived.Laws.Rows
import Derived.Lib.AppendStr
import Derived.ArgAppend
import Derived.Laws.IdiomCopy
import Derived.OrdersHeld
import Derived.Laws.BitsLemmas
import Derived.RowKit
import Derived.WalkSpells
import Derived.Lib.SliceRun
import Derived.Shelf.Abstract
import Derived.ShutString
namespace Go.Proofs.Ytcbofebikbbknaa.P
open Go.RowKit Go.Proofs.YtcbofebikbbknaaW.PrintWords Go.Proofs.YtcbofebikbbknaaW.PrintLast Go.Proofs.YtcbofebikbbknaaW.PrintMore
attribute [local go_sem] max2_int min2_int max_two min_two max_three min_three max_four min_four   -- for this text's walks alone
set_option linter.unusedVariables false
set_option linter.unusedSimpArgs false
mutual
def laws_FnExactLearn.j0:Nat→Bool→Bool→Bool→Int→List (S51)→Int→Int→Int→Int→List (S53)→Int→List (S53)→Int→List (S53)→Option (Bool)
 | 0,_,_,_,_,_,_,_,_,_,_,_,_,_,_=>none
 |k+1,x7,x10,x46,x566000,x566001,x567000,x567001,x567002,x581000,x581001,x586000,x586001,x595000,x595001=>if x46=true then(some false) else((laws_toTable.f k x566000 x566001).bind fun bt596=>((laws_eqTable.f k x586000 x586001 bt596.1 bt596.2).bind fun t600=>(if t600=true then((laws_markTable.f k x586000 x586001 1).bind fun bt601=>(if bt601.1< 0 then(laws_FnExactLearn.j1 k x7 true x566000 x566001 x567000 x567001 x567002 x581000 x581001 x595000 x595001) else((laws_eqTable.f k x595000 x595001 x581000 x581001).bind fun t603=>(if t603=true then(laws_FnExactLearn.j1 k x7 (x10 !=x7) x566000 x566001 x567000 x567001 x567002 x581000 x581001 x595000 x595001) else(laws_FnExactLearn.j1 k x7 true x566000 x566001 x567000 x567001 x567002 x581000 x581001 x595000 x595001))))) else(some false))))
def laws_FnExactLearn.j1:Nat→Bool→Bool→Int→List (S51)→Int→Int→Int→Int→List (S53)→Int→List (S53)→Option (Bool)
 | 0,_,_,_,_,_,_,_,_,_,_,_=>none
 |k+1,x7,x67,x566000,x566001,x567000,x567001,x567002,x581000,x581001,x595000,x595001=>if x67=true then(some false) else((laws_markTable.f k x595000 x595001 1).bind fun bt604=>((laws_heldTable.f k x595000 bt604.2 1).bind fun t606=>(if t606< 0 then(some false) else(if t606=bt604.1 then((laws_toTable.f k x566000 x566001).bind fun bt607=>((laws_toSeen.f x567000 x567001 x567002).bind fun bt611=>((impl_Learn.f k bt607.1 bt607.2 bt611.1 bt611.2.1 bt611.2.2).bind fun bt614=>((laws_eqTable.f k bt614.1 bt614.2.1 x581000 x581001).bind fun t620=>(if t620=true then(laws_FnExactLearn.j2 k bt604.1 (bt614.2.2 !=x7) x595000 bt604.2) else(laws_FnExactLearn.j2 k bt604.1 true x595000 bt604.2)))))) else(some false)))))
def laws_FnExactLearn.j2:Nat→Int→Bool→Int→List (S53)→Option (Bool)
 | 0,_,_,_,_=>none
 |k+1,x12,x95,x595000,x595001=>if x95=true then(some false) else((laws_heldTable.f k x595000 x595001 1).bind fun t621=>(if t621< 0 then(some false) else(if t621=x12 then(some true) else(some false))))
end
def laws_FnExactLearn.f (k:Nat) (a0_0:Int) (l0_1:List (S51)) (a1_0:Int) (a1_1:Int) (a1_2:Int):Option (Bool):=(laws_szTable.f a0_0 l0_1 1048576).bind fun t567=>(if t567< 0 then(some true) else((laws_toTable.f k a0_0 l0_1).bind fun bt568=>((laws_toSeen.f a1_0 a1_1 a1_2).bind fun bt572=>((spec_Learn.f k bt568.1 bt568.2 bt572.1 bt572.2.1 bt572.2.2).bind fun bt575=>((laws_toTable.f k a0_0 l0_1).bind fun bt581=>((laws_toSeen.f a1_0 a1_1 a1_2).bind fun bt586=>((impl_Learn.f k bt581.1 bt581.2 bt586.1 bt586.2.1 bt586.2.2).bind fun bt589=>((laws_eqTable.f k bt589.1 bt589.2.1 bt575.1 bt575.2.1).bind fun t595=>(if t595=true then(laws_FnExactLearn.j0 k bt575.2.2 bt589.2.2 (bt589.2.2 !=bt575.2.2) a0_0 l0_1 a1_0 a1_1 a1_2 bt575.1 bt575.2.1 bt581.1 bt581.2 bt589.1 bt589.2.1) else(laws_FnExactLearn.j0 k bt575.2.2 bt589.2.2 true a0_0 l0_1 a1_0 a1_1 a1_2 bt575.1 bt575.2.1 bt581.1 bt581.2 bt589.1 bt589.2.1))))))))))
def laws_FnExactLearn.T5:Bool × List (List Nat × List Nat):=(true,[([],[]),([0],[0]),([],[]),([2,1],[2]),([1,3,3],[1,3]),([4],[4]),([5],[5]),([5],[5]),([],[]),([8,6,4,0,1,2,3,4,5,6,8],[6,8]),([7,9,0,1,2,3,4,5,6,7,8,9],[7])])
def laws_FnExactLearn.B5:List Nat:= [0,1,0,7,15,31,63,63,0,383,1023]
theorem laws_FnExactLearn.tab5:rtab .any (opsOf Try.f10 5)=laws_FnExactLearn.T5:=by kernel_rfl
theorem laws_FnExactLearn.bits5:waitsOk laws_FnExactLearn.T5.2 laws_FnExactLearn.B5=true:=by kernel_rfl
def laws_FnExactLearn.T7:Bool × List (List Nat × List Nat):=(true,[([],[]),([],[]),([1],[1]),([0,2,2],[0,2]),([3],[3]),([4],[4]),([4],[4]),([],[]),([7,5,3,0,1,2,3,4,5,7],[5,7]),([6,8,0,1,2,3,4,5,6,7,8],[6])])
def laws_FnExactLearn.B7:List Nat:= [0,0,2,7,15,31,31,0,191,511]
theorem laws_FnExactLearn.tab7:rtab .any (opsOf Try.f10 7)=laws_FnExactLearn.T7:=by kernel_rfl
theorem laws_FnExactLearn.bits7:waitsOk laws_FnExactLearn.T7.2 laws_FnExactLearn.B7=true:=by kernel_rfl
def laws_FnExactLearn.T24:Bool × List (List Nat × List Nat):=(true,[([],[]),([0],[0]),([],[]),([2,1],[2]),([1,3,3],[1,3]),([4],[4]),([5],[5]),([5],[5]),([],[]),([8,6,4,0,1,2,3,4,5,6,8],[6,8]),([7,9,0,1,2,3,4,5,6,7,8,9],[7])])
def laws_FnExactLearn.B24:List Nat:= [0,1,0,7,15,31,63,63,0,383,1023]
theorem laws_FnExactLearn.tab24:rtab .any (opsOf Try.f10 24)=laws_FnExactLearn.T24:=by kernel_rfl
theorem laws_FnExactLearn.bits24:waitsOk laws_FnExactLearn.T24.2 laws_FnExactLearn.B24=true:=by kernel_rfl
theorem zb6 {q p q0 q1 q2 q3 q4 q5:Prop} (b:Aside0 q) (b0:Aside0 q0) (b1:Aside0 q1) (b2:Aside0 q2) (b3:Aside0 q3) (b4:Aside0 q4) (b5:Aside0 q5) (h:q→q0→q1→q2→q3→q4→q5→p:=by intro z z0 z1 z2 z3 z4 z5;repeat(first|(with_reducible first|exact z|apply below_alloc|apply pw_below_drewN|apply below_drew1|refine below_set ?_ z0|refine below_set ?_ z1|refine below_set ?_ z2|refine below_set ?_ z3|refine below_set ?_ z4|refine below_set ?_ z5)|exact z)):p:=h b.out b0.out b1.out b2.out b3.out b4.out b5.out
set_option maxHeartbeats 8000000 in
set_option maxRecDepth 100000 in
theorem laws_FnExactLearn.calls (k:Nat) (a0_0:Int) (A0_1:Option Addr) (c0_1:Nat) (l0_1:List (S51)) (a1_0:Int) (a1_1:Int) (a1_2:Int) (r:Bool) (w:World) (hr0_1:Kd.C k51 w A0_1 l0_1.length l0_1) (hc0_1:l0_1.length≤c0_1) (h:laws_FnExactLearn.f k a0_0 l0_1 a1_0 a1_1 a1_2=some r) (hrt:r=true:=by rfl):
  Calls Try.prog 10 #[.agg #[.int .i64 a0_0,.slice A0_1 l0_1.length c0_1],.agg #[.int .i64 a1_0,.int .i64 a1_1,.int .i64 a1_2]] w fun e w'=>e= .returned (.bool r)∧Below w.heap.size w w':=by
 have HRT:=Aside0.mk hrt
 clear hrt
 have hu32:=Try.underlying32
 have hu51:=Try.underlying51
 have hu24:=Try.underlying24
 have HR0_1:=Aside0.mk hr0_1
 have HC0_1:=Aside0.mk hc0_1
 clear hr0_1 hc0_1
 have HB:=Aside0.mk (Below.refl w.heap.size w)
 have H:((laws_szTable.f a0_0 l0_1 1048576).bind fun t567=>(if t567< 0 then(some true) else((laws_toTable.f k a0_0 l0_1).bind fun bt568=>((laws_toSeen.f a1_0 a1_1 a1_2).bind fun bt572=>((spec_Learn.f k bt568.1 bt568.2 bt572.1 bt572.2.1 bt572.2.2).bind fun bt575=>((laws_toTable.f k a0_0 l0_1).bind fun bt581=>((laws_toSeen.f a1_0 a1_1 a1_2).bind fun bt586=>((impl_Learn.f k bt581.1 bt581.2 bt586.1 bt586.2.1 bt586.2.2).bind fun bt589=>((laws_eqTable.f k bt589.1 bt589.2.1 bt575.1 bt575.2.1).bind fun t595=>(if t595=true then(laws_FnExactLearn.j0 k bt575.2.2 bt589.2.2 (bt589.2.2 !=bt575.2.2) a0_0 l0_1 a1_0 a1_1 a1_2 bt575.1 bt575.2.1 bt581.1 bt581.2 bt589.1 bt589.2.1) else(laws_FnExactLearn.j0 k bt575.2.2 bt589.2.2 true a0_0 l0_1 a1_0 a1_1 a1_2 bt575.1 bt575.2.1 bt581.1 bt581.2 bt589.1 bt589.2.1)))))))))))=some r:=h
 clear h
 replace H:=Option.bind_eq_some_iff.mp H
 obtain⟨t567,A30,H⟩:=H
 replace H:(if t567< 0 then(some true) else((laws_toTable.f k a0_0 l0_1).bind fun bt568=>((laws_toSeen.f a1_0 a1_1 a1_2).bind fun bt572=>((spec_Learn.f k bt568.1 bt568.2 bt572.1 bt572.2.1 bt572.2.2).bind fun bt575=>((laws_toTable.f k a0_0 l0_1).bind fun bt581=>((laws_toSeen.f a1_0 a1_1 a1_2).bind fun bt586=>((impl_Learn.f k bt581.1 bt581.2 bt586.1 bt586.2.1 bt586.2.2).bind fun bt589=>((laws_eqTable.f k bt589.1 bt589.2.1 bt575.1 bt575.2.1).bind fun t595=>(if t595=true then(laws_FnExactLearn.j0 k bt575.2.2 bt589.2.2 (bt589.2.2 !=bt575.2.2) a0_0 l0_1 a1_0 a1_1 a1_2 bt575.1 bt575.2.1 bt581.1 bt581.2 bt589.1 bt589.2.1) else(laws_FnExactLearn.j0 k bt575.2.2 bt589.2.2 true a0_0 l0_1 a1_0 a1_1 a1_2 bt575.1 bt575.2.1 bt581.1 bt581.2 bt589.1 bt589.2.1))))))))))=some r:=H
 have A3:=Aside0.mk A30
 clear A30
 by_cases c4:t567< 0
 ·rw [if_pos c4] at H
  have c4b0:decide (t567< 0)=true:=decide_eq_true c4
  clear c4
  obtain rfl:=Option.some.inj H
  go_enter Try.func10,Try.ntmps10
  go_wp2_with (first|((with_reducible refine gate_dst (N:=2) rfl ?_);refine box_event ?hg (N:=2) ?hd (cs:= #[.int .i64 a0_0,.slice A0_1 l0_1.length c0_1]) (t:=32) ?hr ?_;(case hd=>rfl);(case hg=>rfl);(case hr=>first|(go_simp;done)|(go_simp;rfl));intro gb565 hg w5 hbox hb;have n0_:=Aside0.mk (below_step (zb0 HB) hb);have n1_:=Aside0.mk (hbox);have n2_:=Aside0.mk ((by rw [hg];exact(below_size (zb0 HB)):w.heap.size≤gb565));have n3_:=Aside0.mk ((by rw [hg];exact(below_size (zb0 HB)):w.heap.size≤gb565));clear HB;have HB:=n0_;have BK565:=n1_;have GW565:=n2_;have GE565:=n3_;clear n0_ n1_ n2_ n3_;clear hb hbox hg)|((with_reducible refine gate_dst (N:=3) rfl ?_);refine box_event ?hg (N:=3) ?hd (cs:= #[.int .i64 a1_0,.int .i64 a1_1,.int .i64 a1_2]) (t:=51) ?hr ?_;(case hd=>rfl);(case hg=>rfl);(case hr=>first|(go_simp;done)|(go_simp;rfl));intro gb566 hg w6 hbox hb;have n0_:=Aside0.mk (blk_below (g:=gb565) (o:= .cells #[.int .i64 a0_0,.slice A0_1 l0_1.length c0_1] 32 (0,0)) (z3 BK565) hb);have n1_:=Aside0.mk (below_step (zb1 HB GE565) hb);have n2_:=Aside0.mk (hbox);have n3_:=Aside0.mk ((by rw [hg];exact(below_size (zb1 HB GE565)):w.heap.size≤gb566));have n4_:=Aside0.mk ((by rw [hg];exact(below_size (zb1 HB GE565)):w.heap.size≤gb566));have n5_:=Aside0.mk ((by rw [hg];exact Nat.ne_of_lt (blk_lt (g:=gb565) (o:= .cells #[.int .i64 a0_0,.slice A0_1 l0_1.length c0_1] 32 (0,0)) (z3 BK565)):gb565≠gb566));have n6_:=Aside0.mk ((by rw [hg];exact Nat.ne_of_gt (blk_lt (g:=gb565) (o:= .cells #[.int .i64 a0_0,.slice A0_1 l0_1.length c0_1] 32 (0,0)) (z3 BK565)):gb566≠gb565));clear BK565;clear HB;have BK565:=n0_;have HB:=n1_;have BK566:=n2_;have GW566:=n3_;have GE566:=n4_;have NB565_566:=n5_;have NB566_565:=n6_;clear n0_ n1_ n2_ n3_ n4_ n5_ n6_;clear hb hbox hg;have hnb7:=NB565_566.out;have hnc7:=NB566_565.out;have hcz8_0:w6.cell? ⟨gb565,0,none⟩=some (.int .i64 a0_0):=(blk_cell BK565.out 0).trans rfl;have hcz8_1:w6.cell? ⟨gb565,1,none⟩=some (.slice A0_1 l0_1.length c0_1):=(blk_cell BK565.out 1).trans rfl;have hfz8_0:=blk_frozen BK565.out 0;have hfz8_1:=blk_frozen BK565.out 1)|((with_reducible refine gate_callee (f:=17) rfl ?_);refine goesL_ (some 18) rfl rfl Try.func17 (by kernel_rfl) rfl #[.agg #[.int .i64 a0_0,.slice A0_1 l0_1.length c0_1],.int .i64 1048576] rfl z2 ?_;(with_reducible refine(laws_szTable.calls a0_0 _ _ l0_1 1048576 t567 _ ?side1 ?side2 A3.out).mono ?_);(case side1=>repeat(first|exact(Kd.C_below HR0_1.out HB.out)|(with_reducible refine Kd.C_alloc ?_ _)|(with_reducible refine Kd.C_drewN ?_ _)|(with_reducible refine Kd.C_drew ?_)));(case side2=>exact HC0_1.out);rintro e w9 ⟨rfl,hb⟩;refine⟨_,rfl,?_⟩;have n0_:=Aside0.mk (blk_below (g:=gb565) (o:= .cells #[.int .i64 a0_0,.slice A0_1 l0_1.length c0_1] 32 (0,0)) (z3 BK565) hb);have n1_:=Aside0.mk (blk_below (g:=gb566) (o:= .cells #[.int .i64 a1_0,.int .i64 a1_1,.int .i64 a1_2] 51 (0,0)) (z3 BK566) hb);have n2_:=Aside0.mk (below_step (zb2 HB GE565 GE566) hb);clear BK565;clear BK566;clear HB;have BK565:=n0_;have BK566:=n1_;have HB:=n2_;clear n0_ n1_ n2_;(try clear hb);(try clear hb2);(try clear hk);(try clear hi)))
  go_ret
  exact⟨by first|rfl|(simp [errW_none,errW_some]<;>rfl)|(simp [*,errW_none,errW_some]<;>rfl),by repeat(first|(with_reducible first|exact HB.out|apply below_alloc|apply pw_below_drewN|apply below_drew1|refine below_set ?_ GE565.out|refine below_set ?_ GE566.out)|exact HB.out)⟩
 ·rw [if_neg c4] at H
  have c4b0:decide (t567< 0)=false:=decide_eq_false c4
  clear c4
  replace H:=Option.bind_eq_some_iff.mp H
  obtain⟨⟨t568,t569⟩,A100,H⟩:=H
  replace H:((laws_toSeen.f a1_0 a1_1 a1_2).bind fun bt572=>((spec_Learn.f k t568 t569 bt572.1 bt572.2.1 bt572.2.2).bind fun bt575=>((laws_toTable.f k a0_0 l0_1).bind fun bt581=>((laws_toSeen.f a1_0 a1_1 a1_2).bind fun bt586=>((impl_Learn.f k bt581.1 bt581.2 bt586.1 bt586.2.1 bt586.2.2).bind fun bt589=>((laws_eqTable.f k bt589.1 bt589.2.1 bt575.1 bt575.2.1).bind fun t595=>(if t595=true then(laws_FnExactLearn.j0 k bt575.2.2 bt589.2.2 (bt589.2.2 !=bt575.2.2) a0_0 l0_1 a1_0 a1_1 a1_2 bt575.1 bt575.2.1 bt581.1 bt581.2 bt589.1 bt589.2.1) else(laws_FnExactLearn.j0 k bt575.2.2 bt589.2.2 true a0_0 l0_1 a1_0 a1_1 a1_2 bt575.1 bt575.2.1 bt581.1 bt581.2 bt589.1 bt589.2.1))))))))=some r:=H
  have A10:=Aside0.mk A100
  clear A100
  replace H:=Option.bind_eq_some_iff.mp H
  obtain⟨⟨t572,t573,t574⟩,A110,H⟩:=H
  replace H:((spec_Learn.f k t568 t569 t572 t573 t574).bind fun bt575=>((laws_toTable.f k a0_0 l0_1).bind fun bt581=>((laws_toSeen.f a1_0 a1_1 a1_2).bind fun bt586=>((impl_Learn.f k bt581.1 bt581.2 bt586.1 bt586.2.1 bt586.2.2).bind fun bt589=>((laws_eqTable.f k bt589.1 bt589.2.1 bt575.1 bt575.2.1).bind fun t595=>(if t595=true then(laws_FnExactLearn.j0 k bt575.2.2 bt589.2.2 (bt589.2.2 !=bt575.2.2) a0_0 l0_1 a1_0 a1_1 a1_2 bt575.1 bt575.2.1 bt581.1 bt581.2 bt589.1 bt589.2.1) else(laws_FnExactLearn.j0 k bt575.2.2 bt589.2.2 true a0_0 l0_1 a1_0 a1_1 a1_2 bt575.1 bt575.2.1 bt581.1 bt581.2 bt589.1 bt589.2.1)))))))=some r:=H
  have A11:=Aside0.mk A110
  clear A110
  replace H:=Option.bind_eq_some_iff.mp H
  obtain⟨⟨t575,t576,t579⟩,A120,H⟩:=H
  replace H:((laws_toTable.f k a0_0 l0_1).bind fun bt581=>((laws_toSeen.f a1_0 a1_1 a1_2).bind fun bt586=>((impl_Learn.f k bt581.1 bt581.2 bt586.1 bt586.2.1 bt586.2.2).bind fun bt589=>((laws_eqTable.f k bt589.1 bt589.2.1 t575 t576).bind fun t595=>(if t595=true then(laws_FnExactLearn.j0 k t579 bt589.2.2 (bt589.2.2 !=t579) a0_0 l0_1 a1_0 a1_1 a1_2 t575 t576 bt581.1 bt581.2 bt589.1 bt589.2.1) else(laws_FnExactLearn.j0 k t579 bt589.2.2 true a0_0 l0_1 a1_0 a1_1 a1_2 t575 t576 bt581.1 bt581.2 bt589.1 bt589.2.1))))))=some r:=H
  have A12:=Aside0.mk A120
  clear A120
  replace H:=Option.bind_eq_some_iff.mp H
  obtain⟨⟨t581,t582⟩,A130,H⟩:=H
  replace H:((laws_toSeen.f a1_0 a1_1 a1_2).bind fun bt586=>((impl_Learn.f k t581 t582 bt586.1 bt586.2.1 bt586.2.2).bind fun bt589=>((laws_eqTable.f k bt589.1 bt589.2.1 t575 t576).bind fun t595=>(if t595=true then(laws_FnExactLearn.j0 k t579 bt589.2.2 (bt589.2.2 !=t579) a0_0 l0_1 a1_0 a1_1 a1_2 t575 t576 t581 t582 bt589.1 bt589.2.1) else(laws_FnExactLearn.j0 k t579 bt589.2.2 true a0_0 l0_1 a1_0 a1_1 a1_2 t575 t576 t581 t582 bt589.1 bt589.2.1)))))=some r:=H
  have A13:=Aside0.mk A130
  clear A130
  replace H:=Option.bind_eq_some_iff.mp H
  obtain⟨⟨t586,t587,t588⟩,A140,H⟩:=H
  replace H:((impl_Learn.f k t581 t582 t586 t587 t588).bind fun bt589=>((laws_eqTable.f k bt589.1 bt589.2.1 t575 t576).bind fun t595=>(if t595=true then(laws_FnExactLearn.j0 k t579 bt589.2.2 (bt589.2.2 !=t579) a0_0 l0_1 a1_0 a1_1 a1_2 t575 t576 t581 t582 bt589.1 bt589.2.1) else(laws_FnExactLearn.j0 k t579 bt589.2.2 true a0_0 l0_1 a1_0 a1_1 a1_2 t575 t576 t581 t582 bt589.1 bt589.2.1))))=some r:=H
  have A14:=Aside0.mk A140
  clear A140
  replace H:=Option.bind_eq_some_iff.mp H
  obtain⟨⟨t589,t590,t593⟩,A150,H⟩:=H
  replace H:((laws_eqTable.f k t589 t590 t575 t576).bind fun t595=>(if t595=true then(laws_FnExactLearn.j0 k t579 t593 (t593 !=t579) a0_0 l0_1 a1_0 a1_1 a1_2 t575 t576 t581 t582 t589 t590) else(laws_FnExactLearn.j0 k t579 t593 true a0_0 l0_1 a1_0 a1_1 a1_2 t575 t576 t581 t582 t589 t590)))=some r:=H
  have A15:=Aside0.mk A150
  clear A150
  have HC16:=Aside0.mk H
  clear H
  go_enter Try.func10,Try.ntmps10
  try go_wp2_with (first|((with_reducible refine gate_dst (N:=2) rfl ?_);refine box_event ?hg (N:=2) ?hd (cs:= #[.int .i64 a0_0,.slice A0_1 l0_1.length c0_1]) (t:=32) ?hr ?_;(case hd=>rfl);(case hg=>rfl);(case hr=>first|(go_simp;done)|(go_simp;rfl));intro gb565 hg w17 hbox hb;have n0_:=Aside0.mk (below_step (zb0 HB) hb);have n1_:=Aside0.mk (hbox);have n2_:=Aside0.mk ((by rw [hg];exact(below_size (zb0 HB)):w.heap.size≤gb565));have n3_:=Aside0.mk ((by rw [hg];exact(below_size (zb0 HB)):w.heap.size≤gb565));clear HB;have HB:=n0_;have BK565:=n1_;have GW565:=n2_;have GE565:=n3_;clear n0_ n1_ n2_ n3_;clear hb hbox hg)|((with_reducible refine gate_dst (N:=3) rfl ?_);refine box_event ?hg (N:=3) ?hd (cs:= #[.int .i64 a1_0,.int .i64 a1_1,.int .i64 a1_2]) (t:=51) ?hr ?_;(case hd=>rfl);(case hg=>rfl);(case hr=>first|(go_simp;done)|(go_simp;rfl));intro gb566 hg w18 hbox hb;have n0_:=Aside0.mk (blk_below (g:=gb565) (o:= .cells #[.int .i64 a0_0,.slice A0_1 l0_1.length c0_1] 32 (0,0)) (z3 BK565) hb);have n1_:=Aside0.mk (below_step (zb1 HB GE565) hb);have n2_:=Aside0.mk (hbox);have n3_:=Aside0.mk ((by rw [hg];exact(below_size (zb1 HB GE565)):w.heap.size≤gb566));have n4_:=Aside0.mk ((by rw [hg];exact(below_size (zb1 HB GE565)):w.heap.size≤gb566));have n5_:=Aside0.mk ((by rw [hg];exact Nat.ne_of_lt (blk_lt (g:=gb565) (o:= .cells #[.int .i64 a0_0,.slice A0_1 l0_1.length c0_1] 32 (0,0)) (z3 BK565)):gb565≠gb566));have n6_:=Aside0.mk ((by rw [hg];exact Nat.ne_of_gt (blk_lt (g:=gb565) (o:= .cells #[.int .i64 a0_0,.slice A0_1 l0_1.length c0_1] 32 (0,0)) (z3 BK565)):gb566≠gb565));clear BK565;clear HB;have BK565:=n0_;have HB:=n1_;have BK566:=n2_;have GW566:=n3_;have GE566:=n4_;have NB565_566:=n5_;have NB566_565:=n6_;clear n0_ n1_ n2_ n3_ n4_ n5_ n6_;clear hb hbox hg;have hnb19:=NB565_566.out;have hnc19:=NB566_565.out;have hcz20_0:w18.cell? ⟨gb565,0,none⟩=some (.int .i64 a0_0):=(blk_cell BK565.out 0).trans rfl;have hcz20_1:w18.cell? ⟨gb565,1,none⟩=some (.slice A0_1 l0_1.length c0_1):=(blk_cell BK565.out 1).trans rfl;have hfz20_0:=blk_frozen BK565.out 0;have hfz20_1:=blk_frozen BK565.out 1)|((with_reducible refine gate_callee (f:=17) rfl ?_);refine goesL_ (some 18) rfl rfl Try.func17 (by kernel_rfl) rfl #[.agg #[.int .i64 a0_0,.slice A0_1 l0_1.length c0_1],.int .i64 1048576] rfl z2 ?_;(with_reducible refine(laws_szTable.calls a0_0 _ _ l0_1 1048576 t567 _ ?side1 ?side2 A3.out).mono ?_);(case side1=>repeat(first|exact(Kd.C_below HR0_1.out HB.out)|(with_reducible refine Kd.C_alloc ?_ _)|(with_reducible refine Kd.C_drewN ?_ _)|(with_reducible refine Kd.C_drew ?_)));(case side2=>exact HC0_1.out);rintro e w21 ⟨rfl,hb⟩;refine⟨_,rfl,?_⟩;have n0_:=Aside0.mk (blk_below (g:=gb565) (o:= .cells #[.int .i64 a0_0,.slice A0_1 l0_1.length c0_1] 32 (0,0)) (z3 BK565) hb);have n1_:=Aside0.mk (blk_below (g:=gb566) (o:= .cells #[.int .i64 a1_0,.int .i64 a1_1,.int .i64 a1_2] 51 (0,0)) (z3 BK566) hb);have n2_:=Aside0.mk (below_step (zb2 HB GE565 GE566) hb);clear BK565;clear BK566;clear HB;have BK565:=n0_;have BK566:=n1_;have HB:=n2_;clear n0_ n1_ n2_;(try clear hb);(try clear hb2);(try clear hk);(try clear hi)))
  have n0_:=Aside0.mk (blk_drew BK565.out)
  have n1_:=Aside0.mk (blk_drew BK566.out)
  have n2_:=Aside0.mk (below_drew1 HB.out)
  clear BK565
  clear BK566
  clear HB
  have BK565:=n0_
  have BK566:=n1_
  have HB:=n2_
  clear n0_ n1_ n2_
  refine start_ (n:=11) (S:=fun w'=>w'.cell? ⟨gb565,0,none⟩=some (.int .i64 a0_0)∧w'.cell? ⟨gb565,1,none⟩=some (.slice A0_1 l0_1.length c0_1)∧w'.cell? ⟨gb566,0,none⟩=some (.int .i64 a1_0)∧w'.cell? ⟨gb566,1,none⟩=some (.int .i64 a1_1)∧w'.cell? ⟨gb566,2,none⟩=some (.int .i64 a1_2)) (ds:= []) #[f',f',f',f',f',f',f',f',f',f',f'] (by kernel_rfl) rfl rfl ⟨(blk_cell BK565.out 0).trans rfl,(blk_cell BK565.out 1).trans rfl,(blk_cell BK566.out 0).trans rfl,(blk_cell BK566.out 1).trans rfl,(blk_cell BK566.out 2).trans rfl⟩ (fun hHeld=>?_);refine with_tabW laws_FnExactLearn.tab5 laws_FnExactLearn.bits5 (fun HT_ HW_=>?_)
  generalize w21.drew=w22 at BK565 BK566 HB hHeld ⊢
  refine take_ (i:=0) (N:=some 22) (v:=?_) (a':=?_) #[t',f',f',f',f',f',f',f',f',f',f'] rfl rfl (take_ofW HT_.out HW_.out (by kernel_rfl)) (fun _ _ _ h=>h) (Or.inl ⟨by rfl,?_⟩) hHeld ?_ ?_
  rotate_left
  ·rintro w' ⟨s0,s1,s2,s3,s4⟩
   go_simp
   with_reducible rfl
  rotate_left
  ·simp only [Act.put,z5,z6,z7,i64_w,i32_w]
   rfl
  refine take_ (i:=2) (N:=some 24) (v:=?_) (a':=?_) #[t',f',t',f',f',f',f',f',f',f',f'] rfl rfl (take_ofW HT_.out HW_.out (by kernel_rfl)) (fun _ _ _ h=>h) (Or.inl ⟨by rfl,?_⟩) hHeld ?_ ?_
  rotate_left
  ·rintro w' ⟨s0,s1,s2,s3,s4⟩
   go_simp
   with_reducible rfl
  rotate_left
  ·simp only [Act.put,z5,z6,z7,i64_w,i32_w]
   rfl
  refine join_ (σ :=Value × Value × Nat) 2 #[t',t',t',t',t',t',t',t',t',f',f'] (fun s_=> [(23,.agg #[.int .i64 t568,s_.1]),(25,.agg #[.int .i64 t572,.int .i64 t573,.int .i64 t574]),(26,.tuple #[.agg #[.int .i64 t575,s_.2.1],.bool t579]),(6,.pointer (some ⟨s_.2.2,0,none⟩)),(21,.tuple #[.agg #[.int .i64 t575,s_.2.1],.bool t579]),(27,.agg #[.int .i64 t575,s_.2.1]),(28,.bool t579)]) (fun s_ w'=>(w'.cell? ⟨gb565,0,none⟩=some (.int .i64 a0_0)∧w'.cell? ⟨gb565,1,none⟩=some (.slice A0_1 l0_1.length c0_1)∧w'.cell? ⟨gb566,0,none⟩=some (.int .i64 a1_0)∧w'.cell? ⟨gb566,1,none⟩=some (.int .i64 a1_1)∧w'.cell? ⟨gb566,2,none⟩=some (.int .i64 a1_2))∧ (Kd.R k53 53 w' w.heap.size (fun k_=>some k_≠ (s_.2.1:Value).ownBlock) s_.1 t569)∧ (Kd.R k53 53 w' w.heap.size (fun k_=>some k_≠ (s_.1:Value).ownBlock) s_.2.1 t576)∧ (w'.heap[gb565]?=some (.cells #[.int .i64 a0_0,.slice A0_1 l0_1.length c0_1] 32 (0,0)))∧ (w'.heap[gb566]?=some (.cells #[.int .i64 a1_0,.int .i64 a1_1,.int .i64 a1_2] 51 (0,0)))∧ (w'.heap[s_.2.2]?=some (.cells #[.int .i64 0,.slice none 0 0] 24 (0,0)))∧ (w.heap.size≤s_.2.2)∧ (w.heap.size≤s_.2.2)∧ (gb565≠s_.2.2)∧ (s_.2.2≠gb565)∧ (gb566≠s_.2.2)∧ (s_.2.2≠gb566)∧ (Below w.heap.size w w')) ?_ ?_
  rotate_left
  ·intro hCont
   refine two_ (i:=1) (j:=8) (Ni:=some 23) (Nj:=some 6) #[t',t',t',f',f',f',f',f',f',f',f'] #[t',f',t',f',f',f',f',f',t',f',f'] rfl rfl rfl rfl (two_of HT_.out (by kernel_rfl)) (by decide) (by decide) (fun K hK=>?_) (fun K hK=>?_)
   ·skip
    refine goes_ Try.func19 (by kernel_rfl) rfl #[.agg #[.int .i64 a0_0,.slice A0_1 l0_1.length c0_1]] (by rfl) rfl rfl z2 ?_
    with_reducible refine(laws_toTable.calls k a0_0 _ _ l0_1 t568 t569 _ ?side1 ?side2 A10.out).mono ?_
    (case side1=>repeat(first|exact(Kd.C_below HR0_1.out HB.out)|(with_reducible refine Kd.C_alloc ?_ _)|(with_reducible refine Kd.C_drewN ?_ _)|(with_reducible refine Kd.C_drew ?_)))
    (case side2=>exact HC0_1.out)
    rintro e w23 ⟨v570,rfl,ho0,hb⟩
    refine⟨_,rfl,?_⟩
    have n0_:=Aside0.mk (Kd.R_lower ho0 (below_size (zb2 HB GE565 GE566)))
    have n1_:=Aside0.mk (blk_below (g:=gb565) (o:= .cells #[.int .i64 a0_0,.slice A0_1 l0_1.length c0_1] 32 (0,0)) (z3 BK565) hb)
    have n2_:=Aside0.mk (blk_below (g:=gb566) (o:= .cells #[.int .i64 a1_0,.int .i64 a1_1,.int .i64 a1_2] 51 (0,0)) (z3 BK566) hb)
    have n3_:=Aside0.mk (below_step (zb2 HB GE565 GE566) hb)
    clear BK565
    clear BK566
    clear HB
    have HO571:=n0_
    have BK565:=n1_
    have BK566:=n2_
    have HB:=n3_
    clear n0_ n1_ n2_ n3_
    (try clear hb)
    (try clear hb2)
    (try clear hk)
    (try clear hi)
    (try clear ho0)
    refine hK.out _ _ ⟨(blk_cell BK565.out 0).trans rfl,(blk_cell BK565.out 1).trans rfl,(blk_cell BK566.out 0).trans rfl,(blk_cell BK566.out 1).trans rfl,(blk_cell BK566.out 2).trans rfl⟩ (fun hHeld=>?_)
    clear hK K
    refine norm_ (a':=?_) ?_ ?_
    rotate_left
    ·show Act.put _ (some 23) _=_
     simp only [Act.put,z5,z6,z7,i64_w,i32_w]
     rfl
    refine two_ (i:=3) (j:=8) (Ni:=some 25) (Nj:=some 6) #[t',t',t',t',f',f',f',f',f',f',f'] #[t',t',t',f',f',f',f',f',t',f',f'] rfl rfl rfl rfl (two_of HT_.out (by kernel_rfl)) (by decide) (by decide) (fun K hK=>?_) (fun K hK=>?_)
    ·skip
     refine goes_ Try.func36 (by kernel_rfl) rfl #[.agg #[.int .i64 a1_0,.int .i64 a1_1,.int .i64 a1_2]] (by rfl) rfl rfl z2 ?_
     with_reducible refine(laws_toSeen.calls a1_0 a1_1 a1_2 t572 t573 t574 _ A11.out).mono ?_
     rintro e w24 ⟨rfl,hb⟩
     refine⟨_,rfl,?_⟩
     have n0_:=Aside0.mk (Kd.R_below (z4 HO571) hb)
     have n1_:=Aside0.mk (blk_below (g:=gb565) (o:= .cells #[.int .i64 a0_0,.slice A0_1 l0_1.length c0_1] 32 (0,0)) (z3 BK565) hb)
     have n2_:=Aside0.mk (blk_below (g:=gb566) (o:= .cells #[.int .i64 a1_0,.int .i64 a1_1,.int .i64 a1_2] 51 (0,0)) (z3 BK566) hb)
     have n3_:=Aside0.mk (below_step (zb2 HB GE565 GE566) hb)
     clear HO571
     clear BK565
     clear BK566
     clear HB
     have HO571:=n0_
     have BK565:=n1_
     have BK566:=n2_
     have HB:=n3_
     clear n0_ n1_ n2_ n3_
     (try clear hb)
     (try clear hb2)
     (try clear hk)
     (try clear hi)
     obtain⟨Ao25,co25,eo25⟩:=Kd.R_slice HO571.out
     (first|subst eo25|(injection eo25 with f1_ f2_ f3_;have f4_:=f1_.symm;have f5_:=f3_.symm;clear f1_ f2_ f3_;subst f4_;subst f5_))
     refine hK.out _ _ ⟨(blk_cell BK565.out 0).trans rfl,(blk_cell BK565.out 1).trans rfl,(blk_cell BK566.out 0).trans rfl,(blk_cell BK566.out 1).trans rfl,(blk_cell BK566.out 2).trans rfl⟩ (fun hHeld=>?_)
     clear hK K
     refine norm_ (a':=?_) ?_ ?_
     rotate_left
     ·show Act.put _ (some 25) _=_
      simp only [Act.put,z5,z6,z7,i64_w,i32_w]
      rfl
     refine two_ (i:=4) (j:=8) (Ni:=some 26) (Nj:=some 6) #[t',t',t',t',t',f',f',f',f',f',f'] #[t',t',t',t',f',f',f',f',t',f',f'] rfl rfl rfl rfl (two_of HT_.out (by kernel_rfl)) (by decide) (by decide) (fun K hK=>?_) (fun K hK=>?_)
     ·skip
      refine goes_ Try.func35 (by kernel_rfl) rfl #[.agg #[.int .i64 t568,.slice Ao25 t569.length co25],.agg #[.int .i64 t572,.int .i64 t573,.int .i64 t574]] (by rfl) rfl rfl z2 ?_
      with_reducible refine(spec_Learn.calls k t568 _ _ t569 t572 t573 t574 t575 t576 t579 _ ?side1 ?side2 A12.out).mono ?_
      (case side1=>repeat(first|exact(Kd.R_reads' HO571.out).2.2|(with_reducible refine Kd.C_alloc ?_ _)|(with_reducible refine Kd.C_drewN ?_ _)|(with_reducible refine Kd.C_drew ?_)))
      (case side2=>exact(Kd.R_reads' HO571.out).2.1)
      rintro e w26 ⟨v577,rfl,ho0,hb⟩
      refine⟨_,rfl,?_⟩
      have n0_:=Aside0.mk (Kd.R_elder' (z4 HO571) (Kd.R_base ho0) hb)
      have n1_:=Aside0.mk (Kd.R_lower (Kd.R_new' ho0 (Kd.R_lt (z4 HO571))) (below_size (zb2 HB GE565 GE566)))
      have n2_:=Aside0.mk (blk_below (g:=gb565) (o:= .cells #[.int .i64 a0_0,.slice A0_1 l0_1.length c0_1] 32 (0,0)) (z3 BK565) hb)
      have n3_:=Aside0.mk (blk_below (g:=gb566) (o:= .cells #[.int .i64 a1_0,.int .i64 a1_1,.int .i64 a1_2] 51 (0,0)) (z3 BK566) hb)
      have n4_:=Aside0.mk (below_step (zb2 HB GE565 GE566) hb)
      clear HO571
      clear BK565
      clear BK566
      clear HB
      have HO571:=n0_
      have HO578:=n1_
      have BK565:=n2_
      have BK566:=n3_
      have HB:=n4_
      clear n0_ n1_ n2_ n3_ n4_
      (try clear hb)
      (try clear hb2)
      (try clear hk)
      (try clear hi)
      (try clear ho0)
      refine hK.out _ _ ⟨(blk_cell BK565.out 0).trans rfl,(blk_cell BK565.out 1).trans rfl,(blk_cell BK566.out 0).trans rfl,(blk_cell BK566.out 1).trans rfl,(blk_cell BK566.out 2).trans rfl⟩ (fun hHeld=>?_)
      clear hK K
      refine norm_ (a':=?_) ?_ ?_
      rotate_left
      ·show Act.put _ (some 26) _=_
       simp only [Act.put,z5,z6,z7,i64_w,i32_w]
       rfl
      refine pure_ (i:=5) (N:=some 21) (v:=?_) (a':=?_) #[t',t',t',t',t',t',f',f',f',f',f'] rfl rfl (any_of HT_.out (by kernel_rfl)) (fun _ _ _ h=>h) (Or.inl ⟨by rfl,?_⟩) ?_ ?_
      rotate_left
      ·intro w'
       go_simp
       with_reducible rfl
      rotate_left
      ·simp only [Act.put,z5,z6,z7,i64_w,i32_w]
       rfl
      refine pure_ (i:=6) (N:=some 27) (v:=?_) (a':=?_) #[t',t',t',t',t',t',t',f',f',f',f'] rfl rfl (any_of HT_.out (by kernel_rfl)) (fun _ _ _ h=>h) (Or.inl ⟨by rfl,?_⟩) ?_ ?_
      rotate_left
      ·intro w'
       go_simp
       with_reducible rfl
      rotate_left
      ·simp only [Act.put,z5,z6,z7,i64_w,i32_w]
       rfl
      refine pure_ (i:=7) (N:=some 28) (v:=?_) (a':=?_) #[t',t',t',t',t',t',t',t',f',f',f'] rfl rfl (any_of HT_.out (by kernel_rfl)) (fun _ _ _ h=>h) (Or.inl ⟨by rfl,?_⟩) ?_ ?_
      rotate_left
      ·intro w'
       go_simp
       with_reducible rfl
      rotate_left
      ·simp only [Act.put,z5,z6,z7,i64_w,i32_w]
       rfl
      refine one_ (i:=8) (N:=some 6) #[t',t',t',t',t',t',t',t',t',f',f'] rfl rfl (one_of HT_.out (by kernel_rfl)) (by decide) (fun K hK=>?_)
      refine box_step ?hg (N:=6) ?hd (cs:= #[.int .i64 0,.slice none 0 0]) (t:=24) ?hr ?_;(case hd=>rfl);(case hg=>rfl);(case hr=>first|(go_simp;done)|(go_simp;rfl))
      intro gb580 hg w27 hbox hb
      have n0_:=Aside0.mk (Kd.R_below (z4 HO571) hb)
      have n1_:=Aside0.mk (Kd.R_below (z4 HO578) hb)
      have n2_:=Aside0.mk (blk_below (g:=gb565) (o:= .cells #[.int .i64 a0_0,.slice A0_1 l0_1.length c0_1] 32 (0,0)) (z3 BK565) hb)
      have n3_:=Aside0.mk (blk_below (g:=gb566) (o:= .cells #[.int .i64 a1_0,.int .i64 a1_1,.int .i64 a1_2] 51 (0,0)) (z3 BK566) hb)
      have n4_:=Aside0.mk (below_step (zb2 HB GE565 GE566) hb)
      have n5_:=Aside0.mk (hbox)
      have n6_:=Aside0.mk ((by rw [hg];exact(below_size (zb2 HB GE565 GE566)):w.heap.size≤gb580))
      have n7_:=Aside0.mk ((by rw [hg];exact(below_size (zb2 HB GE565 GE566)):w.heap.size≤gb580))
      have n8_:=Aside0.mk ((by rw [hg];exact Nat.ne_of_lt (blk_lt (g:=gb565) (o:= .cells #[.int .i64 a0_0,.slice A0_1 l0_1.length c0_1] 32 (0,0)) (z3 BK565)):gb565≠gb580))
      have n9_:=Aside0.mk ((by rw [hg];exact Nat.ne_of_gt (blk_lt (g:=gb565) (o:= .cells #[.int .i64 a0_0,.slice A0_1 l0_1.length c0_1] 32 (0,0)) (z3 BK565)):gb580≠gb565))
      have n10_:=Aside0.mk ((by rw [hg];exact Nat.ne_of_lt (blk_lt (g:=gb566) (o:= .cells #[.int .i64 a1_0,.int .i64 a1_1,.int .i64 a1_2] 51 (0,0)) (z3 BK566)):gb566≠gb580))
      have n11_:=Aside0.mk ((by rw [hg];exact Nat.ne_of_gt (blk_lt (g:=gb566) (o:= .cells #[.int .i64 a1_0,.int .i64 a1_1,.int .i64 a1_2] 51 (0,0)) (z3 BK566)):gb580≠gb566))
      clear HO571
      clear HO578
      clear BK565
      clear BK566
      clear HB
      have HO571:=n0_
      have HO578:=n1_
      have BK565:=n2_
      have BK566:=n3_
      have HB:=n4_
      have BK580:=n5_
      have GW580:=n6_
      have GE580:=n7_
      have NB565_580:=n8_
      have NB580_565:=n9_
      have NB566_580:=n10_
      have NB580_566:=n11_
      clear n0_ n1_ n2_ n3_ n4_ n5_ n6_ n7_ n8_ n9_ n10_ n11_
      clear hb hbox hg
      refine hK.out _ _ ⟨(blk_cell BK565.out 0).trans rfl,(blk_cell BK565.out 1).trans rfl,(blk_cell BK566.out 0).trans rfl,(blk_cell BK566.out 1).trans rfl,(blk_cell BK566.out 2).trans rfl⟩ (fun hHeld=>?_)
      clear hK K
      refine norm_ (a':=?_) ?_ ?_
      rotate_left
      ·show Act.put _ (some 6) _=_
       simp only [Act.put,z5,z6,z7,i64_w,i32_w]
       rfl
      exact norm_ (by simp only [putAll,Act.put,z5,z6,z7]) (hCont (.slice Ao25 t569.length co25,v577,gb580) _ ⟨hHeld,(by(with_reducible repeat(first|apply Kd.R_alloc|apply Kd.R_drewN|apply Kd.R_drew));exact Kd.R_mono HO571.out (fun _ hk=>hk.2)),(by(with_reducible repeat(first|apply Kd.R_alloc|apply Kd.R_drewN|apply Kd.R_drew));exact Kd.R_mono HO578.out (fun _ hk=>hk.2)),(z3 BK565),(z3 BK566),(z3 BK580),GW580.out,GE580.out,NB565_580.out,NB580_565.out,NB566_580.out,NB580_566.out,(zb3 HB GE565 GE566 GE580)⟩)
     ·skip
      refine box_step ?hg (N:=6) ?hd (cs:= #[.int .i64 0,.slice none 0 0]) (t:=24) ?hr ?_;(case hd=>rfl);(case hg=>rfl);(case hr=>first|(go_simp;done)|(go_simp;rfl))
      intro gb580 hg w25 hbox hb
      have n0_:=Aside0.mk (Kd.R_below (z4 HO571) hb)
      have n1_:=Aside0.mk (blk_below (g:=gb565) (o:= .cells #[.int .i64 a0_0,.slice A0_1 l0_1.length c0_1] 32 (0,0)) (z3 BK565) hb)
      have n2_:=Aside0.mk (blk_below (g:=gb566) (o:= .cells #[.int .i64 a1_0,.int .i64 a1_1,.int .i64 a1_2] 51 (0,0)) (z3 BK566) hb)
      have n3_:=Aside0.mk (below_step (zb2 HB GE565 GE566) hb)
      have n4_:=Aside0.mk (hbox)
      have n5_:=Aside0.mk ((by rw [hg];exact(below_size (zb2 HB GE565 GE566)):w.heap.size≤gb580))
      have n6_:=Aside0.mk ((by rw [hg];exact(below_size (zb2 HB GE565 GE566)):w.heap.size≤gb580))
      have n7_:=Aside0.mk ((by rw [hg];exact Nat.ne_of_lt (blk_lt (g:=gb565) (o:= .cells #[.int .i64 a0_0,.slice A0_1 l0_1.length c0_1] 32 (0,0)) (z3 BK565)):gb565≠gb580))
      have n8_:=Aside0.mk ((by rw [hg];exact Nat.ne_of_gt (blk_lt (g:=gb565) (o:= .cells #[.int .i64 a0_0,.slice A0_1 l0_1.length c0_1] 32 (0,0)) (z3 BK565)):gb580≠gb565))
      have n9_:=Aside0.mk ((by rw [hg];exact Nat.ne_of_lt (blk_lt (g:=gb566) (o:= .cells #[.int .i64 a1_0,.int .i64 a1_1,.int .i64 a1_2] 51 (0,0)) (z3 BK566)):gb566≠gb580))
      have n10_:=Aside0.mk ((by rw [hg];exact Nat.ne_of_gt (blk_lt (g:=gb566) (o:= .cells #[.int .i64 a1_0,.int .i64 a1_1,.int .i64 a1_2] 51 (0,0)) (z3 BK566)):gb580≠gb566))
      clear HO571
      clear BK565
      clear BK566
      clear HB
      have HO571:=n0_
      have BK565:=n1_
      have BK566:=n2_
      have HB:=n3_
      have BK580:=n4_
      have GW580:=n5_
      have GE580:=n6_
      have NB565_580:=n7_
      have NB580_565:=n8_
      have NB566_580:=n9_
      have NB580_566:=n10_
      clear n0_ n1_ n2_ n3_ n4_ n5_ n6_ n7_ n8_ n9_ n10_
      clear hb hbox hg
      obtain⟨Ao26,co26,eo26⟩:=Kd.R_slice HO571.out
      (first|subst eo26|(injection eo26 with f1_ f2_ f3_;have f4_:=f1_.symm;have f5_:=f3_.symm;clear f1_ f2_ f3_;subst f4_;subst f5_))
      refine hK.out _ _ ⟨(blk_cell BK565.out 0).trans rfl,(blk_cell BK565.out 1).trans rfl,(blk_cell BK566.out 0).trans rfl,(blk_cell BK566.out 1).trans rfl,(blk_cell BK566.out 2).trans rfl⟩ (fun hHeld=>?_)
      clear hK K
      refine norm_ (a':=?_) ?_ ?_
      rotate_left
      ·show Act.put _ (some 6) _=_
       simp only [Act.put,z5,z6,z7,i64_w,i32_w]
       rfl
      refine one_ (i:=4) (N:=some 26) #[t',t',t',t',t',f',f',f',t',f',f'] rfl rfl (one_of HT_.out (by kernel_rfl)) (by decide) (fun K hK=>?_)
      refine goes_ Try.func35 (by kernel_rfl) rfl #[.agg #[.int .i64 t568,.slice Ao26 t569.length co26],.agg #[.int .i64 t572,.int .i64 t573,.int .i64 t574]] (by rfl) rfl rfl z2 ?_
      with_reducible refine(spec_Learn.calls k t568 _ _ t569 t572 t573 t574 t575 t576 t579 _ ?side1 ?side2 A12.out).mono ?_
      (case side1=>repeat(first|exact(Kd.R_reads' HO571.out).2.2|(with_reducible refine Kd.C_alloc ?_ _)|(with_reducible refine Kd.C_drewN ?_ _)|(with_reducible refine Kd.C_drew ?_)))
      (case side2=>exact(Kd.R_reads' HO571.out).2.1)
      rintro e w27 ⟨v577,rfl,ho0,hb⟩
      refine⟨_,rfl,?_⟩
      have n0_:=Aside0.mk (Kd.R_elder' (z4 HO571) (Kd.R_base ho0) hb)
      have n1_:=Aside0.mk (Kd.R_lower (Kd.R_new' ho0 (Kd.R_lt (z4 HO571))) (below_size (zb3 HB GE565 GE566 GE580)))
      have n2_:=Aside0.mk (blk_below (g:=gb565) (o:= .cells #[.int .i64 a0_0,.slice A0_1 l0_1.length c0_1] 32 (0,0)) (z3 BK565) hb)
      have n3_:=Aside0.mk (blk_below (g:=gb566) (o:= .cells #[.int .i64 a1_0,.int .i64 a1_1,.int .i64 a1_2] 51 (0,0)) (z3 BK566) hb)
      have n4_:=Aside0.mk (blk_below (g:=gb580) (o:= .cells #[.int .i64 0,.slice none 0 0] 24 (0,0)) (z3 BK580) hb)
      have n5_:=Aside0.mk (below_step (zb3 HB GE565 GE566 GE580) hb)
      clear HO571
      clear BK565
      clear BK566
      clear BK580
      clear HB
      have HO571:=n0_
      have HO578:=n1_
      have BK565:=n2_
      have BK566:=n3_
      have BK580:=n4_
      have HB:=n5_
      clear n0_ n1_ n2_ n3_ n4_ n5_
      (try clear hb)
      (try clear hb2)
      (try clear hk)
      (try clear hi)
      (try clear ho0)
      refine hK.out _ _ ⟨(blk_cell BK565.out 0).trans rfl,(blk_cell BK565.out 1).trans rfl,(blk_cell BK566.out 0).trans rfl,(blk_cell BK566.out 1).trans rfl,(blk_cell BK566.out 2).trans rfl⟩ (fun hHeld=>?_)
      clear hK K
      refine norm_ (a':=?_) ?_ ?_
      rotate_left
      ·show Act.put _ (some 26) _=_
       simp only [Act.put,z5,z6,z7,i64_w,i32_w]
       rfl
      refine pure_ (i:=5) (N:=some 21) (v:=?_) (a':=?_) #[t',t',t',t',t',t',f',f',t',f',f'] rfl rfl (any_of HT_.out (by kernel_rfl)) (fun _ _ _ h=>h) (Or.inl ⟨by rfl,?_⟩) ?_ ?_
      rotate_left
      ·intro w'
       go_simp
       with_reducible rfl
      rotate_left
      ·simp only [Act.put,z5,z6,z7,i64_w,i32_w]
       rfl
      refine pure_ (i:=6) (N:=some 27) (v:=?_) (a':=?_) #[t',t',t',t',t',t',t',f',t',f',f'] rfl rfl (any_of HT_.out (by kernel_rfl)) (fun _ _ _ h=>h) (Or.inl ⟨by rfl,?_⟩) ?_ ?_
      rotate_left
      ·intro w'
       go_simp
       with_reducible rfl
      rotate_left
      ·simp only [Act.put,z5,z6,z7,i64_w,i32_w]
       rfl
      refine pure_ (i:=7) (N:=some 28) (v:=?_) (a':=?_) #[t',t',t',t',t',t',t',t',t',f',f'] rfl rfl (any_of HT_.out (by kernel_rfl)) (fun _ _ _ h=>h) (Or.inl ⟨by rfl,?_⟩) ?_ ?_
      rotate_left
      ·intro w'
       go_simp
       with_reducible rfl
      rotate_left
      ·simp only [Act.put,z5,z6,z7,i64_w,i32_w]
       rfl
      exact norm_ (by simp only [putAll,Act.put,z5,z6,z7]) (hCont (.slice Ao26 t569.length co26,v577,gb580) _ ⟨hHeld,(by(with_reducible repeat(first|apply Kd.R_alloc|apply Kd.R_drewN|apply Kd.R_drew));exact Kd.R_mono HO571.out (fun _ hk=>hk.2)),(by(with_reducible repeat(first|apply Kd.R_alloc|apply Kd.R_drewN|apply Kd.R_drew));exact Kd.R_mono HO578.out (fun _ hk=>hk.2)),(z3 BK565),(z3 BK566),(z3 BK580),GW580.out,GE580.out,NB565_580.out,NB580_565.out,NB566_580.out,NB580_566.out,(zb3 HB GE565 GE566 GE580)⟩)
    ·skip
     refine box_step ?hg (N:=6) ?hd (cs:= #[.int .i64 0,.slice none 0 0]) (t:=24) ?hr ?_;(case hd=>rfl);(case hg=>rfl);(case hr=>first|(go_simp;done)|(go_simp;rfl))
     intro gb580 hg w24 hbox hb
     have n0_:=Aside0.mk (Kd.R_below (z4 HO571) hb)
     have n1_:=Aside0.mk (blk_below (g:=gb565) (o:= .cells #[.int .i64 a0_0,.slice A0_1 l0_1.length c0_1] 32 (0,0)) (z3 BK565) hb)
     have n2_:=Aside0.mk (blk_below (g:=gb566) (o:= .cells #[.int .i64 a1_0,.int .i64 a1_1,.int .i64 a1_2] 51 (0,0)) (z3 BK566) hb)
     have n3_:=Aside0.mk (below_step (zb2 HB GE565 GE566) hb)
     have n4_:=Aside0.mk (hbox)
     have n5_:=Aside0.mk ((by rw [hg];exact(below_size (zb2 HB GE565 GE566)):w.heap.size≤gb580))
     have n6_:=Aside0.mk ((by rw [hg];exact(below_size (zb2 HB GE565 GE566)):w.heap.size≤gb580))
     have n7_:=Aside0.mk ((by rw [hg];exact Nat.ne_of_lt (blk_lt (g:=gb565) (o:= .cells #[.int .i64 a0_0,.slice A0_1 l0_1.length c0_1] 32 (0,0)) (z3 BK565)):gb565≠gb580))
     have n8_:=Aside0.mk ((by rw [hg];exact Nat.ne_of_gt (blk_lt (g:=gb565) (o:= .cells #[.int .i64 a0_0,.slice A0_1 l0_1.length c0_1] 32 (0,0)) (z3 BK565)):gb580≠gb565))
     have n9_:=Aside0.mk ((by rw [hg];exact Nat.ne_of_lt (blk_lt (g:=gb566) (o:= .cells #[.int .i64 a1_0,.int .i64 a1_1,.int .i64 a1_2] 51 (0,0)) (z3 BK566)):gb566≠gb580))
     have n10_:=Aside0.mk ((by rw [hg];exact Nat.ne_of_gt (blk_lt (g:=gb566) (o:= .cells #[.int .i64 a1_0,.int .i64 a1_1,.int .i64 a1_2] 51 (0,0)) (z3 BK566)):gb580≠gb566))
     clear HO571
     clear BK565
     clear BK566
     clear HB
     have HO571:=n0_
     have BK565:=n1_
     have BK566:=n2_
     have HB:=n3_
     have BK580:=n4_
     have GW580:=n5_
     have GE580:=n6_
     have NB565_580:=n7_
     have NB580_565:=n8_
     have NB566_580:=n9_
     have NB580_566:=n10_
     clear n0_ n1_ n2_ n3_ n4_ n5_ n6_ n7_ n8_ n9_ n10_
     clear hb hbox hg
     refine hK.out _ _ ⟨(blk_cell BK565.out 0).trans rfl,(blk_cell BK565.out 1).trans rfl,(blk_cell BK566.out 0).trans rfl,(blk_cell BK566.out 1).trans rfl,(blk_cell BK566.out 2).trans rfl⟩ (fun hHeld=>?_)
     clear hK K
     refine norm_ (a':=?_) ?_ ?_
     rotate_left
     ·show Act.put _ (some 6) _=_
      simp only [Act.put,z5,z6,z7,i64_w,i32_w]
      rfl
     refine one_ (i:=3) (N:=some 25) #[t',t',t',t',f',f',f',f',t',f',f'] rfl rfl (one_of HT_.out (by kernel_rfl)) (by decide) (fun K hK=>?_)
     refine goes_ Try.func36 (by kernel_rfl) rfl #[.agg #[.int .i64 a1_0,.int .i64 a1_1,.int .i64 a1_2]] (by rfl) rfl rfl z2 ?_
     with_reducible refine(laws_toSeen.calls a1_0 a1_1 a1_2 t572 t573 t574 _ A11.out).mono ?_
     rintro e w25 ⟨rfl,hb⟩
     refine⟨_,rfl,?_⟩
     have n0_:=Aside0.mk (Kd.R_below (z4 HO571) hb)
     have n1_:=Aside0.mk (blk_below (g:=gb565) (o:= .cells #[.int .i64 a0_0,.slice A0_1 l0_1.length c0_1] 32 (0,0)) (z3 BK565) hb)
     have n2_:=Aside0.mk (blk_below (g:=gb566) (o:= .cells #[.int .i64 a1_0,.int .i64 a1_1,.int .i64 a1_2] 51 (0,0)) (z3 BK566) hb)
     have n3_:=Aside0.mk (blk_below (g:=gb580) (o:= .cells #[.int .i64 0,.slice none 0 0] 24 (0,0)) (z3 BK580) hb)
     have n4_:=Aside0.mk (below_step (zb3 HB GE565 GE566 GE580) hb)
     clear HO571
     clear BK565
     clear BK566
     clear BK580
     clear HB
     have HO571:=n0_
     have BK565:=n1_
     have BK566:=n2_
     have BK580:=n3_
     have HB:=n4_
     clear n0_ n1_ n2_ n3_ n4_
     (try clear hb)
     (try clear hb2)
     (try clear hk)
     (try clear hi)
     obtain⟨Ao26,co26,eo26⟩:=Kd.R_slice HO571.out
     (first|subst eo26|(injection eo26 with f1_ f2_ f3_;have f4_:=f1_.symm;have f5_:=f3_.symm;clear f1_ f2_ f3_;subst f4_;subst f5_))
     refine hK.out _ _ ⟨(blk_cell BK565.out 0).trans rfl,(blk_cell BK565.out 1).trans rfl,(blk_cell BK566.out 0).trans rfl,(blk_cell BK566.out 1).trans rfl,(blk_cell BK566.out 2).trans rfl⟩ (fun hHeld=>?_)
     clear hK K
     refine norm_ (a':=?_) ?_ ?_
     rotate_left
     ·show Act.put _ (some 25) _=_
      simp only [Act.put,z5,z6,z7,i64_w,i32_w]
      rfl
     refine one_ (i:=4) (N:=some 26) #[t',t',t',t',t',f',f',f',t',f',f'] rfl rfl (one_of HT_.out (by kernel_rfl)) (by decide) (fun K hK=>?_)
     refine goes_ Try.func35 (by kernel_rfl) rfl #[.agg #[.int .i64 t568,.slice Ao26 t569.length co26],.agg #[.int .i64 t572,.int .i64 t573,.int .i64 t574]] (by rfl) rfl rfl z2 ?_
     with_reducible refine(spec_Learn.calls k t568 _ _ t569 t572 t573 t574 t575 t576 t579 _ ?side1 ?side2 A12.out).mono ?_
     (case side1=>repeat(first|exact(Kd.R_reads' HO571.out).2.2|(with_reducible refine Kd.C_alloc ?_ _)|(with_reducible refine Kd.C_drewN ?_ _)|(with_reducible refine Kd.C_drew ?_)))
     (case side2=>exact(Kd.R_reads' HO571.out).2.1)
     rintro e w27 ⟨v577,rfl,ho0,hb⟩
     refine⟨_,rfl,?_⟩
     have n0_:=Aside0.mk (Kd.R_elder' (z4 HO571) (Kd.R_base ho0) hb)
     have n1_:=Aside0.mk (Kd.R_lower (Kd.R_new' ho0 (Kd.R_lt (z4 HO571))) (below_size (zb3 HB GE565 GE566 GE580)))
     have n2_:=Aside0.mk (blk_below (g:=gb565) (o:= .cells #[.int .i64 a0_0,.slice A0_1 l0_1.length c0_1] 32 (0,0)) (z3 BK565) hb)
     have n3_:=Aside0.mk (blk_below (g:=gb566) (o:= .cells #[.int .i64 a1_0,.int .i64 a1_1,.int .i64 a1_2] 51 (0,0)) (z3 BK566) hb)
     have n4_:=Aside0.mk (blk_below (g:=gb580) (o:= .cells #[.int .i64 0,.slice none 0 0] 24 (0,0)) (z3 BK580) hb)
     have n5_:=Aside0.mk (below_step (zb3 HB GE565 GE566 GE580) hb)
     clear HO571
     clear BK565
     clear BK566
     clear BK580
     clear HB
     have HO571:=n0_
     have HO578:=n1_
     have BK565:=n2_
     have BK566:=n3_
     have BK580:=n4_
     have HB:=n5_
     clear n0_ n1_ n2_ n3_ n4_ n5_
     (try clear hb)
     (try clear hb2)
     (try clear hk)
     (try clear hi)
     (try clear ho0)
     refine hK.out _ _ ⟨(blk_cell BK565.out 0).trans rfl,(blk_cell BK565.out 1).trans rfl,(blk_cell BK566.out 0).trans rfl,(blk_cell BK566.out 1).trans rfl,(blk_cell BK566.out 2).trans rfl⟩ (fun hHeld=>?_)
     clear hK K
     refine norm_ (a':=?_) ?_ ?_
     rotate_left
     ·show Act.put _ (some 26) _=_
      simp only [Act.put,z5,z6,z7,i64_w,i32_w]
      rfl
     refine pure_ (i:=5) (N:=some 21) (v:=?_) (a':=?_) #[t',t',t',t',t',t',f',f',t',f',f'] rfl rfl (any_of HT_.out (by kernel_rfl)) (fun _ _ _ h=>h) (Or.inl ⟨by rfl,?_⟩) ?_ ?_
     rotate_left
     ·intro w'
      go_simp
      with_reducible rfl
     rotate_left
     ·simp only [Act.put,z5,z6,z7,i64_w,i32_w]
      rfl
     refine pure_ (i:=6) (N:=some 27) (v:=?_) (a':=?_) #[t',t',t',t',t',t',t',f',t',f',f'] rfl rfl (any_of HT_.out (by kernel_rfl)) (fun _ _ _ h=>h) (Or.inl ⟨by rfl,?_⟩) ?_ ?_
     rotate_left
     ·intro w'
      go_simp
      with_reducible rfl
     rotate_left
     ·simp only [Act.put,z5,z6,z7,i64_w,i32_w]
      rfl
     refine pure_ (i:=7) (N:=some 28) (v:=?_) (a':=?_) #[t',t',t',t',t',t',t',t',t',f',f'] rfl rfl (any_of HT_.out (by kernel_rfl)) (fun _ _ _ h=>h) (Or.inl ⟨by rfl,?_⟩) ?_ ?_
     rotate_left
     ·intro w'
      go_simp
      with_reducible rfl
     rotate_left
     ·simp only [Act.put,z5,z6,z7,i64_w,i32_w]
      rfl
     exact norm_ (by simp only [putAll,Act.put,z5,z6,z7]) (hCont (.slice Ao26 t569.length co26,v577,gb580) _ ⟨hHeld,(by(with_reducible repeat(first|apply Kd.R_alloc|apply Kd.R_drewN|apply Kd.R_drew));exact Kd.R_mono HO571.out (fun _ hk=>hk.2)),(by(with_reducible repeat(first|apply Kd.R_alloc|apply Kd.R_drewN|apply Kd.R_drew));exact Kd.R_mono HO578.out (fun _ hk=>hk.2)),(z3 BK565),(z3 BK566),(z3 BK580),GW580.out,GE580.out,NB565_580.out,NB580_565.out,NB566_580.out,NB580_566.out,(zb3 HB GE565 GE566 GE580)⟩)
   ·skip
    refine box_step ?hg (N:=6) ?hd (cs:= #[.int .i64 0,.slice none 0 0]) (t:=24) ?hr ?_;(case hd=>rfl);(case hg=>rfl);(case hr=>first|(go_simp;done)|(go_simp;rfl))
    intro gb580 hg w23 hbox hb
    have n0_:=Aside0.mk (blk_below (g:=gb565) (o:= .cells #[.int .i64 a0_0,.slice A0_1 l0_1.length c0_1] 32 (0,0)) (z3 BK565) hb)
    have n1_:=Aside0.mk (blk_below (g:=gb566) (o:= .cells #[.int .i64 a1_0,.int .i64 a1_1,.int .i64 a1_2] 51 (0,0)) (z3 BK566) hb)
    have n2_:=Aside0.mk (below_step (zb2 HB GE565 GE566) hb)
    have n3_:=Aside0.mk (hbox)
    have n4_:=Aside0.mk ((by rw [hg];exact(below_size (zb2 HB GE565 GE566)):w.heap.size≤gb580))
    have n5_:=Aside0.mk ((by rw [hg];exact(below_size (zb2 HB GE565 GE566)):w.heap.size≤gb580))
    have n6_:=Aside0.mk ((by rw [hg];exact Nat.ne_of_lt (blk_lt (g:=gb565) (o:= .cells #[.int .i64 a0_0,.slice A0_1 l0_1.length c0_1] 32 (0,0)) (z3 BK565)):gb565≠gb580))
    have n7_:=Aside0.mk ((by rw [hg];exact Nat.ne_of_gt (blk_lt (g:=gb565) (o:= .cells #[.int .i64 a0_0,.slice A0_1 l0_1.length c0_1] 32 (0,0)) (z3 BK565)):gb580≠gb565))
    have n8_:=Aside0.mk ((by rw [hg];exact Nat.ne_of_lt (blk_lt (g:=gb566) (o:= .cells #[.int .i64 a1_0,.int .i64 a1_1,.int .i64 a1_2] 51 (0,0)) (z3 BK566)):gb566≠gb580))
    have n9_:=Aside0.mk ((by rw [hg];exact Nat.ne_of_gt (blk_lt (g:=gb566) (o:= .cells #[.int .i64 a1_0,.int .i64 a1_1,.int .i64 a1_2] 51 (0,0)) (z3 BK566)):gb580≠gb566))
    clear BK565
    clear BK566
    clear HB
    have BK565:=n0_
    have BK566:=n1_
    have HB:=n2_
    have BK580:=n3_
    have GW580:=n4_
    have GE580:=n5_
    have NB565_580:=n6_
    have NB580_565:=n7_
    have NB566_580:=n8_
    have NB580_566:=n9_
    clear n0_ n1_ n2_ n3_ n4_ n5_ n6_ n7_ n8_ n9_
    clear hb hbox hg
    refine hK.out _ _ ⟨(blk_cell BK565.out 0).trans rfl,(blk_cell BK565.out 1).trans rfl,(blk_cell BK566.out 0).trans rfl,(blk_cell BK566.out 1).trans rfl,(blk_cell BK566.out 2).trans rfl⟩ (fun hHeld=>?_)
    clear hK K
    refine norm_ (a':=?_) ?_ ?_
    rotate_left
    ·show Act.put _ (some 6) _=_
     simp only [Act.put,z5,z6,z7,i64_w,i32_w]
     rfl
    refine one_ (i:=1) (N:=some 23) #[t',t',t',f',f',f',f',f',t',f',f'] rfl rfl (one_of HT_.out (by kernel_rfl)) (by decide) (fun K hK=>?_)
    refine goes_ Try.func19 (by kernel_rfl) rfl #[.agg #[.int .i64 a0_0,.slice A0_1 l0_1.length c0_1]] (by rfl) rfl rfl z2 ?_
    with_reducible refine(laws_toTable.calls k a0_0 _ _ l0_1 t568 t569 _ ?side1 ?side2 A10.out).mono ?_
    (case side1=>repeat(first|exact(Kd.C_below HR0_1.out HB.out)|(with_reducible refine Kd.C_alloc ?_ _)|(with_reducible refine Kd.C_drewN ?_ _)|(with_reducible refine Kd.C_drew ?_)))
    (case side2=>exact HC0_1.out)
    rintro e w24 ⟨v570,rfl,ho0,hb⟩
    refine⟨_,rfl,?_⟩
    have n0_:=Aside0.mk (Kd.R_lower ho0 (below_size (zb3 HB GE565 GE566 GE580)))
    have n1_:=Aside0.mk (blk_below (g:=gb565) (o:= .cells #[.int .i64 a0_0,.slice A0_1 l0_1.length c0_1] 32 (0,0)) (z3 BK565) hb)
    have n2_:=Aside0.mk (blk_below (g:=gb566) (o:= .cells #[.int .i64 a1_0,.int .i64 a1_1,.int .i64 a1_2] 51 (0,0)) (z3 BK566) hb)
    have n3_:=Aside0.mk (blk_below (g:=gb580) (o:= .cells #[.int .i64 0,.slice none 0 0] 24 (0,0)) (z3 BK580) hb)
    have n4_:=Aside0.mk (below_step (zb3 HB GE565 GE566 GE580) hb)
    clear BK565
    clear BK566
    clear BK580
    clear HB
    have HO571:=n0_
    have BK565:=n1_
    have BK566:=n2_
    have BK580:=n3_
    have HB:=n4_
    clear n0_ n1_ n2_ n3_ n4_
    (try clear hb)
    (try clear hb2)
    (try clear hk)
    (try clear hi)
    (try clear ho0)
    refine hK.out _ _ ⟨(blk_cell BK565.out 0).trans rfl,(blk_cell BK565.out 1).trans rfl,(blk_cell BK566.out 0).trans rfl,(blk_cell BK566.out 1).trans rfl,(blk_cell BK566.out 2).trans rfl⟩ (fun hHeld=>?_)
    clear hK K
    refine norm_ (a':=?_) ?_ ?_
    rotate_left
    ·show Act.put _ (some 23) _=_
     simp only [Act.put,z5,z6,z7,i64_w,i32_w]
     rfl
    refine one_ (i:=3) (N:=some 25) #[t',t',t',t',f',f',f',f',t',f',f'] rfl rfl (one_of HT_.out (by kernel_rfl)) (by decide) (fun K hK=>?_)
    refine goes_ Try.func36 (by kernel_rfl) rfl #[.agg #[.int .i64 a1_0,.int .i64 a1_1,.int .i64 a1_2]] (by rfl) rfl rfl z2 ?_
    with_reducible refine(laws_toSeen.calls a1_0 a1_1 a1_2 t572 t573 t574 _ A11.out).mono ?_
    rintro e w25 ⟨rfl,hb⟩
    refine⟨_,rfl,?_⟩
    have n0_:=Aside0.mk (Kd.R_below (z4 HO571) hb)
    have n1_:=Aside0.mk (blk_below (g:=gb565) (o:= .cells #[.int .i64 a0_0,.slice A0_1 l0_1.length c0_1] 32 (0,0)) (z3 BK565) hb)
    have n2_:=Aside0.mk (blk_below (g:=gb566) (o:= .cells #[.int .i64 a1_0,.int .i64 a1_1,.int .i64 a1_2] 51 (0,0)) (z3 BK566) hb)
    have n3_:=Aside0.mk (blk_below (g:=gb580) (o:= .cells #[.int .i64 0,.slice none 0 0] 24 (0,0)) (z3 BK580) hb)
    have n4_:=Aside0.mk (below_step (zb3 HB GE565 GE566 GE580) hb)
    clear HO571
    clear BK565
    clear BK566
    clear BK580
    clear HB
    have HO571:=n0_
    have BK565:=n1_
    have BK566:=n2_
    have BK580:=n3_
    have HB:=n4_
    clear n0_ n1_ n2_ n3_ n4_
    (try clear hb)
    (try clear hb2)
    (try clear hk)
    (try clear hi)
    obtain⟨Ao26,co26,eo26⟩:=Kd.R_slice HO571.out
    (first|subst eo26|(injection eo26 with f1_ f2_ f3_;have f4_:=f1_.symm;have f5_:=f3_.symm;clear f1_ f2_ f3_;subst f4_;subst f5_))
    refine hK.out _ _ ⟨(blk_cell BK565.out 0).trans rfl,(blk_cell BK565.out 1).trans rfl,(blk_cell BK566.out 0).trans rfl,(blk_cell BK566.out 1).trans rfl,(blk_cell BK566.out 2).trans rfl⟩ (fun hHeld=>?_)
    clear hK K
    refine norm_ (a':=?_) ?_ ?_
    rotate_left
    ·show Act.put _ (some 25) _=_
     simp only [Act.put,z5,z6,z7,i64_w,i32_w]
     rfl
    refine one_ (i:=4) (N:=some 26) #[t',t',t',t',t',f',f',f',t',f',f'] rfl rfl (one_of HT_.out (by kernel_rfl)) (by decide) (fun K hK=>?_)
    refine goes_ Try.func35 (by kernel_rfl) rfl #[.agg #[.int .i64 t568,.slice Ao26 t569.length co26],.agg #[.int .i64 t572,.int .i64 t573,.int .i64 t574]] (by rfl) rfl rfl z2 ?_
    with_reducible refine(spec_Learn.calls k t568 _ _ t569 t572 t573 t574 t575 t576 t579 _ ?side1 ?side2 A12.out).mono ?_
    (case side1=>repeat(first|exact(Kd.R_reads' HO571.out).2.2|(with_reducible refine Kd.C_alloc ?_ _)|(with_reducible refine Kd.C_drewN ?_ _)|(with_reducible refine Kd.C_drew ?_)))
    (case side2=>exact(Kd.R_reads' HO571.out).2.1)
    rintro e w27 ⟨v577,rfl,ho0,hb⟩
    refine⟨_,rfl,?_⟩
    have n0_:=Aside0.mk (Kd.R_elder' (z4 HO571) (Kd.R_base ho0) hb)
    have n1_:=Aside0.mk (Kd.R_lower (Kd.R_new' ho0 (Kd.R_lt (z4 HO571))) (below_size (zb3 HB GE565 GE566 GE580)))
    have n2_:=Aside0.mk (blk_below (g:=gb565) (o:= .cells #[.int .i64 a0_0,.slice A0_1 l0_1.length c0_1] 32 (0,0)) (z3 BK565) hb)
    have n3_:=Aside0.mk (blk_below (g:=gb566) (o:= .cells #[.int .i64 a1_0,.int .i64 a1_1,.int .i64 a1_2] 51 (0,0)) (z3 BK566) hb)
    have n4_:=Aside0.mk (blk_below (g:=gb580) (o:= .cells #[.int .i64 0,.slice none 0 0] 24 (0,0)) (z3 BK580) hb)
    have n5_:=Aside0.mk (below_step (zb3 HB GE565 GE566 GE580) hb)
    clear HO571
    clear BK565
    clear BK566
    clear BK580
    clear HB
    have HO571:=n0_
    have HO578:=n1_
    have BK565:=n2_
    have BK566:=n3_
    have BK580:=n4_
    have HB:=n5_
    clear n0_ n1_ n2_ n3_ n4_ n5_
    (try clear hb)
    (try clear hb2)
    (try clear hk)
    (try clear hi)
    (try clear ho0)
    refine hK.out _ _ ⟨(blk_cell BK565.out 0).trans rfl,(blk_cell BK565.out 1).trans rfl,(blk_cell BK566.out 0).trans rfl,(blk_cell BK566.out 1).trans rfl,(blk_cell BK566.out 2).trans rfl⟩ (fun hHeld=>?_)
    clear hK K
    refine norm_ (a':=?_) ?_ ?_
    rotate_left
    ·show Act.put _ (some 26) _=_
     simp only [Act.put,z5,z6,z7,i64_w,i32_w]
     rfl
    refine pure_ (i:=5) (N:=some 21) (v:=?_) (a':=?_) #[t',t',t',t',t',t',f',f',t',f',f'] rfl rfl (any_of HT_.out (by kernel_rfl)) (fun _ _ _ h=>h) (Or.inl ⟨by rfl,?_⟩) ?_ ?_
    rotate_left
    ·intro w'
     go_simp
     with_reducible rfl
    rotate_left
    ·simp only [Act.put,z5,z6,z7,i64_w,i32_w]
     rfl
    refine pure_ (i:=6) (N:=some 27) (v:=?_) (a':=?_) #[t',t',t',t',t',t',t',f',t',f',f'] rfl rfl (any_of HT_.out (by kernel_rfl)) (fun _ _ _ h=>h) (Or.inl ⟨by rfl,?_⟩) ?_ ?_
    rotate_left
    ·intro w'
     go_simp
     with_reducible rfl
    rotate_left
    ·simp only [Act.put,z5,z6,z7,i64_w,i32_w]
     rfl
    refine pure_ (i:=7) (N:=some 28) (v:=?_) (a':=?_) #[t',t',t',t',t',t',t',t',t',f',f'] rfl rfl (any_of HT_.out (by kernel_rfl)) (fun _ _ _ h=>h) (Or.inl ⟨by rfl,?_⟩) ?_ ?_
    rotate_left
    ·intro w'
     go_simp
     with_reducible rfl
    rotate_left
    ·simp only [Act.put,z5,z6,z7,i64_w,i32_w]
     rfl
    exact norm_ (by simp only [putAll,Act.put,z5,z6,z7]) (hCont (.slice Ao26 t569.length co26,v577,gb580) _ ⟨hHeld,(by(with_reducible repeat(first|apply Kd.R_alloc|apply Kd.R_drewN|apply Kd.R_drew));exact Kd.R_mono HO571.out (fun _ hk=>hk.2)),(by(with_reducible repeat(first|apply Kd.R_alloc|apply Kd.R_drewN|apply Kd.R_drew));exact Kd.R_mono HO578.out (fun _ hk=>hk.2)),(z3 BK565),(z3 BK566),(z3 BK580),GW580.out,GE580.out,NB565_580.out,NB580_565.out,NB566_580.out,NB580_566.out,(zb3 HB GE565 GE566 GE580)⟩)
  rintro⟨v570,v577,gb580⟩ w28 ⟨hS_,h0_,h1_,h2_,h3_,h4_,h5_,h6_,h7_,h8_,h9_,h10_,h11_⟩
  have n0_:Aside0 (Kd.R k53 53 w28 w.heap.size (fun k_=>some k_≠ (v577:Value).ownBlock) v570 t569):=⟨h0_⟩
  have n1_:Aside0 (Kd.R k53 53 w28 w.heap.size (fun k_=>some k_≠ (v570:Value).ownBlock) v577 t576):=⟨h1_⟩
  have n2_:Aside0 (w28.heap[gb565]?=some (.cells #[.int .i64 a0_0,.slice A0_1 l0_1.length c0_1] 32 (0,0))):=⟨h2_⟩
  have n3_:Aside0 (w28.heap[gb566]?=some (.cells #[.int .i64 a1_0,.int .i64 a1_1,.int .i64 a1_2] 51 (0,0))):=⟨h3_⟩
  have n4_:Aside0 (w28.heap[gb580]?=some (.cells #[.int .i64 0,.slice none 0 0] 24 (0,0))):=⟨h4_⟩
  have n5_:Aside0 (w.heap.size≤gb580):=⟨h5_⟩
  have n6_:Aside0 (w.heap.size≤gb580):=⟨h6_⟩
  have n7_:Aside0 (gb565≠gb580):=⟨h7_⟩
  have n8_:Aside0 (gb580≠gb565):=⟨h8_⟩
  have n9_:Aside0 (gb566≠gb580):=⟨h9_⟩
  have n10_:Aside0 (gb580≠gb566):=⟨h10_⟩
  have n11_:Aside0 (Below w.heap.size w w28):=⟨h11_⟩
  clear BK565
  clear BK566
  clear HB
  clear h0_ h1_ h2_ h3_ h4_ h5_ h6_ h7_ h8_ h9_ h10_ h11_
  have HO571:=n0_
  have HO578:=n1_
  have BK565:=n2_
  have BK566:=n3_
  have BK580:=n4_
  have GW580:=n5_
  have GE580:=n6_
  have NB565_580:=n7_
  have NB580_565:=n8_
  have NB566_580:=n9_
  have NB580_566:=n10_
  have HB:=n11_
  clear n0_ n1_ n2_ n3_ n4_ n5_ n6_ n7_ n8_ n9_ n10_ n11_
  have hHeld:w28.cell? ⟨gb565,0,none⟩=some (.int .i64 a0_0)∧w28.cell? ⟨gb565,1,none⟩=some (.slice A0_1 l0_1.length c0_1)∧w28.cell? ⟨gb566,0,none⟩=some (.int .i64 a1_0)∧w28.cell? ⟨gb566,1,none⟩=some (.int .i64 a1_1)∧w28.cell? ⟨gb566,2,none⟩=some (.int .i64 a1_2):=hS_
  obtain⟨Ao30,co30,eo30⟩:=Kd.R_slice HO578.out
  (first|subst eo30|(injection eo30 with f1_ f2_ f3_;have f4_:=f1_.symm;have f5_:=f3_.symm;clear f1_ f2_ f3_;subst f4_;subst f5_))
  refine norm_ (a':=?_) ?_ ?_
  rotate_left
  ·simp only [putAll,Act.put,z5,z6,z7]
   rfl
  refine one_ (i:=9) (N:=none) #[t',t',t',t',t',t',t',t',t',t',f'] rfl rfl (one_of HT_.out (by kernel_rfl)) (by decide) (fun K hK=>?_)
  have hs29:w28.cell? ⟨gb580,0,none⟩=some (.int .i64 0):=(blk_cell BK580.out 0).trans rfl
  have hfs29:=blk_frozen BK580.out 0
  have hns29_0:=NB565_580.out
  have hns29_1:=NB566_580.out
  have hms29_0:=NB580_565.out
  have hms29_1:=NB580_566.out
  have hs31:w28.cell? ⟨gb580,1,none⟩=some (.slice none 0 0):=(blk_cell BK580.out 1).trans rfl
  have hfs31:=blk_frozen BK580.out 1
  have hns31_0:=NB565_580.out
  have hns31_1:=NB566_580.out
  have hms31_0:=NB580_565.out
  have hms31_1:=NB580_566.out
  refine skip_ (w1:=?_) (by rfl) rfl ?_ ?_
  rotate_left
  ·go_simp
   rfl
  refine hK.out _ _ ⟨((cell_far (p:=⟨gb580,_,none⟩) NB565_580.out _).trans (((cell_far (p:=⟨gb580,_,none⟩) NB565_580.out _).trans (hHeld.1)))),((cell_far (p:=⟨gb580,_,none⟩) NB565_580.out _).trans (((cell_far (p:=⟨gb580,_,none⟩) NB565_580.out _).trans (hHeld.2.1)))),((cell_far (p:=⟨gb580,_,none⟩) NB566_580.out _).trans (((cell_far (p:=⟨gb580,_,none⟩) NB566_580.out _).trans (hHeld.2.2.1)))),((cell_far (p:=⟨gb580,_,none⟩) NB566_580.out _).trans (((cell_far (p:=⟨gb580,_,none⟩) NB566_580.out _).trans (hHeld.2.2.2.1)))),((cell_far (p:=⟨gb580,_,none⟩) NB566_580.out _).trans (((cell_far (p:=⟨gb580,_,none⟩) NB566_580.out _).trans (hHeld.2.2.2.2))))⟩ (fun hHeld=>?_)
  clear hK K
  refine pure_ (i:=10) (N:=some 7) (v:=?_) (a':=?_) #[t',t',t',t',t',t',t',t',t',t',t'] rfl rfl (any_of HT_.out (by kernel_rfl)) (fun _ _ _ h=>h) (Or.inl ⟨by rfl,?_⟩) ?_ ?_
  rotate_left
  ·intro w'
   go_simp
   with_reducible rfl
  rotate_left
  ·simp only [Act.put,z5,z6,z7,i64_w,i32_w]
   rfl
  refine done_ (done_of HT_.out (by kernel_rfl)) ?_
  have hnb32:=NB565_580.out
  have hnc32:=NB580_565.out
  have hcz33_0:w28.cell? ⟨gb565,0,none⟩=some (.int .i64 a0_0):=(blk_cell BK565.out 0).trans rfl
  have hcz33_1:w28.cell? ⟨gb565,1,none⟩=some (.slice A0_1 l0_1.length c0_1):=(blk_cell BK565.out 1).trans rfl
  have hfz33_0:=blk_frozen BK565.out 0
  have hfz33_1:=blk_frozen BK565.out 1
  try go_wp2_with (first|((with_reducible refine gate_callee (f:=19) rfl ?_);refine goesL_ (some 30) rfl rfl Try.func19 (by kernel_rfl) rfl #[.agg #[.int .i64 a0_0,.slice A0_1 l0_1.length c0_1]] rfl z2 ?_;(with_reducible refine(laws_toTable.calls k a0_0 _ _ l0_1 t581 t582 _ ?side1 ?side2 A13.out).mono ?_);(case side1=>exact Kd.C_below HR0_1.out (zb3 HB GE565 GE566 GE580));(case side2=>exact HC0_1.out);rintro e w34 ⟨v583,rfl,ho0,hb⟩;refine⟨_,rfl,?_⟩;have n0_:=Aside0.mk (Kd.R_elder' (by(with_reducible repeat(first|apply Kd.R_alloc|apply Kd.R_drewN|apply Kd.R_drew));exact(Kd.R_mono (Kd.R_far (p:=⟨gb580,1,none⟩) (Kd.R_far (p:=⟨gb580,0,none⟩) (Kd.R_types HO571.out BK580.out (by decide)) (fun _ hk=>hk.2) (.int .i64 t575)) (fun _ hk=>hk.2) (.slice Ao30 t576.length co30)) (fun _ h_=>h_.1))) (Kd.R_base ho0) hb);have n1_:=Aside0.mk (Kd.R_elder' (by(with_reducible repeat(first|apply Kd.R_alloc|apply Kd.R_drewN|apply Kd.R_drew));exact(Kd.R_mono (Kd.R_far (p:=⟨gb580,1,none⟩) (Kd.R_far (p:=⟨gb580,0,none⟩) (Kd.R_types HO578.out BK580.out (by decide)) (fun _ hk=>hk.2) (.int .i64 t575)) (fun _ hk=>hk.2) (.slice Ao30 t576.length co30)) (fun _ h_=>h_.1))) (Kd.R_base ho0) hb);have n2_:=Aside0.mk (Kd.R_lower (Kd.R_new' (Kd.R_new' ho0 (Kd.R_lt (by(with_reducible repeat(first|apply Kd.R_alloc|apply Kd.R_drewN|apply Kd.R_drew));exact(Kd.R_mono (Kd.R_far (p:=⟨gb580,1,none⟩) (Kd.R_far (p:=⟨gb580,0,none⟩) (Kd.R_types HO571.out BK580.out (by decide)) (fun _ hk=>hk.2) (.int .i64 t575)) (fun _ hk=>hk.2) (.slice Ao30 t576.length co30)) (fun _ h_=>h_.1))))) (Kd.R_lt (by(with_reducible repeat(first|apply Kd.R_alloc|apply Kd.R_drewN|apply Kd.R_drew));exact(Kd.R_mono (Kd.R_far (p:=⟨gb580,1,none⟩) (Kd.R_far (p:=⟨gb580,0,none⟩) (Kd.R_types HO578.out BK580.out (by decide)) (fun _ hk=>hk.2) (.int .i64 t575)) (fun _ hk=>hk.2) (.slice Ao30 t576.length co30)) (fun _ h_=>h_.1))))) (below_size (zb3 HB GE565 GE566 GE580)));have n3_:=Aside0.mk (blk_below (g:=gb565) (o:= .cells #[.int .i64 a0_0,.slice A0_1 l0_1.length c0_1] 32 (0,0)) (by(with_reducible repeat(first|refine blk_drewN ?_ _|refine blk_drew ?_ |refine blk_alloc ?_ _));refine blk_far ?_ NB565_580.out _;(with_reducible repeat(first|refine blk_drewN ?_ _|refine blk_drew ?_ |refine blk_alloc ?_ _));refine blk_far ?_ NB565_580.out _;(with_reducible repeat(first|refine blk_drewN ?_ _|refine blk_drew ?_ |refine blk_alloc ?_ _));exact BK565.out) hb);have n4_:=Aside0.mk (blk_below (g:=gb566) (o:= .cells #[.int .i64 a1_0,.int .i64 a1_1,.int .i64 a1_2] 51 (0,0)) (by(with_reducible repeat(first|refine blk_drewN ?_ _|refine blk_drew ?_ |refine blk_alloc ?_ _));refine blk_far ?_ NB566_580.out _;(with_reducible repeat(first|refine blk_drewN ?_ _|refine blk_drew ?_ |refine blk_alloc ?_ _));refine blk_far ?_ NB566_580.out _;(with_reducible repeat(first|refine blk_drewN ?_ _|refine blk_drew ?_ |refine blk_alloc ?_ _));exact BK566.out) hb);have n5_:=Aside0.mk (blk_below (g:=gb580) (o:= .cells #[.int .i64 t575,.slice Ao30 t576.length co30] 24 (0,0)) (by(with_reducible repeat(first|refine blk_drewN ?_ _|refine blk_drew ?_ |refine blk_alloc ?_ _));refine blk_put (cs:= #[.int .i64 t575,.slice none 0 0]) ?_ 1 _ rfl;(with_reducible repeat(first|refine blk_drewN ?_ _|refine blk_drew ?_ |refine blk_alloc ?_ _));refine blk_put (cs:= #[.int .i64 0,.slice none 0 0]) ?_ 0 _ rfl;(with_reducible repeat(first|refine blk_drewN ?_ _|refine blk_drew ?_ |refine blk_alloc ?_ _));exact BK580.out) hb);have n6_:=Aside0.mk (below_step (zb3 HB GE565 GE566 GE580) hb);clear HO571;clear HO578;clear BK565;clear BK566;clear BK580;clear HB;have HO571:=n0_;have HO578:=n1_;have HO584:=n2_;have BK565:=n3_;have BK566:=n4_;have BK580:=n5_;have HB:=n6_;clear n0_ n1_ n2_ n3_ n4_ n5_ n6_;(try clear hb);(try clear hb2);(try clear hk);(try clear hi);(try clear ho0))|((with_reducible refine gate_dst (N:=8) rfl ?_);refine box_event ?hg (N:=8) ?hd (cs:= #[.int .i64 0,.slice none 0 0]) (t:=24) ?hr ?_;(case hd=>rfl);(case hg=>rfl);(case hr=>first|(go_simp;done)|(go_simp;rfl));intro gb585 hg w35 hbox hb;have n0_:=Aside0.mk (Kd.R_below (z4 HO571) hb);have n1_:=Aside0.mk (Kd.R_below (z4 HO578) hb);have n2_:=Aside0.mk (Kd.R_below (z4 HO584) hb);have n3_:=Aside0.mk (blk_below (g:=gb565) (o:= .cells #[.int .i64 a0_0,.slice A0_1 l0_1.length c0_1] 32 (0,0)) (z3 BK565) hb);have n4_:=Aside0.mk (blk_below (g:=gb566) (o:= .cells #[.int .i64 a1_0,.int .i64 a1_1,.int .i64 a1_2] 51 (0,0)) (z3 BK566) hb);have n5_:=Aside0.mk (blk_below (g:=gb580) (o:= .cells #[.int .i64 t575,.slice Ao30 t576.length co30] 24 (0,0)) (z3 BK580) hb);have n6_:=Aside0.mk (below_step (zb3 HB GE565 GE566 GE580) hb);have n7_:=Aside0.mk (hbox);have n8_:=Aside0.mk ((by rw [hg];exact(below_size (zb3 HB GE565 GE566 GE580)):w.heap.size≤gb585));have n9_:=Aside0.mk ((by rw [hg];exact(below_size (zb3 HB GE565 GE566 GE580)):w.heap.size≤gb585));have n10_:=Aside0.mk ((by rw [hg];exact Nat.ne_of_lt (blk_lt (g:=gb565) (o:= .cells #[.int .i64 a0_0,.slice A0_1 l0_1.length c0_1] 32 (0,0)) (z3 BK565)):gb565≠gb585));have n11_:=Aside0.mk ((by rw [hg];exact Nat.ne_of_gt (blk_lt (g:=gb565) (o:= .cells #[.int .i64 a0_0,.slice A0_1 l0_1.length c0_1] 32 (0,0)) (z3 BK565)):gb585≠gb565));have n12_:=Aside0.mk ((by rw [hg];exact Nat.ne_of_lt (blk_lt (g:=gb566) (o:= .cells #[.int .i64 a1_0,.int .i64 a1_1,.int .i64 a1_2] 51 (0,0)) (z3 BK566)):gb566≠gb585));have n13_:=Aside0.mk ((by rw [hg];exact Nat.ne_of_gt (blk_lt (g:=gb566) (o:= .cells #[.int .i64 a1_0,.int .i64 a1_1,.int .i64 a1_2] 51 (0,0)) (z3 BK566)):gb585≠gb566));have n14_:=Aside0.mk ((by rw [hg];exact Nat.ne_of_lt (blk_lt (g:=gb580) (o:= .cells #[.int .i64 t575,.slice Ao30 t576.length co30] 24 (0,0)) (z3 BK580)):gb580≠gb585));have n15_:=Aside0.mk ((by rw [hg];exact Nat.ne_of_gt (blk_lt (g:=gb580) (o:= .cells #[.int .i64 t575,.slice Ao30 t576.length co30] 24 (0,0)) (z3 BK580)):gb585≠gb580));clear HO571;clear HO578;clear HO584;clear BK565;clear BK566;clear BK580;clear HB;have HO571:=n0_;have HO578:=n1_;have HO584:=n2_;have BK565:=n3_;have BK566:=n4_;have BK580:=n5_;have HB:=n6_;have BK585:=n7_;have GW585:=n8_;have GE585:=n9_;have NB565_585:=n10_;have NB585_565:=n11_;have NB566_585:=n12_;have NB585_566:=n13_;have NB580_585:=n14_;have NB585_580:=n15_;clear n0_ n1_ n2_ n3_ n4_ n5_ n6_ n7_ n8_ n9_ n10_ n11_ n12_ n13_ n14_ n15_;clear hb hbox hg;have hnb36:=NB585_565.out;have hnc36:=NB565_585.out;have hnb37:=NB585_566.out;have hnc37:=NB566_585.out;have hnb38:=NB585_580.out;have hnc38:=NB580_585.out;have hcz39_0:w35.cell? ⟨gb585,0,none⟩=some (.int .i64 0):=(blk_cell BK585.out 0).trans rfl;have hcz39_1:w35.cell? ⟨gb585,1,none⟩=some (.slice none 0 0):=(blk_cell BK585.out 1).trans rfl;have hfz39_0:=blk_frozen BK585.out 0;have hfz39_1:=blk_frozen BK585.out 1;obtain⟨Ao40,co40,eo40⟩:=Kd.R_slice HO584.out;subst eo40))
  have n0_:Aside0 (Kd.R k53 53 ((w35.setCell ⟨gb585,0,none⟩ (.int .i64 t581)).setCell ⟨gb585,1,none⟩ (.slice Ao40 t582.length co40)) w.heap.size (fun k_=>some k_≠ (.slice Ao30 t576.length co30:Value).ownBlock∧some k_≠ (.slice Ao40 t582.length co40:Value).ownBlock) v570 t569):=⟨by(with_reducible repeat(first|apply Kd.R_alloc|apply Kd.R_drewN|apply Kd.R_drew));exact Kd.R_mono (Kd.R_far (p:=⟨gb585,1,none⟩) (Kd.R_far (p:=⟨gb585,0,none⟩) (Kd.R_types HO571.out BK585.out (by decide)) (fun _ hk=>hk.2) (.int .i64 t581)) (fun _ hk=>hk.2) (.slice Ao40 t582.length co40)) (fun _ hk=>⟨hk.1.1,hk.1.2⟩)⟩
  have n1_:Aside0 (Kd.R k53 53 ((w35.setCell ⟨gb585,0,none⟩ (.int .i64 t581)).setCell ⟨gb585,1,none⟩ (.slice Ao40 t582.length co40)) w.heap.size (fun k_=>some k_≠ (v570:Value).ownBlock∧some k_≠ (.slice Ao40 t582.length co40:Value).ownBlock) (.slice Ao30 t576.length co30) t576):=⟨by(with_reducible repeat(first|apply Kd.R_alloc|apply Kd.R_drewN|apply Kd.R_drew));exact Kd.R_mono (Kd.R_far (p:=⟨gb585,1,none⟩) (Kd.R_far (p:=⟨gb585,0,none⟩) (Kd.R_types HO578.out BK585.out (by decide)) (fun _ hk=>hk.2) (.int .i64 t581)) (fun _ hk=>hk.2) (.slice Ao40 t582.length co40)) (fun _ hk=>⟨hk.1.1,hk.1.2⟩)⟩
  have n2_:Aside0 (Kd.R k53 53 ((w35.setCell ⟨gb585,0,none⟩ (.int .i64 t581)).setCell ⟨gb585,1,none⟩ (.slice Ao40 t582.length co40)) w.heap.size (fun k_=>some k_≠ (v570:Value).ownBlock∧some k_≠ (.slice Ao30 t576.length co30:Value).ownBlock) (.slice Ao40 t582.length co40) t582):=⟨by(with_reducible repeat(first|apply Kd.R_alloc|apply Kd.R_drewN|apply Kd.R_drew));exact Kd.R_mono (Kd.R_far (p:=⟨gb585,1,none⟩) (Kd.R_far (p:=⟨gb585,0,none⟩) (Kd.R_types HO584.out BK585.out (by decide)) (fun _ hk=>hk.2) (.int .i64 t581)) (fun _ hk=>hk.2) (.slice Ao40 t582.length co40)) (fun _ hk=>⟨hk.1.1.2,hk.1.2⟩)⟩
  have n3_:Aside0 (((w35.setCell ⟨gb585,0,none⟩ (.int .i64 t581)).setCell ⟨gb585,1,none⟩ (.slice Ao40 t582.length co40)).heap[gb565]?=some (.cells #[.int .i64 a0_0,.slice A0_1 l0_1.length c0_1] 32 (0,0))):=⟨by(with_reducible repeat(first|refine blk_drewN ?_ _|refine blk_drew ?_ |refine blk_alloc ?_ _));refine blk_far ?_ NB565_585.out _;(with_reducible repeat(first|refine blk_drewN ?_ _|refine blk_drew ?_ |refine blk_alloc ?_ _));refine blk_far ?_ NB565_585.out _;(with_reducible repeat(first|refine blk_drewN ?_ _|refine blk_drew ?_ |refine blk_alloc ?_ _));exact BK565.out⟩
  have n4_:Aside0 (((w35.setCell ⟨gb585,0,none⟩ (.int .i64 t581)).setCell ⟨gb585,1,none⟩ (.slice Ao40 t582.length co40)).heap[gb566]?=some (.cells #[.int .i64 a1_0,.int .i64 a1_1,.int .i64 a1_2] 51 (0,0))):=⟨by(with_reducible repeat(first|refine blk_drewN ?_ _|refine blk_drew ?_ |refine blk_alloc ?_ _));refine blk_far ?_ NB566_585.out _;(with_reducible repeat(first|refine blk_drewN ?_ _|refine blk_drew ?_ |refine blk_alloc ?_ _));refine blk_far ?_ NB566_585.out _;(with_reducible repeat(first|refine blk_drewN ?_ _|refine blk_drew ?_ |refine blk_alloc ?_ _));exact BK566.out⟩
  have n5_:Aside0 (((w35.setCell ⟨gb585,0,none⟩ (.int .i64 t581)).setCell ⟨gb585,1,none⟩ (.slice Ao40 t582.length co40)).heap[gb580]?=some (.cells #[.int .i64 t575,.slice Ao30 t576.length co30] 24 (0,0))):=⟨by(with_reducible repeat(first|refine blk_drewN ?_ _|refine blk_drew ?_ |refine blk_alloc ?_ _));refine blk_far ?_ NB580_585.out _;(with_reducible repeat(first|refine blk_drewN ?_ _|refine blk_drew ?_ |refine blk_alloc ?_ _));refine blk_far ?_ NB580_585.out _;(with_reducible repeat(first|refine blk_drewN ?_ _|refine blk_drew ?_ |refine blk_alloc ?_ _));exact BK580.out⟩
  have n6_:Aside0 (((w35.setCell ⟨gb585,0,none⟩ (.int .i64 t581)).setCell ⟨gb585,1,none⟩ (.slice Ao40 t582.length co40)).heap[gb585]?=some (.cells #[.int .i64 t581,.slice Ao40 t582.length co40] 24 (0,0))):=⟨by(with_reducible repeat(first|refine blk_drewN ?_ _|refine blk_drew ?_ |refine blk_alloc ?_ _));refine blk_put (cs:= #[.int .i64 t581,.slice none 0 0]) ?_ 1 _ rfl;(with_reducible repeat(first|refine blk_drewN ?_ _|refine blk_drew ?_ |refine blk_alloc ?_ _));refine blk_put (cs:= #[.int .i64 0,.slice none 0 0]) ?_ 0 _ rfl;(with_reducible repeat(first|refine blk_drewN ?_ _|refine blk_drew ?_ |refine blk_alloc ?_ _));exact BK585.out⟩
  have n7_:Aside0 (Below w.heap.size w ((w35.setCell ⟨gb585,0,none⟩ (.int .i64 t581)).setCell ⟨gb585,1,none⟩ (.slice Ao40 t582.length co40))):=⟨by repeat(first|(with_reducible first|exact HB.out|apply below_alloc|apply pw_below_drewN|apply below_drew1|refine below_set ?_ GE565.out|refine below_set ?_ GE566.out|refine below_set ?_ GE580.out|refine below_set ?_ GE585.out)|exact HB.out)⟩
  (try clear HO571)
  (try clear HO578)
  (try clear HO584)
  (try clear BK565)
  (try clear BK566)
  (try clear BK580)
  (try clear BK585)
  (try clear HB)
  (try simp only [show ∀ (W_:World) (n_:Nat) (a_:Addr) (v_:Value),(World.drewN W_ n_).setCell a_ v_= (World.setCell W_ a_ v_).drewN n_ from fun _ _ _ _=>rfl])
  generalize ((w35.setCell ⟨gb585,0,none⟩ (.int .i64 t581)).setCell ⟨gb585,1,none⟩ (.slice Ao40 t582.length co40))=w41 at n0_ n1_ n2_ n3_ n4_ n5_ n6_ n7_ ⊢
  have HO571:=n0_
  have HO578:=n1_
  have HO584:=n2_
  have BK565:=n3_
  have BK566:=n4_
  have BK580:=n5_
  have BK585:=n6_
  have HB:=n7_
  clear n0_ n1_ n2_ n3_ n4_ n5_ n6_ n7_
  have n0_:=Aside0.mk (Kd.R_drew HO571.out)
  have n1_:=Aside0.mk (Kd.R_drew HO578.out)
  have n2_:=Aside0.mk (Kd.R_drew HO584.out)
  have n3_:=Aside0.mk (blk_drew BK565.out)
  have n4_:=Aside0.mk (blk_drew BK566.out)
  have n5_:=Aside0.mk (blk_drew BK580.out)
  have n6_:=Aside0.mk (blk_drew BK585.out)
  have n7_:=Aside0.mk (below_drew1 HB.out)
  clear HO571
  clear HO578
  clear HO584
  clear BK565
  clear BK566
  clear BK580
  clear BK585
  clear HB
  have HO571:=n0_
  have HO578:=n1_
  have HO584:=n2_
  have BK565:=n3_
  have BK566:=n4_
  have BK580:=n5_
  have BK585:=n6_
  have HB:=n7_
  clear n0_ n1_ n2_ n3_ n4_ n5_ n6_ n7_
  refine start_ (n:=10) (S:=fun w'=>w'.cell? ⟨gb585,0,none⟩=some (.int .i64 t581)∧w'.cell? ⟨gb585,1,none⟩=some (.slice Ao40 t582.length co40)∧w'.cell? ⟨gb566,0,none⟩=some (.int .i64 a1_0)∧w'.cell? ⟨gb566,1,none⟩=some (.int .i64 a1_1)∧w'.cell? ⟨gb566,2,none⟩=some (.int .i64 a1_2)) (ds:= []) #[f',f',f',f',f',f',f',f',f',f'] (by kernel_rfl) rfl rfl ⟨(blk_cell BK585.out 0).trans rfl,(blk_cell BK585.out 1).trans rfl,(blk_cell BK566.out 0).trans rfl,(blk_cell BK566.out 1).trans rfl,(blk_cell BK566.out 2).trans rfl⟩ (fun hHeld=>?_);refine with_tabW laws_FnExactLearn.tab7 laws_FnExactLearn.bits7 (fun HT_ HW_=>?_)
  generalize w41.drew=w42 at HO571 HO578 HO584 BK565 BK566 BK580 BK585 HB hHeld ⊢
  refine take_ (i:=0) (N:=some 32) (v:=?_) (a':=?_) #[t',f',f',f',f',f',f',f',f',f'] rfl rfl (take_ofW HT_.out HW_.out (by kernel_rfl)) (fun _ _ _ h=>h) (Or.inl ⟨by rfl,?_⟩) hHeld ?_ ?_
  rotate_left
  ·rintro w' ⟨s0,s1,s2,s3,s4⟩
   go_simp
   with_reducible rfl
  rotate_left
  ·simp only [Act.put,z5,z6,z7,i64_w,i32_w]
   rfl
  refine take_ (i:=1) (N:=some 33) (v:=?_) (a':=?_) #[t',t',f',f',f',f',f',f',f',f'] rfl rfl (take_ofW HT_.out HW_.out (by kernel_rfl)) (fun _ _ _ h=>h) (Or.inl ⟨by rfl,?_⟩) hHeld ?_ ?_
  rotate_left
  ·rintro w' ⟨s0,s1,s2,s3,s4⟩
   go_simp
   with_reducible rfl
  rotate_left
  ·simp only [Act.put,z5,z6,z7,i64_w,i32_w]
   rfl
  refine join_ (σ :=Value × Nat) 2 #[t',t',t',t',t',t',t',t',f',f'] (fun s_=> [(34,.agg #[.int .i64 t586,.int .i64 t587,.int .i64 t588]),(35,.tuple #[.agg #[.int .i64 t589,s_.1],.bool t593]),(9,.pointer (some ⟨s_.2,0,none⟩)),(31,.tuple #[.agg #[.int .i64 t589,s_.1],.bool t593]),(36,.agg #[.int .i64 t589,s_.1]),(37,.bool t593)]) (fun s_ w'=>(w'.cell? ⟨gb585,0,none⟩=some (.int .i64 t581)∧w'.cell? ⟨gb585,1,none⟩=some (.slice Ao40 t582.length co40)∧w'.cell? ⟨gb566,0,none⟩=some (.int .i64 a1_0)∧w'.cell? ⟨gb566,1,none⟩=some (.int .i64 a1_1)∧w'.cell? ⟨gb566,2,none⟩=some (.int .i64 a1_2))∧ (Kd.R k53 53 w' w.heap.size (fun k_=>some k_≠ (.slice Ao30 t576.length co30:Value).ownBlock∧some k_≠ (.slice Ao40 t582.length co40:Value).ownBlock∧some k_≠ (s_.1:Value).ownBlock) v570 t569)∧ (Kd.R k53 53 w' w.heap.size (fun k_=>some k_≠ (v570:Value).ownBlock∧some k_≠ (.slice Ao40 t582.length co40:Value).ownBlock∧some k_≠ (s_.1:Value).ownBlock) (.slice Ao30 t576.length co30) t576)∧ (Kd.R k53 53 w' w.heap.size (fun k_=>some k_≠ (v570:Value).ownBlock∧some k_≠ (.slice Ao30 t576.length co30:Value).ownBlock∧some k_≠ (s_.1:Value).ownBlock) (.slice Ao40 t582.length co40) t582)∧ (Kd.R k53 53 w' w.heap.size (fun k_=>some k_≠ (v570:Value).ownBlock∧some k_≠ (.slice Ao30 t576.length co30:Value).ownBlock∧some k_≠ (.slice Ao40 t582.length co40:Value).ownBlock) s_.1 t590)∧ (w'.heap[gb565]?=some (.cells #[.int .i64 a0_0,.slice A0_1 l0_1.length c0_1] 32 (0,0)))∧ (w'.heap[gb566]?=some (.cells #[.int .i64 a1_0,.int .i64 a1_1,.int .i64 a1_2] 51 (0,0)))∧ (w'.heap[gb580]?=some (.cells #[.int .i64 t575,.slice Ao30 t576.length co30] 24 (0,0)))∧ (w'.heap[gb585]?=some (.cells #[.int .i64 t581,.slice Ao40 t582.length co40] 24 (0,0)))∧ (w'.heap[s_.2]?=some (.cells #[.int .i64 0,.slice none 0 0] 24 (0,0)))∧ (w.heap.size≤s_.2)∧ (w.heap.size≤s_.2)∧ (gb565≠s_.2)∧ (s_.2≠gb565)∧ (gb566≠s_.2)∧ (s_.2≠gb566)∧ (gb580≠s_.2)∧ (s_.2≠gb580)∧ (gb585≠s_.2)∧ (s_.2≠gb585)∧ (Below w.heap.size w w')) ?_ ?_
  rotate_left
  ·intro hCont
   refine two_ (i:=2) (j:=7) (Ni:=some 34) (Nj:=some 9) #[t',t',t',f',f',f',f',f',f',f'] #[t',t',f',f',f',f',f',t',f',f'] rfl rfl rfl rfl (two_of HT_.out (by kernel_rfl)) (by decide) (by decide) (fun K hK=>?_) (fun K hK=>?_)
   ·skip
    refine goes_ Try.func36 (by kernel_rfl) rfl #[.agg #[.int .i64 a1_0,.int .i64 a1_1,.int .i64 a1_2]] (by rfl) rfl rfl z2 ?_
    with_reducible refine(laws_toSeen.calls a1_0 a1_1 a1_2 t586 t587 t588 _ A14.out).mono ?_
    rintro e w43 ⟨rfl,hb⟩
    refine⟨_,rfl,?_⟩
    have n0_:=Aside0.mk (Kd.R_below (z4 HO571) hb)
    have n1_:=Aside0.mk (Kd.R_below (z4 HO578) hb)
    have n2_:=Aside0.mk (Kd.R_below (z4 HO584) hb)
    have n3_:=Aside0.mk (blk_below (g:=gb565) (o:= .cells #[.int .i64 a0_0,.slice A0_1 l0_1.length c0_1] 32 (0,0)) (z3 BK565) hb)
    have n4_:=Aside0.mk (blk_below (g:=gb566) (o:= .cells #[.int .i64 a1_0,.int .i64 a1_1,.int .i64 a1_2] 51 (0,0)) (z3 BK566) hb)
    have n5_:=Aside0.mk (blk_below (g:=gb580) (o:= .cells #[.int .i64 t575,.slice Ao30 t576.length co30] 24 (0,0)) (z3 BK580) hb)
    have n6_:=Aside0.mk (blk_below (g:=gb585) (o:= .cells #[.int .i64 t581,.slice Ao40 t582.length co40] 24 (0,0)) (z3 BK585) hb)
    have n7_:=Aside0.mk (below_step (zb4 HB GE565 GE566 GE580 GE585) hb)
    clear HO571
    clear HO578
    clear HO584
    clear BK565
    clear BK566
    clear BK580
    clear BK585
    clear HB
    have HO571:=n0_
    have HO578:=n1_
    have HO584:=n2_
    have BK565:=n3_
    have BK566:=n4_
    have BK580:=n5_
    have BK585:=n6_
    have HB:=n7_
    clear n0_ n1_ n2_ n3_ n4_ n5_ n6_ n7_
    (try clear hb)
    (try clear hb2)
    (try clear hk)
    (try clear hi)
    refine hK.out _ _ ⟨(blk_cell BK585.out 0).trans rfl,(blk_cell BK585.out 1).trans rfl,(blk_cell BK566.out 0).trans rfl,(blk_cell BK566.out 1).trans rfl,(blk_cell BK566.out 2).trans rfl⟩ (fun hHeld=>?_)
    clear hK K
    refine norm_ (a':=?_) ?_ ?_
    rotate_left
    ·show Act.put _ (some 34) _=_
     simp only [Act.put,z5,z6,z7,i64_w,i32_w]
     rfl
    refine two_ (i:=3) (j:=7) (Ni:=some 35) (Nj:=some 9) #[t',t',t',t',f',f',f',f',f',f'] #[t',t',t',f',f',f',f',t',f',f'] rfl rfl rfl rfl (two_of HT_.out (by kernel_rfl)) (by decide) (by decide) (fun K hK=>?_) (fun K hK=>?_)
    ·skip
     refine goes_ Try.func37 (by kernel_rfl) rfl #[.agg #[.int .i64 t581,.slice Ao40 t582.length co40],.agg #[.int .i64 t586,.int .i64 t587,.int .i64 t588]] (by rfl) rfl rfl z2 ?_
     with_reducible refine(impl_Learn.calls k t581 _ _ t582 t586 t587 t588 t589 t590 t593 _ ?side1 ?side2 A15.out).mono ?_
     (case side1=>repeat(first|exact(Kd.R_reads' HO584.out).2.2|(with_reducible refine Kd.C_alloc ?_ _)|(with_reducible refine Kd.C_drewN ?_ _)|(with_reducible refine Kd.C_drew ?_)))
     (case side2=>exact(Kd.R_reads' HO584.out).2.1)
     rintro e w44 ⟨v591,rfl,ho0,hb⟩
     refine⟨_,rfl,?_⟩
     have n0_:=Aside0.mk (Kd.R_elder' (z4 HO571) (Kd.R_base ho0) hb)
     have n1_:=Aside0.mk (Kd.R_elder' (z4 HO578) (Kd.R_base ho0) hb)
     have n2_:=Aside0.mk (Kd.R_elder' (z4 HO584) (Kd.R_base ho0) hb)
     have n3_:=Aside0.mk (Kd.R_lower (Kd.R_new' (Kd.R_new' (Kd.R_new' ho0 (Kd.R_lt (z4 HO571))) (Kd.R_lt (z4 HO578))) (Kd.R_lt (z4 HO584))) (below_size (zb4 HB GE565 GE566 GE580 GE585)))
     have n4_:=Aside0.mk (blk_below (g:=gb565) (o:= .cells #[.int .i64 a0_0,.slice A0_1 l0_1.length c0_1] 32 (0,0)) (z3 BK565) hb)
     have n5_:=Aside0.mk (blk_below (g:=gb566) (o:= .cells #[.int .i64 a1_0,.int .i64 a1_1,.int .i64 a1_2] 51 (0,0)) (z3 BK566) hb)
     have n6_:=Aside0.mk (blk_below (g:=gb580) (o:= .cells #[.int .i64 t575,.slice Ao30 t576.length co30] 24 (0,0)) (z3 BK580) hb)
     have n7_:=Aside0.mk (blk_below (g:=gb585) (o:= .cells #[.int .i64 t581,.slice Ao40 t582.length co40] 24 (0,0)) (z3 BK585) hb)
     have n8_:=Aside0.mk (below_step (zb4 HB GE565 GE566 GE580 GE585) hb)
     clear HO571
     clear HO578
     clear HO584
     clear BK565
     clear BK566
     clear BK580
     clear BK585
     clear HB
     have HO571:=n0_
     have HO578:=n1_
     have HO584:=n2_
     have HO592:=n3_
     have BK565:=n4_
     have BK566:=n5_
     have BK580:=n6_
     have BK585:=n7_
     have HB:=n8_
     clear n0_ n1_ n2_ n3_ n4_ n5_ n6_ n7_ n8_
     (try clear hb)
     (try clear hb2)
     (try clear hk)
     (try clear hi)
     (try clear ho0)
     refine hK.out _ _ ⟨(blk_cell BK585.out 0).trans rfl,(blk_cell BK585.out 1).trans rfl,(blk_cell BK566.out 0).trans rfl,(blk_cell BK566.out 1).trans rfl,(blk_cell BK566.out 2).trans rfl⟩ (fun hHeld=>?_)
     clear hK K
     refine norm_ (a':=?_) ?_ ?_
     rotate_left
     ·show Act.put _ (some 35) _=_
      simp only [Act.put,z5,z6,z7,i64_w,i32_w]
      rfl
     refine pure_ (i:=4) (N:=some 31) (v:=?_) (a':=?_) #[t',t',t',t',t',f',f',f',f',f'] rfl rfl (any_of HT_.out (by kernel_rfl)) (fun _ _ _ h=>h) (Or.inl ⟨by rfl,?_⟩) ?_ ?_
     rotate_left
     ·intro w'
      go_simp
      with_reducible rfl
     rotate_left
     ·simp only [Act.put,z5,z6,z7,i64_w,i32_w]
      rfl
     refine pure_ (i:=5) (N:=some 36) (v:=?_) (a':=?_) #[t',t',t',t',t',t',f',f',f',f'] rfl rfl (any_of HT_.out (by kernel_rfl)) (fun _ _ _ h=>h) (Or.inl ⟨by rfl,?_⟩) ?_ ?_
     rotate_left
     ·intro w'
      go_simp
      with_reducible rfl
     rotate_left
     ·simp only [Act.put,z5,z6,z7,i64_w,i32_w]
      rfl
     refine pure_ (i:=6) (N:=some 37) (v:=?_) (a':=?_) #[t',t',t',t',t',t',t',f',f',f'] rfl rfl (any_of HT_.out (by kernel_rfl)) (fun _ _ _ h=>h) (Or.inl ⟨by rfl,?_⟩) ?_ ?_
     rotate_left
     ·intro w'
      go_simp
      with_reducible rfl
     rotate_left
     ·simp only [Act.put,z5,z6,z7,i64_w,i32_w]
      rfl
     refine one_ (i:=7) (N:=some 9) #[t',t',t',t',t',t',t',t',f',f'] rfl rfl (one_of HT_.out (by kernel_rfl)) (by decide) (fun K hK=>?_)
     refine box_step ?hg (N:=9) ?hd (cs:= #[.int .i64 0,.slice none 0 0]) (t:=24) ?hr ?_;(case hd=>rfl);(case hg=>rfl);(case hr=>first|(go_simp;done)|(go_simp;rfl))
     intro gb594 hg w45 hbox hb
     have n0_:=Aside0.mk (Kd.R_below (z4 HO571) hb)
     have n1_:=Aside0.mk (Kd.R_below (z4 HO578) hb)
     have n2_:=Aside0.mk (Kd.R_below (z4 HO584) hb)
     have n3_:=Aside0.mk (Kd.R_below (z4 HO592) hb)
     have n4_:=Aside0.mk (blk_below (g:=gb565) (o:= .cells #[.int .i64 a0_0,.slice A0_1 l0_1.length c0_1] 32 (0,0)) (z3 BK565) hb)
     have n5_:=Aside0.mk (blk_below (g:=gb566) (o:= .cells #[.int .i64 a1_0,.int .i64 a1_1,.int .i64 a1_2] 51 (0,0)) (z3 BK566) hb)
     have n6_:=Aside0.mk (blk_below (g:=gb580) (o:= .cells #[.int .i64 t575,.slice Ao30 t576.length co30] 24 (0,0)) (z3 BK580) hb)
     have n7_:=Aside0.mk (blk_below (g:=gb585) (o:= .cells #[.int .i64 t581,.slice Ao40 t582.length co40] 24 (0,0)) (z3 BK585) hb)
     have n8_:=Aside0.mk (below_step (zb4 HB GE565 GE566 GE580 GE585) hb)
     have n9_:=Aside0.mk (hbox)
     have n10_:=Aside0.mk ((by rw [hg];exact(below_size (zb4 HB GE565 GE566 GE580 GE585)):w.heap.size≤gb594))
     have n11_:=Aside0.mk ((by rw [hg];exact(below_size (zb4 HB GE565 GE566 GE580 GE585)):w.heap.size≤gb594))
     have n12_:=Aside0.mk ((by rw [hg];exact Nat.ne_of_lt (blk_lt (g:=gb565) (o:= .cells #[.int .i64 a0_0,.slice A0_1 l0_1.length c0_1] 32 (0,0)) (z3 BK565)):gb565≠gb594))
     have n13_:=Aside0.mk ((by rw [hg];exact Nat.ne_of_gt (blk_lt (g:=gb565) (o:= .cells #[.int .i64 a0_0,.slice A0_1 l0_1.length c0_1] 32 (0,0)) (z3 BK565)):gb594≠gb565))
     have n14_:=Aside0.mk ((by rw [hg];exact Nat.ne_of_lt (blk_lt (g:=gb566) (o:= .cells #[.int .i64 a1_0,.int .i64 a1_1,.int .i64 a1_2] 51 (0,0)) (z3 BK566)):gb566≠gb594))
     have n15_:=Aside0.mk ((by rw [hg];exact Nat.ne_of_gt (blk_lt (g:=gb566) (o:= .cells #[.int .i64 a1_0,.int .i64 a1_1,.int .i64 a1_2] 51 (0,0)) (z3 BK566)):gb594≠gb566))
     have n16_:=Aside0.mk ((by rw [hg];exact Nat.ne_of_lt (blk_lt (g:=gb580) (o:= .cells #[.int .i64 t575,.slice Ao30 t576.length co30] 24 (0,0)) (z3 BK580)):gb580≠gb594))
     have n17_:=Aside0.mk ((by rw [hg];exact Nat.ne_of_gt (blk_lt (g:=gb580) (o:= .cells #[.int .i64 t575,.slice Ao30 t576.length co30] 24 (0,0)) (z3 BK580)):gb594≠gb580))
     have n18_:=Aside0.mk ((by rw [hg];exact Nat.ne_of_lt (blk_lt (g:=gb585) (o:= .cells #[.int .i64 t581,.slice Ao40 t582.length co40] 24 (0,0)) (z3 BK585)):gb585≠gb594))
     have n19_:=Aside0.mk ((by rw [hg];exact Nat.ne_of_gt (blk_lt (g:=gb585) (o:= .cells #[.int .i64 t581,.slice Ao40 t582.length co40] 24 (0,0)) (z3 BK585)):gb594≠gb585))
     clear HO571
     clear HO578
     clear HO584
     clear HO592
     clear BK565
     clear BK566
     clear BK580
     clear BK585
     clear HB
     have HO571:=n0_
     have HO578:=n1_
     have HO584:=n2_
     have HO592:=n3_
     have BK565:=n4_
     have BK566:=n5_
     have BK580:=n6_
     have BK585:=n7_
     have HB:=n8_
     have BK594:=n9_
     have GW594:=n10_
     have GE594:=n11_
     have NB565_594:=n12_
     have NB594_565:=n13_
     have NB566_594:=n14_
     have NB594_566:=n15_
     have NB580_594:=n16_
     have NB594_580:=n17_
     have NB585_594:=n18_
     have NB594_585:=n19_
     clear n0_ n1_ n2_ n3_ n4_ n5_ n6_ n7_ n8_ n9_ n10_ n11_ n12_ n13_ n14_ n15_ n16_ n17_ n18_ n19_
     clear hb hbox hg
     refine hK.out _ _ ⟨(blk_cell BK585.out 0).trans rfl,(blk_cell BK585.out 1).trans rfl,(blk_cell BK566.out 0).trans rfl,(blk_cell BK566.out 1).trans rfl,(blk_cell BK566.out 2).trans rfl⟩ (fun hHeld=>?_)
     clear hK K
     refine norm_ (a':=?_) ?_ ?_
     rotate_left
     ·show Act.put _ (some 9) _=_
      simp only [Act.put,z5,z6,z7,i64_w,i32_w]
      rfl
     exact norm_ (by simp only [putAll,Act.put,z5,z6,z7]) (hCont (v591,gb594) _ ⟨hHeld,(by(with_reducible repeat(first|apply Kd.R_alloc|apply Kd.R_drewN|apply Kd.R_drew));exact Kd.R_mono HO571.out (fun _ hk=>⟨hk.1.1,⟨hk.1.2,hk.2⟩⟩)),(by(with_reducible repeat(first|apply Kd.R_alloc|apply Kd.R_drewN|apply Kd.R_drew));exact Kd.R_mono HO578.out (fun _ hk=>⟨hk.1.1,⟨hk.1.2,hk.2⟩⟩)),(by(with_reducible repeat(first|apply Kd.R_alloc|apply Kd.R_drewN|apply Kd.R_drew));exact Kd.R_mono HO584.out (fun _ hk=>⟨hk.1.1,⟨hk.1.2,hk.2⟩⟩)),(by(with_reducible repeat(first|apply Kd.R_alloc|apply Kd.R_drewN|apply Kd.R_drew));exact Kd.R_mono HO592.out (fun _ hk=>⟨hk.1.1.2,⟨hk.1.2,hk.2⟩⟩)),(z3 BK565),(z3 BK566),(z3 BK580),(z3 BK585),(z3 BK594),GW594.out,GE594.out,NB565_594.out,NB594_565.out,NB566_594.out,NB594_566.out,NB580_594.out,NB594_580.out,NB585_594.out,NB594_585.out,(zb5 HB GE565 GE566 GE580 GE585 GE594)⟩)
    ·skip
     refine box_step ?hg (N:=9) ?hd (cs:= #[.int .i64 0,.slice none 0 0]) (t:=24) ?hr ?_;(case hd=>rfl);(case hg=>rfl);(case hr=>first|(go_simp;done)|(go_simp;rfl))
     intro gb594 hg w44 hbox hb
     have n0_:=Aside0.mk (Kd.R_below (z4 HO571) hb)
     have n1_:=Aside0.mk (Kd.R_below (z4 HO578) hb)
     have n2_:=Aside0.mk (Kd.R_below (z4 HO584) hb)
     have n3_:=Aside0.mk (blk_below (g:=gb565) (o:= .cells #[.int .i64 a0_0,.slice A0_1 l0_1.length c0_1] 32 (0,0)) (z3 BK565) hb)
     have n4_:=Aside0.mk (blk_below (g:=gb566) (o:= .cells #[.int .i64 a1_0,.int .i64 a1_1,.int .i64 a1_2] 51 (0,0)) (z3 BK566) hb)
     have n5_:=Aside0.mk (blk_below (g:=gb580) (o:= .cells #[.int .i64 t575,.slice Ao30 t576.length co30] 24 (0,0)) (z3 BK580) hb)
     have n6_:=Aside0.mk (blk_below (g:=gb585) (o:= .cells #[.int .i64 t581,.slice Ao40 t582.length co40] 24 (0,0)) (z3 BK585) hb)
     have n7_:=Aside0.mk (below_step (zb4 HB GE565 GE566 GE580 GE585) hb)
     have n8_:=Aside0.mk (hbox)
     have n9_:=Aside0.mk ((by rw [hg];exact(below_size (zb4 HB GE565 GE566 GE580 GE585)):w.heap.size≤gb594))
     have n10_:=Aside0.mk ((by rw [hg];exact(below_size (zb4 HB GE565 GE566 GE580 GE585)):w.heap.size≤gb594))
     have n11_:=Aside0.mk ((by rw [hg];exact Nat.ne_of_lt (blk_lt (g:=gb565) (o:= .cells #[.int .i64 a0_0,.slice A0_1 l0_1.length c0_1] 32 (0,0)) (z3 BK565)):gb565≠gb594))
     have n12_:=Aside0.mk ((by rw [hg];exact Nat.ne_of_gt (blk_lt (g:=gb565) (o:= .cells #[.int .i64 a0_0,.slice A0_1 l0_1.length c0_1] 32 (0,0)) (z3 BK565)):gb594≠gb565))
     have n13_:=Aside0.mk ((by rw [hg];exact Nat.ne_of_lt (blk_lt (g:=gb566) (o:= .cells #[.int .i64 a1_0,.int .i64 a1_1,.int .i64 a1_2] 51 (0,0)) (z3 BK566)):gb566≠gb594))
     have n14_:=Aside0.mk ((by rw [hg];exact Nat.ne_of_gt (blk_lt (g:=gb566) (o:= .cells #[.int .i64 a1_0,.int .i64 a1_1,.int .i64 a1_2] 51 (0,0)) (z3 BK566)):gb594≠gb566))
     have n15_:=Aside0.mk ((by rw [hg];exact Nat.ne_of_lt (blk_lt (g:=gb580) (o:= .cells #[.int .i64 t575,.slice Ao30 t576.length co30] 24 (0,0)) (z3 BK580)):gb580≠gb594))
     have n16_:=Aside0.mk ((by rw [hg];exact Nat.ne_of_gt (blk_lt (g:=gb580) (o:= .cells #[.int .i64 t575,.slice Ao30 t576.length co30] 24 (0,0)) (z3 BK580)):gb594≠gb580))
     have n17_:=Aside0.mk ((by rw [hg];exact Nat.ne_of_lt (blk_lt (g:=gb585) (o:= .cells #[.int .i64 t581,.slice Ao40 t582.length co40] 24 (0,0)) (z3 BK585)):gb585≠gb594))
     have n18_:=Aside0.mk ((by rw [hg];exact Nat.ne_of_gt (blk_lt (g:=gb585) (o:= .cells #[.int .i64 t581,.slice Ao40 t582.length co40] 24 (0,0)) (z3 BK585)):gb594≠gb585))
     clear HO571
     clear HO578
     clear HO584
     clear BK565
     clear BK566
     clear BK580
     clear BK585
     clear HB
     have HO571:=n0_
     have HO578:=n1_
     have HO584:=n2_
     have BK565:=n3_
     have BK566:=n4_
     have BK580:=n5_
     have BK585:=n6_
     have HB:=n7_
     have BK594:=n8_
     have GW594:=n9_
     have GE594:=n10_
     have NB565_594:=n11_
     have NB594_565:=n12_
     have NB566_594:=n13_
     have NB594_566:=n14_
     have NB580_594:=n15_
     have NB594_580:=n16_
     have NB585_594:=n17_
     have NB594_585:=n18_
     clear n0_ n1_ n2_ n3_ n4_ n5_ n6_ n7_ n8_ n9_ n10_ n11_ n12_ n13_ n14_ n15_ n16_ n17_ n18_
     clear hb hbox hg
     refine hK.out _ _ ⟨(blk_cell BK585.out 0).trans rfl,(blk_cell BK585.out 1).trans rfl,(blk_cell BK566.out 0).trans rfl,(blk_cell BK566.out 1).trans rfl,(blk_cell BK566.out 2).trans rfl⟩ (fun hHeld=>?_)
     clear hK K
     refine norm_ (a':=?_) ?_ ?_
     rotate_left
     ·show Act.put _ (some 9) _=_
      simp only [Act.put,z5,z6,z7,i64_w,i32_w]
      rfl
     refine one_ (i:=3) (N:=some 35) #[t',t',t',t',f',f',f',t',f',f'] rfl rfl (one_of HT_.out (by kernel_rfl)) (by decide) (fun K hK=>?_)
     refine goes_ Try.func37 (by kernel_rfl) rfl #[.agg #[.int .i64 t581,.slice Ao40 t582.length co40],.agg #[.int .i64 t586,.int .i64 t587,.int .i64 t588]] (by rfl) rfl rfl z2 ?_
     with_reducible refine(impl_Learn.calls k t581 _ _ t582 t586 t587 t588 t589 t590 t593 _ ?side1 ?side2 A15.out).mono ?_
     (case side1=>repeat(first|exact(Kd.R_reads' HO584.out).2.2|(with_reducible refine Kd.C_alloc ?_ _)|(with_reducible refine Kd.C_drewN ?_ _)|(with_reducible refine Kd.C_drew ?_)))
     (case side2=>exact(Kd.R_reads' HO584.out).2.1)
     rintro e w45 ⟨v591,rfl,ho0,hb⟩
     refine⟨_,rfl,?_⟩
     have n0_:=Aside0.mk (Kd.R_elder' (z4 HO571) (Kd.R_base ho0) hb)
     have n1_:=Aside0.mk (Kd.R_elder' (z4 HO578) (Kd.R_base ho0) hb)
     have n2_:=Aside0.mk (Kd.R_elder' (z4 HO584) (Kd.R_base ho0) hb)
     have n3_:=Aside0.mk (Kd.R_lower (Kd.R_new' (Kd.R_new' (Kd.R_new' ho0 (Kd.R_lt (z4 HO571))) (Kd.R_lt (z4 HO578))) (Kd.R_lt (z4 HO584))) (below_size (zb5 HB GE565 GE566 GE580 GE585 GE594)))
     have n4_:=Aside0.mk (blk_below (g:=gb565) (o:= .cells #[.int .i64 a0_0,.slice A0_1 l0_1.length c0_1] 32 (0,0)) (z3 BK565) hb)
     have n5_:=Aside0.mk (blk_below (g:=gb566) (o:= .cells #[.int .i64 a1_0,.int .i64 a1_1,.int .i64 a1_2] 51 (0,0)) (z3 BK566) hb)
     have n6_:=Aside0.mk (blk_below (g:=gb580) (o:= .cells #[.int .i64 t575,.slice Ao30 t576.length co30] 24 (0,0)) (z3 BK580) hb)
     have n7_:=Aside0.mk (blk_below (g:=gb585) (o:= .cells #[.int .i64 t581,.slice Ao40 t582.length co40] 24 (0,0)) (z3 BK585) hb)
     have n8_:=Aside0.mk (blk_below (g:=gb594) (o:= .cells #[.int .i64 0,.slice none 0 0] 24 (0,0)) (z3 BK594) hb)
     have n9_:=Aside0.mk (below_step (zb5 HB GE565 GE566 GE580 GE585 GE594) hb)
     clear HO571
     clear HO578
     clear HO584
     clear BK565
     clear BK566
     clear BK580
     clear BK585
     clear BK594
     clear HB
     have HO571:=n0_
     have HO578:=n1_
     have HO584:=n2_
     have HO592:=n3_
     have BK565:=n4_
     have BK566:=n5_
     have BK580:=n6_
     have BK585:=n7_
     have BK594:=n8_
     have HB:=n9_
     clear n0_ n1_ n2_ n3_ n4_ n5_ n6_ n7_ n8_ n9_
     (try clear hb)
     (try clear hb2)
     (try clear hk)
     (try clear hi)
     (try clear ho0)
     refine hK.out _ _ ⟨(blk_cell BK585.out 0).trans rfl,(blk_cell BK585.out 1).trans rfl,(blk_cell BK566.out 0).trans rfl,(blk_cell BK566.out 1).trans rfl,(blk_cell BK566.out 2).trans rfl⟩ (fun hHeld=>?_)
     clear hK K
     refine norm_ (a':=?_) ?_ ?_
     rotate_left
     ·show Act.put _ (some 35) _=_
      simp only [Act.put,z5,z6,z7,i64_w,i32_w]
      rfl
     refine pure_ (i:=4) (N:=some 31) (v:=?_) (a':=?_) #[t',t',t',t',t',f',f',t',f',f'] rfl rfl (any_of HT_.out (by kernel_rfl)) (fun _ _ _ h=>h) (Or.inl ⟨by rfl,?_⟩) ?_ ?_
     rotate_left
     ·intro w'
      go_simp
      with_reducible rfl
     rotate_left
     ·simp only [Act.put,z5,z6,z7,i64_w,i32_w]
      rfl
     refine pure_ (i:=5) (N:=some 36) (v:=?_) (a':=?_) #[t',t',t',t',t',t',f',t',f',f'] rfl rfl (any_of HT_.out (by kernel_rfl)) (fun _ _ _ h=>h) (Or.inl ⟨by rfl,?_⟩) ?_ ?_
     rotate_left
     ·intro w'
      go_simp
      with_reducible rfl
     rotate_left
     ·simp only [Act.put,z5,z6,z7,i64_w,i32_w]
      rfl
     refine pure_ (i:=6) (N:=some 37) (v:=?_) (a':=?_) #[t',t',t',t',t',t',t',t',f',f'] rfl rfl (any_of HT_.out (by kernel_rfl)) (fun _ _ _ h=>h) (Or.inl ⟨by rfl,?_⟩) ?_ ?_
     rotate_left
     ·intro w'
      go_simp
      with_reducible rfl
     rotate_left
     ·simp only [Act.put,z5,z6,z7,i64_w,i32_w]
      rfl
     exact norm_ (by simp only [putAll,Act.put,z5,z6,z7]) (hCont (v591,gb594) _ ⟨hHeld,(by(with_reducible repeat(first|apply Kd.R_alloc|apply Kd.R_drewN|apply Kd.R_drew));exact Kd.R_mono HO571.out (fun _ hk=>⟨hk.1.1,⟨hk.1.2,hk.2⟩⟩)),(by(with_reducible repeat(first|apply Kd.R_alloc|apply Kd.R_drewN|apply Kd.R_drew));exact Kd.R_mono HO578.out (fun _ hk=>⟨hk.1.1,⟨hk.1.2,hk.2⟩⟩)),(by(with_reducible repeat(first|apply Kd.R_alloc|apply Kd.R_drewN|apply Kd.R_drew));exact Kd.R_mono HO584.out (fun _ hk=>⟨hk.1.1,⟨hk.1.2,hk.2⟩⟩)),(by(with_reducible repeat(first|apply Kd.R_alloc|apply Kd.R_drewN|apply Kd.R_drew));exact Kd.R_mono HO592.out (fun _ hk=>⟨hk.1.1.2,⟨hk.1.2,hk.2⟩⟩)),(z3 BK565),(z3 BK566),(z3 BK580),(z3 BK585),(z3 BK594),GW594.out,GE594.out,NB565_594.out,NB594_565.out,NB566_594.out,NB594_566.out,NB580_594.out,NB594_580.out,NB585_594.out,NB594_585.out,(zb5 HB GE565 GE566 GE580 GE585 GE594)⟩)
   ·skip
    refine box_step ?hg (N:=9) ?hd (cs:= #[.int .i64 0,.slice none 0 0]) (t:=24) ?hr ?_;(case hd=>rfl);(case hg=>rfl);(case hr=>first|(go_simp;done)|(go_simp;rfl))
    intro gb594 hg w43 hbox hb
    have n0_:=Aside0.mk (Kd.R_below (z4 HO571) hb)
    have n1_:=Aside0.mk (Kd.R_below (z4 HO578) hb)
    have n2_:=Aside0.mk (Kd.R_below (z4 HO584) hb)
    have n3_:=Aside0.mk (blk_below (g:=gb565) (o:= .cells #[.int .i64 a0_0,.slice A0_1 l0_1.length c0_1] 32 (0,0)) (z3 BK565) hb)
    have n4_:=Aside0.mk (blk_below (g:=gb566) (o:= .cells #[.int .i64 a1_0,.int .i64 a1_1,.int .i64 a1_2] 51 (0,0)) (z3 BK566) hb)
    have n5_:=Aside0.mk (blk_below (g:=gb580) (o:= .cells #[.int .i64 t575,.slice Ao30 t576.length co30] 24 (0,0)) (z3 BK580) hb)
    have n6_:=Aside0.mk (blk_below (g:=gb585) (o:= .cells #[.int .i64 t581,.slice Ao40 t582.length co40] 24 (0,0)) (z3 BK585) hb)
    have n7_:=Aside0.mk (below_step (zb4 HB GE565 GE566 GE580 GE585) hb)
    have n8_:=Aside0.mk (hbox)
    have n9_:=Aside0.mk ((by rw [hg];exact(below_size (zb4 HB GE565 GE566 GE580 GE585)):w.heap.size≤gb594))
    have n10_:=Aside0.mk ((by rw [hg];exact(below_size (zb4 HB GE565 GE566 GE580 GE585)):w.heap.size≤gb594))
    have n11_:=Aside0.mk ((by rw [hg];exact Nat.ne_of_lt (blk_lt (g:=gb565) (o:= .cells #[.int .i64 a0_0,.slice A0_1 l0_1.length c0_1] 32 (0,0)) (z3 BK565)):gb565≠gb594))
    have n12_:=Aside0.mk ((by rw [hg];exact Nat.ne_of_gt (blk_lt (g:=gb565) (o:= .cells #[.int .i64 a0_0,.slice A0_1 l0_1.length c0_1] 32 (0,0)) (z3 BK565)):gb594≠gb565))
    have n13_:=Aside0.mk ((by rw [hg];exact Nat.ne_of_lt (blk_lt (g:=gb566) (o:= .cells #[.int .i64 a1_0,.int .i64 a1_1,.int .i64 a1_2] 51 (0,0)) (z3 BK566)):gb566≠gb594))
    have n14_:=Aside0.mk ((by rw [hg];exact Nat.ne_of_gt (blk_lt (g:=gb566) (o:= .cells #[.int .i64 a1_0,.int .i64 a1_1,.int .i64 a1_2] 51 (0,0)) (z3 BK566)):gb594≠gb566))
    have n15_:=Aside0.mk ((by rw [hg];exact Nat.ne_of_lt (blk_lt (g:=gb580) (o:= .cells #[.int .i64 t575,.slice Ao30 t576.length co30] 24 (0,0)) (z3 BK580)):gb580≠gb594))
    have n16_:=Aside0.mk ((by rw [hg];exact Nat.ne_of_gt (blk_lt (g:=gb580) (o:= .cells #[.int .i64 t575,.slice Ao30 t576.length co30] 24 (0,0)) (z3 BK580)):gb594≠gb580))
    have n17_:=Aside0.mk ((by rw [hg];exact Nat.ne_of_lt (blk_lt (g:=gb585) (o:= .cells #[.int .i64 t581,.slice Ao40 t582.length co40] 24 (0,0)) (z3 BK585)):gb585≠gb594))
    have n18_:=Aside0.mk ((by rw [hg];exact Nat.ne_of_gt (blk_lt (g:=gb585) (o:= .cells #[.int .i64 t581,.slice Ao40 t582.length co40] 24 (0,0)) (z3 BK585)):gb594≠gb585))
    clear HO571
    clear HO578
    clear HO584
    clear BK565
    clear BK566
    clear BK580
    clear BK585
    clear HB
    have HO571:=n0_
    have HO578:=n1_
    have HO584:=n2_
    have BK565:=n3_
    have BK566:=n4_
    have BK580:=n5_
    have BK585:=n6_
    have HB:=n7_
    have BK594:=n8_
    have GW594:=n9_
    have GE594:=n10_
    have NB565_594:=n11_
    have NB594_565:=n12_
    have NB566_594:=n13_
    have NB594_566:=n14_
    have NB580_594:=n15_
    have NB594_580:=n16_
    have NB585_594:=n17_
    have NB594_585:=n18_
    clear n0_ n1_ n2_ n3_ n4_ n5_ n6_ n7_ n8_ n9_ n10_ n11_ n12_ n13_ n14_ n15_ n16_ n17_ n18_
    clear hb hbox hg
    refine hK.out _ _ ⟨(blk_cell BK585.out 0).trans rfl,(blk_cell BK585.out 1).trans rfl,(blk_cell BK566.out 0).trans rfl,(blk_cell BK566.out 1).trans rfl,(blk_cell BK566.out 2).trans rfl⟩ (fun hHeld=>?_)
    clear hK K
    refine norm_ (a':=?_) ?_ ?_
    rotate_left
    ·show Act.put _ (some 9) _=_
     simp only [Act.put,z5,z6,z7,i64_w,i32_w]
     rfl
    refine one_ (i:=2) (N:=some 34) #[t',t',t',f',f',f',f',t',f',f'] rfl rfl (one_of HT_.out (by kernel_rfl)) (by decide) (fun K hK=>?_)
    refine goes_ Try.func36 (by kernel_rfl) rfl #[.agg #[.int .i64 a1_0,.int .i64 a1_1,.int .i64 a1_2]] (by rfl) rfl rfl z2 ?_
    with_reducible refine(laws_toSeen.calls a1_0 a1_1 a1_2 t586 t587 t588 _ A14.out).mono ?_
    rintro e w44 ⟨rfl,hb⟩
    refine⟨_,rfl,?_⟩
    have n0_:=Aside0.mk (Kd.R_below (z4 HO571) hb)
    have n1_:=Aside0.mk (Kd.R_below (z4 HO578) hb)
    have n2_:=Aside0.mk (Kd.R_below (z4 HO584) hb)
    have n3_:=Aside0.mk (blk_below (g:=gb565) (o:= .cells #[.int .i64 a0_0,.slice A0_1 l0_1.length c0_1] 32 (0,0)) (z3 BK565) hb)
    have n4_:=Aside0.mk (blk_below (g:=gb566) (o:= .cells #[.int .i64 a1_0,.int .i64 a1_1,.int .i64 a1_2] 51 (0,0)) (z3 BK566) hb)
    have n5_:=Aside0.mk (blk_below (g:=gb580) (o:= .cells #[.int .i64 t575,.slice Ao30 t576.length co30] 24 (0,0)) (z3 BK580) hb)
    have n6_:=Aside0.mk (blk_below (g:=gb585) (o:= .cells #[.int .i64 t581,.slice Ao40 t582.length co40] 24 (0,0)) (z3 BK585) hb)
    have n7_:=Aside0.mk (blk_below (g:=gb594) (o:= .cells #[.int .i64 0,.slice none 0 0] 24 (0,0)) (z3 BK594) hb)
    have n8_:=Aside0.mk (below_step (zb5 HB GE565 GE566 GE580 GE585 GE594) hb)
    clear HO571
    clear HO578
    clear HO584
    clear BK565
    clear BK566
    clear BK580
    clear BK585
    clear BK594
    clear HB
    have HO571:=n0_
    have HO578:=n1_
    have HO584:=n2_
    have BK565:=n3_
    have BK566:=n4_
    have BK580:=n5_
    have BK585:=n6_
    have BK594:=n7_
    have HB:=n8_
    clear n0_ n1_ n2_ n3_ n4_ n5_ n6_ n7_ n8_
    (try clear hb)
    (try clear hb2)
    (try clear hk)
    (try clear hi)
    refine hK.out _ _ ⟨(blk_cell BK585.out 0).trans rfl,(blk_cell BK585.out 1).trans rfl,(blk_cell BK566.out 0).trans rfl,(blk_cell BK566.out 1).trans rfl,(blk_cell BK566.out 2).trans rfl⟩ (fun hHeld=>?_)
    clear hK K
    refine norm_ (a':=?_) ?_ ?_
    rotate_left
    ·show Act.put _ (some 34) _=_
     simp only [Act.put,z5,z6,z7,i64_w,i32_w]
     rfl
    refine one_ (i:=3) (N:=some 35) #[t',t',t',t',f',f',f',t',f',f'] rfl rfl (one_of HT_.out (by kernel_rfl)) (by decide) (fun K hK=>?_)
    refine goes_ Try.func37 (by kernel_rfl) rfl #[.agg #[.int .i64 t581,.slice Ao40 t582.length co40],.agg #[.int .i64 t586,.int .i64 t587,.int .i64 t588]] (by rfl) rfl rfl z2 ?_
    with_reducible refine(impl_Learn.calls k t581 _ _ t582 t586 t587 t588 t589 t590 t593 _ ?side1 ?side2 A15.out).mono ?_
    (case side1=>repeat(first|exact(Kd.R_reads' HO584.out).2.2|(with_reducible refine Kd.C_alloc ?_ _)|(with_reducible refine Kd.C_drewN ?_ _)|(with_reducible refine Kd.C_drew ?_)))
    (case side2=>exact(Kd.R_reads' HO584.out).2.1)
    rintro e w45 ⟨v591,rfl,ho0,hb⟩
    refine⟨_,rfl,?_⟩
    have n0_:=Aside0.mk (Kd.R_elder' (z4 HO571) (Kd.R_base ho0) hb)
    have n1_:=Aside0.mk (Kd.R_elder' (z4 HO578) (Kd.R_base ho0) hb)
    have n2_:=Aside0.mk (Kd.R_elder' (z4 HO584) (Kd.R_base ho0) hb)
    have n3_:=Aside0.mk (Kd.R_lower (Kd.R_new' (Kd.R_new' (Kd.R_new' ho0 (Kd.R_lt (z4 HO571))) (Kd.R_lt (z4 HO578))) (Kd.R_lt (z4 HO584))) (below_size (zb5 HB GE565 GE566 GE580 GE585 GE594)))
    have n4_:=Aside0.mk (blk_below (g:=gb565) (o:= .cells #[.int .i64 a0_0,.slice A0_1 l0_1.length c0_1] 32 (0,0)) (z3 BK565) hb)
    have n5_:=Aside0.mk (blk_below (g:=gb566) (o:= .cells #[.int .i64 a1_0,.int .i64 a1_1,.int .i64 a1_2] 51 (0,0)) (z3 BK566) hb)
    have n6_:=Aside0.mk (blk_below (g:=gb580) (o:= .cells #[.int .i64 t575,.slice Ao30 t576.length co30] 24 (0,0)) (z3 BK580) hb)
    have n7_:=Aside0.mk (blk_below (g:=gb585) (o:= .cells #[.int .i64 t581,.slice Ao40 t582.length co40] 24 (0,0)) (z3 BK585) hb)
    have n8_:=Aside0.mk (blk_below (g:=gb594) (o:= .cells #[.int .i64 0,.slice none 0 0] 24 (0,0)) (z3 BK594) hb)
    have n9_:=Aside0.mk (below_step (zb5 HB GE565 GE566 GE580 GE585 GE594) hb)
    clear HO571
    clear HO578
    clear HO584
    clear BK565
    clear BK566
    clear BK580
    clear BK585
    clear BK594
    clear HB
    have HO571:=n0_
    have HO578:=n1_
    have HO584:=n2_
    have HO592:=n3_
    have BK565:=n4_
    have BK566:=n5_
    have BK580:=n6_
    have BK585:=n7_
    have BK594:=n8_
    have HB:=n9_
    clear n0_ n1_ n2_ n3_ n4_ n5_ n6_ n7_ n8_ n9_
    (try clear hb)
    (try clear hb2)
    (try clear hk)
    (try clear hi)
    (try clear ho0)
    refine hK.out _ _ ⟨(blk_cell BK585.out 0).trans rfl,(blk_cell BK585.out 1).trans rfl,(blk_cell BK566.out 0).trans rfl,(blk_cell BK566.out 1).trans rfl,(blk_cell BK566.out 2).trans rfl⟩ (fun hHeld=>?_)
    clear hK K
    refine norm_ (a':=?_) ?_ ?_
    rotate_left
    ·show Act.put _ (some 35) _=_
     simp only [Act.put,z5,z6,z7,i64_w,i32_w]
     rfl
    refine pure_ (i:=4) (N:=some 31) (v:=?_) (a':=?_) #[t',t',t',t',t',f',f',t',f',f'] rfl rfl (any_of HT_.out (by kernel_rfl)) (fun _ _ _ h=>h) (Or.inl ⟨by rfl,?_⟩) ?_ ?_
    rotate_left
    ·intro w'
     go_simp
     with_reducible rfl
    rotate_left
    ·simp only [Act.put,z5,z6,z7,i64_w,i32_w]
     rfl
    refine pure_ (i:=5) (N:=some 36) (v:=?_) (a':=?_) #[t',t',t',t',t',t',f',t',f',f'] rfl rfl (any_of HT_.out (by kernel_rfl)) (fun _ _ _ h=>h) (Or.inl ⟨by rfl,?_⟩) ?_ ?_
    rotate_left
    ·intro w'
     go_simp
     with_reducible rfl
    rotate_left
    ·simp only [Act.put,z5,z6,z7,i64_w,i32_w]
     rfl
    refine pure_ (i:=6) (N:=some 37) (v:=?_) (a':=?_) #[t',t',t',t',t',t',t',t',f',f'] rfl rfl (any_of HT_.out (by kernel_rfl)) (fun _ _ _ h=>h) (Or.inl ⟨by rfl,?_⟩) ?_ ?_
    rotate_left
    ·intro w'
     go_simp
     with_reducible rfl
    rotate_left
    ·simp only [Act.put,z5,z6,z7,i64_w,i32_w]
     rfl
    exact norm_ (by simp only [putAll,Act.put,z5,z6,z7]) (hCont (v591,gb594) _ ⟨hHeld,(by(with_reducible repeat(first|apply Kd.R_alloc|apply Kd.R_drewN|apply Kd.R_drew));exact Kd.R_mono HO571.out (fun _ hk=>⟨hk.1.1,⟨hk.1.2,hk.2⟩⟩)),(by(with_reducible repeat(first|apply Kd.R_alloc|apply Kd.R_drewN|apply Kd.R_drew));exact Kd.R_mono HO578.out (fun _ hk=>⟨hk.1.1,⟨hk.1.2,hk.2⟩⟩)),(by(with_reducible repeat(first|apply Kd.R_alloc|apply Kd.R_drewN|apply Kd.R_drew));exact Kd.R_mono HO584.out (fun _ hk=>⟨hk.1.1,⟨hk.1.2,hk.2⟩⟩)),(by(with_reducible repeat(first|apply Kd.R_alloc|apply Kd.R_drewN|apply Kd.R_drew));exact Kd.R_mono HO592.out (fun _ hk=>⟨hk.1.1.2,⟨hk.1.2,hk.2⟩⟩)),(z3 BK565),(z3 BK566),(z3 BK580),(z3 BK585),(z3 BK594),GW594.out,GE594.out,NB565_594.out,NB594_565.out,NB566_594.out,NB594_566.out,NB580_594.out,NB594_580.out,NB585_594.out,NB594_585.out,(zb5 HB GE565 GE566 GE580 GE585 GE594)⟩)
  rintro⟨v591,gb594⟩ w46 ⟨hS_,h0_,h1_,h2_,h3_,h4_,h5_,h6_,h7_,h8_,h9_,h10_,h11_,h12_,h13_,h14_,h15_,h16_,h17_,h18_,h19_⟩
  have n0_:Aside0 (Kd.R k53 53 w46 w.heap.size (fun k_=>some k_≠ (.slice Ao30 t576.length co30:Value).ownBlock∧some k_≠ (.slice Ao40 t582.length co40:Value).ownBlock∧some k_≠ (v591:Value).ownBlock) v570 t569):=⟨h0_⟩
  have n1_:Aside0 (Kd.R k53 53 w46 w.heap.size (fun k_=>some k_≠ (v570:Value).ownBlock∧some k_≠ (.slice Ao40 t582.length co40:Value).ownBlock∧some k_≠ (v591:Value).ownBlock) (.slice Ao30 t576.length co30) t576):=⟨h1_⟩
  have n2_:Aside0 (Kd.R k53 53 w46 w.heap.size (fun k_=>some k_≠ (v570:Value).ownBlock∧some k_≠ (.slice Ao30 t576.length co30:Value).ownBlock∧some k_≠ (v591:Value).ownBlock) (.slice Ao40 t582.length co40) t582):=⟨h2_⟩
  have n3_:Aside0 (Kd.R k53 53 w46 w.heap.size (fun k_=>some k_≠ (v570:Value).ownBlock∧some k_≠ (.slice Ao30 t576.length co30:Value).ownBlock∧some k_≠ (.slice Ao40 t582.length co40:Value).ownBlock) v591 t590):=⟨h3_⟩
  have n4_:Aside0 (w46.heap[gb565]?=some (.cells #[.int .i64 a0_0,.slice A0_1 l0_1.length c0_1] 32 (0,0))):=⟨h4_⟩
  have n5_:Aside0 (w46.heap[gb566]?=some (.cells #[.int .i64 a1_0,.int .i64 a1_1,.int .i64 a1_2] 51 (0,0))):=⟨h5_⟩
  have n6_:Aside0 (w46.heap[gb580]?=some (.cells #[.int .i64 t575,.slice Ao30 t576.length co30] 24 (0,0))):=⟨h6_⟩
  have n7_:Aside0 (w46.heap[gb585]?=some (.cells #[.int .i64 t581,.slice Ao40 t582.length co40] 24 (0,0))):=⟨h7_⟩
  have n8_:Aside0 (w46.heap[gb594]?=some (.cells #[.int .i64 0,.slice none 0 0] 24 (0,0))):=⟨h8_⟩
  have n9_:Aside0 (w.heap.size≤gb594):=⟨h9_⟩
  have n10_:Aside0 (w.heap.size≤gb594):=⟨h10_⟩
  have n11_:Aside0 (gb565≠gb594):=⟨h11_⟩
  have n12_:Aside0 (gb594≠gb565):=⟨h12_⟩
  have n13_:Aside0 (gb566≠gb594):=⟨h13_⟩
  have n14_:Aside0 (gb594≠gb566):=⟨h14_⟩
  have n15_:Aside0 (gb580≠gb594):=⟨h15_⟩
  have n16_:Aside0 (gb594≠gb580):=⟨h16_⟩
  have n17_:Aside0 (gb585≠gb594):=⟨h17_⟩
  have n18_:Aside0 (gb594≠gb585):=⟨h18_⟩
  have n19_:Aside0 (Below w.heap.size w w46):=⟨h19_⟩
  clear HO571
  clear HO578
  clear HO584
  clear BK565
  clear BK566
  clear BK580
  clear BK585
  clear HB
  clear h0_ h1_ h2_ h3_ h4_ h5_ h6_ h7_ h8_ h9_ h10_ h11_ h12_ h13_ h14_ h15_ h16_ h17_ h18_ h19_
  have HO571:=n0_
  have HO578:=n1_
  have HO584:=n2_
  have HO592:=n3_
  have BK565:=n4_
  have BK566:=n5_
  have BK580:=n6_
  have BK585:=n7_
  have BK594:=n8_
  have GW594:=n9_
  have GE594:=n10_
  have NB565_594:=n11_
  have NB594_565:=n12_
  have NB566_594:=n13_
  have NB594_566:=n14_
  have NB580_594:=n15_
  have NB594_580:=n16_
  have NB585_594:=n17_
  have NB594_585:=n18_
  have HB:=n19_
  clear n0_ n1_ n2_ n3_ n4_ n5_ n6_ n7_ n8_ n9_ n10_ n11_ n12_ n13_ n14_ n15_ n16_ n17_ n18_ n19_
  have hHeld:w46.cell? ⟨gb585,0,none⟩=some (.int .i64 t581)∧w46.cell? ⟨gb585,1,none⟩=some (.slice Ao40 t582.length co40)∧w46.cell? ⟨gb566,0,none⟩=some (.int .i64 a1_0)∧w46.cell? ⟨gb566,1,none⟩=some (.int .i64 a1_1)∧w46.cell? ⟨gb566,2,none⟩=some (.int .i64 a1_2):=hS_
  obtain⟨Ao48,co48,eo48⟩:=Kd.R_slice HO592.out
  (first|subst eo48|(injection eo48 with f1_ f2_ f3_;have f4_:=f1_.symm;have f5_:=f3_.symm;clear f1_ f2_ f3_;subst f4_;subst f5_))
  refine norm_ (a':=?_) ?_ ?_
  rotate_left
  ·simp only [putAll,Act.put,z5,z6,z7]
   rfl
  refine one_ (i:=8) (N:=none) #[t',t',t',t',t',t',t',t',t',f'] rfl rfl (one_of HT_.out (by kernel_rfl)) (by decide) (fun K hK=>?_)
  have hs47:w46.cell? ⟨gb594,0,none⟩=some (.int .i64 0):=(blk_cell BK594.out 0).trans rfl
  have hfs47:=blk_frozen BK594.out 0
  have hns47_0:=NB565_594.out
  have hns47_1:=NB566_594.out
  have hns47_2:=NB580_594.out
  have hns47_3:=NB585_594.out
  have hms47_0:=NB594_565.out
  have hms47_1:=NB594_566.out
  have hms47_2:=NB594_580.out
  have hms47_3:=NB594_585.out
  have hs49:w46.cell? ⟨gb594,1,none⟩=some (.slice none 0 0):=(blk_cell BK594.out 1).trans rfl
  have hfs49:=blk_frozen BK594.out 1
  have hns49_0:=NB565_594.out
  have hns49_1:=NB566_594.out
  have hns49_2:=NB580_594.out
  have hns49_3:=NB585_594.out
  have hms49_0:=NB594_565.out
  have hms49_1:=NB594_566.out
  have hms49_2:=NB594_580.out
  have hms49_3:=NB594_585.out
  refine skip_ (w1:=?_) (by rfl) rfl ?_ ?_
  rotate_left
  ·go_simp
   rfl
  refine hK.out _ _ ⟨((cell_far (p:=⟨gb594,_,none⟩) NB585_594.out _).trans (((cell_far (p:=⟨gb594,_,none⟩) NB585_594.out _).trans (hHeld.1)))),((cell_far (p:=⟨gb594,_,none⟩) NB585_594.out _).trans (((cell_far (p:=⟨gb594,_,none⟩) NB585_594.out _).trans (hHeld.2.1)))),((cell_far (p:=⟨gb594,_,none⟩) NB566_594.out _).trans (((cell_far (p:=⟨gb594,_,none⟩) NB566_594.out _).trans (hHeld.2.2.1)))),((cell_far (p:=⟨gb594,_,none⟩) NB566_594.out _).trans (((cell_far (p:=⟨gb594,_,none⟩) NB566_594.out _).trans (hHeld.2.2.2.1)))),((cell_far (p:=⟨gb594,_,none⟩) NB566_594.out _).trans (((cell_far (p:=⟨gb594,_,none⟩) NB566_594.out _).trans (hHeld.2.2.2.2))))⟩ (fun hHeld=>?_)
  clear hK K
  refine pure_ (i:=9) (N:=some 10) (v:=?_) (a':=?_) #[t',t',t',t',t',t',t',t',t',t'] rfl rfl (any_of HT_.out (by kernel_rfl)) (fun _ _ _ h=>h) (Or.inl ⟨by rfl,?_⟩) ?_ ?_
  rotate_left
  ·intro w'
   go_simp
   with_reducible rfl
  rotate_left
  ·simp only [Act.put,z5,z6,z7,i64_w,i32_w]
   rfl
  refine done_ (done_of HT_.out (by kernel_rfl)) ?_
  go_upto_region 8 with (fail)
  go_cut [46] (fun v46 wc=> ∃ (kq:Nat) (x46_15:Bool),v46= .bool x46_15∧Aside0 (laws_FnExactLearn.j0 kq t579 t593 x46_15 a0_0 l0_1 a1_0 a1_1 a1_2 t575 t576 t581 t582 t589 t590=some r)∧Aside0 (kq≤k)∧Aside0 (Kd.R k53 53 wc w.heap.size (fun k_=>some k_≠ ((.slice Ao40 t582.length co40):Value).ownBlock∧some k_≠ ((.slice Ao48 t590.length co48):Value).ownBlock) (.slice Ao30 t576.length co30) t576)∧Aside0 (Kd.R k53 53 wc w.heap.size (fun k_=>some k_≠ ((.slice Ao30 t576.length co30):Value).ownBlock∧some k_≠ ((.slice Ao48 t590.length co48):Value).ownBlock) (.slice Ao40 t582.length co40) t582)∧Aside0 (Kd.R k53 53 wc w.heap.size (fun k_=>some k_≠ ((.slice Ao30 t576.length co30):Value).ownBlock∧some k_≠ ((.slice Ao40 t582.length co40):Value).ownBlock) (.slice Ao48 t590.length co48) t590)∧Aside0 (wc.heap[gb565]?=some (.cells #[.int .i64 a0_0,(.slice A0_1 l0_1.length c0_1)] 32 (0,0)))∧Aside0 (wc.heap[gb566]?=some (.cells #[.int .i64 a1_0,.int .i64 a1_1,.int .i64 a1_2] 51 (0,0)))∧Aside0 (wc.heap[gb580]?=some (.cells #[.int .i64 t575,(.slice Ao30 t576.length co30)] 24 (0,0)))∧Aside0 (wc.heap[gb585]?=some (.cells #[.int .i64 t581,(.slice Ao40 t582.length co40)] 24 (0,0)))∧Aside0 (wc.heap[gb594]?=some (.cells #[.int .i64 t589,(.slice Ao48 t590.length co48)] 24 (0,0)))∧Aside0 (Below w.heap.size w wc))
  case first=>
   have H:=HC16.out
   clear HC16
   replace H:=Option.bind_eq_some_iff.mp H
   obtain⟨t595,A500,H⟩:=H
   replace H:(if t595=true then(laws_FnExactLearn.j0 k t579 t593 (t593 !=t579) a0_0 l0_1 a1_0 a1_1 a1_2 t575 t576 t581 t582 t589 t590) else(laws_FnExactLearn.j0 k t579 t593 true a0_0 l0_1 a1_0 a1_1 a1_2 t575 t576 t581 t582 t589 t590))=some r:=H
   have A50:=Aside0.mk A500
   clear A500
   by_cases c51:t595=true
   ·subst c51
    have H1:(laws_FnExactLearn.j0 k t579 t593 (t593 !=t579) a0_0 l0_1 a1_0 a1_1 a1_2 t575 t576 t581 t582 t589 t590)=some r:=by rw [if_pos rfl] at H;exact H
    clear H
    have H:=H1
    clear H1
    have H':=Aside0.mk H
    clear H
    have hnb52:=NB594_565.out
    have hnc52:=NB565_594.out
    have hnb53:=NB594_566.out
    have hnc53:=NB566_594.out
    have hnb54:=NB594_580.out
    have hnc54:=NB580_594.out
    have hnb55:=NB594_585.out
    have hnc55:=NB585_594.out
    have hcz56_0:w46.cell? ⟨gb594,0,none⟩=some (.int .i64 0):=(blk_cell BK594.out 0).trans rfl
    have hcz56_1:w46.cell? ⟨gb594,1,none⟩=some (.slice none 0 0):=(blk_cell BK594.out 1).trans rfl
    have hfz56_0:=blk_frozen BK594.out 0
    have hfz56_1:=blk_frozen BK594.out 1
    have hnb57:=NB580_565.out
    have hnc57:=NB565_580.out
    have hnb58:=NB580_566.out
    have hnc58:=NB566_580.out
    have hnb59:=NB580_585.out
    have hnc59:=NB585_580.out
    have hcz60_0:w46.cell? ⟨gb580,0,none⟩=some (.int .i64 t575):=(blk_cell BK580.out 0).trans rfl
    have hcz60_1:w46.cell? ⟨gb580,1,none⟩=some (.slice Ao30 t576.length co30):=(blk_cell BK580.out 1).trans rfl
    have hfz60_0:=blk_frozen BK580.out 0
    have hfz60_1:=blk_frozen BK580.out 1
    go_wp2_with (first|((with_reducible refine gate_callee (f:=14) rfl ?_);refine goesL_ (some 40) rfl rfl Try.func14 (by kernel_rfl) rfl #[.agg #[.int .i64 t589,.slice Ao48 t590.length co48],.agg #[.int .i64 t575,.slice Ao30 t576.length co30]] rfl z2 ?_;(with_reducible refine(laws_eqTable.calls k t589 _ _ t590 t575 _ _ t576 true _ ?side1 ?side2 ?side3 ?side4 A50.out).mono ?_);(case side1=>refine(Kd.R_reads' (e:=53) (base:=w.heap.size) (ok:=fun k_=>(some k_≠ (v570:Value).ownBlock∧ (some k_≠ (.slice Ao30 t576.length co30:Value).ownBlock∧some k_≠ (.slice Ao40 t582.length co40:Value).ownBlock))) (n:=t590.length) (c:=co48) ?_).2.2;exact(by(with_reducible repeat(first|apply Kd.R_alloc|apply Kd.R_drewN|apply Kd.R_drew));exact(Kd.R_mono (Kd.R_far (p:=⟨gb594,1,none⟩) (Kd.R_far (p:=⟨gb594,0,none⟩) (Kd.R_types HO592.out BK594.out (by decide)) (fun _ hk=>hk.2) (.int .i64 t589)) (fun _ hk=>hk.2) (.slice Ao48 t590.length co48)) (fun _ h_=>h_.1))));(case side2=>exact(Kd.R_reads' HO592.out).2.1);(case side3=>refine(Kd.R_reads' (e:=53) (base:=w.heap.size) (ok:=fun k_=>(some k_≠ (v570:Value).ownBlock∧ (some k_≠ (.slice Ao40 t582.length co40:Value).ownBlock∧some k_≠ (.slice Ao48 t590.length co48:Value).ownBlock))) (n:=t576.length) (c:=co30) ?_).2.2;exact(by(with_reducible repeat(first|apply Kd.R_alloc|apply Kd.R_drewN|apply Kd.R_drew));exact(Kd.R_mono (Kd.R_far (p:=⟨gb594,1,none⟩) (Kd.R_far (p:=⟨gb594,0,none⟩) (Kd.R_types HO578.out BK594.out (by decide)) (fun _ hk=>hk.2) (.int .i64 t589)) (fun _ hk=>hk.2) (.slice Ao48 t590.length co48)) (fun _ h_=>h_.1))));(case side4=>exact(Kd.R_reads' HO578.out).2.1);rintro e w61 ⟨rfl,hb⟩;refine⟨_,rfl,?_⟩;have n0_:=Aside0.mk (Kd.R_below (by(with_reducible repeat(first|apply Kd.R_alloc|apply Kd.R_drewN|apply Kd.R_drew));exact(Kd.R_mono (Kd.R_far (p:=⟨gb594,1,none⟩) (Kd.R_far (p:=⟨gb594,0,none⟩) (Kd.R_types HO571.out BK594.out (by decide)) (fun _ hk=>hk.2) (.int .i64 t589)) (fun _ hk=>hk.2) (.slice Ao48 t590.length co48)) (fun _ h_=>h_.1))) hb);have n1_:=Aside0.mk (Kd.R_below (by(with_reducible repeat(first|apply Kd.R_alloc|apply Kd.R_drewN|apply Kd.R_drew));exact(Kd.R_mono (Kd.R_far (p:=⟨gb594,1,none⟩) (Kd.R_far (p:=⟨gb594,0,none⟩) (Kd.R_types HO578.out BK594.out (by decide)) (fun _ hk=>hk.2) (.int .i64 t589)) (fun _ hk=>hk.2) (.slice Ao48 t590.length co48)) (fun _ h_=>h_.1))) hb);have n2_:=Aside0.mk (Kd.R_below (by(with_reducible repeat(first|apply Kd.R_alloc|apply Kd.R_drewN|apply Kd.R_drew));exact(Kd.R_mono (Kd.R_far (p:=⟨gb594,1,none⟩) (Kd.R_far (p:=⟨gb594,0,none⟩) (Kd.R_types HO584.out BK594.out (by decide)) (fun _ hk=>hk.2) (.int .i64 t589)) (fun _ hk=>hk.2) (.slice Ao48 t590.length co48)) (fun _ h_=>h_.1))) hb);have n3_:=Aside0.mk (Kd.R_below (by(with_reducible repeat(first|apply Kd.R_alloc|apply Kd.R_drewN|apply Kd.R_drew));exact(Kd.R_mono (Kd.R_far (p:=⟨gb594,1,none⟩) (Kd.R_far (p:=⟨gb594,0,none⟩) (Kd.R_types HO592.out BK594.out (by decide)) (fun _ hk=>hk.2) (.int .i64 t589)) (fun _ hk=>hk.2) (.slice Ao48 t590.length co48)) (fun _ h_=>h_.1))) hb);have n4_:=Aside0.mk (blk_below (g:=gb565) (o:= .cells #[.int .i64 a0_0,.slice A0_1 l0_1.length c0_1] 32 (0,0)) (by(with_reducible repeat(first|refine blk_drewN ?_ _|refine blk_drew ?_ |refine blk_alloc ?_ _));refine blk_far ?_ NB565_594.out _;(with_reducible repeat(first|refine blk_drewN ?_ _|refine blk_drew ?_ |refine blk_alloc ?_ _));refine blk_far ?_ NB565_594.out _;(with_reducible repeat(first|refine blk_drewN ?_ _|refine blk_drew ?_ |refine blk_alloc ?_ _));exact BK565.out) hb);have n5_:=Aside0.mk (blk_below (g:=gb566) (o:= .cells #[.int .i64 a1_0,.int .i64 a1_1,.int .i64 a1_2] 51 (0,0)) (by(with_reducible repeat(first|refine blk_drewN ?_ _|refine blk_drew ?_ |refine blk_alloc ?_ _));refine blk_far ?_ NB566_594.out _;(with_reducible repeat(first|refine blk_drewN ?_ _|refine blk_drew ?_ |refine blk_alloc ?_ _));refine blk_far ?_ NB566_594.out _;(with_reducible repeat(first|refine blk_drewN ?_ _|refine blk_drew ?_ |refine blk_alloc ?_ _));exact BK566.out) hb);have n6_:=Aside0.mk (blk_below (g:=gb580) (o:= .cells #[.int .i64 t575,.slice Ao30 t576.length co30] 24 (0,0)) (by(with_reducible repeat(first|refine blk_drewN ?_ _|refine blk_drew ?_ |refine blk_alloc ?_ _));refine blk_far ?_ NB580_594.out _;(with_reducible repeat(first|refine blk_drewN ?_ _|refine blk_drew ?_ |refine blk_alloc ?_ _));refine blk_far ?_ NB580_594.out _;(with_reducible repeat(first|refine blk_drewN ?_ _|refine blk_drew ?_ |refine blk_alloc ?_ _));exact BK580.out) hb);have n7_:=Aside0.mk (blk_below (g:=gb585) (o:= .cells #[.int .i64 t581,.slice Ao40 t582.length co40] 24 (0,0)) (by(with_reducible repeat(first|refine blk_drewN ?_ _|refine blk_drew ?_ |refine blk_alloc ?_ _));refine blk_far ?_ NB585_594.out _;(with_reducible repeat(first|refine blk_drewN ?_ _|refine blk_drew ?_ |refine blk_alloc ?_ _));refine blk_far ?_ NB585_594.out _;(with_reducible repeat(first|refine blk_drewN ?_ _|refine blk_drew ?_ |refine blk_alloc ?_ _));exact BK585.out) hb);have n8_:=Aside0.mk (blk_below (g:=gb594) (o:= .cells #[.int .i64 t589,.slice Ao48 t590.length co48] 24 (0,0)) (by(with_reducible repeat(first|refine blk_drewN ?_ _|refine blk_drew ?_ |refine blk_alloc ?_ _));refine blk_put (cs:= #[.int .i64 t589,.slice none 0 0]) ?_ 1 _ rfl;(with_reducible repeat(first|refine blk_drewN ?_ _|refine blk_drew ?_ |refine blk_alloc ?_ _));refine blk_put (cs:= #[.int .i64 0,.slice none 0 0]) ?_ 0 _ rfl;(with_reducible repeat(first|refine blk_drewN ?_ _|refine blk_drew ?_ |refine blk_alloc ?_ _));exact BK594.out) hb);have n9_:=Aside0.mk (below_step (zb5 HB GE565 GE566 GE580 GE585 GE594) hb);clear HO571;clear HO578;clear HO584;clear HO592;clear BK565;clear BK566;clear BK580;clear BK585;clear BK594;clear HB;have HO571:=n0_;have HO578:=n1_;have HO584:=n2_;have HO592:=n3_;have BK565:=n4_;have BK566:=n5_;have BK580:=n6_;have BK585:=n7_;have BK594:=n8_;have HB:=n9_;clear n0_ n1_ n2_ n3_ n4_ n5_ n6_ n7_ n8_ n9_;(try clear hb);(try clear hb2);(try clear hk);(try clear hi)))
    go_meet
    case rel=>exact⟨_,((t593 !=t579)),(by first|rfl|(simp;done)|(simp [*];done)),H',⟨by first|omega|exact Nat.le_refl _⟩,⟨by(with_reducible repeat(first|apply Kd.R_alloc|apply Kd.R_drewN|apply Kd.R_drew));exact Kd.R_mono HO578.out (fun _ hk=>⟨hk.2.1,hk.2.2⟩)⟩,⟨by(with_reducible repeat(first|apply Kd.R_alloc|apply Kd.R_drewN|apply Kd.R_drew));exact Kd.R_mono HO584.out (fun _ hk=>⟨hk.2.1,hk.2.2⟩)⟩,⟨by(with_reducible repeat(first|apply Kd.R_alloc|apply Kd.R_drewN|apply Kd.R_drew));exact Kd.R_mono HO592.out (fun _ hk=>⟨hk.2.1,hk.2.2⟩)⟩,⟨by(with_reducible repeat(first|refine blk_drewN ?_ _|refine blk_drew ?_ |refine blk_alloc ?_ _));exact BK565.out⟩,⟨by(with_reducible repeat(first|refine blk_drewN ?_ _|refine blk_drew ?_ |refine blk_alloc ?_ _));exact BK566.out⟩,⟨by(with_reducible repeat(first|refine blk_drewN ?_ _|refine blk_drew ?_ |refine blk_alloc ?_ _));exact BK580.out⟩,⟨by(with_reducible repeat(first|refine blk_drewN ?_ _|refine blk_drew ?_ |refine blk_alloc ?_ _));exact BK585.out⟩,⟨by(with_reducible repeat(first|refine blk_drewN ?_ _|refine blk_drew ?_ |refine blk_alloc ?_ _));exact BK594.out⟩,⟨by repeat(first|(with_reducible first|exact HB.out|apply below_alloc|apply pw_below_drewN|apply below_drew1|refine below_set ?_ GE565.out|refine below_set ?_ GE566.out|refine below_set ?_ GE580.out|refine below_set ?_ GE585.out|refine below_set ?_ GE594.out)|exact HB.out)⟩⟩
   ·replace c51:=Bool.eq_false_iff.mpr c51
    subst c51
    have H1:(laws_FnExactLearn.j0 k t579 t593 true a0_0 l0_1 a1_0 a1_1 a1_2 t575 t576 t581 t582 t589 t590)=some r:=by rw [if_neg (show ¬ (false=true) by decide)] at H;exact H
    clear H
    have H:=H1
    clear H1
    exact absurd (H.trans (congrArg some HRT.out)) (by cases k<;>simp [laws_FnExactLearn.j0])
  case rest=>
   clear HC16
   try clear c1
   try clear p2
   try clear c3
   try clear c5
   try clear c14
   try clear c36
   try clear c37
   try clear c51
   try clear c52
   try clear c53
   try clear c54
   try clear c55
   try clear c57
   try clear c58
   try clear c59
   try clear hcz56_0
   try clear hcz56_1
   try clear hcz60_0
   try clear hcz60_1
   try clear hfz56_0
   try clear hfz56_1
   try clear hfz60_0
   try clear hfz60_1
   obtain⟨kq,x46_15,rfl,HA,HJ15,HO_581001,HO_586001,HO_595001,BK565,BK566,BK580,BK585,BK594,HB⟩:=hcut
   cases kq with
   |zero=>exact absurd HA.out (by simp [laws_FnExactLearn.j0])
   |succ kj15=>
    have H:=HA.out
    clear HA
    simp only [laws_FnExactLearn.j0] at H
    by_cases c62:x46_15=true
    ·subst c62
     have H1:(some false)=some r:=by rw [if_pos rfl] at H;exact H
     clear H
     have H:=H1
     clear H1
     exact absurd ((Option.some.inj H).trans HRT.out) (by decide)
    ·replace c62:=Bool.eq_false_iff.mpr c62
     subst c62
     have H1:((laws_toTable.f kj15 a0_0 l0_1).bind fun bt596=>((laws_eqTable.f kj15 t581 t582 bt596.1 bt596.2).bind fun t600=>(if t600=true then((laws_markTable.f kj15 t581 t582 1).bind fun bt601=>(if bt601.1< 0 then(laws_FnExactLearn.j1 kj15 t579 true a0_0 l0_1 a1_0 a1_1 a1_2 t575 t576 t589 t590) else((laws_eqTable.f kj15 t589 t590 t575 t576).bind fun t603=>(if t603=true then(laws_FnExactLearn.j1 kj15 t579 (t593 !=t579) a0_0 l0_1 a1_0 a1_1 a1_2 t575 t576 t589 t590) else(laws_FnExactLearn.j1 kj15 t579 true a0_0 l0_1 a1_0 a1_1 a1_2 t575 t576 t589 t590))))) else(some false))))=some r:=by rw [if_neg (show ¬ (false=true) by decide)] at H;exact H
     clear H
     have H:=H1
     clear H1
     replace H:=Option.bind_eq_some_iff.mp H
     obtain⟨⟨t596,t597⟩,A630,H⟩:=H
     replace H:((laws_eqTable.f kj15 t581 t582 t596 t597).bind fun t600=>(if t600=true then((laws_markTable.f kj15 t581 t582 1).bind fun bt601=>(if bt601.1< 0 then(laws_FnExactLearn.j1 kj15 t579 true a0_0 l0_1 a1_0 a1_1 a1_2 t575 t576 t589 t590) else((laws_eqTable.f kj15 t589 t590 t575 t576).bind fun t603=>(if t603=true then(laws_FnExactLearn.j1 kj15 t579 (t593 !=t579) a0_0 l0_1 a1_0 a1_1 a1_2 t575 t576 t589 t590) else(laws_FnExactLearn.j1 kj15 t579 true a0_0 l0_1 a1_0 a1_1 a1_2 t575 t576 t589 t590))))) else(some false)))=some r:=H
     have A63:=Aside0.mk A630
     clear A630
     replace H:=Option.bind_eq_some_iff.mp H
     obtain⟨t600,A640,H⟩:=H
     replace H:(if t600=true then((laws_markTable.f kj15 t581 t582 1).bind fun bt601=>(if bt601.1< 0 then(laws_FnExactLearn.j1 kj15 t579 true a0_0 l0_1 a1_0 a1_1 a1_2 t575 t576 t589 t590) else((laws_eqTable.f kj15 t589 t590 t575 t576).bind fun t603=>(if t603=true then(laws_FnExactLearn.j1 kj15 t579 (t593 !=t579) a0_0 l0_1 a1_0 a1_1 a1_2 t575 t576 t589 t590) else(laws_FnExactLearn.j1 kj15 t579 true a0_0 l0_1 a1_0 a1_1 a1_2 t575 t576 t589 t590))))) else(some false))=some r:=H
     have A64:=Aside0.mk A640
     clear A640
     by_cases c65:t600=true
     ·subst c65
      have H1:((laws_markTable.f kj15 t581 t582 1).bind fun bt601=>(if bt601.1< 0 then(laws_FnExactLearn.j1 kj15 t579 true a0_0 l0_1 a1_0 a1_1 a1_2 t575 t576 t589 t590) else((laws_eqTable.f kj15 t589 t590 t575 t576).bind fun t603=>(if t603=true then(laws_FnExactLearn.j1 kj15 t579 (t593 !=t579) a0_0 l0_1 a1_0 a1_1 a1_2 t575 t576 t589 t590) else(laws_FnExactLearn.j1 kj15 t579 true a0_0 l0_1 a1_0 a1_1 a1_2 t575 t576 t589 t590)))))=some r:=by rw [if_pos rfl] at H;exact H
      clear H
      have H:=H1
      clear H1
      replace H:=Option.bind_eq_some_iff.mp H
      obtain⟨⟨t601,t602⟩,A660,H⟩:=H
      replace H:(if t601< 0 then(laws_FnExactLearn.j1 kj15 t579 true a0_0 l0_1 a1_0 a1_1 a1_2 t575 t576 t589 t590) else((laws_eqTable.f kj15 t589 t590 t575 t576).bind fun t603=>(if t603=true then(laws_FnExactLearn.j1 kj15 t579 (t593 !=t579) a0_0 l0_1 a1_0 a1_1 a1_2 t575 t576 t589 t590) else(laws_FnExactLearn.j1 kj15 t579 true a0_0 l0_1 a1_0 a1_1 a1_2 t575 t576 t589 t590))))=some r:=H
      have A66:=Aside0.mk A660
      clear A660
      have HC67:=Aside0.mk H
      clear H
      try go_wp2
      have n0_:=Aside0.mk (Kd.R_drew HO_581001.out)
      have n1_:=Aside0.mk (Kd.R_drew HO_586001.out)
      have n2_:=Aside0.mk (Kd.R_drew HO_595001.out)
      have n3_:=Aside0.mk (blk_drew BK565.out)
      have n4_:=Aside0.mk (blk_drew BK566.out)
      have n5_:=Aside0.mk (blk_drew BK580.out)
      have n6_:=Aside0.mk (blk_drew BK585.out)
      have n7_:=Aside0.mk (blk_drew BK594.out)
      have n8_:=Aside0.mk (below_drew1 HB.out)
      clear HO_581001
      clear HO_586001
      clear HO_595001
      clear BK565
      clear BK566
      clear BK580
      clear BK585
      clear BK594
      clear HB
      have HO_581001:=n0_
      have HO_586001:=n1_
      have HO_595001:=n2_
      have BK565:=n3_
      have BK566:=n4_
      have BK580:=n5_
      have BK585:=n6_
      have BK594:=n7_
      have HB:=n8_
      clear n0_ n1_ n2_ n3_ n4_ n5_ n6_ n7_ n8_
      refine start_ (n:=5) (S:=fun w'=>w'.cell? ⟨gb585,0,none⟩=some (.int .i64 t581)∧w'.cell? ⟨gb585,1,none⟩=some (.slice Ao40 t582.length co40)∧w'.cell? ⟨gb565,0,none⟩=some (.int .i64 a0_0)∧w'.cell? ⟨gb565,1,none⟩=some (.slice A0_1 l0_1.length c0_1)) (ds:= []) #[f',f',f',f',f'] (by kernel_rfl) rfl rfl ⟨(blk_cell BK585.out 0).trans rfl,(blk_cell BK585.out 1).trans rfl,(blk_cell BK565.out 0).trans rfl,(blk_cell BK565.out 1).trans rfl⟩ (fun hHeld=>?_)
      generalize wc.drew=w68 at HO_581001 HO_586001 HO_595001 BK565 BK566 BK580 BK585 BK594 HB hHeld ⊢
      refine take_ (i:=0) (N:=some 47) (v:=?_) (a':=?_) #[t',f',f',f',f'] rfl rfl (by kernel_rfl) (fun _ _ _ h=>h) (Or.inl ⟨by rfl,?_⟩) hHeld ?_ ?_
      rotate_left
      ·rintro w' ⟨s0,s1,s2,s3⟩
       go_simp
       with_reducible rfl
      rotate_left
      ·simp only [Act.put,z5,z6,z7,i64_w,i32_w]
       rfl
      refine take_ (i:=1) (N:=some 48) (v:=?_) (a':=?_) #[t',t',f',f',f'] rfl rfl (by kernel_rfl) (fun _ _ _ h=>h) (Or.inl ⟨by rfl,?_⟩) hHeld ?_ ?_
      rotate_left
      ·rintro w' ⟨s0,s1,s2,s3⟩
       go_simp
       with_reducible rfl
      rotate_left
      ·simp only [Act.put,z5,z6,z7,i64_w,i32_w]
       rfl
      refine one_ (i:=2) (N:=some 49) #[t',t',t',f',f'] rfl rfl (by kernel_rfl) (by decide) (fun K hK=>?_)
      refine goes_ Try.func19 (by kernel_rfl) rfl #[.agg #[.int .i64 a0_0,.slice A0_1 l0_1.length c0_1]] (by rfl) rfl rfl z2 ?_
      with_reducible refine(laws_toTable.calls kj15 a0_0 _ _ l0_1 t596 t597 _ ?side1 ?side2 A63.out).mono ?_
      (case side1=>repeat(first|exact(Kd.C_below HR0_1.out HB.out)|(with_reducible refine Kd.C_alloc ?_ _)|(with_reducible refine Kd.C_drewN ?_ _)|(with_reducible refine Kd.C_drew ?_)))
      (case side2=>exact HC0_1.out)
      rintro e w69 ⟨v598,rfl,ho0,hb⟩
      refine⟨_,rfl,?_⟩
      have n0_:=Aside0.mk (Kd.R_elder' (z4 HO_581001) (Kd.R_base ho0) hb)
      have n1_:=Aside0.mk (Kd.R_elder' (z4 HO_586001) (Kd.R_base ho0) hb)
      have n2_:=Aside0.mk (Kd.R_elder' (z4 HO_595001) (Kd.R_base ho0) hb)
      have n3_:=Aside0.mk (Kd.R_lower (Kd.R_new' (Kd.R_new' (Kd.R_new' ho0 (Kd.R_lt (z4 HO_581001))) (Kd.R_lt (z4 HO_586001))) (Kd.R_lt (z4 HO_595001))) (below_size (zb5 HB GE565 GE566 GE580 GE585 GE594)))
      have n4_:=Aside0.mk (blk_below (g:=gb565) (o:= .cells #[.int .i64 a0_0,.slice A0_1 l0_1.length c0_1] 32 (0,0)) (z3 BK565) hb)
      have n5_:=Aside0.mk (blk_below (g:=gb566) (o:= .cells #[.int .i64 a1_0,.int .i64 a1_1,.int .i64 a1_2] 51 (0,0)) (z3 BK566) hb)
      have n6_:=Aside0.mk (blk_below (g:=gb580) (o:= .cells #[.int .i64 t575,.slice Ao30 t576.length co30] 24 (0,0)) (z3 BK580) hb)
      have n7_:=Aside0.mk (blk_below (g:=gb585) (o:= .cells #[.int .i64 t581,.slice Ao40 t582.length co40] 24 (0,0)) (z3 BK585) hb)
      have n8_:=Aside0.mk (blk_below (g:=gb594) (o:= .cells #[.int .i64 t589,.slice Ao48 t590.length co48] 24 (0,0)) (z3 BK594) hb)
      have n9_:=Aside0.mk (below_step (zb5 HB GE565 GE566 GE580 GE585 GE594) hb)
      clear HO_581001
      clear HO_586001
      clear HO_595001
      clear BK565
      clear BK566
      clear BK580
      clear BK585
      clear BK594
      clear HB
      have HO_581001:=n0_
      have HO_586001:=n1_
      have HO_595001:=n2_
      have HO599:=n3_
      have BK565:=n4_
      have BK566:=n5_
      have BK580:=n6_
      have BK585:=n7_
      have BK594:=n8_
      have HB:=n9_
      clear n0_ n1_ n2_ n3_ n4_ n5_ n6_ n7_ n8_ n9_
      (try clear hb)
      (try clear hb2)
      (try clear hk)
      (try clear hi)
      (try clear ho0)
      obtain⟨Ao70,co70,eo70⟩:=Kd.R_slice HO599.out
      (first|subst eo70|(injection eo70 with f1_ f2_ f3_;have f4_:=f1_.symm;have f5_:=f3_.symm;clear f1_ f2_ f3_;subst f4_;subst f5_))
      refine hK.out _ _ ⟨(blk_cell BK585.out 0).trans rfl,(blk_cell BK585.out 1).trans rfl,(blk_cell BK565.out 0).trans rfl,(blk_cell BK565.out 1).trans rfl⟩ (fun hHeld=>?_)
      clear hK K
      refine norm_ (a':=?_) ?_ ?_
      rotate_left
      ·show Act.put _ (some 49) _=_
       simp only [Act.put,z5,z6,z7,i64_w,i32_w]
       rfl
      refine one_ (i:=3) (N:=some 50) #[t',t',t',t',f'] rfl rfl (by kernel_rfl) (by decide) (fun K hK=>?_)
      refine goes_ Try.func14 (by kernel_rfl) rfl #[.agg #[.int .i64 t581,.slice Ao40 t582.length co40],.agg #[.int .i64 t596,.slice Ao70 t597.length co70]] (by rfl) rfl rfl z2 ?_
      with_reducible refine(laws_eqTable.calls kj15 t581 _ _ t582 t596 _ _ t597 true _ ?side1 ?side2 ?side3 ?side4 A64.out).mono ?_
      (case side1=>repeat(first|exact(Kd.R_reads' HO_586001.out).2.2|(with_reducible refine Kd.C_alloc ?_ _)|(with_reducible refine Kd.C_drewN ?_ _)|(with_reducible refine Kd.C_drew ?_)))
      (case side2=>exact(Kd.R_reads' HO_586001.out).2.1)
      (case side3=>repeat(first|exact(Kd.R_reads' HO599.out).2.2|(with_reducible refine Kd.C_alloc ?_ _)|(with_reducible refine Kd.C_drewN ?_ _)|(with_reducible refine Kd.C_drew ?_)))
      (case side4=>exact(Kd.R_reads' HO599.out).2.1)
      rintro e w71 ⟨rfl,hb⟩
      refine⟨_,rfl,?_⟩
      have n0_:=Aside0.mk (Kd.R_below (z4 HO_581001) hb)
      have n1_:=Aside0.mk (Kd.R_below (z4 HO_586001) hb)
      have n2_:=Aside0.mk (Kd.R_below (z4 HO_595001) hb)
      have n3_:=Aside0.mk (Kd.R_below (z4 HO599) hb)
      have n4_:=Aside0.mk (blk_below (g:=gb565) (o:= .cells #[.int .i64 a0_0,.slice A0_1 l0_1.length c0_1] 32 (0,0)) (z3 BK565) hb)
      have n5_:=Aside0.mk (blk_below (g:=gb566) (o:= .cells #[.int .i64 a1_0,.int .i64 a1_1,.int .i64 a1_2] 51 (0,0)) (z3 BK566) hb)
      have n6_:=Aside0.mk (blk_below (g:=gb580) (o:= .cells #[.int .i64 t575,.slice Ao30 t576.length co30] 24 (0,0)) (z3 BK580) hb)
      have n7_:=Aside0.mk (blk_below (g:=gb585) (o:= .cells #[.int .i64 t581,.slice Ao40 t582.length co40] 24 (0,0)) (z3 BK585) hb)
      have n8_:=Aside0.mk (blk_below (g:=gb594) (o:= .cells #[.int .i64 t589,.slice Ao48 t590.length co48] 24 (0,0)) (z3 BK594) hb)
      have n9_:=Aside0.mk (below_step (zb5 HB GE565 GE566 GE580 GE585 GE594) hb)
      clear HO_581001
      clear HO_586001
      clear HO_595001
      clear HO599
      clear BK565
      clear BK566
      clear BK580
      clear BK585
      clear BK594
      clear HB
      have HO_581001:=n0_
      have HO_586001:=n1_
      have HO_595001:=n2_
      have HO599:=n3_
      have BK565:=n4_
      have BK566:=n5_
      have BK580:=n6_
      have BK585:=n7_
      have BK594:=n8_
      have HB:=n9_
      clear n0_ n1_ n2_ n3_ n4_ n5_ n6_ n7_ n8_ n9_
      (try clear hb)
      (try clear hb2)
      (try clear hk)
      (try clear hi)
      refine hK.out _ _ ⟨(blk_cell BK585.out 0).trans rfl,(blk_cell BK585.out 1).trans rfl,(blk_cell BK565.out 0).trans rfl,(blk_cell BK565.out 1).trans rfl⟩ (fun hHeld=>?_)
      clear hK K
      refine norm_ (a':=?_) ?_ ?_
      rotate_left
      ·show Act.put _ (some 50) _=_
       simp only [Act.put,z5,z6,z7,i64_w,i32_w]
       rfl
      refine pure_ (i:=4) (N:=some 51) (v:=?_) (a':=?_) #[t',t',t',t',t'] rfl rfl (by kernel_rfl) (fun _ _ _ h=>h) (Or.inl ⟨by rfl,?_⟩) ?_ ?_
      rotate_left
      ·intro w'
       go_simp
       with_reducible rfl
      rotate_left
      ·simp only [Act.put,z5,z6,z7,i64_w,i32_w]
       rfl
      refine done_ (by kernel_rfl) ?_
      have hnb72:=NB585_565.out
      have hnc72:=NB565_585.out
      have hnb73:=NB585_566.out
      have hnc73:=NB566_585.out
      have hnb74:=NB585_580.out
      have hnc74:=NB580_585.out
      have hnb75:=NB585_594.out
      have hnc75:=NB594_585.out
      have hcz76_0:w71.cell? ⟨gb585,0,none⟩=some (.int .i64 t581):=(blk_cell BK585.out 0).trans rfl
      have hcz76_1:w71.cell? ⟨gb585,1,none⟩=some (.slice Ao40 t582.length co40):=(blk_cell BK585.out 1).trans rfl
      have hfz76_0:=blk_frozen BK585.out 0
      have hfz76_1:=blk_frozen BK585.out 1
      go_upto_region 14 with (first|((with_reducible refine gate_callee (f:=15) rfl ?_);refine goesL_ (some 54) rfl rfl Try.func15 (by kernel_rfl) rfl #[.agg #[.int .i64 t581,.slice Ao40 t582.length co40],.int .i64 1] rfl z2 ?_;(with_reducible refine(laws_markTable.calls kj15 t581 (fun k_=>some k_= (.slice Ao40 t582.length co40:Value).ownBlock) (.slice Ao40 t582.length co40) t582 1 t601 t602 w _ ?side1 ?side2 A66.out).mono ?_);(case side1=>repeat(first|(with_reducible first|exact HB.out|apply below_alloc|apply pw_below_drewN|apply below_drew1|refine below_set ?_ GE565.out|refine below_set ?_ GE566.out|refine below_set ?_ GE580.out|refine below_set ?_ GE585.out|refine below_set ?_ GE594.out)|exact HB.out));(case side2=>exact Kd.R_tight rfl HO_586001.out);rintro e w77 ⟨rfl,hy0,hb,hkp⟩;refine⟨_,rfl,?_⟩;have n0_:=Aside0.mk (Kd.R_mono (ok':=fun k_=>some k_≠ (.slice Ao40 t582.length co40:Value).ownBlock∧some k_≠ (.slice Ao48 t590.length co48:Value).ownBlock∧some k_≠ (.slice Ao70 t597.length co70:Value).ownBlock) (Kd.R_keptB (HO_581001.out) hkp (fun k_ hk_ hs_=>(hk_.1.1) hs_)) (fun k_ hk_=>⟨hk_.1.1.1,hk_.1.1.2,hk_.1.2⟩));have n1_:=Aside0.mk (Kd.R_reok rfl hy0 (fun k_ e_=>HO_586001.out.1 k_ e_));have n2_:=Aside0.mk (Kd.R_mono (ok':=fun k_=>some k_≠ (.slice Ao30 t576.length co30:Value).ownBlock∧some k_≠ (.slice Ao40 t582.length co40:Value).ownBlock∧some k_≠ (.slice Ao70 t597.length co70:Value).ownBlock) (Kd.R_keptB (HO_595001.out) hkp (fun k_ hk_ hs_=>(hk_.1.2) hs_)) (fun k_ hk_=>⟨hk_.1.1.1,hk_.1.1.2,hk_.1.2⟩));have n3_:=Aside0.mk (blk_kept (z3 BK565) hkp (fun hs_=>(fun e_=>(Kd.R_ne HO_586001.out BK565.out (by decide)) e_) hs_));have n4_:=Aside0.mk (blk_kept (z3 BK566) hkp (fun hs_=>(fun e_=>(Kd.R_ne HO_586001.out BK566.out (by decide)) e_) hs_));have n5_:=Aside0.mk (blk_kept (z3 BK580) hkp (fun hs_=>(fun e_=>(Kd.R_ne HO_586001.out BK580.out (by decide)) e_) hs_));have n6_:=Aside0.mk (blk_kept (z3 BK585) hkp (fun hs_=>(fun e_=>(Kd.R_ne HO_586001.out BK585.out (by decide)) e_) hs_));have n7_:=Aside0.mk (blk_kept (z3 BK594) hkp (fun hs_=>(fun e_=>(Kd.R_ne HO_586001.out BK594.out (by decide)) e_) hs_));have n8_:=Aside0.mk (Kd.R_mono (ok':=fun k_=>some k_≠ (.slice Ao30 t576.length co30:Value).ownBlock∧some k_≠ (.slice Ao40 t582.length co40:Value).ownBlock∧some k_≠ (.slice Ao48 t590.length co48:Value).ownBlock) (Kd.R_keptB (HO599.out) hkp (fun k_ hk_ hs_=>(hk_.1.2) hs_)) (fun k_ hk_=>⟨hk_.1.1.1.2,hk_.1.1.2,hk_.1.2⟩));have n9_:=Aside0.mk (hb);clear HO_581001;clear HO_586001;clear HO_595001;clear BK565;clear BK566;clear BK580;clear BK585;clear BK594;clear HO599;clear HB;have HO_581001:=n0_;have HO_586001:=n1_;have HO_595001:=n2_;have BK565:=n3_;have BK566:=n4_;have BK580:=n5_;have BK585:=n6_;have BK594:=n7_;have HO599:=n8_;have HB:=n9_;clear n0_ n1_ n2_ n3_ n4_ n5_ n6_ n7_ n8_ n9_;(try clear hb);(try clear hkp);(try clear hy0)))
      (try simp only [Act.put,z5,z6,z7])
      go_cut [67] (fun v67 wc=> ∃ (kq:Nat) (x67_66:Bool),v67= .bool x67_66∧Aside0 (laws_FnExactLearn.j1 kq t579 x67_66 a0_0 l0_1 a1_0 a1_1 a1_2 t575 t576 t589 t590=some r)∧Aside0 (kq≤kj15)∧Aside0 (Kd.R k53 53 wc w.heap.size (fun k_=>some k_≠ ((.slice Ao40 t582.length co40):Value).ownBlock∧some k_≠ ((.slice Ao48 t590.length co48):Value).ownBlock) (.slice Ao30 t576.length co30) t576)∧Aside0 (Kd.R k53 53 wc w.heap.size (fun k_=>some k_≠ ((.slice Ao30 t576.length co30):Value).ownBlock∧some k_≠ ((.slice Ao48 t590.length co48):Value).ownBlock) (.slice Ao40 t582.length co40) t602)∧Aside0 (Kd.R k53 53 wc w.heap.size (fun k_=>some k_≠ ((.slice Ao30 t576.length co30):Value).ownBlock∧some k_≠ ((.slice Ao40 t582.length co40):Value).ownBlock) (.slice Ao48 t590.length co48) t590)∧Aside0 (wc.heap[gb565]?=some (.cells #[.int .i64 a0_0,(.slice A0_1 l0_1.length c0_1)] 32 (0,0)))∧Aside0 (wc.heap[gb566]?=some (.cells #[.int .i64 a1_0,.int .i64 a1_1,.int .i64 a1_2] 51 (0,0)))∧Aside0 (wc.heap[gb580]?=some (.cells #[.int .i64 t575,(.slice Ao30 t576.length co30)] 24 (0,0)))∧Aside0 (wc.heap[gb585]?=some (.cells #[.int .i64 t581,(.slice Ao40 t582.length co40)] 24 (0,0)))∧Aside0 (wc.heap[gb594]?=some (.cells #[.int .i64 t589,(.slice Ao48 t590.length co48)] 24 (0,0)))∧Aside0 (Below w.heap.size w wc))
      case first=>
       have H:=HC67.out
       clear HC67
       by_cases c78:t601< 0
       ·rw [if_pos c78] at H
        have c78b0:decide (t601< 0)=true:=decide_eq_true c78
        clear c78
        (first|rw [c78b0]|(simp only [i64_w,i32_w];rw [c78b0])|skip)
        exact absurd (H.trans (congrArg some HRT.out)) (by cases kj15<;>simp [laws_FnExactLearn.j1])
       ·rw [if_neg c78] at H
        have c78b0:decide (t601< 0)=false:=decide_eq_false c78
        clear c78
        (first|rw [c78b0]|(simp only [i64_w,i32_w];rw [c78b0])|skip)
        replace H:=Option.bind_eq_some_iff.mp H
        obtain⟨t603,A790,H⟩:=H
        replace H:(if t603=true then(laws_FnExactLearn.j1 kj15 t579 (t593 !=t579) a0_0 l0_1 a1_0 a1_1 a1_2 t575 t576 t589 t590) else(laws_FnExactLearn.j1 kj15 t579 true a0_0 l0_1 a1_0 a1_1 a1_2 t575 t576 t589 t590))=some r:=H
        have A79:=Aside0.mk A790
        clear A790
        by_cases c80:t603=true
        ·subst c80
         have H1:(laws_FnExactLearn.j1 kj15 t579 (t593 !=t579) a0_0 l0_1 a1_0 a1_1 a1_2 t575 t576 t589 t590)=some r:=by rw [if_pos rfl] at H;exact H
         clear H
         have H:=H1
         clear H1
         have H':=Aside0.mk H
         clear H
         have hnb81:=NB594_565.out
         have hnc81:=NB565_594.out
         have hnb82:=NB594_566.out
         have hnc82:=NB566_594.out
         have hnb83:=NB594_580.out
         have hnc83:=NB580_594.out
         have hnb84:=NB594_585.out
         have hnc84:=NB585_594.out
         have hcz85_0:w77.cell? ⟨gb594,0,none⟩=some (.int .i64 t589):=(blk_cell BK594.out 0).trans rfl
         have hcz85_1:w77.cell? ⟨gb594,1,none⟩=some (.slice Ao48 t590.length co48):=(blk_cell BK594.out 1).trans rfl
         have hfz85_0:=blk_frozen BK594.out 0
         have hfz85_1:=blk_frozen BK594.out 1
         have hnb86:=NB580_565.out
         have hnc86:=NB565_580.out
         have hnb87:=NB580_566.out
         have hnc87:=NB566_580.out
         have hnb88:=NB580_585.out
         have hnc88:=NB585_580.out
         have hcz89_0:w77.cell? ⟨gb580,0,none⟩=some (.int .i64 t575):=(blk_cell BK580.out 0).trans rfl
         have hcz89_1:w77.cell? ⟨gb580,1,none⟩=some (.slice Ao30 t576.length co30):=(blk_cell BK580.out 1).trans rfl
         have hfz89_0:=blk_frozen BK580.out 0
         have hfz89_1:=blk_frozen BK580.out 1
         go_wp2_with (first|(go_at_call 14;(with_reducible refine(laws_eqTable.calls kj15 t589 _ _ t590 t575 _ _ t576 true _ ?side1 ?side2 ?side3 ?side4 A79.out).mono ?_);(case side1=>repeat(first|exact(Kd.R_reads' HO_595001.out).2.2|(with_reducible refine Kd.C_alloc ?_ _)|(with_reducible refine Kd.C_drewN ?_ _)|(with_reducible refine Kd.C_drew ?_)));(case side2=>exact(Kd.R_reads' HO_595001.out).2.1);(case side3=>repeat(first|exact(Kd.R_reads' HO_581001.out).2.2|(with_reducible refine Kd.C_alloc ?_ _)|(with_reducible refine Kd.C_drewN ?_ _)|(with_reducible refine Kd.C_drew ?_)));(case side4=>exact(Kd.R_reads' HO_581001.out).2.1);rintro e w90 ⟨rfl,hb⟩;have n0_:=Aside0.mk (Kd.R_below (z4 HO_581001) hb);have n1_:=Aside0.mk (Kd.R_below (z4 HO_586001) hb);have n2_:=Aside0.mk (Kd.R_below (z4 HO_595001) hb);have n3_:=Aside0.mk (Kd.R_below (z4 HO599) hb);have n4_:=Aside0.mk (blk_below (g:=gb565) (o:= .cells #[.int .i64 a0_0,.slice A0_1 l0_1.length c0_1] 32 (0,0)) (z3 BK565) hb);have n5_:=Aside0.mk (blk_below (g:=gb566) (o:= .cells #[.int .i64 a1_0,.int .i64 a1_1,.int .i64 a1_2] 51 (0,0)) (z3 BK566) hb);have n6_:=Aside0.mk (blk_below (g:=gb580) (o:= .cells #[.int .i64 t575,.slice Ao30 t576.length co30] 24 (0,0)) (z3 BK580) hb);have n7_:=Aside0.mk (blk_below (g:=gb585) (o:= .cells #[.int .i64 t581,.slice Ao40 t582.length co40] 24 (0,0)) (z3 BK585) hb);have n8_:=Aside0.mk (blk_below (g:=gb594) (o:= .cells #[.int .i64 t589,.slice Ao48 t590.length co48] 24 (0,0)) (z3 BK594) hb);have n9_:=Aside0.mk (below_step (zb5 HB GE565 GE566 GE580 GE585 GE594) hb);clear HO_581001;clear HO_586001;clear HO_595001;clear HO599;clear BK565;clear BK566;clear BK580;clear BK585;clear BK594;clear HB;have HO_581001:=n0_;have HO_586001:=n1_;have HO_595001:=n2_;have HO599:=n3_;have BK565:=n4_;have BK566:=n5_;have BK580:=n6_;have BK585:=n7_;have BK594:=n8_;have HB:=n9_;clear n0_ n1_ n2_ n3_ n4_ n5_ n6_ n7_ n8_ n9_;(try clear hb);(try clear hb2);(try clear hk);(try clear hi)))
         go_meet
         case rel=>exact⟨_,((t593 !=t579)),(by first|rfl|(simp;done)|(simp [*];done)),H',⟨by have:=HJ15.out;first|omega|exact Nat.le_refl _⟩,⟨by(with_reducible repeat(first|apply Kd.R_alloc|apply Kd.R_drewN|apply Kd.R_drew));exact Kd.R_mono HO_581001.out (fun _ hk=>⟨hk.1,hk.2.1⟩)⟩,⟨by(with_reducible repeat(first|apply Kd.R_alloc|apply Kd.R_drewN|apply Kd.R_drew));exact Kd.R_mono HO_586001.out (fun _ hk=>⟨hk.1.1,hk.1.2⟩)⟩,⟨by(with_reducible repeat(first|apply Kd.R_alloc|apply Kd.R_drewN|apply Kd.R_drew));exact Kd.R_mono HO_595001.out (fun _ hk=>⟨hk.1,hk.2.1⟩)⟩,⟨by(with_reducible repeat(first|refine blk_drewN ?_ _|refine blk_drew ?_ |refine blk_alloc ?_ _));exact BK565.out⟩,⟨by(with_reducible repeat(first|refine blk_drewN ?_ _|refine blk_drew ?_ |refine blk_alloc ?_ _));exact BK566.out⟩,⟨by(with_reducible repeat(first|refine blk_drewN ?_ _|refine blk_drew ?_ |refine blk_alloc ?_ _));exact BK580.out⟩,⟨by(with_reducible repeat(first|refine blk_drewN ?_ _|refine blk_drew ?_ |refine blk_alloc ?_ _));exact BK585.out⟩,⟨by(with_reducible repeat(first|refine blk_drewN ?_ _|refine blk_drew ?_ |refine blk_alloc ?_ _));exact BK594.out⟩,⟨by repeat(first|(with_reducible first|exact HB.out|apply below_alloc|apply pw_below_drewN|apply below_drew1|refine below_set ?_ GE565.out|refine below_set ?_ GE566.out|refine below_set ?_ GE580.out|refine below_set ?_ GE585.out|refine below_set ?_ GE594.out)|exact HB.out)⟩⟩
        ·replace c80:=Bool.eq_false_iff.mpr c80
         subst c80
         have H1:(laws_FnExactLearn.j1 kj15 t579 true a0_0 l0_1 a1_0 a1_1 a1_2 t575 t576 t589 t590)=some r:=by rw [if_neg (show ¬ (false=true) by decide)] at H;exact H
         clear H
         have H:=H1
         clear H1
         exact absurd (H.trans (congrArg some HRT.out)) (by cases kj15<;>simp [laws_FnExactLearn.j1])
      case rest=>
       clear HC67
       try clear c1
       try clear p2
       try clear c3
       try clear c5
       try clear c6
       try clear c7
       try clear c8
       try clear c14
       try clear c15
       try clear c19
       try clear c36
       try clear c37
       try clear c51
       try clear c52
       try clear c53
       try clear c54
       try clear c55
       try clear c57
       try clear c58
       try clear c59
       try clear c62
       try clear c65
       try clear c72
       try clear c73
       try clear c74
       try clear c75
       try clear c78
       try clear c78b0
       try clear c80
       try clear c81
       try clear c82
       try clear c83
       try clear c84
       try clear c86
       try clear c87
       try clear c88
       try clear hcz56_0
       try clear hcz56_1
       try clear hcz60_0
       try clear hcz60_1
       try clear hcz76_0
       try clear hcz76_1
       try clear hcz85_0
       try clear hcz85_1
       try clear hcz89_0
       try clear hcz89_1
       try clear hfz56_0
       try clear hfz56_1
       try clear hfz60_0
       try clear hfz60_1
       try clear hfz76_0
       try clear hfz76_1
       try clear hfz85_0
       try clear hfz85_1
       try clear hfz89_0
       try clear hfz89_1
       try clear p2
       obtain⟨kq,x67_66,rfl,HA,HJ66,HO_581001,HO_586001,HO_595001,BK565,BK566,BK580,BK585,BK594,HB⟩:=hcut
       have hl586001_66:=(Kd.R_reads' HO_586001.out).1
       rw [hl586001_66] at HO_586001
       (try simp only [hl586001_66])
       (try simp only [hl586001_66] at BK565)
       (try simp only [hl586001_66] at BK566)
       (try simp only [hl586001_66] at BK580)
       (try simp only [hl586001_66] at BK585)
       (try simp only [hl586001_66] at BK594)
       (try simp only [hl586001_66] at HO_581001)
       (try simp only [hl586001_66] at HO_595001)
       cases kq with
       |zero=>exact absurd HA.out (by simp [laws_FnExactLearn.j1])
       |succ kj66=>
        have H:=HA.out
        clear HA
        simp only [laws_FnExactLearn.j1] at H
        by_cases c91:x67_66=true
        ·subst c91
         have H1:(some false)=some r:=by rw [if_pos rfl] at H;exact H
         clear H
         have H:=H1
         clear H1
         exact absurd ((Option.some.inj H).trans HRT.out) (by decide)
        ·replace c91:=Bool.eq_false_iff.mpr c91
         subst c91
         have H1:((laws_markTable.f kj66 t589 t590 1).bind fun bt604=>((laws_heldTable.f kj66 t589 bt604.2 1).bind fun t606=>(if t606< 0 then(some false) else(if t606=bt604.1 then((laws_toTable.f kj66 a0_0 l0_1).bind fun bt607=>((laws_toSeen.f a1_0 a1_1 a1_2).bind fun bt611=>((impl_Learn.f kj66 bt607.1 bt607.2 bt611.1 bt611.2.1 bt611.2.2).bind fun bt614=>((laws_eqTable.f kj66 bt614.1 bt614.2.1 t575 t576).bind fun t620=>(if t620=true then(laws_FnExactLearn.j2 kj66 bt604.1 (bt614.2.2 !=t579) t589 bt604.2) else(laws_FnExactLearn.j2 kj66 bt604.1 true t589 bt604.2)))))) else(some false)))))=some r:=by rw [if_neg (show ¬ (false=true) by decide)] at H;exact H
         clear H
         have H:=H1
         clear H1
         replace H:=Option.bind_eq_some_iff.mp H
         obtain⟨⟨t604,t605⟩,A920,H⟩:=H
         replace H:((laws_heldTable.f kj66 t589 t605 1).bind fun t606=>(if t606< 0 then(some false) else(if t606=t604 then((laws_toTable.f kj66 a0_0 l0_1).bind fun bt607=>((laws_toSeen.f a1_0 a1_1 a1_2).bind fun bt611=>((impl_Learn.f kj66 bt607.1 bt607.2 bt611.1 bt611.2.1 bt611.2.2).bind fun bt614=>((laws_eqTable.f kj66 bt614.1 bt614.2.1 t575 t576).bind fun t620=>(if t620=true then(laws_FnExactLearn.j2 kj66 t604 (bt614.2.2 !=t579) t589 t605) else(laws_FnExactLearn.j2 kj66 t604 true t589 t605)))))) else(some false))))=some r:=H
         have A92:=Aside0.mk A920
         clear A920
         replace H:=Option.bind_eq_some_iff.mp H
         obtain⟨t606,A930,H⟩:=H
         replace H:(if t606< 0 then(some false) else(if t606=t604 then((laws_toTable.f kj66 a0_0 l0_1).bind fun bt607=>((laws_toSeen.f a1_0 a1_1 a1_2).bind fun bt611=>((impl_Learn.f kj66 bt607.1 bt607.2 bt611.1 bt611.2.1 bt611.2.2).bind fun bt614=>((laws_eqTable.f kj66 bt614.1 bt614.2.1 t575 t576).bind fun t620=>(if t620=true then(laws_FnExactLearn.j2 kj66 t604 (bt614.2.2 !=t579) t589 t605) else(laws_FnExactLearn.j2 kj66 t604 true t589 t605)))))) else(some false)))=some r:=H
         have A93:=Aside0.mk A930
         clear A930
         by_cases c94:t606< 0
         ·rw [if_pos c94] at H
          have c94b0:decide (t606< 0)=true:=decide_eq_true c94
          clear c94
          exact absurd ((Option.some.inj H).trans HRT.out) (by decide)
         ·rw [if_neg c94] at H
          have c94b0:decide (t606< 0)=false:=decide_eq_false c94
          clear c94
          by_cases c95:t606=t604
          ·rw [if_pos c95] at H
           have c95b0:(t606==t604)=true:=beq_iff_eq.mpr c95
           have c95b1:(t606 !=t604)=false:=bne_eq_false_iff_eq.mpr c95
           clear c95
           replace H:=Option.bind_eq_some_iff.mp H
           obtain⟨⟨t607,t608⟩,A960,H⟩:=H
           replace H:((laws_toSeen.f a1_0 a1_1 a1_2).bind fun bt611=>((impl_Learn.f kj66 t607 t608 bt611.1 bt611.2.1 bt611.2.2).bind fun bt614=>((laws_eqTable.f kj66 bt614.1 bt614.2.1 t575 t576).bind fun t620=>(if t620=true then(laws_FnExactLearn.j2 kj66 t604 (bt614.2.2 !=t579) t589 t605) else(laws_FnExactLearn.j2 kj66 t604 true t589 t605)))))=some r:=H
           have A96:=Aside0.mk A960
           clear A960
           replace H:=Option.bind_eq_some_iff.mp H
           obtain⟨⟨t611,t612,t613⟩,A970,H⟩:=H
           replace H:((impl_Learn.f kj66 t607 t608 t611 t612 t613).bind fun bt614=>((laws_eqTable.f kj66 bt614.1 bt614.2.1 t575 t576).bind fun t620=>(if t620=true then(laws_FnExactLearn.j2 kj66 t604 (bt614.2.2 !=t579) t589 t605) else(laws_FnExactLearn.j2 kj66 t604 true t589 t605))))=some r:=H
           have A97:=Aside0.mk A970
           clear A970
           replace H:=Option.bind_eq_some_iff.mp H
           obtain⟨⟨t614,t615,t618⟩,A980,H⟩:=H
           replace H:((laws_eqTable.f kj66 t614 t615 t575 t576).bind fun t620=>(if t620=true then(laws_FnExactLearn.j2 kj66 t604 (t618 !=t579) t589 t605) else(laws_FnExactLearn.j2 kj66 t604 true t589 t605)))=some r:=H
           have A98:=Aside0.mk A980
           clear A980
           have HC99:=Aside0.mk H
           clear H
           have hnb100:=NB594_565.out
           have hnc100:=NB565_594.out
           have hnb101:=NB594_566.out
           have hnc101:=NB566_594.out
           have hnb102:=NB594_580.out
           have hnc102:=NB580_594.out
           have hnb103:=NB594_585.out
           have hnc103:=NB585_594.out
           have hcz104_0:wc.cell? ⟨gb594,0,none⟩=some (.int .i64 t589):=(blk_cell BK594.out 0).trans rfl
           have hcz104_1:wc.cell? ⟨gb594,1,none⟩=some (.slice Ao48 t590.length co48):=(blk_cell BK594.out 1).trans rfl
           have hfz104_0:=blk_frozen BK594.out 0
           have hfz104_1:=blk_frozen BK594.out 1
           try go_wp2_with (first|((with_reducible refine gate_callee (f:=15) rfl ?_);refine goesL_ (some 70) rfl rfl Try.func15 (by kernel_rfl) rfl #[.agg #[.int .i64 t589,.slice Ao48 t590.length co48],.int .i64 1] rfl z2 ?_;(with_reducible refine(laws_markTable.calls kj66 t589 (fun k_=>some k_= (.slice Ao48 t590.length co48:Value).ownBlock) (.slice Ao48 t590.length co48) t590 1 t604 t605 w _ ?side1 ?side2 A92.out).mono ?_);(case side1=>repeat(first|(with_reducible first|exact HB.out|apply below_alloc|apply pw_below_drewN|apply below_drew1|refine below_set ?_ GE565.out|refine below_set ?_ GE566.out|refine below_set ?_ GE580.out|refine below_set ?_ GE585.out|refine below_set ?_ GE594.out)|exact HB.out));(case side2=>exact Kd.R_tight rfl HO_595001.out);rintro e w105 ⟨rfl,hy0,hb,hkp⟩;refine⟨_,rfl,?_⟩;have n0_:=Aside0.mk (Kd.R_mono (ok':=fun k_=>some k_≠ (.slice Ao40 t602.length co40:Value).ownBlock∧some k_≠ (.slice Ao48 t590.length co48:Value).ownBlock) (Kd.R_keptB (HO_581001.out) hkp (fun k_ hk_ hs_=>(hk_.2) hs_)) (fun k_ hk_=>⟨hk_.1.1,hk_.1.2⟩));have n1_:=Aside0.mk (Kd.R_mono (ok':=fun k_=>some k_≠ (.slice Ao30 t576.length co30:Value).ownBlock∧some k_≠ (.slice Ao48 t590.length co48:Value).ownBlock) (Kd.R_keptB (HO_586001.out) hkp (fun k_ hk_ hs_=>(hk_.2) hs_)) (fun k_ hk_=>⟨hk_.1.1,hk_.1.2⟩));have n2_:=Aside0.mk (Kd.R_reok rfl hy0 (fun k_ e_=>HO_595001.out.1 k_ e_));have n3_:=Aside0.mk (blk_kept (z3 BK565) hkp (fun hs_=>(fun e_=>(Kd.R_ne HO_595001.out BK565.out (by decide)) e_) hs_));have n4_:=Aside0.mk (blk_kept (z3 BK566) hkp (fun hs_=>(fun e_=>(Kd.R_ne HO_595001.out BK566.out (by decide)) e_) hs_));have n5_:=Aside0.mk (blk_kept (z3 BK580) hkp (fun hs_=>(fun e_=>(Kd.R_ne HO_595001.out BK580.out (by decide)) e_) hs_));have n6_:=Aside0.mk (blk_kept (z3 BK585) hkp (fun hs_=>(fun e_=>(Kd.R_ne HO_595001.out BK585.out (by decide)) e_) hs_));have n7_:=Aside0.mk (blk_kept (z3 BK594) hkp (fun hs_=>(fun e_=>(Kd.R_ne HO_595001.out BK594.out (by decide)) e_) hs_));have n8_:=Aside0.mk (hb);clear HO_581001;clear HO_586001;clear HO_595001;clear BK565;clear BK566;clear BK580;clear BK585;clear BK594;clear HB;have HO_581001:=n0_;have HO_586001:=n1_;have HO_595001:=n2_;have BK565:=n3_;have BK566:=n4_;have BK580:=n5_;have BK585:=n6_;have BK594:=n7_;have HB:=n8_;clear n0_ n1_ n2_ n3_ n4_ n5_ n6_ n7_ n8_;(try clear hb);(try clear hkp);(try clear hy0);have hcz106_0:w105.cell? ⟨gb594,0,none⟩=some (.int .i64 t589):=(blk_cell BK594.out 0).trans rfl;have hcz106_1:w105.cell? ⟨gb594,1,none⟩=some (.slice Ao48 t590.length co48):=(blk_cell BK594.out 1).trans rfl;have hfz106_0:=blk_frozen BK594.out 0;have hfz106_1:=blk_frozen BK594.out 1)|((with_reducible refine gate_callee (f:=16) rfl ?_);refine goesL_ (some 73) rfl rfl Try.func16 (by kernel_rfl) rfl #[.agg #[.int .i64 t589,.slice Ao48 t605.length co48],.int .i64 1] rfl (by(try simp only [List.map_toArray,List.map_cons,List.map_nil]);first|done|(rw [show t605.length=t590.length from (Kd.R_reads' HO_595001.out).1.symm]<;>rfl)|rfl|(simp only [List.length_drop,List.length_take];rfl)) ?_;(with_reducible refine(laws_heldTable.calls kj66 t589 _ _ t605 1 t606 _ ?side1 ?side2 A93.out).mono ?_);(case side1=>repeat(first|exact(Kd.R_reads' HO_595001.out).2.2|(with_reducible refine Kd.C_alloc ?_ _)|(with_reducible refine Kd.C_drewN ?_ _)|(with_reducible refine Kd.C_drew ?_)));(case side2=>rw [show t605.length=t590.length from (Kd.R_reads' HO_595001.out).1.symm];exact(Kd.R_reads' HO_595001.out).2.1);rintro e w107 ⟨rfl,hb⟩;refine⟨_,rfl,?_⟩;have n0_:=Aside0.mk (Kd.R_below (z4 HO_581001) hb);have n1_:=Aside0.mk (Kd.R_below (z4 HO_586001) hb);have n2_:=Aside0.mk (Kd.R_below (z4 HO_595001) hb);have n3_:=Aside0.mk (blk_below (g:=gb565) (o:= .cells #[.int .i64 a0_0,.slice A0_1 l0_1.length c0_1] 32 (0,0)) (z3 BK565) hb);have n4_:=Aside0.mk (blk_below (g:=gb566) (o:= .cells #[.int .i64 a1_0,.int .i64 a1_1,.int .i64 a1_2] 51 (0,0)) (z3 BK566) hb);have n5_:=Aside0.mk (blk_below (g:=gb580) (o:= .cells #[.int .i64 t575,.slice Ao30 t576.length co30] 24 (0,0)) (z3 BK580) hb);have n6_:=Aside0.mk (blk_below (g:=gb585) (o:= .cells #[.int .i64 t581,.slice Ao40 t602.length co40] 24 (0,0)) (z3 BK585) hb);have n7_:=Aside0.mk (blk_below (g:=gb594) (o:= .cells #[.int .i64 t589,.slice Ao48 t590.length co48] 24 (0,0)) (z3 BK594) hb);have n8_:=Aside0.mk (below_step (zb5 HB GE565 GE566 GE580 GE585 GE594) hb);clear HO_581001;clear HO_586001;clear HO_595001;clear BK565;clear BK566;clear BK580;clear BK585;clear BK594;clear HB;have HO_581001:=n0_;have HO_586001:=n1_;have HO_595001:=n2_;have BK565:=n3_;have BK566:=n4_;have BK580:=n5_;have BK585:=n6_;have BK594:=n7_;have HB:=n8_;clear n0_ n1_ n2_ n3_ n4_ n5_ n6_ n7_ n8_;(try clear hb);(try clear hb2);(try clear hk);(try clear hi)))
           have n0_:=Aside0.mk (Kd.R_drew HO_581001.out)
           have n1_:=Aside0.mk (Kd.R_drew HO_586001.out)
           have n2_:=Aside0.mk (Kd.R_drew HO_595001.out)
           have n3_:=Aside0.mk (blk_drew BK565.out)
           have n4_:=Aside0.mk (blk_drew BK566.out)
           have n5_:=Aside0.mk (blk_drew BK580.out)
           have n6_:=Aside0.mk (blk_drew BK585.out)
           have n7_:=Aside0.mk (blk_drew BK594.out)
           have n8_:=Aside0.mk (below_drew1 HB.out)
           clear HO_581001
           clear HO_586001
           clear HO_595001
           clear BK565
           clear BK566
           clear BK580
           clear BK585
           clear BK594
           clear HB
           have HO_581001:=n0_
           have HO_586001:=n1_
           have HO_595001:=n2_
           have BK565:=n3_
           have BK566:=n4_
           have BK580:=n5_
           have BK585:=n6_
           have BK594:=n7_
           have HB:=n8_
           clear n0_ n1_ n2_ n3_ n4_ n5_ n6_ n7_ n8_
           refine start_ (n:=11) (S:=fun w'=>w'.cell? ⟨gb565,0,none⟩=some (.int .i64 a0_0)∧w'.cell? ⟨gb565,1,none⟩=some (.slice A0_1 l0_1.length c0_1)∧w'.cell? ⟨gb566,0,none⟩=some (.int .i64 a1_0)∧w'.cell? ⟨gb566,1,none⟩=some (.int .i64 a1_1)∧w'.cell? ⟨gb566,2,none⟩=some (.int .i64 a1_2)) (ds:= []) #[f',f',f',f',f',f',f',f',f',f',f'] (by kernel_rfl) rfl rfl ⟨(blk_cell BK565.out 0).trans rfl,(blk_cell BK565.out 1).trans rfl,(blk_cell BK566.out 0).trans rfl,(blk_cell BK566.out 1).trans rfl,(blk_cell BK566.out 2).trans rfl⟩ (fun hHeld=>?_);refine with_tabW laws_FnExactLearn.tab24 laws_FnExactLearn.bits24 (fun HT_ HW_=>?_)
           generalize w107.drew=w108 at HO_581001 HO_586001 HO_595001 BK565 BK566 BK580 BK585 BK594 HB hHeld ⊢
           refine take_ (i:=0) (N:=some 80) (v:=?_) (a':=?_) #[t',f',f',f',f',f',f',f',f',f',f'] rfl rfl (take_ofW HT_.out HW_.out (by kernel_rfl)) (fun _ _ _ h=>h) (Or.inl ⟨by rfl,?_⟩) hHeld ?_ ?_
           rotate_left
           ·rintro w' ⟨s0,s1,s2,s3,s4⟩
            go_simp
            with_reducible rfl
           rotate_left
           ·simp only [Act.put,z5,z6,z7,i64_w,i32_w]
            rfl
           refine take_ (i:=2) (N:=some 82) (v:=?_) (a':=?_) #[t',f',t',f',f',f',f',f',f',f',f'] rfl rfl (take_ofW HT_.out HW_.out (by kernel_rfl)) (fun _ _ _ h=>h) (Or.inl ⟨by rfl,?_⟩) hHeld ?_ ?_
           rotate_left
           ·rintro w' ⟨s0,s1,s2,s3,s4⟩
            go_simp
            with_reducible rfl
           rotate_left
           ·simp only [Act.put,z5,z6,z7,i64_w,i32_w]
            rfl
           refine join_ (σ :=Value × Value × Nat) 2 #[t',t',t',t',t',t',t',t',t',f',f'] (fun s_=> [(81,.agg #[.int .i64 t607,s_.1]),(83,.agg #[.int .i64 t611,.int .i64 t612,.int .i64 t613]),(84,.tuple #[.agg #[.int .i64 t614,s_.2.1],.bool t618]),(14,.pointer (some ⟨s_.2.2,0,none⟩)),(79,.tuple #[.agg #[.int .i64 t614,s_.2.1],.bool t618]),(85,.agg #[.int .i64 t614,s_.2.1]),(86,.bool t618)]) (fun s_ w'=>(w'.cell? ⟨gb565,0,none⟩=some (.int .i64 a0_0)∧w'.cell? ⟨gb565,1,none⟩=some (.slice A0_1 l0_1.length c0_1)∧w'.cell? ⟨gb566,0,none⟩=some (.int .i64 a1_0)∧w'.cell? ⟨gb566,1,none⟩=some (.int .i64 a1_1)∧w'.cell? ⟨gb566,2,none⟩=some (.int .i64 a1_2))∧ (Kd.R k53 53 w' w.heap.size (fun k_=>some k_≠ (s_.2.1:Value).ownBlock∧some k_≠ (.slice Ao30 t576.length co30:Value).ownBlock∧some k_≠ (.slice Ao40 t602.length co40:Value).ownBlock∧some k_≠ (.slice Ao48 t590.length co48:Value).ownBlock) s_.1 t608)∧ (Kd.R k53 53 w' w.heap.size (fun k_=>some k_≠ (s_.1:Value).ownBlock∧some k_≠ (.slice Ao30 t576.length co30:Value).ownBlock∧some k_≠ (.slice Ao40 t602.length co40:Value).ownBlock∧some k_≠ (.slice Ao48 t590.length co48:Value).ownBlock) s_.2.1 t615)∧ (Kd.R k53 53 w' w.heap.size (fun k_=>some k_≠ (s_.1:Value).ownBlock∧some k_≠ (s_.2.1:Value).ownBlock∧some k_≠ (.slice Ao40 t602.length co40:Value).ownBlock∧some k_≠ (.slice Ao48 t590.length co48:Value).ownBlock) (.slice Ao30 t576.length co30) t576)∧ (Kd.R k53 53 w' w.heap.size (fun k_=>some k_≠ (s_.1:Value).ownBlock∧some k_≠ (s_.2.1:Value).ownBlock∧some k_≠ (.slice Ao30 t576.length co30:Value).ownBlock∧some k_≠ (.slice Ao48 t590.length co48:Value).ownBlock) (.slice Ao40 t602.length co40) t602)∧ (Kd.R k53 53 w' w.heap.size (fun k_=>some k_≠ (s_.1:Value).ownBlock∧some k_≠ (s_.2.1:Value).ownBlock∧some k_≠ (.slice Ao30 t576.length co30:Value).ownBlock∧some k_≠ (.slice Ao40 t602.length co40:Value).ownBlock) (.slice Ao48 t590.length co48) t605)∧ (w'.heap[gb565]?=some (.cells #[.int .i64 a0_0,.slice A0_1 l0_1.length c0_1] 32 (0,0)))∧ (w'.heap[gb566]?=some (.cells #[.int .i64 a1_0,.int .i64 a1_1,.int .i64 a1_2] 51 (0,0)))∧ (w'.heap[gb580]?=some (.cells #[.int .i64 t575,.slice Ao30 t576.length co30] 24 (0,0)))∧ (w'.heap[gb585]?=some (.cells #[.int .i64 t581,.slice Ao40 t602.length co40] 24 (0,0)))∧ (w'.heap[gb594]?=some (.cells #[.int .i64 t589,.slice Ao48 t590.length co48] 24 (0,0)))∧ (w'.heap[s_.2.2]?=some (.cells #[.int .i64 0,.slice none 0 0] 24 (0,0)))∧ (w.heap.size≤s_.2.2)∧ (w.heap.size≤s_.2.2)∧ (gb565≠s_.2.2)∧ (s_.2.2≠gb565)∧ (gb566≠s_.2.2)∧ (s_.2.2≠gb566)∧ (gb580≠s_.2.2)∧ (s_.2.2≠gb580)∧ (gb585≠s_.2.2)∧ (s_.2.2≠gb585)∧ (gb594≠s_.2.2)∧ (s_.2.2≠gb594)∧ (Below w.heap.size w w')) ?_ ?_
           rotate_left
           ·intro hCont
            refine two_ (i:=1) (j:=8) (Ni:=some 81) (Nj:=some 14) #[t',t',t',f',f',f',f',f',f',f',f'] #[t',f',t',f',f',f',f',f',t',f',f'] rfl rfl rfl rfl (two_of HT_.out (by kernel_rfl)) (by decide) (by decide) (fun K hK=>?_) (fun K hK=>?_)
            ·skip
             refine goes_ Try.func19 (by kernel_rfl) rfl #[.agg #[.int .i64 a0_0,.slice A0_1 l0_1.length c0_1]] (by rfl) rfl rfl z2 ?_
             with_reducible refine(laws_toTable.calls kj66 a0_0 _ _ l0_1 t607 t608 _ ?side1 ?side2 A96.out).mono ?_
             (case side1=>repeat(first|exact(Kd.C_below HR0_1.out HB.out)|(with_reducible refine Kd.C_alloc ?_ _)|(with_reducible refine Kd.C_drewN ?_ _)|(with_reducible refine Kd.C_drew ?_)))
             (case side2=>exact HC0_1.out)
             rintro e w109 ⟨v609,rfl,ho0,hb⟩
             refine⟨_,rfl,?_⟩
             have n0_:=Aside0.mk (Kd.R_elder' (z4 HO_581001) (Kd.R_base ho0) hb)
             have n1_:=Aside0.mk (Kd.R_elder' (z4 HO_586001) (Kd.R_base ho0) hb)
             have n2_:=Aside0.mk (Kd.R_elder' (z4 HO_595001) (Kd.R_base ho0) hb)
             have n3_:=Aside0.mk (Kd.R_lower (Kd.R_new' (Kd.R_new' (Kd.R_new' ho0 (Kd.R_lt (z4 HO_581001))) (Kd.R_lt (z4 HO_586001))) (Kd.R_lt (z4 HO_595001))) (below_size (zb5 HB GE565 GE566 GE580 GE585 GE594)))
             have n4_:=Aside0.mk (blk_below (g:=gb565) (o:= .cells #[.int .i64 a0_0,.slice A0_1 l0_1.length c0_1] 32 (0,0)) (z3 BK565) hb)
             have n5_:=Aside0.mk (blk_below (g:=gb566) (o:= .cells #[.int .i64 a1_0,.int .i64 a1_1,.int .i64 a1_2] 51 (0,0)) (z3 BK566) hb)
             have n6_:=Aside0.mk (blk_below (g:=gb580) (o:= .cells #[.int .i64 t575,.slice Ao30 t576.length co30] 24 (0,0)) (z3 BK580) hb)
             have n7_:=Aside0.mk (blk_below (g:=gb585) (o:= .cells #[.int .i64 t581,.slice Ao40 t602.length co40] 24 (0,0)) (z3 BK585) hb)
             have n8_:=Aside0.mk (blk_below (g:=gb594) (o:= .cells #[.int .i64 t589,.slice Ao48 t590.length co48] 24 (0,0)) (z3 BK594) hb)
             have n9_:=Aside0.mk (below_step (zb5 HB GE565 GE566 GE580 GE585 GE594) hb)
             clear HO_581001
             clear HO_586001
             clear HO_595001
             clear BK565
             clear BK566
             clear BK580
             clear BK585
             clear BK594
             clear HB
             have HO_581001:=n0_
             have HO_586001:=n1_
             have HO_595001:=n2_
             have HO610:=n3_
             have BK565:=n4_
             have BK566:=n5_
             have BK580:=n6_
             have BK585:=n7_
             have BK594:=n8_
             have HB:=n9_
             clear n0_ n1_ n2_ n3_ n4_ n5_ n6_ n7_ n8_ n9_
             (try clear hb)
             (try clear hb2)
             (try clear hk)
             (try clear hi)
             (try clear ho0)
             refine hK.out _ _ ⟨(blk_cell BK565.out 0).trans rfl,(blk_cell BK565.out 1).trans rfl,(blk_cell BK566.out 0).trans rfl,(blk_cell BK566.out 1).trans rfl,(blk_cell BK566.out 2).trans rfl⟩ (fun hHeld=>?_)
             clear hK K
             refine norm_ (a':=?_) ?_ ?_
             rotate_left
             ·show Act.put _ (some 81) _=_
              simp only [Act.put,z5,z6,z7,i64_w,i32_w]
              rfl
             refine two_ (i:=3) (j:=8) (Ni:=some 83) (Nj:=some 14) #[t',t',t',t',f',f',f',f',f',f',f'] #[t',t',t',f',f',f',f',f',t',f',f'] rfl rfl rfl rfl (two_of HT_.out (by kernel_rfl)) (by decide) (by decide) (fun K hK=>?_) (fun K hK=>?_)
             ·skip
              refine goes_ Try.func36 (by kernel_rfl) rfl #[.agg #[.int .i64 a1_0,.int .i64 a1_1,.int .i64 a1_2]] (by rfl) rfl rfl z2 ?_
              with_reducible refine(laws_toSeen.calls a1_0 a1_1 a1_2 t611 t612 t613 _ A97.out).mono ?_
              rintro e w110 ⟨rfl,hb⟩
              refine⟨_,rfl,?_⟩
              have n0_:=Aside0.mk (Kd.R_below (z4 HO_581001) hb)
              have n1_:=Aside0.mk (Kd.R_below (z4 HO_586001) hb)
              have n2_:=Aside0.mk (Kd.R_below (z4 HO_595001) hb)
              have n3_:=Aside0.mk (Kd.R_below (z4 HO610) hb)
              have n4_:=Aside0.mk (blk_below (g:=gb565) (o:= .cells #[.int .i64 a0_0,.slice A0_1 l0_1.length c0_1] 32 (0,0)) (z3 BK565) hb)
              have n5_:=Aside0.mk (blk_below (g:=gb566) (o:= .cells #[.int .i64 a1_0,.int .i64 a1_1,.int .i64 a1_2] 51 (0,0)) (z3 BK566) hb)
              have n6_:=Aside0.mk (blk_below (g:=gb580) (o:= .cells #[.int .i64 t575,.slice Ao30 t576.length co30] 24 (0,0)) (z3 BK580) hb)
              have n7_:=Aside0.mk (blk_below (g:=gb585) (o:= .cells #[.int .i64 t581,.slice Ao40 t602.length co40] 24 (0,0)) (z3 BK585) hb)
              have n8_:=Aside0.mk (blk_below (g:=gb594) (o:= .cells #[.int .i64 t589,.slice Ao48 t590.length co48] 24 (0,0)) (z3 BK594) hb)
              have n9_:=Aside0.mk (below_step (zb5 HB GE565 GE566 GE580 GE585 GE594) hb)
              clear HO_581001
              clear HO_586001
              clear HO_595001
              clear HO610
              clear BK565
              clear BK566
              clear BK580
              clear BK585
              clear BK594
              clear HB
              have HO_581001:=n0_
              have HO_586001:=n1_
              have HO_595001:=n2_
              have HO610:=n3_
              have BK565:=n4_
              have BK566:=n5_
              have BK580:=n6_
              have BK585:=n7_
              have BK594:=n8_
              have HB:=n9_
              clear n0_ n1_ n2_ n3_ n4_ n5_ n6_ n7_ n8_ n9_
              (try clear hb)
              (try clear hb2)
              (try clear hk)
              (try clear hi)
              obtain⟨Ao111,co111,eo111⟩:=Kd.R_slice HO610.out
              (first|subst eo111|(injection eo111 with f1_ f2_ f3_;have f4_:=f1_.symm;have f5_:=f3_.symm;clear f1_ f2_ f3_;subst f4_;subst f5_))
              refine hK.out _ _ ⟨(blk_cell BK565.out 0).trans rfl,(blk_cell BK565.out 1).trans rfl,(blk_cell BK566.out 0).trans rfl,(blk_cell BK566.out 1).trans rfl,(blk_cell BK566.out 2).trans rfl⟩ (fun hHeld=>?_)
              clear hK K
              refine norm_ (a':=?_) ?_ ?_
              rotate_left
              ·show Act.put _ (some 83) _=_
               simp only [Act.put,z5,z6,z7,i64_w,i32_w]
               rfl
              refine two_ (i:=4) (j:=8) (Ni:=some 84) (Nj:=some 14) #[t',t',t',t',t',f',f',f',f',f',f'] #[t',t',t',t',f',f',f',f',t',f',f'] rfl rfl rfl rfl (two_of HT_.out (by kernel_rfl)) (by decide) (by decide) (fun K hK=>?_) (fun K hK=>?_)
              ·skip
               refine goes_ Try.func37 (by kernel_rfl) rfl #[.agg #[.int .i64 t607,.slice Ao111 t608.length co111],.agg #[.int .i64 t611,.int .i64 t612,.int .i64 t613]] (by rfl) rfl rfl z2 ?_
               with_reducible refine(impl_Learn.calls kj66 t607 _ _ t608 t611 t612 t613 t614 t615 t618 _ ?side1 ?side2 A98.out).mono ?_
               (case side1=>repeat(first|exact(Kd.R_reads' HO610.out).2.2|(with_reducible refine Kd.C_alloc ?_ _)|(with_reducible refine Kd.C_drewN ?_ _)|(with_reducible refine Kd.C_drew ?_)))
               (case side2=>exact(Kd.R_reads' HO610.out).2.1)
               rintro e w112 ⟨v616,rfl,ho0,hb⟩
               refine⟨_,rfl,?_⟩
               have n0_:=Aside0.mk (Kd.R_elder' (z4 HO_581001) (Kd.R_base ho0) hb)
               have n1_:=Aside0.mk (Kd.R_elder' (z4 HO_586001) (Kd.R_base ho0) hb)
               have n2_:=Aside0.mk (Kd.R_elder' (z4 HO_595001) (Kd.R_base ho0) hb)
               have n3_:=Aside0.mk (Kd.R_elder' (z4 HO610) (Kd.R_base ho0) hb)
               have n4_:=Aside0.mk (Kd.R_lower (Kd.R_new' (Kd.R_new' (Kd.R_new' (Kd.R_new' ho0 (Kd.R_lt (z4 HO_581001))) (Kd.R_lt (z4 HO_586001))) (Kd.R_lt (z4 HO_595001))) (Kd.R_lt (z4 HO610))) (below_size (zb5 HB GE565 GE566 GE580 GE585 GE594)))
               have n5_:=Aside0.mk (blk_below (g:=gb565) (o:= .cells #[.int .i64 a0_0,.slice A0_1 l0_1.length c0_1] 32 (0,0)) (z3 BK565) hb)
               have n6_:=Aside0.mk (blk_below (g:=gb566) (o:= .cells #[.int .i64 a1_0,.int .i64 a1_1,.int .i64 a1_2] 51 (0,0)) (z3 BK566) hb)
               have n7_:=Aside0.mk (blk_below (g:=gb580) (o:= .cells #[.int .i64 t575,.slice Ao30 t576.length co30] 24 (0,0)) (z3 BK580) hb)
               have n8_:=Aside0.mk (blk_below (g:=gb585) (o:= .cells #[.int .i64 t581,.slice Ao40 t602.length co40] 24 (0,0)) (z3 BK585) hb)
               have n9_:=Aside0.mk (blk_below (g:=gb594) (o:= .cells #[.int .i64 t589,.slice Ao48 t590.length co48] 24 (0,0)) (z3 BK594) hb)
               have n10_:=Aside0.mk (below_step (zb5 HB GE565 GE566 GE580 GE585 GE594) hb)
               clear HO_581001
               clear HO_586001
               clear HO_595001
               clear HO610
               clear BK565
               clear BK566
               clear BK580
               clear BK585
               clear BK594
               clear HB
               have HO_581001:=n0_
               have HO_586001:=n1_
               have HO_595001:=n2_
               have HO610:=n3_
               have HO617:=n4_
               have BK565:=n5_
               have BK566:=n6_
               have BK580:=n7_
               have BK585:=n8_
               have BK594:=n9_
               have HB:=n10_
               clear n0_ n1_ n2_ n3_ n4_ n5_ n6_ n7_ n8_ n9_ n10_
               (try clear hb)
               (try clear hb2)
               (try clear hk)
               (try clear hi)
               (try clear ho0)
               refine hK.out _ _ ⟨(blk_cell BK565.out 0).trans rfl,(blk_cell BK565.out 1).trans rfl,(blk_cell BK566.out 0).trans rfl,(blk_cell BK566.out 1).trans rfl,(blk_cell BK566.out 2).trans rfl⟩ (fun hHeld=>?_)
               clear hK K
               refine norm_ (a':=?_) ?_ ?_
               rotate_left
               ·show Act.put _ (some 84) _=_
                simp only [Act.put,z5,z6,z7,i64_w,i32_w]
                rfl
               refine pure_ (i:=5) (N:=some 79) (v:=?_) (a':=?_) #[t',t',t',t',t',t',f',f',f',f',f'] rfl rfl (any_of HT_.out (by kernel_rfl)) (fun _ _ _ h=>h) (Or.inl ⟨by rfl,?_⟩) ?_ ?_
               rotate_left
               ·intro w'
                go_simp
                with_reducible rfl
               rotate_left
               ·simp only [Act.put,z5,z6,z7,i64_w,i32_w]
                rfl
               refine pure_ (i:=6) (N:=some 85) (v:=?_) (a':=?_) #[t',t',t',t',t',t',t',f',f',f',f'] rfl rfl (any_of HT_.out (by kernel_rfl)) (fun _ _ _ h=>h) (Or.inl ⟨by rfl,?_⟩) ?_ ?_
               rotate_left
               ·intro w'
                go_simp
                with_reducible rfl
               rotate_left
               ·simp only [Act.put,z5,z6,z7,i64_w,i32_w]
                rfl
               refine pure_ (i:=7) (N:=some 86) (v:=?_) (a':=?_) #[t',t',t',t',t',t',t',t',f',f',f'] rfl rfl (any_of HT_.out (by kernel_rfl)) (fun _ _ _ h=>h) (Or.inl ⟨by rfl,?_⟩) ?_ ?_
               rotate_left
               ·intro w'
                go_simp
                with_reducible rfl
               rotate_left
               ·simp only [Act.put,z5,z6,z7,i64_w,i32_w]
                rfl
               refine one_ (i:=8) (N:=some 14) #[t',t',t',t',t',t',t',t',t',f',f'] rfl rfl (one_of HT_.out (by kernel_rfl)) (by decide) (fun K hK=>?_)
               refine box_step ?hg (N:=14) ?hd (cs:= #[.int .i64 0,.slice none 0 0]) (t:=24) ?hr ?_;(case hd=>rfl);(case hg=>rfl);(case hr=>first|(go_simp;done)|(go_simp;rfl))
               intro gb619 hg w113 hbox hb
               have n0_:=Aside0.mk (Kd.R_below (z4 HO_581001) hb)
               have n1_:=Aside0.mk (Kd.R_below (z4 HO_586001) hb)
               have n2_:=Aside0.mk (Kd.R_below (z4 HO_595001) hb)
               have n3_:=Aside0.mk (Kd.R_below (z4 HO610) hb)
               have n4_:=Aside0.mk (Kd.R_below (z4 HO617) hb)
               have n5_:=Aside0.mk (blk_below (g:=gb565) (o:= .cells #[.int .i64 a0_0,.slice A0_1 l0_1.length c0_1] 32 (0,0)) (z3 BK565) hb)
               have n6_:=Aside0.mk (blk_below (g:=gb566) (o:= .cells #[.int .i64 a1_0,.int .i64 a1_1,.int .i64 a1_2] 51 (0,0)) (z3 BK566) hb)
               have n7_:=Aside0.mk (blk_below (g:=gb580) (o:= .cells #[.int .i64 t575,.slice Ao30 t576.length co30] 24 (0,0)) (z3 BK580) hb)
               have n8_:=Aside0.mk (blk_below (g:=gb585) (o:= .cells #[.int .i64 t581,.slice Ao40 t602.length co40] 24 (0,0)) (z3 BK585) hb)
               have n9_:=Aside0.mk (blk_below (g:=gb594) (o:= .cells #[.int .i64 t589,.slice Ao48 t590.length co48] 24 (0,0)) (z3 BK594) hb)
               have n10_:=Aside0.mk (below_step (zb5 HB GE565 GE566 GE580 GE585 GE594) hb)
               have n11_:=Aside0.mk (hbox)
               have n12_:=Aside0.mk ((by rw [hg];exact(below_size (zb5 HB GE565 GE566 GE580 GE585 GE594)):w.heap.size≤gb619))
               have n13_:=Aside0.mk ((by rw [hg];exact(below_size (zb5 HB GE565 GE566 GE580 GE585 GE594)):w.heap.size≤gb619))
               have n14_:=Aside0.mk ((by rw [hg];exact Nat.ne_of_lt (blk_lt (g:=gb565) (o:= .cells #[.int .i64 a0_0,.slice A0_1 l0_1.length c0_1] 32 (0,0)) (z3 BK565)):gb565≠gb619))
               have n15_:=Aside0.mk ((by rw [hg];exact Nat.ne_of_gt (blk_lt (g:=gb565) (o:= .cells #[.int .i64 a0_0,.slice A0_1 l0_1.length c0_1] 32 (0,0)) (z3 BK565)):gb619≠gb565))
               have n16_:=Aside0.mk ((by rw [hg];exact Nat.ne_of_lt (blk_lt (g:=gb566) (o:= .cells #[.int .i64 a1_0,.int .i64 a1_1,.int .i64 a1_2] 51 (0,0)) (z3 BK566)):gb566≠gb619))
               have n17_:=Aside0.mk ((by rw [hg];exact Nat.ne_of_gt (blk_lt (g:=gb566) (o:= .cells #[.int .i64 a1_0,.int .i64 a1_1,.int .i64 a1_2] 51 (0,0)) (z3 BK566)):gb619≠gb566))
               have n18_:=Aside0.mk ((by rw [hg];exact Nat.ne_of_lt (blk_lt (g:=gb580) (o:= .cells #[.int .i64 t575,.slice Ao30 t576.length co30] 24 (0,0)) (z3 BK580)):gb580≠gb619))
               have n19_:=Aside0.mk ((by rw [hg];exact Nat.ne_of_gt (blk_lt (g:=gb580) (o:= .cells #[.int .i64 t575,.slice Ao30 t576.length co30] 24 (0,0)) (z3 BK580)):gb619≠gb580))
               have n20_:=Aside0.mk ((by rw [hg];exact Nat.ne_of_lt (blk_lt (g:=gb585) (o:= .cells #[.int .i64 t581,.slice Ao40 t602.length co40] 24 (0,0)) (z3 BK585)):gb585≠gb619))
               have n21_:=Aside0.mk ((by rw [hg];exact Nat.ne_of_gt (blk_lt (g:=gb585) (o:= .cells #[.int .i64 t581,.slice Ao40 t602.length co40] 24 (0,0)) (z3 BK585)):gb619≠gb585))
               have n22_:=Aside0.mk ((by rw [hg];exact Nat.ne_of_lt (blk_lt (g:=gb594) (o:= .cells #[.int .i64 t589,.slice Ao48 t590.length co48] 24 (0,0)) (z3 BK594)):gb594≠gb619))
               have n23_:=Aside0.mk ((by rw [hg];exact Nat.ne_of_gt (blk_lt (g:=gb594) (o:= .cells #[.int .i64 t589,.slice Ao48 t590.length co48] 24 (0,0)) (z3 BK594)):gb619≠gb594))
               clear HO_581001
               clear HO_586001
               clear HO_595001
               clear HO610
               clear HO617
               clear BK565
               clear BK566
               clear BK580
               clear BK585
               clear BK594
               clear HB
               have HO_581001:=n0_
               have HO_586001:=n1_
               have HO_595001:=n2_
               have HO610:=n3_
               have HO617:=n4_
               have BK565:=n5_
               have BK566:=n6_
               have BK580:=n7_
               have BK585:=n8_
               have BK594:=n9_
               have HB:=n10_
               have BK619:=n11_
               have GW619:=n12_
               have GE619:=n13_
               have NB565_619:=n14_
               have NB619_565:=n15_
               have NB566_619:=n16_
               have NB619_566:=n17_
               have NB580_619:=n18_
               have NB619_580:=n19_
               have NB585_619:=n20_
               have NB619_585:=n21_
               have NB594_619:=n22_
               have NB619_594:=n23_
               clear n0_ n1_ n2_ n3_ n4_ n5_ n6_ n7_ n8_ n9_ n10_ n11_ n12_ n13_ n14_ n15_ n16_ n17_ n18_ n19_ n20_ n21_ n22_ n23_
               clear hb hbox hg
               refine hK.out _ _ ⟨(blk_cell BK565.out 0).trans rfl,(blk_cell BK565.out 1).trans rfl,(blk_cell BK566.out 0).trans rfl,(blk_cell BK566.out 1).trans rfl,(blk_cell BK566.out 2).trans rfl⟩ (fun hHeld=>?_)
               clear hK K
               refine norm_ (a':=?_) ?_ ?_
               rotate_left
               ·show Act.put _ (some 14) _=_
                simp only [Act.put,z5,z6,z7,i64_w,i32_w]
                rfl
               exact norm_ (by simp only [putAll,Act.put,z5,z6,z7]) (hCont (.slice Ao111 t608.length co111,v616,gb619) _ ⟨hHeld,(by(with_reducible repeat(first|apply Kd.R_alloc|apply Kd.R_drewN|apply Kd.R_drew));exact Kd.R_mono HO610.out (fun _ hk=>⟨hk.2,⟨hk.1.1.1.2,⟨hk.1.1.2,hk.1.2⟩⟩⟩)),(by(with_reducible repeat(first|apply Kd.R_alloc|apply Kd.R_drewN|apply Kd.R_drew));exact Kd.R_mono HO617.out (fun _ hk=>⟨hk.2,⟨hk.1.1.1.2,⟨hk.1.1.2,hk.1.2⟩⟩⟩)),(by(with_reducible repeat(first|apply Kd.R_alloc|apply Kd.R_drewN|apply Kd.R_drew));exact Kd.R_mono HO_581001.out (fun _ hk=>⟨hk.1.2,⟨hk.2,⟨hk.1.1.1,hk.1.1.2⟩⟩⟩)),(by(with_reducible repeat(first|apply Kd.R_alloc|apply Kd.R_drewN|apply Kd.R_drew));exact Kd.R_mono HO_586001.out (fun _ hk=>⟨hk.1.2,⟨hk.2,⟨hk.1.1.1,hk.1.1.2⟩⟩⟩)),(by(with_reducible repeat(first|apply Kd.R_alloc|apply Kd.R_drewN|apply Kd.R_drew));exact Kd.R_mono HO_595001.out (fun _ hk=>⟨hk.1.2,⟨hk.2,⟨hk.1.1.1,hk.1.1.2⟩⟩⟩)),(z3 BK565),(z3 BK566),(z3 BK580),(z3 BK585),(z3 BK594),(z3 BK619),GW619.out,GE619.out,NB565_619.out,NB619_565.out,NB566_619.out,NB619_566.out,NB580_619.out,NB619_580.out,NB585_619.out,NB619_585.out,NB594_619.out,NB619_594.out,(zb6 HB GE565 GE566 GE580 GE585 GE594 GE619)⟩)
              ·skip
               refine box_step ?hg (N:=14) ?hd (cs:= #[.int .i64 0,.slice none 0 0]) (t:=24) ?hr ?_;(case hd=>rfl);(case hg=>rfl);(case hr=>first|(go_simp;done)|(go_simp;rfl))
               intro gb619 hg w111 hbox hb
               have n0_:=Aside0.mk (Kd.R_below (z4 HO_581001) hb)
               have n1_:=Aside0.mk (Kd.R_below (z4 HO_586001) hb)
               have n2_:=Aside0.mk (Kd.R_below (z4 HO_595001) hb)
               have n3_:=Aside0.mk (Kd.R_below (z4 HO610) hb)
               have n4_:=Aside0.mk (blk_below (g:=gb565) (o:= .cells #[.int .i64 a0_0,.slice A0_1 l0_1.length c0_1] 32 (0,0)) (z3 BK565) hb)
               have n5_:=Aside0.mk (blk_below (g:=gb566) (o:= .cells #[.int .i64 a1_0,.int .i64 a1_1,.int .i64 a1_2] 51 (0,0)) (z3 BK566) hb)
               have n6_:=Aside0.mk (blk_below (g:=gb580) (o:= .cells #[.int .i64 t575,.slice Ao30 t576.length co30] 24 (0,0)) (z3 BK580) hb)
               have n7_:=Aside0.mk (blk_below (g:=gb585) (o:= .cells #[.int .i64 t581,.slice Ao40 t602.length co40] 24 (0,0)) (z3 BK585) hb)
               have n8_:=Aside0.mk (blk_below (g:=gb594) (o:= .cells #[.int .i64 t589,.slice Ao48 t590.length co48] 24 (0,0)) (z3 BK594) hb)
               have n9_:=Aside0.mk (below_step (zb5 HB GE565 GE566 GE580 GE585 GE594) hb)
               have n10_:=Aside0.mk (hbox)
               have n11_:=Aside0.mk ((by rw [hg];exact(below_size (zb5 HB GE565 GE566 GE580 GE585 GE594)):w.heap.size≤gb619))
               have n12_:=Aside0.mk ((by rw [hg];exact(below_size (zb5 HB GE565 GE566 GE580 GE585 GE594)):w.heap.size≤gb619))
               have n13_:=Aside0.mk ((by rw [hg];exact Nat.ne_of_lt (blk_lt (g:=gb565) (o:= .cells #[.int .i64 a0_0,.slice A0_1 l0_1.length c0_1] 32 (0,0)) (z3 BK565)):gb565≠gb619))
               have n14_:=Aside0.mk ((by rw [hg];exact Nat.ne_of_gt (blk_lt (g:=gb565) (o:= .cells #[.int .i64 a0_0,.slice A0_1 l0_1.length c0_1] 32 (0,0)) (z3 BK565)):gb619≠gb565))
               have n15_:=Aside0.mk ((by rw [hg];exact Nat.ne_of_lt (blk_lt (g:=gb566) (o:= .cells #[.int .i64 a1_0,.int .i64 a1_1,.int .i64 a1_2] 51 (0,0)) (z3 BK566)):gb566≠gb619))
               have n16_:=Aside0.mk ((by rw [hg];exact Nat.ne_of_gt (blk_lt (g:=gb566) (o:= .cells #[.int .i64 a1_0,.int .i64 a1_1,.int .i64 a1_2] 51 (0,0)) (z3 BK566)):gb619≠gb566))
               have n17_:=Aside0.mk ((by rw [hg];exact Nat.ne_of_lt (blk_lt (g:=gb580) (o:= .cells #[.int .i64 t575,.slice Ao30 t576.length co30] 24 (0,0)) (z3 BK580)):gb580≠gb619))
               have n18_:=Aside0.mk ((by rw [hg];exact Nat.ne_of_gt (blk_lt (g:=gb580) (o:= .cells #[.int .i64 t575,.slice Ao30 t576.length co30] 24 (0,0)) (z3 BK580)):gb619≠gb580))
               have n19_:=Aside0.mk ((by rw [hg];exact Nat.ne_of_lt (blk_lt (g:=gb585) (o:= .cells #[.int .i64 t581,.slice Ao40 t602.length co40] 24 (0,0)) (z3 BK585)):gb585≠gb619))
               have n20_:=Aside0.mk ((by rw [hg];exact Nat.ne_of_gt (blk_lt (g:=gb585) (o:= .cells #[.int .i64 t581,.slice Ao40 t602.length co40] 24 (0,0)) (z3 BK585)):gb619≠gb585))
               have n21_:=Aside0.mk ((by rw [hg];exact Nat.ne_of_lt (blk_lt (g:=gb594) (o:= .cells #[.int .i64 t589,.slice Ao48 t590.length co48] 24 (0,0)) (z3 BK594)):gb594≠gb619))
               have n22_:=Aside0.mk ((by rw [hg];exact Nat.ne_of_gt (blk_lt (g:=gb594) (o:= .cells #[.int .i64 t589,.slice Ao48 t590.length co48] 24 (0,0)) (z3 BK594)):gb619≠gb594))
               clear HO_581001
               clear HO_586001
               clear HO_595001
               clear HO610
               clear BK565
               clear BK566
               clear BK580
               clear BK585
               clear BK594
               clear HB
               have HO_581001:=n0_
               have HO_586001:=n1_
               have HO_595001:=n2_
               have HO610:=n3_
               have BK565:=n4_
               have BK566:=n5_
               have BK580:=n6_
               have BK585:=n7_
               have BK594:=n8_
               have HB:=n9_
               have BK619:=n10_
               have GW619:=n11_
               have GE619:=n12_
               have NB565_619:=n13_
               have NB619_565:=n14_
               have NB566_619:=n15_
               have NB619_566:=n16_
               have NB580_619:=n17_
               have NB619_580:=n18_
               have NB585_619:=n19_
               have NB619_585:=n20_
               have NB594_619:=n21_
               have NB619_594:=n22_
               clear n0_ n1_ n2_ n3_ n4_ n5_ n6_ n7_ n8_ n9_ n10_ n11_ n12_ n13_ n14_ n15_ n16_ n17_ n18_ n19_ n20_ n21_ n22_
               clear hb hbox hg
               obtain⟨Ao112,co112,eo112⟩:=Kd.R_slice HO610.out
               (first|subst eo112|(injection eo112 with f1_ f2_ f3_;have f4_:=f1_.symm;have f5_:=f3_.symm;clear f1_ f2_ f3_;subst f4_;subst f5_))
               refine hK.out _ _ ⟨(blk_cell BK565.out 0).trans rfl,(blk_cell BK565.out 1).trans rfl,(blk_cell BK566.out 0).trans rfl,(blk_cell BK566.out 1).trans rfl,(blk_cell BK566.out 2).trans rfl⟩ (fun hHeld=>?_)
               clear hK K
               refine norm_ (a':=?_) ?_ ?_
               rotate_left
               ·show Act.put _ (some 14) _=_
                simp only [Act.put,z5,z6,z7,i64_w,i32_w]
                rfl
               refine one_ (i:=4) (N:=some 84) #[t',t',t',t',t',f',f',f',t',f',f'] rfl rfl (one_of HT_.out (by kernel_rfl)) (by decide) (fun K hK=>?_)
               refine goes_ Try.func37 (by kernel_rfl) rfl #[.agg #[.int .i64 t607,.slice Ao112 t608.length co112],.agg #[.int .i64 t611,.int .i64 t612,.int .i64 t613]] (by rfl) rfl rfl z2 ?_
               with_reducible refine(impl_Learn.calls kj66 t607 _ _ t608 t611 t612 t613 t614 t615 t618 _ ?side1 ?side2 A98.out).mono ?_
               (case side1=>repeat(first|exact(Kd.R_reads' HO610.out).2.2|(with_reducible refine Kd.C_alloc ?_ _)|(with_reducible refine Kd.C_drewN ?_ _)|(with_reducible refine Kd.C_drew ?_)))
               (case side2=>exact(Kd.R_reads' HO610.out).2.1)
               rintro e w113 ⟨v616,rfl,ho0,hb⟩
               refine⟨_,rfl,?_⟩
               have n0_:=Aside0.mk (Kd.R_elder' (z4 HO_581001) (Kd.R_base ho0) hb)
               have n1_:=Aside0.mk (Kd.R_elder' (z4 HO_586001) (Kd.R_base ho0) hb)
               have n2_:=Aside0.mk (Kd.R_elder' (z4 HO_595001) (Kd.R_base ho0) hb)
               have n3_:=Aside0.mk (Kd.R_elder' (z4 HO610) (Kd.R_base ho0) hb)
               have n4_:=Aside0.mk (Kd.R_lower (Kd.R_new' (Kd.R_new' (Kd.R_new' (Kd.R_new' ho0 (Kd.R_lt (z4 HO_581001))) (Kd.R_lt (z4 HO_586001))) (Kd.R_lt (z4 HO_595001))) (Kd.R_lt (z4 HO610))) (below_size (zb6 HB GE565 GE566 GE580 GE585 GE594 GE619)))
               have n5_:=Aside0.mk (blk_below (g:=gb565) (o:= .cells #[.int .i64 a0_0,.slice A0_1 l0_1.length c0_1] 32 (0,0)) (z3 BK565) hb)
               have n6_:=Aside0.mk (blk_below (g:=gb566) (o:= .cells #[.int .i64 a1_0,.int .i64 a1_1,.int .i64 a1_2] 51 (0,0)) (z3 BK566) hb)
               have n7_:=Aside0.mk (blk_below (g:=gb580) (o:= .cells #[.int .i64 t575,.slice Ao30 t576.length co30] 24 (0,0)) (z3 BK580) hb)
               have n8_:=Aside0.mk (blk_below (g:=gb585) (o:= .cells #[.int .i64 t581,.slice Ao40 t602.length co40] 24 (0,0)) (z3 BK585) hb)
               have n9_:=Aside0.mk (blk_below (g:=gb594) (o:= .cells #[.int .i64 t589,.slice Ao48 t590.length co48] 24 (0,0)) (z3 BK594) hb)
               have n10_:=Aside0.mk (blk_below (g:=gb619) (o:= .cells #[.int .i64 0,.slice none 0 0] 24 (0,0)) (z3 BK619) hb)
               have n11_:=Aside0.mk (below_step (zb6 HB GE565 GE566 GE580 GE585 GE594 GE619) hb)
               clear HO_581001
               clear HO_586001
               clear HO_595001
               clear HO610
               clear BK565
               clear BK566
               clear BK580
               clear BK585
               clear BK594
               clear BK619
               clear HB
               have HO_581001:=n0_
               have HO_586001:=n1_
               have HO_595001:=n2_
               have HO610:=n3_
               have HO617:=n4_
               have BK565:=n5_
               have BK566:=n6_
               have BK580:=n7_
               have BK585:=n8_
               have BK594:=n9_
               have BK619:=n10_
               have HB:=n11_
               clear n0_ n1_ n2_ n3_ n4_ n5_ n6_ n7_ n8_ n9_ n10_ n11_
               (try clear hb)
               (try clear hb2)
               (try clear hk)
               (try clear hi)
               (try clear ho0)
               refine hK.out _ _ ⟨(blk_cell BK565.out 0).trans rfl,(blk_cell BK565.out 1).trans rfl,(blk_cell BK566.out 0).trans rfl,(blk_cell BK566.out 1).trans rfl,(blk_cell BK566.out 2).trans rfl⟩ (fun hHeld=>?_)
               clear hK K
               refine norm_ (a':=?_) ?_ ?_
               rotate_left
               ·show Act.put _ (some 84) _=_
                simp only [Act.put,z5,z6,z7,i64_w,i32_w]
                rfl
               refine pure_ (i:=5) (N:=some 79) (v:=?_) (a':=?_) #[t',t',t',t',t',t',f',f',t',f',f'] rfl rfl (any_of HT_.out (by kernel_rfl)) (fun _ _ _ h=>h) (Or.inl ⟨by rfl,?_⟩) ?_ ?_
               rotate_left
               ·intro w'
                go_simp
                with_reducible rfl
               rotate_left
               ·simp only [Act.put,z5,z6,z7,i64_w,i32_w]
                rfl
               refine pure_ (i:=6) (N:=some 85) (v:=?_) (a':=?_) #[t',t',t',t',t',t',t',f',t',f',f'] rfl rfl (any_of HT_.out (by kernel_rfl)) (fun _ _ _ h=>h) (Or.inl ⟨by rfl,?_⟩) ?_ ?_
               rotate_left
               ·intro w'
                go_simp
                with_reducible rfl
               rotate_left
               ·simp only [Act.put,z5,z6,z7,i64_w,i32_w]
                rfl
               refine pure_ (i:=7) (N:=some 86) (v:=?_) (a':=?_) #[t',t',t',t',t',t',t',t',t',f',f'] rfl rfl (any_of HT_.out (by kernel_rfl)) (fun _ _ _ h=>h) (Or.inl ⟨by rfl,?_⟩) ?_ ?_
               rotate_left
               ·intro w'
                go_simp
                with_reducible rfl
               rotate_left
               ·simp only [Act.put,z5,z6,z7,i64_w,i32_w]
                rfl
               exact norm_ (by simp only [putAll,Act.put,z5,z6,z7]) (hCont (.slice Ao112 t608.length co112,v616,gb619) _ ⟨hHeld,(by(with_reducible repeat(first|apply Kd.R_alloc|apply Kd.R_drewN|apply Kd.R_drew));exact Kd.R_mono HO610.out (fun _ hk=>⟨hk.2,⟨hk.1.1.1.2,⟨hk.1.1.2,hk.1.2⟩⟩⟩)),(by(with_reducible repeat(first|apply Kd.R_alloc|apply Kd.R_drewN|apply Kd.R_drew));exact Kd.R_mono HO617.out (fun _ hk=>⟨hk.2,⟨hk.1.1.1.2,⟨hk.1.1.2,hk.1.2⟩⟩⟩)),(by(with_reducible repeat(first|apply Kd.R_alloc|apply Kd.R_drewN|apply Kd.R_drew));exact Kd.R_mono HO_581001.out (fun _ hk=>⟨hk.1.2,⟨hk.2,⟨hk.1.1.1,hk.1.1.2⟩⟩⟩)),(by(with_reducible repeat(first|apply Kd.R_alloc|apply Kd.R_drewN|apply Kd.R_drew));exact Kd.R_mono HO_586001.out (fun _ hk=>⟨hk.1.2,⟨hk.2,⟨hk.1.1.1,hk.1.1.2⟩⟩⟩)),(by(with_reducible repeat(first|apply Kd.R_alloc|apply Kd.R_drewN|apply Kd.R_drew));exact Kd.R_mono HO_595001.out (fun _ hk=>⟨hk.1.2,⟨hk.2,⟨hk.1.1.1,hk.1.1.2⟩⟩⟩)),(z3 BK565),(z3 BK566),(z3 BK580),(z3 BK585),(z3 BK594),(z3 BK619),GW619.out,GE619.out,NB565_619.out,NB619_565.out,NB566_619.out,NB619_566.out,NB580_619.out,NB619_580.out,NB585_619.out,NB619_585.out,NB594_619.out,NB619_594.out,(zb6 HB GE565 GE566 GE580 GE585 GE594 GE619)⟩)
             ·skip
              refine box_step ?hg (N:=14) ?hd (cs:= #[.int .i64 0,.slice none 0 0]) (t:=24) ?hr ?_;(case hd=>rfl);(case hg=>rfl);(case hr=>first|(go_simp;done)|(go_simp;rfl))
              intro gb619 hg w110 hbox hb
              have n0_:=Aside0.mk (Kd.R_below (z4 HO_581001) hb)
              have n1_:=Aside0.mk (Kd.R_below (z4 HO_586001) hb)
              have n2_:=Aside0.mk (Kd.R_below (z4 HO_595001) hb)
              have n3_:=Aside0.mk (Kd.R_below (z4 HO610) hb)
              have n4_:=Aside0.mk (blk_below (g:=gb565) (o:= .cells #[.int .i64 a0_0,.slice A0_1 l0_1.length c0_1] 32 (0,0)) (z3 BK565) hb)
              have n5_:=Aside0.mk (blk_below (g:=gb566) (o:= .cells #[.int .i64 a1_0,.int .i64 a1_1,.int .i64 a1_2] 51 (0,0)) (z3 BK566) hb)
              have n6_:=Aside0.mk (blk_below (g:=gb580) (o:= .cells #[.int .i64 t575,.slice Ao30 t576.length co30] 24 (0,0)) (z3 BK580) hb)
              have n7_:=Aside0.mk (blk_below (g:=gb585) (o:= .cells #[.int .i64 t581,.slice Ao40 t602.length co40] 24 (0,0)) (z3 BK585) hb)
              have n8_:=Aside0.mk (blk_below (g:=gb594) (o:= .cells #[.int .i64 t589,.slice Ao48 t590.length co48] 24 (0,0)) (z3 BK594) hb)
              have n9_:=Aside0.mk (below_step (zb5 HB GE565 GE566 GE580 GE585 GE594) hb)
              have n10_:=Aside0.mk (hbox)
              have n11_:=Aside0.mk ((by rw [hg];exact(below_size (zb5 HB GE565 GE566 GE580 GE585 GE594)):w.heap.size≤gb619))
              have n12_:=Aside0.mk ((by rw [hg];exact(below_size (zb5 HB GE565 GE566 GE580 GE585 GE594)):w.heap.size≤gb619))
              have n13_:=Aside0.mk ((by rw [hg];exact Nat.ne_of_lt (blk_lt (g:=gb565) (o:= .cells #[.int .i64 a0_0,.slice A0_1 l0_1.length c0_1] 32 (0,0)) (z3 BK565)):gb565≠gb619))
              have n14_:=Aside0.mk ((by rw [hg];exact Nat.ne_of_gt (blk_lt (g:=gb565) (o:= .cells #[.int .i64 a0_0,.slice A0_1 l0_1.length c0_1] 32 (0,0)) (z3 BK565)):gb619≠gb565))
              have n15_:=Aside0.mk ((by rw [hg];exact Nat.ne_of_lt (blk_lt (g:=gb566) (o:= .cells #[.int .i64 a1_0,.int .i64 a1_1,.int .i64 a1_2] 51 (0,0)) (z3 BK566)):gb566≠gb619))
              have n16_:=Aside0.mk ((by rw [hg];exact Nat.ne_of_gt (blk_lt (g:=gb566) (o:= .cells #[.int .i64 a1_0,.int .i64 a1_1,.int .i64 a1_2] 51 (0,0)) (z3 BK566)):gb619≠gb566))
              have n17_:=Aside0.mk ((by rw [hg];exact Nat.ne_of_lt (blk_lt (g:=gb580) (o:= .cells #[.int .i64 t575,.slice Ao30 t576.length co30] 24 (0,0)) (z3 BK580)):gb580≠gb619))
              have n18_:=Aside0.mk ((by rw [hg];exact Nat.ne_of_gt (blk_lt (g:=gb580) (o:= .cells #[.int .i64 t575,.slice Ao30 t576.length co30] 24 (0,0)) (z3 BK580)):gb619≠gb580))
              have n19_:=Aside0.mk ((by rw [hg];exact Nat.ne_of_lt (blk_lt (g:=gb585) (o:= .cells #[.int .i64 t581,.slice Ao40 t602.length co40] 24 (0,0)) (z3 BK585)):gb585≠gb619))
              have n20_:=Aside0.mk ((by rw [hg];exact Nat.ne_of_gt (blk_lt (g:=gb585) (o:= .cells #[.int .i64 t581,.slice Ao40 t602.length co40] 24 (0,0)) (z3 BK585)):gb619≠gb585))
              have n21_:=Aside0.mk ((by rw [hg];exact Nat.ne_of_lt (blk_lt (g:=gb594) (o:= .cells #[.int .i64 t589,.slice Ao48 t590.length co48] 24 (0,0)) (z3 BK594)):gb594≠gb619))
              have n22_:=Aside0.mk ((by rw [hg];exact Nat.ne_of_gt (blk_lt (g:=gb594) (o:= .cells #[.int .i64 t589,.slice Ao48 t590.length co48] 24 (0,0)) (z3 BK594)):gb619≠gb594))
              clear HO_581001
              clear HO_586001
              clear HO_595001
              clear HO610
              clear BK565
              clear BK566
              clear BK580
              clear BK585
              clear BK594
              clear HB
              have HO_581001:=n0_
              have HO_586001:=n1_
              have HO_595001:=n2_
              have HO610:=n3_
              have BK565:=n4_
              have BK566:=n5_
              have BK580:=n6_
              have BK585:=n7_
              have BK594:=n8_
              have HB:=n9_
              have BK619:=n10_
              have GW619:=n11_
              have GE619:=n12_
              have NB565_619:=n13_
              have NB619_565:=n14_
              have NB566_619:=n15_
              have NB619_566:=n16_
              have NB580_619:=n17_
              have NB619_580:=n18_
              have NB585_619:=n19_
              have NB619_585:=n20_
              have NB594_619:=n21_
              have NB619_594:=n22_
              clear n0_ n1_ n2_ n3_ n4_ n5_ n6_ n7_ n8_ n9_ n10_ n11_ n12_ n13_ n14_ n15_ n16_ n17_ n18_ n19_ n20_ n21_ n22_
              clear hb hbox hg
              refine hK.out _ _ ⟨(blk_cell BK565.out 0).trans rfl,(blk_cell BK565.out 1).trans rfl,(blk_cell BK566.out 0).trans rfl,(blk_cell BK566.out 1).trans rfl,(blk_cell BK566.out 2).trans rfl⟩ (fun hHeld=>?_)
              clear hK K
              refine norm_ (a':=?_) ?_ ?_
              rotate_left
              ·show Act.put _ (some 14) _=_
               simp only [Act.put,z5,z6,z7,i64_w,i32_w]
               rfl
              refine one_ (i:=3) (N:=some 83) #[t',t',t',t',f',f',f',f',t',f',f'] rfl rfl (one_of HT_.out (by kernel_rfl)) (by decide) (fun K hK=>?_)
              refine goes_ Try.func36 (by kernel_rfl) rfl #[.agg #[.int .i64 a1_0,.int .i64 a1_1,.int .i64 a1_2]] (by rfl) rfl rfl z2 ?_
              with_reducible refine(laws_toSeen.calls a1_0 a1_1 a1_2 t611 t612 t613 _ A97.out).mono ?_
              rintro e w111 ⟨rfl,hb⟩
              refine⟨_,rfl,?_⟩
              have n0_:=Aside0.mk (Kd.R_below (z4 HO_581001) hb)
              have n1_:=Aside0.mk (Kd.R_below (z4 HO_586001) hb)
              have n2_:=Aside0.mk (Kd.R_below (z4 HO_595001) hb)
              have n3_:=Aside0.mk (Kd.R_below (z4 HO610) hb)
              have n4_:=Aside0.mk (blk_below (g:=gb565) (o:= .cells #[.int .i64 a0_0,.slice A0_1 l0_1.length c0_1] 32 (0,0)) (z3 BK565) hb)
              have n5_:=Aside0.mk (blk_below (g:=gb566) (o:= .cells #[.int .i64 a1_0,.int .i64 a1_1,.int .i64 a1_2] 51 (0,0)) (z3 BK566) hb)
              have n6_:=Aside0.mk (blk_below (g:=gb580) (o:= .cells #[.int .i64 t575,.slice Ao30 t576.length co30] 24 (0,0)) (z3 BK580) hb)
              have n7_:=Aside0.mk (blk_below (g:=gb585) (o:= .cells #[.int .i64 t581,.slice Ao40 t602.length co40] 24 (0,0)) (z3 BK585) hb)
              have n8_:=Aside0.mk (blk_below (g:=gb594) (o:= .cells #[.int .i64 t589,.slice Ao48 t590.length co48] 24 (0,0)) (z3 BK594) hb)
              have n9_:=Aside0.mk (blk_below (g:=gb619) (o:= .cells #[.int .i64 0,.slice none 0 0] 24 (0,0)) (z3 BK619) hb)
              have n10_:=Aside0.mk (below_step (zb6 HB GE565 GE566 GE580 GE585 GE594 GE619) hb)
              clear HO_581001
              clear HO_586001
              clear HO_595001
              clear HO610
              clear BK565
              clear BK566
              clear BK580
              clear BK585
              clear BK594
              clear BK619
              clear HB
              have HO_581001:=n0_
              have HO_586001:=n1_
              have HO_595001:=n2_
              have HO610:=n3_
              have BK565:=n4_
              have BK566:=n5_
              have BK580:=n6_
              have BK585:=n7_
              have BK594:=n8_
              have BK619:=n9_
              have HB:=n10_
              clear n0_ n1_ n2_ n3_ n4_ n5_ n6_ n7_ n8_ n9_ n10_
              (try clear hb)
              (try clear hb2)
              (try clear hk)
              (try clear hi)
              obtain⟨Ao112,co112,eo112⟩:=Kd.R_slice HO610.out
              (first|subst eo112|(injection eo112 with f1_ f2_ f3_;have f4_:=f1_.symm;have f5_:=f3_.symm;clear f1_ f2_ f3_;subst f4_;subst f5_))
              refine hK.out _ _ ⟨(blk_cell BK565.out 0).trans rfl,(blk_cell BK565.out 1).trans rfl,(blk_cell BK566.out 0).trans rfl,(blk_cell BK566.out 1).trans rfl,(blk_cell BK566.out 2).trans rfl⟩ (fun hHeld=>?_)
              clear hK K
              refine norm_ (a':=?_) ?_ ?_
              rotate_left
              ·show Act.put _ (some 83) _=_
               simp only [Act.put,z5,z6,z7,i64_w,i32_w]
               rfl
              refine one_ (i:=4) (N:=some 84) #[t',t',t',t',t',f',f',f',t',f',f'] rfl rfl (one_of HT_.out (by kernel_rfl)) (by decide) (fun K hK=>?_)
              refine goes_ Try.func37 (by kernel_rfl) rfl #[.agg #[.int .i64 t607,.slice Ao112 t608.length co112],.agg #[.int .i64 t611,.int .i64 t612,.int .i64 t613]] (by rfl) rfl rfl z2 ?_
              with_reducible refine(impl_Learn.calls kj66 t607 _ _ t608 t611 t612 t613 t614 t615 t618 _ ?side1 ?side2 A98.out).mono ?_
              (case side1=>repeat(first|exact(Kd.R_reads' HO610.out).2.2|(with_reducible refine Kd.C_alloc ?_ _)|(with_reducible refine Kd.C_drewN ?_ _)|(with_reducible refine Kd.C_drew ?_)))
              (case side2=>exact(Kd.R_reads' HO610.out).2.1)
              rintro e w113 ⟨v616,rfl,ho0,hb⟩
              refine⟨_,rfl,?_⟩
              have n0_:=Aside0.mk (Kd.R_elder' (z4 HO_581001) (Kd.R_base ho0) hb)
              have n1_:=Aside0.mk (Kd.R_elder' (z4 HO_586001) (Kd.R_base ho0) hb)
              have n2_:=Aside0.mk (Kd.R_elder' (z4 HO_595001) (Kd.R_base ho0) hb)
              have n3_:=Aside0.mk (Kd.R_elder' (z4 HO610) (Kd.R_base ho0) hb)
              have n4_:=Aside0.mk (Kd.R_lower (Kd.R_new' (Kd.R_new' (Kd.R_new' (Kd.R_new' ho0 (Kd.R_lt (z4 HO_581001))) (Kd.R_lt (z4 HO_586001))) (Kd.R_lt (z4 HO_595001))) (Kd.R_lt (z4 HO610))) (below_size (zb6 HB GE565 GE566 GE580 GE585 GE594 GE619)))
              have n5_:=Aside0.mk (blk_below (g:=gb565) (o:= .cells #[.int .i64 a0_0,.slice A0_1 l0_1.length c0_1] 32 (0,0)) (z3 BK565) hb)
              have n6_:=Aside0.mk (blk_below (g:=gb566) (o:= .cells #[.int .i64 a1_0,.int .i64 a1_1,.int .i64 a1_2] 51 (0,0)) (z3 BK566) hb)
              have n7_:=Aside0.mk (blk_below (g:=gb580) (o:= .cells #[.int .i64 t575,.slice Ao30 t576.length co30] 24 (0,0)) (z3 BK580) hb)
              have n8_:=Aside0.mk (blk_below (g:=gb585) (o:= .cells #[.int .i64 t581,.slice Ao40 t602.length co40] 24 (0,0)) (z3 BK585) hb)
              have n9_:=Aside0.mk (blk_below (g:=gb594) (o:= .cells #[.int .i64 t589,.slice Ao48 t590.length co48] 24 (0,0)) (z3 BK594) hb)
              have n10_:=Aside0.mk (blk_below (g:=gb619) (o:= .cells #[.int .i64 0,.slice none 0 0] 24 (0,0)) (z3 BK619) hb)
              have n11_:=Aside0.mk (below_step (zb6 HB GE565 GE566 GE580 GE585 GE594 GE619) hb)
              clear HO_581001
              clear HO_586001
              clear HO_595001
              clear HO610
              clear BK565
              clear BK566
              clear BK580
              clear BK585
              clear BK594
              clear BK619
              clear HB
              have HO_581001:=n0_
              have HO_586001:=n1_
              have HO_595001:=n2_
              have HO610:=n3_
              have HO617:=n4_
              have BK565:=n5_
              have BK566:=n6_
              have BK580:=n7_
              have BK585:=n8_
              have BK594:=n9_
              have BK619:=n10_
              have HB:=n11_
              clear n0_ n1_ n2_ n3_ n4_ n5_ n6_ n7_ n8_ n9_ n10_ n11_
              (try clear hb)
              (try clear hb2)
              (try clear hk)
              (try clear hi)
              (try clear ho0)
              refine hK.out _ _ ⟨(blk_cell BK565.out 0).trans rfl,(blk_cell BK565.out 1).trans rfl,(blk_cell BK566.out 0).trans rfl,(blk_cell BK566.out 1).trans rfl,(blk_cell BK566.out 2).trans rfl⟩ (fun hHeld=>?_)
              clear hK K
              refine norm_ (a':=?_) ?_ ?_
              rotate_left
              ·show Act.put _ (some 84) _=_
               simp only [Act.put,z5,z6,z7,i64_w,i32_w]
               rfl
              refine pure_ (i:=5) (N:=some 79) (v:=?_) (a':=?_) #[t',t',t',t',t',t',f',f',t',f',f'] rfl rfl (any_of HT_.out (by kernel_rfl)) (fun _ _ _ h=>h) (Or.inl ⟨by rfl,?_⟩) ?_ ?_
              rotate_left
              ·intro w'
               go_simp
               with_reducible rfl
              rotate_left
              ·simp only [Act.put,z5,z6,z7,i64_w,i32_w]
               rfl
              refine pure_ (i:=6) (N:=some 85) (v:=?_) (a':=?_) #[t',t',t',t',t',t',t',f',t',f',f'] rfl rfl (any_of HT_.out (by kernel_rfl)) (fun _ _ _ h=>h) (Or.inl ⟨by rfl,?_⟩) ?_ ?_
              rotate_left
              ·intro w'
               go_simp
               with_reducible rfl
              rotate_left
              ·simp only [Act.put,z5,z6,z7,i64_w,i32_w]
               rfl
              refine pure_ (i:=7) (N:=some 86) (v:=?_) (a':=?_) #[t',t',t',t',t',t',t',t',t',f',f'] rfl rfl (any_of HT_.out (by kernel_rfl)) (fun _ _ _ h=>h) (Or.inl ⟨by rfl,?_⟩) ?_ ?_
              rotate_left
              ·intro w'
               go_simp
               with_reducible rfl
              rotate_left
              ·simp only [Act.put,z5,z6,z7,i64_w,i32_w]
               rfl
              exact norm_ (by simp only [putAll,Act.put,z5,z6,z7]) (hCont (.slice Ao112 t608.length co112,v616,gb619) _ ⟨hHeld,(by(with_reducible repeat(first|apply Kd.R_alloc|apply Kd.R_drewN|apply Kd.R_drew));exact Kd.R_mono HO610.out (fun _ hk=>⟨hk.2,⟨hk.1.1.1.2,⟨hk.1.1.2,hk.1.2⟩⟩⟩)),(by(with_reducible repeat(first|apply Kd.R_alloc|apply Kd.R_drewN|apply Kd.R_drew));exact Kd.R_mono HO617.out (fun _ hk=>⟨hk.2,⟨hk.1.1.1.2,⟨hk.1.1.2,hk.1.2⟩⟩⟩)),(by(with_reducible repeat(first|apply Kd.R_alloc|apply Kd.R_drewN|apply Kd.R_drew));exact Kd.R_mono HO_581001.out (fun _ hk=>⟨hk.1.2,⟨hk.2,⟨hk.1.1.1,hk.1.1.2⟩⟩⟩)),(by(with_reducible repeat(first|apply Kd.R_alloc|apply Kd.R_drewN|apply Kd.R_drew));exact Kd.R_mono HO_586001.out (fun _ hk=>⟨hk.1.2,⟨hk.2,⟨hk.1.1.1,hk.1.1.2⟩⟩⟩)),(by(with_reducible repeat(first|apply Kd.R_alloc|apply Kd.R_drewN|apply Kd.R_drew));exact Kd.R_mono HO_595001.out (fun _ hk=>⟨hk.1.2,⟨hk.2,⟨hk.1.1.1,hk.1.1.2⟩⟩⟩)),(z3 BK565),(z3 BK566),(z3 BK580),(z3 BK585),(z3 BK594),(z3 BK619),GW619.out,GE619.out,NB565_619.out,NB619_565.out,NB566_619.out,NB619_566.out,NB580_619.out,NB619_580.out,NB585_619.out,NB619_585.out,NB594_619.out,NB619_594.out,(zb6 HB GE565 GE566 GE580 GE585 GE594 GE619)⟩)
            ·skip
             refine box_step ?hg (N:=14) ?hd (cs:= #[.int .i64 0,.slice none 0 0]) (t:=24) ?hr ?_;(case hd=>rfl);(case hg=>rfl);(case hr=>first|(go_simp;done)|(go_simp;rfl))
             intro gb619 hg w109 hbox hb
             have n0_:=Aside0.mk (Kd.R_below (z4 HO_581001) hb)
             have n1_:=Aside0.mk (Kd.R_below (z4 HO_586001) hb)
             have n2_:=Aside0.mk (Kd.R_below (z4 HO_595001) hb)
             have n3_:=Aside0.mk (blk_below (g:=gb565) (o:= .cells #[.int .i64 a0_0,.slice A0_1 l0_1.length c0_1] 32 (0,0)) (z3 BK565) hb)
             have n4_:=Aside0.mk (blk_below (g:=gb566) (o:= .cells #[.int .i64 a1_0,.int .i64 a1_1,.int .i64 a1_2] 51 (0,0)) (z3 BK566) hb)
             have n5_:=Aside0.mk (blk_below (g:=gb580) (o:= .cells #[.int .i64 t575,.slice Ao30 t576.length co30] 24 (0,0)) (z3 BK580) hb)
             have n6_:=Aside0.mk (blk_below (g:=gb585) (o:= .cells #[.int .i64 t581,.slice Ao40 t602.length co40] 24 (0,0)) (z3 BK585) hb)
             have n7_:=Aside0.mk (blk_below (g:=gb594) (o:= .cells #[.int .i64 t589,.slice Ao48 t590.length co48] 24 (0,0)) (z3 BK594) hb)
             have n8_:=Aside0.mk (below_step (zb5 HB GE565 GE566 GE580 GE585 GE594) hb)
             have n9_:=Aside0.mk (hbox)
             have n10_:=Aside0.mk ((by rw [hg];exact(below_size (zb5 HB GE565 GE566 GE580 GE585 GE594)):w.heap.size≤gb619))
             have n11_:=Aside0.mk ((by rw [hg];exact(below_size (zb5 HB GE565 GE566 GE580 GE585 GE594)):w.heap.size≤gb619))
             have n12_:=Aside0.mk ((by rw [hg];exact Nat.ne_of_lt (blk_lt (g:=gb565) (o:= .cells #[.int .i64 a0_0,.slice A0_1 l0_1.length c0_1] 32 (0,0)) (z3 BK565)):gb565≠gb619))
             have n13_:=Aside0.mk ((by rw [hg];exact Nat.ne_of_gt (blk_lt (g:=gb565) (o:= .cells #[.int .i64 a0_0,.slice A0_1 l0_1.length c0_1] 32 (0,0)) (z3 BK565)):gb619≠gb565))
             have n14_:=Aside0.mk ((by rw [hg];exact Nat.ne_of_lt (blk_lt (g:=gb566) (o:= .cells #[.int .i64 a1_0,.int .i64 a1_1,.int .i64 a1_2] 51 (0,0)) (z3 BK566)):gb566≠gb619))
             have n15_:=Aside0.mk ((by rw [hg];exact Nat.ne_of_gt (blk_lt (g:=gb566) (o:= .cells #[.int .i64 a1_0,.int .i64 a1_1,.int .i64 a1_2] 51 (0,0)) (z3 BK566)):gb619≠gb566))
             have n16_:=Aside0.mk ((by rw [hg];exact Nat.ne_of_lt (blk_lt (g:=gb580) (o:= .cells #[.int .i64 t575,.slice Ao30 t576.length co30] 24 (0,0)) (z3 BK580)):gb580≠gb619))
             have n17_:=Aside0.mk ((by rw [hg];exact Nat.ne_of_gt (blk_lt (g:=gb580) (o:= .cells #[.int .i64 t575,.slice Ao30 t576.length co30] 24 (0,0)) (z3 BK580)):gb619≠gb580))
             have n18_:=Aside0.mk ((by rw [hg];exact Nat.ne_of_lt (blk_lt (g:=gb585) (o:= .cells #[.int .i64 t581,.slice Ao40 t602.length co40] 24 (0,0)) (z3 BK585)):gb585≠gb619))
             have n19_:=Aside0.mk ((by rw [hg];exact Nat.ne_of_gt (blk_lt (g:=gb585) (o:= .cells #[.int .i64 t581,.slice Ao40 t602.length co40] 24 (0,0)) (z3 BK585)):gb619≠gb585))
             have n20_:=Aside0.mk ((by rw [hg];exact Nat.ne_of_lt (blk_lt (g:=gb594) (o:= .cells #[.int .i64 t589,.slice Ao48 t590.length co48] 24 (0,0)) (z3 BK594)):gb594≠gb619))
             have n21_:=Aside0.mk ((by rw [hg];exact Nat.ne_of_gt (blk_lt (g:=gb594) (o:= .cells #[.int .i64 t589,.slice Ao48 t590.length co48] 24 (0,0)) (z3 BK594)):gb619≠gb594))
             clear HO_581001
             clear HO_586001
             clear HO_595001
             clear BK565
             clear BK566
             clear BK580
             clear BK585
             clear BK594
             clear HB
             have HO_581001:=n0_
             have HO_586001:=n1_
             have HO_595001:=n2_
             have BK565:=n3_
             have BK566:=n4_
             have BK580:=n5_
             have BK585:=n6_
             have BK594:=n7_
             have HB:=n8_
             have BK619:=n9_
             have GW619:=n10_
             have GE619:=n11_
             have NB565_619:=n12_
             have NB619_565:=n13_
             have NB566_619:=n14_
             have NB619_566:=n15_
             have NB580_619:=n16_
             have NB619_580:=n17_
             have NB585_619:=n18_
             have NB619_585:=n19_
             have NB594_619:=n20_
             have NB619_594:=n21_
             clear n0_ n1_ n2_ n3_ n4_ n5_ n6_ n7_ n8_ n9_ n10_ n11_ n12_ n13_ n14_ n15_ n16_ n17_ n18_ n19_ n20_ n21_
             clear hb hbox hg
             refine hK.out _ _ ⟨(blk_cell BK565.out 0).trans rfl,(blk_cell BK565.out 1).trans rfl,(blk_cell BK566.out 0).trans rfl,(blk_cell BK566.out 1).trans rfl,(blk_cell BK566.out 2).trans rfl⟩ (fun hHeld=>?_)
             clear hK K
             refine norm_ (a':=?_) ?_ ?_
             rotate_left
             ·show Act.put _ (some 14) _=_
              simp only [Act.put,z5,z6,z7,i64_w,i32_w]
              rfl
             refine one_ (i:=1) (N:=some 81) #[t',t',t',f',f',f',f',f',t',f',f'] rfl rfl (one_of HT_.out (by kernel_rfl)) (by decide) (fun K hK=>?_)
             refine goes_ Try.func19 (by kernel_rfl) rfl #[.agg #[.int .i64 a0_0,.slice A0_1 l0_1.length c0_1]] (by rfl) rfl rfl z2 ?_
             with_reducible refine(laws_toTable.calls kj66 a0_0 _ _ l0_1 t607 t608 _ ?side1 ?side2 A96.out).mono ?_
             (case side1=>repeat(first|exact(Kd.C_below HR0_1.out HB.out)|(with_reducible refine Kd.C_alloc ?_ _)|(with_reducible refine Kd.C_drewN ?_ _)|(with_reducible refine Kd.C_drew ?_)))
             (case side2=>exact HC0_1.out)
             rintro e w110 ⟨v609,rfl,ho0,hb⟩
             refine⟨_,rfl,?_⟩
             have n0_:=Aside0.mk (Kd.R_elder' (z4 HO_581001) (Kd.R_base ho0) hb)
             have n1_:=Aside0.mk (Kd.R_elder' (z4 HO_586001) (Kd.R_base ho0) hb)
             have n2_:=Aside0.mk (Kd.R_elder' (z4 HO_595001) (Kd.R_base ho0) hb)
             have n3_:=Aside0.mk (Kd.R_lower (Kd.R_new' (Kd.R_new' (Kd.R_new' ho0 (Kd.R_lt (z4 HO_581001))) (Kd.R_lt (z4 HO_586001))) (Kd.R_lt (z4 HO_595001))) (below_size (zb6 HB GE565 GE566 GE580 GE585 GE594 GE619)))
             have n4_:=Aside0.mk (blk_below (g:=gb565) (o:= .cells #[.int .i64 a0_0,.slice A0_1 l0_1.length c0_1] 32 (0,0)) (z3 BK565) hb)
             have n5_:=Aside0.mk (blk_below (g:=gb566) (o:= .cells #[.int .i64 a1_0,.int .i64 a1_1,.int .i64 a1_2] 51 (0,0)) (z3 BK566) hb)
             have n6_:=Aside0.mk (blk_below (g:=gb580) (o:= .cells #[.int .i64 t575,.slice Ao30 t576.length co30] 24 (0,0)) (z3 BK580) hb)
             have n7_:=Aside0.mk (blk_below (g:=gb585) (o:= .cells #[.int .i64 t581,.slice Ao40 t602.length co40] 24 (0,0)) (z3 BK585) hb)
             have n8_:=Aside0.mk (blk_below (g:=gb594) (o:= .cells #[.int .i64 t589,.slice Ao48 t590.length co48] 24 (0,0)) (z3 BK594) hb)
             have n9_:=Aside0.mk (blk_below (g:=gb619) (o:= .cells #[.int .i64 0,.slice none 0 0] 24 (0,0)) (z3 BK619) hb)
             have n10_:=Aside0.mk (below_step (zb6 HB GE565 GE566 GE580 GE585 GE594 GE619) hb)
             clear HO_581001
             clear HO_586001
             clear HO_595001
             clear BK565
             clear BK566
             clear BK580
             clear BK585
             clear BK594
             clear BK619
             clear HB
             have HO_581001:=n0_
             have HO_586001:=n1_
             have HO_595001:=n2_
             have HO610:=n3_
             have BK565:=n4_
             have BK566:=n5_
             have BK580:=n6_
             have BK585:=n7_
             have BK594:=n8_
             have BK619:=n9_
             have HB:=n10_
             clear n0_ n1_ n2_ n3_ n4_ n5_ n6_ n7_ n8_ n9_ n10_
             (try clear hb)
             (try clear hb2)
             (try clear hk)
             (try clear hi)
             (try clear ho0)
             refine hK.out _ _ ⟨(blk_cell BK565.out 0).trans rfl,(blk_cell BK565.out 1).trans rfl,(blk_cell BK566.out 0).trans rfl,(blk_cell BK566.out 1).trans rfl,(blk_cell BK566.out 2).trans rfl⟩ (fun hHeld=>?_)
             clear hK K
             refine norm_ (a':=?_) ?_ ?_
             rotate_left
             ·show Act.put _ (some 81) _=_
              simp only [Act.put,z5,z6,z7,i64_w,i32_w]
              rfl
             refine one_ (i:=3) (N:=some 83) #[t',t',t',t',f',f',f',f',t',f',f'] rfl rfl (one_of HT_.out (by kernel_rfl)) (by decide) (fun K hK=>?_)
             refine goes_ Try.func36 (by kernel_rfl) rfl #[.agg #[.int .i64 a1_0,.int .i64 a1_1,.int .i64 a1_2]] (by rfl) rfl rfl z2 ?_
             with_reducible refine(laws_toSeen.calls a1_0 a1_1 a1_2 t611 t612 t613 _ A97.out).mono ?_
             rintro e w111 ⟨rfl,hb⟩
             refine⟨_,rfl,?_⟩
             have n0_:=Aside0.mk (Kd.R_below (z4 HO_581001) hb)
             have n1_:=Aside0.mk (Kd.R_below (z4 HO_586001) hb)
             have n2_:=Aside0.mk (Kd.R_below (z4 HO_595001) hb)
             have n3_:=Aside0.mk (Kd.R_below (z4 HO610) hb)
             have n4_:=Aside0.mk (blk_below (g:=gb565) (o:= .cells #[.int .i64 a0_0,.slice A0_1 l0_1.length c0_1] 32 (0,0)) (z3 BK565) hb)
             have n5_:=Aside0.mk (blk_below (g:=gb566) (o:= .cells #[.int .i64 a1_0,.int .i64 a1_1,.int .i64 a1_2] 51 (0,0)) (z3 BK566) hb)
             have n6_:=Aside0.mk (blk_below (g:=gb580) (o:= .cells #[.int .i64 t575,.slice Ao30 t576.length co30] 24 (0,0)) (z3 BK580) hb)
             have n7_:=Aside0.mk (blk_below (g:=gb585) (o:= .cells #[.int .i64 t581,.slice Ao40 t602.length co40] 24 (0,0)) (z3 BK585) hb)
             have n8_:=Aside0.mk (blk_below (g:=gb594) (o:= .cells #[.int .i64 t589,.slice Ao48 t590.length co48] 24 (0,0)) (z3 BK594) hb)
             have n9_:=Aside0.mk (blk_below (g:=gb619) (o:= .cells #[.int .i64 0,.slice none 0 0] 24 (0,0)) (z3 BK619) hb)
             have n10_:=Aside0.mk (below_step (zb6 HB GE565 GE566 GE580 GE585 GE594 GE619) hb)
             clear HO_581001
             clear HO_586001
             clear HO_595001
             clear HO610
             clear BK565
             clear BK566
             clear BK580
             clear BK585
             clear BK594
             clear BK619
             clear HB
             have HO_581001:=n0_
             have HO_586001:=n1_
             have HO_595001:=n2_
             have HO610:=n3_
             have BK565:=n4_
             have BK566:=n5_
             have BK580:=n6_
             have BK585:=n7_
             have BK594:=n8_
             have BK619:=n9_
             have HB:=n10_
             clear n0_ n1_ n2_ n3_ n4_ n5_ n6_ n7_ n8_ n9_ n10_
             (try clear hb)
             (try clear hb2)
             (try clear hk)
             (try clear hi)
             obtain⟨Ao112,co112,eo112⟩:=Kd.R_slice HO610.out
             (first|subst eo112|(injection eo112 with f1_ f2_ f3_;have f4_:=f1_.symm;have f5_:=f3_.symm;clear f1_ f2_ f3_;subst f4_;subst f5_))
             refine hK.out _ _ ⟨(blk_cell BK565.out 0).trans rfl,(blk_cell BK565.out 1).trans rfl,(blk_cell BK566.out 0).trans rfl,(blk_cell BK566.out 1).trans rfl,(blk_cell BK566.out 2).trans rfl⟩ (fun hHeld=>?_)
             clear hK K
             refine norm_ (a':=?_) ?_ ?_
             rotate_left
             ·show Act.put _ (some 83) _=_
              simp only [Act.put,z5,z6,z7,i64_w,i32_w]
              rfl
             refine one_ (i:=4) (N:=some 84) #[t',t',t',t',t',f',f',f',t',f',f'] rfl rfl (one_of HT_.out (by kernel_rfl)) (by decide) (fun K hK=>?_)
             refine goes_ Try.func37 (by kernel_rfl) rfl #[.agg #[.int .i64 t607,.slice Ao112 t608.length co112],.agg #[.int .i64 t611,.int .i64 t612,.int .i64 t613]] (by rfl) rfl rfl z2 ?_
             with_reducible refine(impl_Learn.calls kj66 t607 _ _ t608 t611 t612 t613 t614 t615 t618 _ ?side1 ?side2 A98.out).mono ?_
             (case side1=>repeat(first|exact(Kd.R_reads' HO610.out).2.2|(with_reducible refine Kd.C_alloc ?_ _)|(with_reducible refine Kd.C_drewN ?_ _)|(with_reducible refine Kd.C_drew ?_)))
             (case side2=>exact(Kd.R_reads' HO610.out).2.1)
             rintro e w113 ⟨v616,rfl,ho0,hb⟩
             refine⟨_,rfl,?_⟩
             have n0_:=Aside0.mk (Kd.R_elder' (z4 HO_581001) (Kd.R_base ho0) hb)
             have n1_:=Aside0.mk (Kd.R_elder' (z4 HO_586001) (Kd.R_base ho0) hb)
             have n2_:=Aside0.mk (Kd.R_elder' (z4 HO_595001) (Kd.R_base ho0) hb)
             have n3_:=Aside0.mk (Kd.R_elder' (z4 HO610) (Kd.R_base ho0) hb)
             have n4_:=Aside0.mk (Kd.R_lower (Kd.R_new' (Kd.R_new' (Kd.R_new' (Kd.R_new' ho0 (Kd.R_lt (z4 HO_581001))) (Kd.R_lt (z4 HO_586001))) (Kd.R_lt (z4 HO_595001))) (Kd.R_lt (z4 HO610))) (below_size (zb6 HB GE565 GE566 GE580 GE585 GE594 GE619)))
             have n5_:=Aside0.mk (blk_below (g:=gb565) (o:= .cells #[.int .i64 a0_0,.slice A0_1 l0_1.length c0_1] 32 (0,0)) (z3 BK565) hb)
             have n6_:=Aside0.mk (blk_below (g:=gb566) (o:= .cells #[.int .i64 a1_0,.int .i64 a1_1,.int .i64 a1_2] 51 (0,0)) (z3 BK566) hb)
             have n7_:=Aside0.mk (blk_below (g:=gb580) (o:= .cells #[.int .i64 t575,.slice Ao30 t576.length co30] 24 (0,0)) (z3 BK580) hb)
             have n8_:=Aside0.mk (blk_below (g:=gb585) (o:= .cells #[.int .i64 t581,.slice Ao40 t602.length co40] 24 (0,0)) (z3 BK585) hb)
             have n9_:=Aside0.mk (blk_below (g:=gb594) (o:= .cells #[.int .i64 t589,.slice Ao48 t590.length co48] 24 (0,0)) (z3 BK594) hb)
             have n10_:=Aside0.mk (blk_below (g:=gb619) (o:= .cells #[.int .i64 0,.slice none 0 0] 24 (0,0)) (z3 BK619) hb)
             have n11_:=Aside0.mk (below_step (zb6 HB GE565 GE566 GE580 GE585 GE594 GE619) hb)
             clear HO_581001
             clear HO_586001
             clear HO_595001
             clear HO610
             clear BK565
             clear BK566
             clear BK580
             clear BK585
             clear BK594
             clear BK619
             clear HB
             have HO_581001:=n0_
             have HO_586001:=n1_
             have HO_595001:=n2_
             have HO610:=n3_
             have HO617:=n4_
             have BK565:=n5_
             have BK566:=n6_
             have BK580:=n7_
             have BK585:=n8_
             have BK594:=n9_
             have BK619:=n10_
             have HB:=n11_
             clear n0_ n1_ n2_ n3_ n4_ n5_ n6_ n7_ n8_ n9_ n10_ n11_
             (try clear hb)
             (try clear hb2)
             (try clear hk)
             (try clear hi)
             (try clear ho0)
             refine hK.out _ _ ⟨(blk_cell BK565.out 0).trans rfl,(blk_cell BK565.out 1).trans rfl,(blk_cell BK566.out 0).trans rfl,(blk_cell BK566.out 1).trans rfl,(blk_cell BK566.out 2).trans rfl⟩ (fun hHeld=>?_)
             clear hK K
             refine norm_ (a':=?_) ?_ ?_
             rotate_left
             ·show Act.put _ (some 84) _=_
              simp only [Act.put,z5,z6,z7,i64_w,i32_w]
              rfl
             refine pure_ (i:=5) (N:=some 79) (v:=?_) (a':=?_) #[t',t',t',t',t',t',f',f',t',f',f'] rfl rfl (any_of HT_.out (by kernel_rfl)) (fun _ _ _ h=>h) (Or.inl ⟨by rfl,?_⟩) ?_ ?_
             rotate_left
             ·intro w'
              go_simp
              with_reducible rfl
             rotate_left
             ·simp only [Act.put,z5,z6,z7,i64_w,i32_w]
              rfl
             refine pure_ (i:=6) (N:=some 85) (v:=?_) (a':=?_) #[t',t',t',t',t',t',t',f',t',f',f'] rfl rfl (any_of HT_.out (by kernel_rfl)) (fun _ _ _ h=>h) (Or.inl ⟨by rfl,?_⟩) ?_ ?_
             rotate_left
             ·intro w'
              go_simp
              with_reducible rfl
             rotate_left
             ·simp only [Act.put,z5,z6,z7,i64_w,i32_w]
              rfl
             refine pure_ (i:=7) (N:=some 86) (v:=?_) (a':=?_) #[t',t',t',t',t',t',t',t',t',f',f'] rfl rfl (any_of HT_.out (by kernel_rfl)) (fun _ _ _ h=>h) (Or.inl ⟨by rfl,?_⟩) ?_ ?_
             rotate_left
             ·intro w'
              go_simp
              with_reducible rfl
             rotate_left
             ·simp only [Act.put,z5,z6,z7,i64_w,i32_w]
              rfl
             exact norm_ (by simp only [putAll,Act.put,z5,z6,z7]) (hCont (.slice Ao112 t608.length co112,v616,gb619) _ ⟨hHeld,(by(with_reducible repeat(first|apply Kd.R_alloc|apply Kd.R_drewN|apply Kd.R_drew));exact Kd.R_mono HO610.out (fun _ hk=>⟨hk.2,⟨hk.1.1.1.2,⟨hk.1.1.2,hk.1.2⟩⟩⟩)),(by(with_reducible repeat(first|apply Kd.R_alloc|apply Kd.R_drewN|apply Kd.R_drew));exact Kd.R_mono HO617.out (fun _ hk=>⟨hk.2,⟨hk.1.1.1.2,⟨hk.1.1.2,hk.1.2⟩⟩⟩)),(by(with_reducible repeat(first|apply Kd.R_alloc|apply Kd.R_drewN|apply Kd.R_drew));exact Kd.R_mono HO_581001.out (fun _ hk=>⟨hk.1.2,⟨hk.2,⟨hk.1.1.1,hk.1.1.2⟩⟩⟩)),(by(with_reducible repeat(first|apply Kd.R_alloc|apply Kd.R_drewN|apply Kd.R_drew));exact Kd.R_mono HO_586001.out (fun _ hk=>⟨hk.1.2,⟨hk.2,⟨hk.1.1.1,hk.1.1.2⟩⟩⟩)),(by(with_reducible repeat(first|apply Kd.R_alloc|apply Kd.R_drewN|apply Kd.R_drew));exact Kd.R_mono HO_595001.out (fun _ hk=>⟨hk.1.2,⟨hk.2,⟨hk.1.1.1,hk.1.1.2⟩⟩⟩)),(z3 BK565),(z3 BK566),(z3 BK580),(z3 BK585),(z3 BK594),(z3 BK619),GW619.out,GE619.out,NB565_619.out,NB619_565.out,NB566_619.out,NB619_566.out,NB580_619.out,NB619_580.out,NB585_619.out,NB619_585.out,NB594_619.out,NB619_594.out,(zb6 HB GE565 GE566 GE580 GE585 GE594 GE619)⟩)
           rintro⟨v609,v616,gb619⟩ w114 ⟨hS_,h0_,h1_,h2_,h3_,h4_,h5_,h6_,h7_,h8_,h9_,h10_,h11_,h12_,h13_,h14_,h15_,h16_,h17_,h18_,h19_,h20_,h21_,h22_,h23_⟩
           have n0_:Aside0 (Kd.R k53 53 w114 w.heap.size (fun k_=>some k_≠ (v616:Value).ownBlock∧some k_≠ (.slice Ao30 t576.length co30:Value).ownBlock∧some k_≠ (.slice Ao40 t602.length co40:Value).ownBlock∧some k_≠ (.slice Ao48 t590.length co48:Value).ownBlock) v609 t608):=⟨h0_⟩
           have n1_:Aside0 (Kd.R k53 53 w114 w.heap.size (fun k_=>some k_≠ (v609:Value).ownBlock∧some k_≠ (.slice Ao30 t576.length co30:Value).ownBlock∧some k_≠ (.slice Ao40 t602.length co40:Value).ownBlock∧some k_≠ (.slice Ao48 t590.length co48:Value).ownBlock) v616 t615):=⟨h1_⟩
           have n2_:Aside0 (Kd.R k53 53 w114 w.heap.size (fun k_=>some k_≠ (v609:Value).ownBlock∧some k_≠ (v616:Value).ownBlock∧some k_≠ (.slice Ao40 t602.length co40:Value).ownBlock∧some k_≠ (.slice Ao48 t590.length co48:Value).ownBlock) (.slice Ao30 t576.length co30) t576):=⟨h2_⟩
           have n3_:Aside0 (Kd.R k53 53 w114 w.heap.size (fun k_=>some k_≠ (v609:Value).ownBlock∧some k_≠ (v616:Value).ownBlock∧some k_≠ (.slice Ao30 t576.length co30:Value).ownBlock∧some k_≠ (.slice Ao48 t590.length co48:Value).ownBlock) (.slice Ao40 t602.length co40) t602):=⟨h3_⟩
           have n4_:Aside0 (Kd.R k53 53 w114 w.heap.size (fun k_=>some k_≠ (v609:Value).ownBlock∧some k_≠ (v616:Value).ownBlock∧some k_≠ (.slice Ao30 t576.length co30:Value).ownBlock∧some k_≠ (.slice Ao40 t602.length co40:Value).ownBlock) (.slice Ao48 t590.length co48) t605):=⟨h4_⟩
           have n5_:Aside0 (w114.heap[gb565]?=some (.cells #[.int .i64 a0_0,.slice A0_1 l0_1.length c0_1] 32 (0,0))):=⟨h5_⟩
           have n6_:Aside0 (w114.heap[gb566]?=some (.cells #[.int .i64 a1_0,.int .i64 a1_1,.int .i64 a1_2] 51 (0,0))):=⟨h6_⟩
           have n7_:Aside0 (w114.heap[gb580]?=some (.cells #[.int .i64 t575,.slice Ao30 t576.length co30] 24 (0,0))):=⟨h7_⟩
           have n8_:Aside0 (w114.heap[gb585]?=some (.cells #[.int .i64 t581,.slice Ao40 t602.length co40] 24 (0,0))):=⟨h8_⟩
           have n9_:Aside0 (w114.heap[gb594]?=some (.cells #[.int .i64 t589,.slice Ao48 t590.length co48] 24 (0,0))):=⟨h9_⟩
           have n10_:Aside0 (w114.heap[gb619]?=some (.cells #[.int .i64 0,.slice none 0 0] 24 (0,0))):=⟨h10_⟩
           have n11_:Aside0 (w.heap.size≤gb619):=⟨h11_⟩
           have n12_:Aside0 (w.heap.size≤gb619):=⟨h12_⟩
           have n13_:Aside0 (gb565≠gb619):=⟨h13_⟩
           have n14_:Aside0 (gb619≠gb565):=⟨h14_⟩
           have n15_:Aside0 (gb566≠gb619):=⟨h15_⟩
           have n16_:Aside0 (gb619≠gb566):=⟨h16_⟩
           have n17_:Aside0 (gb580≠gb619):=⟨h17_⟩
           have n18_:Aside0 (gb619≠gb580):=⟨h18_⟩
           have n19_:Aside0 (gb585≠gb619):=⟨h19_⟩
           have n20_:Aside0 (gb619≠gb585):=⟨h20_⟩
           have n21_:Aside0 (gb594≠gb619):=⟨h21_⟩
           have n22_:Aside0 (gb619≠gb594):=⟨h22_⟩
           have n23_:Aside0 (Below w.heap.size w w114):=⟨h23_⟩
           clear HO_581001
           clear HO_586001
           clear HO_595001
           clear BK565
           clear BK566
           clear BK580
           clear BK585
           clear BK594
           clear HB
           clear h0_ h1_ h2_ h3_ h4_ h5_ h6_ h7_ h8_ h9_ h10_ h11_ h12_ h13_ h14_ h15_ h16_ h17_ h18_ h19_ h20_ h21_ h22_ h23_
           have HO610:=n0_
           have HO617:=n1_
           have HO_581001:=n2_
           have HO_586001:=n3_
           have HO_595001:=n4_
           have BK565:=n5_
           have BK566:=n6_
           have BK580:=n7_
           have BK585:=n8_
           have BK594:=n9_
           have BK619:=n10_
           have GW619:=n11_
           have GE619:=n12_
           have NB565_619:=n13_
           have NB619_565:=n14_
           have NB566_619:=n15_
           have NB619_566:=n16_
           have NB580_619:=n17_
           have NB619_580:=n18_
           have NB585_619:=n19_
           have NB619_585:=n20_
           have NB594_619:=n21_
           have NB619_594:=n22_
           have HB:=n23_
           clear n0_ n1_ n2_ n3_ n4_ n5_ n6_ n7_ n8_ n9_ n10_ n11_ n12_ n13_ n14_ n15_ n16_ n17_ n18_ n19_ n20_ n21_ n22_ n23_
           have hHeld:w114.cell? ⟨gb565,0,none⟩=some (.int .i64 a0_0)∧w114.cell? ⟨gb565,1,none⟩=some (.slice A0_1 l0_1.length c0_1)∧w114.cell? ⟨gb566,0,none⟩=some (.int .i64 a1_0)∧w114.cell? ⟨gb566,1,none⟩=some (.int .i64 a1_1)∧w114.cell? ⟨gb566,2,none⟩=some (.int .i64 a1_2):=hS_
           obtain⟨Ao116,co116,eo116⟩:=Kd.R_slice HO617.out
           (first|subst eo116|(injection eo116 with f1_ f2_ f3_;have f4_:=f1_.symm;have f5_:=f3_.symm;clear f1_ f2_ f3_;subst f4_;subst f5_))
           refine norm_ (a':=?_) ?_ ?_
           rotate_left
           ·simp only [putAll,Act.put,z5,z6,z7]
            rfl
           refine one_ (i:=9) (N:=none) #[t',t',t',t',t',t',t',t',t',t',f'] rfl rfl (one_of HT_.out (by kernel_rfl)) (by decide) (fun K hK=>?_)
           have hs115:w114.cell? ⟨gb619,0,none⟩=some (.int .i64 0):=(blk_cell BK619.out 0).trans rfl
           have hfs115:=blk_frozen BK619.out 0
           have hns115_0:=NB565_619.out
           have hns115_1:=NB566_619.out
           have hns115_2:=NB580_619.out
           have hns115_3:=NB585_619.out
           have hns115_4:=NB594_619.out
           have hms115_0:=NB619_565.out
           have hms115_1:=NB619_566.out
           have hms115_2:=NB619_580.out
           have hms115_3:=NB619_585.out
           have hms115_4:=NB619_594.out
           have hs117:w114.cell? ⟨gb619,1,none⟩=some (.slice none 0 0):=(blk_cell BK619.out 1).trans rfl
           have hfs117:=blk_frozen BK619.out 1
           have hns117_0:=NB565_619.out
           have hns117_1:=NB566_619.out
           have hns117_2:=NB580_619.out
           have hns117_3:=NB585_619.out
           have hns117_4:=NB594_619.out
           have hms117_0:=NB619_565.out
           have hms117_1:=NB619_566.out
           have hms117_2:=NB619_580.out
           have hms117_3:=NB619_585.out
           have hms117_4:=NB619_594.out
           refine skip_ (w1:=?_) (by rfl) rfl ?_ ?_
           rotate_left
           ·go_simp
            rfl
           refine hK.out _ _ ⟨((cell_far (p:=⟨gb619,_,none⟩) NB565_619.out _).trans (((cell_far (p:=⟨gb619,_,none⟩) NB565_619.out _).trans (hHeld.1)))),((cell_far (p:=⟨gb619,_,none⟩) NB565_619.out _).trans (((cell_far (p:=⟨gb619,_,none⟩) NB565_619.out _).trans (hHeld.2.1)))),((cell_far (p:=⟨gb619,_,none⟩) NB566_619.out _).trans (((cell_far (p:=⟨gb619,_,none⟩) NB566_619.out _).trans (hHeld.2.2.1)))),((cell_far (p:=⟨gb619,_,none⟩) NB566_619.out _).trans (((cell_far (p:=⟨gb619,_,none⟩) NB566_619.out _).trans (hHeld.2.2.2.1)))),((cell_far (p:=⟨gb619,_,none⟩) NB566_619.out _).trans (((cell_far (p:=⟨gb619,_,none⟩) NB566_619.out _).trans (hHeld.2.2.2.2))))⟩ (fun hHeld=>?_)
           clear hK K
           refine pure_ (i:=10) (N:=some 15) (v:=?_) (a':=?_) #[t',t',t',t',t',t',t',t',t',t',t'] rfl rfl (any_of HT_.out (by kernel_rfl)) (fun _ _ _ h=>h) (Or.inl ⟨by rfl,?_⟩) ?_ ?_
           rotate_left
           ·intro w'
            go_simp
            with_reducible rfl
           rotate_left
           ·simp only [Act.put,z5,z6,z7,i64_w,i32_w]
            rfl
           refine done_ (done_of HT_.out (by kernel_rfl)) ?_
           go_upto_region 25 with (fail)
           go_cut [95] (fun v95 wc=> ∃ (kq:Nat) (x95_98:Bool),v95= .bool x95_98∧Aside0 (laws_FnExactLearn.j2 kq t604 x95_98 t589 t605=some r)∧Aside0 (kq≤kj66)∧Aside0 (Kd.R k53 53 wc w.heap.size (fun k_=>some k_≠ ((.slice Ao40 t602.length co40):Value).ownBlock∧some k_≠ ((.slice Ao48 t590.length co48):Value).ownBlock∧some k_≠ ((.slice Ao116 t615.length co116):Value).ownBlock) (.slice Ao30 t576.length co30) t576)∧Aside0 (Kd.R k53 53 wc w.heap.size (fun k_=>some k_≠ ((.slice Ao30 t576.length co30):Value).ownBlock∧some k_≠ ((.slice Ao48 t590.length co48):Value).ownBlock∧some k_≠ ((.slice Ao116 t615.length co116):Value).ownBlock) (.slice Ao40 t602.length co40) t602)∧Aside0 (Kd.R k53 53 wc w.heap.size (fun k_=>some k_≠ ((.slice Ao30 t576.length co30):Value).ownBlock∧some k_≠ ((.slice Ao40 t602.length co40):Value).ownBlock∧some k_≠ ((.slice Ao116 t615.length co116):Value).ownBlock) (.slice Ao48 t590.length co48) t605)∧Aside0 (Kd.R k53 53 wc w.heap.size (fun k_=>some k_≠ ((.slice Ao30 t576.length co30):Value).ownBlock∧some k_≠ ((.slice Ao40 t602.length co40):Value).ownBlock∧some k_≠ ((.slice Ao48 t590.length co48):Value).ownBlock) (.slice Ao116 t615.length co116) t615)∧Aside0 (wc.heap[gb565]?=some (.cells #[.int .i64 a0_0,(.slice A0_1 l0_1.length c0_1)] 32 (0,0)))∧Aside0 (wc.heap[gb566]?=some (.cells #[.int .i64 a1_0,.int .i64 a1_1,.int .i64 a1_2] 51 (0,0)))∧Aside0 (wc.heap[gb580]?=some (.cells #[.int .i64 t575,(.slice Ao30 t576.length co30)] 24 (0,0)))∧Aside0 (wc.heap[gb585]?=some (.cells #[.int .i64 t581,(.slice Ao40 t602.length co40)] 24 (0,0)))∧Aside0 (wc.heap[gb594]?=some (.cells #[.int .i64 t589,(.slice Ao48 t590.length co48)] 24 (0,0)))∧Aside0 (wc.heap[gb619]?=some (.cells #[.int .i64 t614,(.slice Ao116 t615.length co116)] 24 (0,0)))∧Aside0 (Below w.heap.size w wc))
           case first=>
            have H:=HC99.out
            clear HC99
            replace H:=Option.bind_eq_some_iff.mp H
            obtain⟨t620,A1180,H⟩:=H
            replace H:(if t620=true then(laws_FnExactLearn.j2 kj66 t604 (t618 !=t579) t589 t605) else(laws_FnExactLearn.j2 kj66 t604 true t589 t605))=some r:=H
            have A118:=Aside0.mk A1180
            clear A1180
            by_cases c119:t620=true
            ·subst c119
             have H1:(laws_FnExactLearn.j2 kj66 t604 (t618 !=t579) t589 t605)=some r:=by rw [if_pos rfl] at H;exact H
             clear H
             have H:=H1
             clear H1
             have H':=Aside0.mk H
             clear H
             have hnb120:=NB619_565.out
             have hnc120:=NB565_619.out
             have hnb121:=NB619_566.out
             have hnc121:=NB566_619.out
             have hnb122:=NB619_580.out
             have hnc122:=NB580_619.out
             have hnb123:=NB619_585.out
             have hnc123:=NB585_619.out
             have hnb124:=NB619_594.out
             have hnc124:=NB594_619.out
             have hcz125_0:w114.cell? ⟨gb619,0,none⟩=some (.int .i64 0):=(blk_cell BK619.out 0).trans rfl
             have hcz125_1:w114.cell? ⟨gb619,1,none⟩=some (.slice none 0 0):=(blk_cell BK619.out 1).trans rfl
             have hfz125_0:=blk_frozen BK619.out 0
             have hfz125_1:=blk_frozen BK619.out 1
             have hnb126:=NB580_565.out
             have hnc126:=NB565_580.out
             have hnb127:=NB580_566.out
             have hnc127:=NB566_580.out
             have hnb128:=NB580_585.out
             have hnc128:=NB585_580.out
             have hnb129:=NB580_594.out
             have hnc129:=NB594_580.out
             have hcz130_0:w114.cell? ⟨gb580,0,none⟩=some (.int .i64 t575):=(blk_cell BK580.out 0).trans rfl
             have hcz130_1:w114.cell? ⟨gb580,1,none⟩=some (.slice Ao30 t576.length co30):=(blk_cell BK580.out 1).trans rfl
             have hfz130_0:=blk_frozen BK580.out 0
             have hfz130_1:=blk_frozen BK580.out 1
             go_wp2_with (first|((with_reducible refine gate_callee (f:=14) rfl ?_);refine goesL_ (some 89) rfl rfl Try.func14 (by kernel_rfl) rfl #[.agg #[.int .i64 t614,.slice Ao116 t615.length co116],.agg #[.int .i64 t575,.slice Ao30 t576.length co30]] rfl z2 ?_;(with_reducible refine(laws_eqTable.calls kj66 t614 _ _ t615 t575 _ _ t576 true _ ?side1 ?side2 ?side3 ?side4 A118.out).mono ?_);(case side1=>refine(Kd.R_reads' (e:=53) (base:=w.heap.size) (ok:=fun k_=>(some k_≠ (v609:Value).ownBlock∧ (some k_≠ (.slice Ao30 t576.length co30:Value).ownBlock∧ (some k_≠ (.slice Ao40 t602.length co40:Value).ownBlock∧some k_≠ (.slice Ao48 t590.length co48:Value).ownBlock)))) (n:=t615.length) (c:=co116) ?_).2.2;exact(by(with_reducible repeat(first|apply Kd.R_alloc|apply Kd.R_drewN|apply Kd.R_drew));exact(Kd.R_mono (Kd.R_far (p:=⟨gb619,1,none⟩) (Kd.R_far (p:=⟨gb619,0,none⟩) (Kd.R_types HO617.out BK619.out (by decide)) (fun _ hk=>hk.2) (.int .i64 t614)) (fun _ hk=>hk.2) (.slice Ao116 t615.length co116)) (fun _ h_=>h_.1))));(case side2=>exact(Kd.R_reads' HO617.out).2.1);(case side3=>refine(Kd.R_reads' (e:=53) (base:=w.heap.size) (ok:=fun k_=>(some k_≠ (v609:Value).ownBlock∧ (some k_≠ (.slice Ao116 t615.length co116:Value).ownBlock∧ (some k_≠ (.slice Ao40 t602.length co40:Value).ownBlock∧some k_≠ (.slice Ao48 t590.length co48:Value).ownBlock)))) (n:=t576.length) (c:=co30) ?_).2.2;exact(by(with_reducible repeat(first|apply Kd.R_alloc|apply Kd.R_drewN|apply Kd.R_drew));exact(Kd.R_mono (Kd.R_far (p:=⟨gb619,1,none⟩) (Kd.R_far (p:=⟨gb619,0,none⟩) (Kd.R_types HO_581001.out BK619.out (by decide)) (fun _ hk=>hk.2) (.int .i64 t614)) (fun _ hk=>hk.2) (.slice Ao116 t615.length co116)) (fun _ h_=>h_.1))));(case side4=>exact(Kd.R_reads' HO_581001.out).2.1);rintro e w131 ⟨rfl,hb⟩;refine⟨_,rfl,?_⟩;have n0_:=Aside0.mk (Kd.R_below (by(with_reducible repeat(first|apply Kd.R_alloc|apply Kd.R_drewN|apply Kd.R_drew));exact(Kd.R_mono (Kd.R_far (p:=⟨gb619,1,none⟩) (Kd.R_far (p:=⟨gb619,0,none⟩) (Kd.R_types HO_581001.out BK619.out (by decide)) (fun _ hk=>hk.2) (.int .i64 t614)) (fun _ hk=>hk.2) (.slice Ao116 t615.length co116)) (fun _ h_=>h_.1))) hb);have n1_:=Aside0.mk (Kd.R_below (by(with_reducible repeat(first|apply Kd.R_alloc|apply Kd.R_drewN|apply Kd.R_drew));exact(Kd.R_mono (Kd.R_far (p:=⟨gb619,1,none⟩) (Kd.R_far (p:=⟨gb619,0,none⟩) (Kd.R_types HO_586001.out BK619.out (by decide)) (fun _ hk=>hk.2) (.int .i64 t614)) (fun _ hk=>hk.2) (.slice Ao116 t615.length co116)) (fun _ h_=>h_.1))) hb);have n2_:=Aside0.mk (Kd.R_below (by(with_reducible repeat(first|apply Kd.R_alloc|apply Kd.R_drewN|apply Kd.R_drew));exact(Kd.R_mono (Kd.R_far (p:=⟨gb619,1,none⟩) (Kd.R_far (p:=⟨gb619,0,none⟩) (Kd.R_types HO_595001.out BK619.out (by decide)) (fun _ hk=>hk.2) (.int .i64 t614)) (fun _ hk=>hk.2) (.slice Ao116 t615.length co116)) (fun _ h_=>h_.1))) hb);have n3_:=Aside0.mk (Kd.R_below (by(with_reducible repeat(first|apply Kd.R_alloc|apply Kd.R_drewN|apply Kd.R_drew));exact(Kd.R_mono (Kd.R_far (p:=⟨gb619,1,none⟩) (Kd.R_far (p:=⟨gb619,0,none⟩) (Kd.R_types HO610.out BK619.out (by decide)) (fun _ hk=>hk.2) (.int .i64 t614)) (fun _ hk=>hk.2) (.slice Ao116 t615.length co116)) (fun _ h_=>h_.1))) hb);have n4_:=Aside0.mk (Kd.R_below (by(with_reducible repeat(first|apply Kd.R_alloc|apply Kd.R_drewN|apply Kd.R_drew));exact(Kd.R_mono (Kd.R_far (p:=⟨gb619,1,none⟩) (Kd.R_far (p:=⟨gb619,0,none⟩) (Kd.R_types HO617.out BK619.out (by decide)) (fun _ hk=>hk.2) (.int .i64 t614)) (fun _ hk=>hk.2) (.slice Ao116 t615.length co116)) (fun _ h_=>h_.1))) hb);have n5_:=Aside0.mk (blk_below (g:=gb565) (o:= .cells #[.int .i64 a0_0,.slice A0_1 l0_1.length c0_1] 32 (0,0)) (by(with_reducible repeat(first|refine blk_drewN ?_ _|refine blk_drew ?_ |refine blk_alloc ?_ _));refine blk_far ?_ NB565_619.out _;(with_reducible repeat(first|refine blk_drewN ?_ _|refine blk_drew ?_ |refine blk_alloc ?_ _));refine blk_far ?_ NB565_619.out _;(with_reducible repeat(first|refine blk_drewN ?_ _|refine blk_drew ?_ |refine blk_alloc ?_ _));exact BK565.out) hb);have n6_:=Aside0.mk (blk_below (g:=gb566) (o:= .cells #[.int .i64 a1_0,.int .i64 a1_1,.int .i64 a1_2] 51 (0,0)) (by(with_reducible repeat(first|refine blk_drewN ?_ _|refine blk_drew ?_ |refine blk_alloc ?_ _));refine blk_far ?_ NB566_619.out _;(with_reducible repeat(first|refine blk_drewN ?_ _|refine blk_drew ?_ |refine blk_alloc ?_ _));refine blk_far ?_ NB566_619.out _;(with_reducible repeat(first|refine blk_drewN ?_ _|refine blk_drew ?_ |refine blk_alloc ?_ _));exact BK566.out) hb);have n7_:=Aside0.mk (blk_below (g:=gb580) (o:= .cells #[.int .i64 t575,.slice Ao30 t576.length co30] 24 (0,0)) (by(with_reducible repeat(first|refine blk_drewN ?_ _|refine blk_drew ?_ |refine blk_alloc ?_ _));refine blk_far ?_ NB580_619.out _;(with_reducible repeat(first|refine blk_drewN ?_ _|refine blk_drew ?_ |refine blk_alloc ?_ _));refine blk_far ?_ NB580_619.out _;(with_reducible repeat(first|refine blk_drewN ?_ _|refine blk_drew ?_ |refine blk_alloc ?_ _));exact BK580.out) hb);have n8_:=Aside0.mk (blk_below (g:=gb585) (o:= .cells #[.int .i64 t581,.slice Ao40 t602.length co40] 24 (0,0)) (by(with_reducible repeat(first|refine blk_drewN ?_ _|refine blk_drew ?_ |refine blk_alloc ?_ _));refine blk_far ?_ NB585_619.out _;(with_reducible repeat(first|refine blk_drewN ?_ _|refine blk_drew ?_ |refine blk_alloc ?_ _));refine blk_far ?_ NB585_619.out _;(with_reducible repeat(first|refine blk_drewN ?_ _|refine blk_drew ?_ |refine blk_alloc ?_ _));exact BK585.out) hb);have n9_:=Aside0.mk (blk_below (g:=gb594) (o:= .cells #[.int .i64 t589,.slice Ao48 t590.length co48] 24 (0,0)) (by(with_reducible repeat(first|refine blk_drewN ?_ _|refine blk_drew ?_ |refine blk_alloc ?_ _));refine blk_far ?_ NB594_619.out _;(with_reducible repeat(first|refine blk_drewN ?_ _|refine blk_drew ?_ |refine blk_alloc ?_ _));refine blk_far ?_ NB594_619.out _;(with_reducible repeat(first|refine blk_drewN ?_ _|refine blk_drew ?_ |refine blk_alloc ?_ _));exact BK594.out) hb);have n10_:=Aside0.mk (blk_below (g:=gb619) (o:= .cells #[.int .i64 t614,.slice Ao116 t615.length co116] 24 (0,0)) (by(with_reducible repeat(first|refine blk_drewN ?_ _|refine blk_drew ?_ |refine blk_alloc ?_ _));refine blk_put (cs:= #[.int .i64 t614,.slice none 0 0]) ?_ 1 _ rfl;(with_reducible repeat(first|refine blk_drewN ?_ _|refine blk_drew ?_ |refine blk_alloc ?_ _));refine blk_put (cs:= #[.int .i64 0,.slice none 0 0]) ?_ 0 _ rfl;(with_reducible repeat(first|refine blk_drewN ?_ _|refine blk_drew ?_ |refine blk_alloc ?_ _));exact BK619.out) hb);have n11_:=Aside0.mk (below_step (zb6 HB GE565 GE566 GE580 GE585 GE594 GE619) hb);clear HO_581001;clear HO_586001;clear HO_595001;clear HO610;clear HO617;clear BK565;clear BK566;clear BK580;clear BK585;clear BK594;clear BK619;clear HB;have HO_581001:=n0_;have HO_586001:=n1_;have HO_595001:=n2_;have HO610:=n3_;have HO617:=n4_;have BK565:=n5_;have BK566:=n6_;have BK580:=n7_;have BK585:=n8_;have BK594:=n9_;have BK619:=n10_;have HB:=n11_;clear n0_ n1_ n2_ n3_ n4_ n5_ n6_ n7_ n8_ n9_ n10_ n11_;(try clear hb);(try clear hb2);(try clear hk);(try clear hi)))
             go_meet
             case rel=>exact⟨_,((t618 !=t579)),(by first|rfl|(simp;done)|(simp [*];done)),H',⟨by have:=HJ15.out;have:=HJ66.out;first|omega|exact Nat.le_refl _⟩,⟨by(try simp only [hl586001_66]);(with_reducible repeat(first|apply Kd.R_alloc|apply Kd.R_drewN|apply Kd.R_drew));exact Kd.R_mono HO_581001.out (fun _ hk=>⟨hk.2.2.1,⟨hk.2.2.2,hk.2.1⟩⟩)⟩,⟨by(try simp only [hl586001_66]);(with_reducible repeat(first|apply Kd.R_alloc|apply Kd.R_drewN|apply Kd.R_drew));exact Kd.R_mono HO_586001.out (fun _ hk=>⟨hk.2.2.1,⟨hk.2.2.2,hk.2.1⟩⟩)⟩,⟨by(try simp only [hl586001_66]);(with_reducible repeat(first|apply Kd.R_alloc|apply Kd.R_drewN|apply Kd.R_drew));exact Kd.R_mono HO_595001.out (fun _ hk=>⟨hk.2.2.1,⟨hk.2.2.2,hk.2.1⟩⟩)⟩,⟨by(try simp only [hl586001_66]);(with_reducible repeat(first|apply Kd.R_alloc|apply Kd.R_drewN|apply Kd.R_drew));exact Kd.R_mono HO617.out (fun _ hk=>⟨hk.2.1,⟨hk.2.2.1,hk.2.2.2⟩⟩)⟩,⟨by(try simp only [hl586001_66]);(with_reducible repeat(first|refine blk_drewN ?_ _|refine blk_drew ?_ |refine blk_alloc ?_ _));exact BK565.out⟩,⟨by(try simp only [hl586001_66]);(with_reducible repeat(first|refine blk_drewN ?_ _|refine blk_drew ?_ |refine blk_alloc ?_ _));exact BK566.out⟩,⟨by(try simp only [hl586001_66]);(with_reducible repeat(first|refine blk_drewN ?_ _|refine blk_drew ?_ |refine blk_alloc ?_ _));exact BK580.out⟩,⟨by(try simp only [hl586001_66]);(with_reducible repeat(first|refine blk_drewN ?_ _|refine blk_drew ?_ |refine blk_alloc ?_ _));exact BK585.out⟩,⟨by(try simp only [hl586001_66]);(with_reducible repeat(first|refine blk_drewN ?_ _|refine blk_drew ?_ |refine blk_alloc ?_ _));exact BK594.out⟩,⟨by(try simp only [hl586001_66]);(with_reducible repeat(first|refine blk_drewN ?_ _|refine blk_drew ?_ |refine blk_alloc ?_ _));exact BK619.out⟩,⟨by repeat(first|(with_reducible first|exact HB.out|apply below_alloc|apply pw_below_drewN|apply below_drew1|refine below_set ?_ GE565.out|refine below_set ?_ GE566.out|refine below_set ?_ GE580.out|refine below_set ?_ GE585.out|refine below_set ?_ GE594.out|refine below_set ?_ GE619.out)|exact HB.out)⟩⟩
            ·replace c119:=Bool.eq_false_iff.mpr c119
             subst c119
             have H1:(laws_FnExactLearn.j2 kj66 t604 true t589 t605)=some r:=by rw [if_neg (show ¬ (false=true) by decide)] at H;exact H
             clear H
             have H:=H1
             clear H1
             exact absurd (H.trans (congrArg some HRT.out)) (by cases kj66<;>simp [laws_FnExactLearn.j2])
           case rest=>
            clear HC99
            try clear c1
            try clear p2
            try clear c3
            try clear c11
            try clear c12
            try clear c14
            try clear c19
            try clear c36
            try clear c37
            try clear c119
            try clear c120
            try clear c121
            try clear c122
            try clear c123
            try clear c124
            try clear c126
            try clear c127
            try clear c128
            try clear c129
            try clear hcz125_0
            try clear hcz125_1
            try clear hcz130_0
            try clear hcz130_1
            try clear hfz125_0
            try clear hfz125_1
            try clear hfz130_0
            try clear hfz130_1
            obtain⟨kq,x95_98,rfl,HA,HJ98,HO_581001,HO_586001,HO_595001,HO_620001,BK565,BK566,BK580,BK585,BK594,BK619,HB⟩:=hcut
            have hl595001_98:=(Kd.R_reads' HO_595001.out).1
            rw [hl595001_98] at HO_595001
            (try simp only [hl595001_98])
            (try simp only [hl595001_98] at BK565)
            (try simp only [hl595001_98] at BK566)
            (try simp only [hl595001_98] at BK580)
            (try simp only [hl595001_98] at BK585)
            (try simp only [hl595001_98] at BK594)
            (try simp only [hl595001_98] at BK619)
            (try simp only [hl595001_98] at HO_581001)
            (try simp only [hl595001_98] at HO_586001)
            (try simp only [hl595001_98] at HO_620001)
            cases kq with
            |zero=>exact absurd HA.out (by simp [laws_FnExactLearn.j2])
            |succ kj98=>
             have H:=HA.out
             clear HA
             simp only [laws_FnExactLearn.j2] at H
             by_cases c132:x95_98=true
             ·subst c132
              have H1:(some false)=some r:=by rw [if_pos rfl] at H;exact H
              clear H
              have H:=H1
              clear H1
              exact absurd ((Option.some.inj H).trans HRT.out) (by decide)
             ·replace c132:=Bool.eq_false_iff.mpr c132
              subst c132
              have H1:((laws_heldTable.f kj98 t589 t605 1).bind fun t621=>(if t621< 0 then(some false) else(if t621=t604 then(some true) else(some false))))=some r:=by rw [if_neg (show ¬ (false=true) by decide)] at H;exact H
              clear H
              have H:=H1
              clear H1
              replace H:=Option.bind_eq_some_iff.mp H
              obtain⟨t621,A1330,H⟩:=H
              replace H:(if t621< 0 then(some false) else(if t621=t604 then(some true) else(some false)))=some r:=H
              have A133:=Aside0.mk A1330
              clear A1330
              by_cases c134:t621< 0
              ·rw [if_pos c134] at H
               have c134b0:decide (t621< 0)=true:=decide_eq_true c134
               clear c134
               exact absurd ((Option.some.inj H).trans HRT.out) (by decide)
              ·rw [if_neg c134] at H
               have c134b0:decide (t621< 0)=false:=decide_eq_false c134
               clear c134
               by_cases c135:t621=t604
               ·rw [if_pos c135] at H
                have c135b0:(t621==t604)=true:=beq_iff_eq.mpr c135
                have c135b1:(t621 !=t604)=false:=bne_eq_false_iff_eq.mpr c135
                clear c135
                obtain rfl:=Option.some.inj H
                have hnb136:=NB594_565.out
                have hnc136:=NB565_594.out
                have hnb137:=NB594_566.out
                have hnc137:=NB566_594.out
                have hnb138:=NB594_580.out
                have hnc138:=NB580_594.out
                have hnb139:=NB594_585.out
                have hnc139:=NB585_594.out
                have hnb140:=NB594_619.out
                have hnc140:=NB619_594.out
                have hcz141_0:wc.cell? ⟨gb594,0,none⟩=some (.int .i64 t589):=(blk_cell BK594.out 0).trans rfl
                have hcz141_1:wc.cell? ⟨gb594,1,none⟩=some (.slice Ao48 t605.length co48):=(blk_cell BK594.out 1).trans rfl
                have hfz141_0:=blk_frozen BK594.out 0
                have hfz141_1:=blk_frozen BK594.out 1
                go_wp2_with (first|((with_reducible refine gate_callee (f:=16) rfl ?_);refine goesL_ (some 98) rfl rfl Try.func16 (by kernel_rfl) rfl #[.agg #[.int .i64 t589,.slice Ao48 t605.length co48],.int .i64 1] rfl z2 ?_;(with_reducible refine(laws_heldTable.calls kj98 t589 _ _ t605 1 t621 _ ?side1 ?side2 A133.out).mono ?_);(case side1=>repeat(first|exact(Kd.R_reads' HO_595001.out).2.2|(with_reducible refine Kd.C_alloc ?_ _)|(with_reducible refine Kd.C_drewN ?_ _)|(with_reducible refine Kd.C_drew ?_)));(case side2=>exact(Kd.R_reads' HO_595001.out).2.1);rintro e w142 ⟨rfl,hb⟩;refine⟨_,rfl,?_⟩;have n0_:=Aside0.mk (Kd.R_below (z4 HO_581001) hb);have n1_:=Aside0.mk (Kd.R_below (z4 HO_586001) hb);have n2_:=Aside0.mk (Kd.R_below (z4 HO_595001) hb);have n3_:=Aside0.mk (Kd.R_below (z4 HO_620001) hb);have n4_:=Aside0.mk (blk_below (g:=gb565) (o:= .cells #[.int .i64 a0_0,.slice A0_1 l0_1.length c0_1] 32 (0,0)) (z3 BK565) hb);have n5_:=Aside0.mk (blk_below (g:=gb566) (o:= .cells #[.int .i64 a1_0,.int .i64 a1_1,.int .i64 a1_2] 51 (0,0)) (z3 BK566) hb);have n6_:=Aside0.mk (blk_below (g:=gb580) (o:= .cells #[.int .i64 t575,.slice Ao30 t576.length co30] 24 (0,0)) (z3 BK580) hb);have n7_:=Aside0.mk (blk_below (g:=gb585) (o:= .cells #[.int .i64 t581,.slice Ao40 t602.length co40] 24 (0,0)) (z3 BK585) hb);have n8_:=Aside0.mk (blk_below (g:=gb594) (o:= .cells #[.int .i64 t589,.slice Ao48 t605.length co48] 24 (0,0)) (z3 BK594) hb);have n9_:=Aside0.mk (blk_below (g:=gb619) (o:= .cells #[.int .i64 t614,.slice Ao116 t615.length co116] 24 (0,0)) (z3 BK619) hb);have n10_:=Aside0.mk (below_step (zb6 HB GE565 GE566 GE580 GE585 GE594 GE619) hb);clear HO_581001;clear HO_586001;clear HO_595001;clear HO_620001;clear BK565;clear BK566;clear BK580;clear BK585;clear BK594;clear BK619;clear HB;have HO_581001:=n0_;have HO_586001:=n1_;have HO_595001:=n2_;have HO_620001:=n3_;have BK565:=n4_;have BK566:=n5_;have BK580:=n6_;have BK585:=n7_;have BK594:=n8_;have BK619:=n9_;have HB:=n10_;clear n0_ n1_ n2_ n3_ n4_ n5_ n6_ n7_ n8_ n9_ n10_;(try clear hb);(try clear hb2);(try clear hk);(try clear hi)))
                go_ret
                exact⟨by first|rfl|(simp [errW_none,errW_some]<;>rfl)|(simp [*,errW_none,errW_some]<;>rfl),by repeat(first|(with_reducible first|exact HB.out|apply below_alloc|apply pw_below_drewN|apply below_drew1|refine below_set ?_ GE565.out|refine below_set ?_ GE566.out|refine below_set ?_ GE580.out|refine below_set ?_ GE585.out|refine below_set ?_ GE594.out|refine below_set ?_ GE619.out)|exact HB.out)⟩
               ·rw [if_neg c135] at H
                have c135b0:(t621==t604)=false:=beq_eq_false_iff_ne.mpr c135
                have c135b1:(t621 !=t604)=true:=bne_iff_ne.mpr c135
                exact absurd ((Option.some.inj H).trans HRT.out) (by decide)
          ·rw [if_neg c95] at H
           have c95b0:(t606==t604)=false:=beq_eq_false_iff_ne.mpr c95
           have c95b1:(t606 !=t604)=true:=bne_iff_ne.mpr c95
           exact absurd ((Option.some.inj H).trans HRT.out) (by decide)
     ·replace c65:=Bool.eq_false_iff.mpr c65
      subst c65
      have H1:(some false)=some r:=by rw [if_neg (show ¬ (false=true) by decide)] at H;exact H
      clear H
      have H:=H1
      clear H1
      exact absurd ((Option.some.inj H).trans HRT.out) (by decide)
end Go.Proofs.Ytcbofebikbbknaa.P
