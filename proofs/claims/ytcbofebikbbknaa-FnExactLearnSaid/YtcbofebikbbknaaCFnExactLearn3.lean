/- Functions, walks and plain lemmas that the law FnExactLearn reaches, part 3. -/
import Derived.Test.YtcbofebikbbknaaCFnExactLearn2
import Derived.WalkKit
import Derived.ProofKit
import Derived.OpenShut
import Derived.ChangeOld
import Derived.Below
import Derived.SizedLaws
import Derived.ChangeArms
import Derived.DataElems
import Derived.Deep.Draws
import Derived.Deep.AppendLies
import Derived.Maps.AppendAt
import Derived.OwnWalk
import Derived.Laws.BytesArg
import Derived.Laws.MakeOwn
import Derived.Laws.OwnMore
import Derived.Deep.OwnRows
import Derived.Tactics
import Derived.Lib.ConvBytes
import Derived.Laws.Slices
import Derived.KernelRfl
import Derived.RowKit3
import Derived.Deep.LoopGhost
import Derived.Deep.QuietTactic
import Derived.BigQuiet
import Derived.WideLaws
import Derived.Deep.DeepCutAuto
import Derived.Deep.CutBlock
import Derived.Deep.RegionHeld3
import Derived.Laws.Rows
import Derived.Lib.AppendStr
import Derived.ArgAppend
import Derived.Laws.IdiomCopy
import Derived.OrdersHeld
import Derived.Laws.BitsLemmas
import Derived.RowKit
import Derived.WalkSpells
import Derived.Lib.SliceRun
import Derived.Shelf.Abstract
import Derived.ShutString
namespace Go.Proofs.Ytcbofebikbbknaa.P
open Go.RowKit Go.Proofs.YtcbofebikbbknaaW.PrintWords Go.Proofs.YtcbofebikbbknaaW.PrintLast Go.Proofs.YtcbofebikbbknaaW.PrintMore
attribute [local go_sem] max2_int min2_int max_two min_two max_three min_three max_four min_four   -- for this text's walks alone
set_option linter.unusedVariables false
set_option linter.unusedSimpArgs false
def spec_l13Learn.l0:Nat→List (S53)→Int→Int→Int→List (S53)→Int→Int→Int→Int→List (S53)→Option (Int × (List (S53)))
 | 0,_,_,_,_,_,_,_,_,_,_=>none
 |k+1,x14,x15,x16,x250000,x250001,x251000,x251001,x251002,x256000,x256001=>if x16<x15 then(if 0≤x16 then(if x16< (x14.length:Int) then(if ((rd_T53 x14 x16).f0)=x251000 then(spec_l13Learn.l0 k x14 x15 (wrap64 (x16+1)) x250000 x250001 x251000 x251001 x251002 x256000 x256001) else(if (x256001.length:Int)<x250000 then(if x256001.length< 5864062014805 then(spec_l13Learn.l0 k x14 x15 (wrap64 (x16+1)) x250000 x250001 x251000 x251001 x251002 x256000 (x256001++ [(⟨(rd_T53 x14 x16).f0,(rd_T53 x14 x16).f1,(rd_T53 x14 x16).f2⟩ :S53)])) else(none)) else(spec_l13Learn.l0 k x14 x15 (wrap64 (x16+1)) x250000 x250001 x251000 x251001 x251002 x256000 x256001))) else(none)) else(none)) else(some (x256000,x256001))
def spec_l13Learn.f (k:Nat) (a0_0:Int) (l0_1:List (S53)) (a1_0:Int) (a1_1:Int) (a1_2:Int):Option (Int × (List (S53))):=spec_l13Learn.l0 k l0_1 (l0_1.length:Int) 0 a0_0 l0_1 a1_0 a1_1 a1_2 a0_0 (([(⟨a1_0,a1_1,a1_2⟩ :S53)] :List (S53)))
theorem zb4 {q p q0 q1 q2 q3:Prop} (b:Aside0 q) (b0:Aside0 q0) (b1:Aside0 q1) (b2:Aside0 q2) (b3:Aside0 q3) (h:q→q0→q1→q2→q3→p:=by intro z z0 z1 z2 z3;repeat(first|(with_reducible first|exact z|apply below_alloc|apply pw_below_drewN|apply below_drew1|refine below_set ?_ z0|refine below_set ?_ z1|refine below_set ?_ z2|refine below_set ?_ z3)|exact z)):p:=h b.out b0.out b1.out b2.out b3.out
theorem zb5 {q p q0 q1 q2 q3 q4:Prop} (b:Aside0 q) (b0:Aside0 q0) (b1:Aside0 q1) (b2:Aside0 q2) (b3:Aside0 q3) (b4:Aside0 q4) (h:q→q0→q1→q2→q3→q4→p:=by intro z z0 z1 z2 z3 z4;repeat(first|(with_reducible first|exact z|apply below_alloc|apply pw_below_drewN|apply below_drew1|refine below_set ?_ z0|refine below_set ?_ z1|refine below_set ?_ z2|refine below_set ?_ z3|refine below_set ?_ z4)|exact z)):p:=h b.out b0.out b1.out b2.out b3.out b4.out
set_option maxHeartbeats 8000000 in
set_option maxRecDepth 100000 in
theorem spec_l13Learn.calls (k:Nat) (a0_0:Int) (A0_1:Option Addr) (c0_1:Nat) (l0_1:List (S53)) (a1_0:Int) (a1_1:Int) (a1_2:Int) (r1:Int) (r2:List (S53)) (w:World) (hr0_1:Kd.C k53 w A0_1 l0_1.length l0_1) (hc0_1:l0_1.length≤c0_1) (h:spec_l13Learn.f k a0_0 l0_1 a1_0 a1_1 a1_2=some (r1,r2)):
  Calls Try.prog 49 #[.agg #[.int .i64 a0_0,.slice A0_1 l0_1.length c0_1],.agg #[.int .i64 a1_0,.int .i64 a1_1,.int .i64 a1_2]] w fun e w'=> ∃ v1_:Value,e= .returned (.agg #[.int .i64 r1,v1_])∧Kd.R k53 53 w' w.heap.size (fun _=>True) v1_ r2∧Below w.heap.size w w':=by
 have hu24:=Try.underlying24
 have hu53:=Try.underlying53
 have HR0_1:=Aside0.mk hr0_1
 have HC0_1:=Aside0.mk hc0_1
 clear hr0_1 hc0_1
 have HB:=Aside0.mk (Below.refl w.heap.size w)
 have H:(spec_l13Learn.l0 k l0_1 (l0_1.length:Int) 0 a0_0 l0_1 a1_0 a1_1 a1_2 a0_0 (([(⟨a1_0,a1_1,a1_2⟩ :S53)] :List (S53))))=some (r1,r2):=h
 clear h
 obtain⟨y252,hy252⟩ :∃ y_:List (S53),y_= (([(⟨a1_0,a1_1,a1_2⟩ :S53)] :List (S53))):=⟨_,rfl⟩
 replace H:(spec_l13Learn.l0 k l0_1 (l0_1.length:Int) 0 a0_0 l0_1 a1_0 a1_1 a1_2 a0_0 y252)=some (r1,r2):=by first|(rw [hy252];with_reducible exact H)|(have H2_:=(Option.bind_some _ _).symm.trans H;rw [hy252];with_reducible exact H2_)|(have H2_:=(Option.bind_some _ _).symm.trans H;with_reducible exact H2_)|with_reducible exact H|(rw [hy252];exact H)|exact H
 have Ny252:=Aside0.mk hy252
 clear hy252
 have H':=Aside0.mk H
 clear H
 go_enter Try.func49,Try.ntmps49
 go_wp2_with (first|((with_reducible refine gate_dst (N:=2) rfl ?_);(try(refine gate_guard (by rfl) ?_;dsimp only));refine box_event ?hg (N:=2) ?hd (cs:= #[.int .i64 a0_0,.slice A0_1 l0_1.length c0_1]) (t:=24) ?hr ?_;(case hd=>rfl);(case hg=>rfl);(case hr=>first|(go_simp;done)|(go_simp;rfl));intro gb249 hg w3 hbox hb;have n0_:=Aside0.mk (below_step (zb0 HB) hb);have n1_:=Aside0.mk (hbox);have n2_:=Aside0.mk ((by rw [hg];exact(below_size (zb0 HB)):w.heap.size≤gb249));have n3_:=Aside0.mk ((by rw [hg];exact(below_size (zb0 HB)):w.heap.size≤gb249));clear HB;have HB:=n0_;have BK249:=n1_;have GW249:=n2_;have GE249:=n3_;clear n0_ n1_ n2_ n3_;clear hb hbox hg)|((with_reducible refine gate_dst (N:=3) rfl ?_);(try(refine gate_guard (by rfl) ?_;dsimp only));refine box_event ?hg (N:=3) ?hd (cs:= #[.int .i64 a1_0,.int .i64 a1_1,.int .i64 a1_2]) (t:=53) ?hr ?_;(case hd=>rfl);(case hg=>rfl);(case hr=>first|(go_simp;done)|(go_simp;rfl));intro gb250 hg w4 hbox hb;have n0_:=Aside0.mk (blk_below (g:=gb249) (o:= .cells #[.int .i64 a0_0,.slice A0_1 l0_1.length c0_1] 24 (0,0)) (z3 BK249) hb);have n1_:=Aside0.mk (below_step (zb1 HB GE249) hb);have n2_:=Aside0.mk (hbox);have n3_:=Aside0.mk ((by rw [hg];exact(below_size (zb1 HB GE249)):w.heap.size≤gb250));have n4_:=Aside0.mk ((by rw [hg];exact(below_size (zb1 HB GE249)):w.heap.size≤gb250));have n5_:=Aside0.mk ((by rw [hg];exact Nat.ne_of_lt (blk_lt (g:=gb249) (o:= .cells #[.int .i64 a0_0,.slice A0_1 l0_1.length c0_1] 24 (0,0)) (z3 BK249)):gb249≠gb250));have n6_:=Aside0.mk ((by rw [hg];exact Nat.ne_of_gt (blk_lt (g:=gb249) (o:= .cells #[.int .i64 a0_0,.slice A0_1 l0_1.length c0_1] 24 (0,0)) (z3 BK249)):gb250≠gb249));clear BK249;clear HB;have BK249:=n0_;have HB:=n1_;have BK250:=n2_;have GW250:=n3_;have GE250:=n4_;have NB249_250:=n5_;have NB250_249:=n6_;clear n0_ n1_ n2_ n3_ n4_ n5_ n6_;clear hb hbox hg)|((with_reducible refine gate_dst (N:=4) rfl ?_);(try(refine gate_guard (by rfl) ?_;dsimp only));refine box_event ?hg (N:=4) ?hd (cs:= #[.int .i64 0,.slice none 0 0]) (t:=24) ?hr ?_;(case hd=>rfl);(case hg=>rfl);(case hr=>first|(go_simp;done)|(go_simp;rfl));intro gb251 hg w5 hbox hb;have n0_:=Aside0.mk (blk_below (g:=gb249) (o:= .cells #[.int .i64 a0_0,.slice A0_1 l0_1.length c0_1] 24 (0,0)) (z3 BK249) hb);have n1_:=Aside0.mk (blk_below (g:=gb250) (o:= .cells #[.int .i64 a1_0,.int .i64 a1_1,.int .i64 a1_2] 53 (0,0)) (z3 BK250) hb);have n2_:=Aside0.mk (below_step (zb2 HB GE249 GE250) hb);have n3_:=Aside0.mk (hbox);have n4_:=Aside0.mk ((by rw [hg];exact(below_size (zb2 HB GE249 GE250)):w.heap.size≤gb251));have n5_:=Aside0.mk ((by rw [hg];exact(below_size (zb2 HB GE249 GE250)):w.heap.size≤gb251));have n6_:=Aside0.mk ((by rw [hg];exact Nat.ne_of_lt (blk_lt (g:=gb249) (o:= .cells #[.int .i64 a0_0,.slice A0_1 l0_1.length c0_1] 24 (0,0)) (z3 BK249)):gb249≠gb251));have n7_:=Aside0.mk ((by rw [hg];exact Nat.ne_of_gt (blk_lt (g:=gb249) (o:= .cells #[.int .i64 a0_0,.slice A0_1 l0_1.length c0_1] 24 (0,0)) (z3 BK249)):gb251≠gb249));have n8_:=Aside0.mk ((by rw [hg];exact Nat.ne_of_lt (blk_lt (g:=gb250) (o:= .cells #[.int .i64 a1_0,.int .i64 a1_1,.int .i64 a1_2] 53 (0,0)) (z3 BK250)):gb250≠gb251));have n9_:=Aside0.mk ((by rw [hg];exact Nat.ne_of_gt (blk_lt (g:=gb250) (o:= .cells #[.int .i64 a1_0,.int .i64 a1_1,.int .i64 a1_2] 53 (0,0)) (z3 BK250)):gb251≠gb250));clear BK249;clear BK250;clear HB;have BK249:=n0_;have BK250:=n1_;have HB:=n2_;have BK251:=n3_;have GW251:=n4_;have GE251:=n5_;have NB249_251:=n6_;have NB251_249:=n7_;have NB250_251:=n8_;have NB251_250:=n9_;clear n0_ n1_ n2_ n3_ n4_ n5_ n6_ n7_ n8_ n9_;clear hb hbox hg;have hnb6:=NB249_250.out;have hnc6:=NB250_249.out;have hnb7:=NB249_251.out;have hnc7:=NB251_249.out;have hcz8_0:w5.cell? ⟨gb249,0,none⟩=some (.int .i64 a0_0):=(blk_cell BK249.out 0).trans rfl;have hcz8_1:w5.cell? ⟨gb249,1,none⟩=some (.slice A0_1 l0_1.length c0_1):=(blk_cell BK249.out 1).trans rfl;have hfz8_0:=blk_frozen BK249.out 0;have hfz8_1:=blk_frozen BK249.out 1;have hnb9:=NB250_251.out;have hnc9:=NB251_250.out;have hcz10_0:w5.cell? ⟨gb250,0,none⟩=some (.int .i64 a1_0):=(blk_cell BK250.out 0).trans rfl;have hcz10_1:w5.cell? ⟨gb250,1,none⟩=some (.int .i64 a1_1):=(blk_cell BK250.out 1).trans rfl;have hcz10_2:w5.cell? ⟨gb250,2,none⟩=some (.int .i64 a1_2):=(blk_cell BK250.out 2).trans rfl;have hfz10_0:=blk_frozen BK250.out 0;have hfz10_1:=blk_frozen BK250.out 1;have hfz10_2:=blk_frozen BK250.out 2)|((with_reducible refine gate_dst (N:=11) rfl ?_);(try(refine gate_guard (by rfl) ?_;dsimp only));refine Kd.R_lit k53 _ 53 ?hg (N:=11) ?hd (xs:=([(⟨a1_0,a1_1,a1_2⟩ :S53)] :List (S53))) (inner:= [.int .i64 a1_0,.int .i64 a1_1,.int .i64 a1_2]) (ok:=fun _=>True) (okp:=fun _=>True) ?hr ?hp (fun _ hk=>hk) trivial (Below.refl _ _) (Nat.le_refl _) (by simp) ?_;(case hd=>rfl);(case hg=>rfl);(case hr=>first|(go_simp;done)|(go_simp;rfl));(case hp=>exact(Reps.c3 (show Kd.M k53 _ _ _ (⟨a1_0,a1_1,a1_2⟩ :S53) [.int .i64 a1_0,.int .i64 a1_1,.int .i64 a1_2] from (k53_mkM _ _ _ (⟨a1_0,a1_1,a1_2⟩ :S53) )) (Reps.none _ _)));intro v253 w11 ho12 hb hg_ hnew_;clear hg_ hnew_;(first|rw [← Ny252.out] at ho12|(simp only [Int.reduceToNat] at ho12;rw [← Ny252.out] at ho12));have n0_:=Aside0.mk (Kd.R_lower (Kd.R_newB ho12 (g:=gb250) (o:= .cells #[.int .i64 a1_0,.int .i64 a1_1,.int .i64 a1_2] 53 (0,0)) (z3 BK250)) (below_size (zb3 HB GE249 GE250 GE251)));have n1_:=Aside0.mk (blk_below (g:=gb249) (o:= .cells #[.int .i64 a0_0,.slice A0_1 l0_1.length c0_1] 24 (0,0)) (z3 BK249) hb);have n2_:=Aside0.mk (blk_below (g:=gb250) (o:= .cells #[.int .i64 a1_0,.int .i64 a1_1,.int .i64 a1_2] 53 (0,0)) (z3 BK250) hb);have n3_:=Aside0.mk (blk_below (g:=gb251) (o:= .cells #[.int .i64 0,.slice none 0 0] 24 (0,0)) (z3 BK251) hb);have n4_:=Aside0.mk (below_step (zb3 HB GE249 GE250 GE251) hb);clear BK249;clear BK250;clear BK251;clear HB;have HO254:=n0_;have BK249:=n1_;have BK250:=n2_;have BK251:=n3_;have HB:=n4_;clear n0_ n1_ n2_ n3_ n4_;clear hb ho12;obtain⟨Ao13,co13,eo13⟩:=Kd.R_slice HO254.out;subst eo13)|((with_reducible refine gate_dst (N:=5) rfl ?_);(try(refine gate_guard (by rfl) ?_;dsimp only));refine box_event ?hg (N:=5) ?hd (cs:= #[.int .i64 0,.slice none 0 0]) (t:=24) ?hr ?_;(case hd=>rfl);(case hg=>rfl);(case hr=>first|(go_simp;done)|(go_simp;rfl));intro gb255 hg w14 hbox hb;have n0_:=Aside0.mk (Kd.R_below (z4 HO254) hb);have n1_:=Aside0.mk (blk_below (g:=gb249) (o:= .cells #[.int .i64 a0_0,.slice A0_1 l0_1.length c0_1] 24 (0,0)) (z3 BK249) hb);have n2_:=Aside0.mk (blk_below (g:=gb250) (o:= .cells #[.int .i64 a1_0,.int .i64 a1_1,.int .i64 a1_2] 53 (0,0)) (z3 BK250) hb);have n3_:=Aside0.mk (blk_below (g:=gb251) (o:= .cells #[.int .i64 0,.slice none 0 0] 24 (0,0)) (z3 BK251) hb);have n4_:=Aside0.mk (below_step (zb3 HB GE249 GE250 GE251) hb);have n5_:=Aside0.mk (hbox);have n6_:=Aside0.mk ((by rw [hg];exact(below_size (zb3 HB GE249 GE250 GE251)):w.heap.size≤gb255));have n7_:=Aside0.mk ((by rw [hg];exact(below_size (zb3 HB GE249 GE250 GE251)):w.heap.size≤gb255));have n8_:=Aside0.mk ((by rw [hg];exact Nat.ne_of_lt (blk_lt (g:=gb249) (o:= .cells #[.int .i64 a0_0,.slice A0_1 l0_1.length c0_1] 24 (0,0)) (z3 BK249)):gb249≠gb255));have n9_:=Aside0.mk ((by rw [hg];exact Nat.ne_of_gt (blk_lt (g:=gb249) (o:= .cells #[.int .i64 a0_0,.slice A0_1 l0_1.length c0_1] 24 (0,0)) (z3 BK249)):gb255≠gb249));have n10_:=Aside0.mk ((by rw [hg];exact Nat.ne_of_lt (blk_lt (g:=gb250) (o:= .cells #[.int .i64 a1_0,.int .i64 a1_1,.int .i64 a1_2] 53 (0,0)) (z3 BK250)):gb250≠gb255));have n11_:=Aside0.mk ((by rw [hg];exact Nat.ne_of_gt (blk_lt (g:=gb250) (o:= .cells #[.int .i64 a1_0,.int .i64 a1_1,.int .i64 a1_2] 53 (0,0)) (z3 BK250)):gb255≠gb250));have n12_:=Aside0.mk ((by rw [hg];exact Nat.ne_of_lt (blk_lt (g:=gb251) (o:= .cells #[.int .i64 0,.slice none 0 0] 24 (0,0)) (z3 BK251)):gb251≠gb255));have n13_:=Aside0.mk ((by rw [hg];exact Nat.ne_of_gt (blk_lt (g:=gb251) (o:= .cells #[.int .i64 0,.slice none 0 0] 24 (0,0)) (z3 BK251)):gb255≠gb251));clear HO254;clear BK249;clear BK250;clear BK251;clear HB;have HO254:=n0_;have BK249:=n1_;have BK250:=n2_;have BK251:=n3_;have HB:=n4_;have BK255:=n5_;have GW255:=n6_;have GE255:=n7_;have NB249_255:=n8_;have NB255_249:=n9_;have NB250_255:=n10_;have NB255_250:=n11_;have NB251_255:=n12_;have NB255_251:=n13_;clear n0_ n1_ n2_ n3_ n4_ n5_ n6_ n7_ n8_ n9_ n10_ n11_ n12_ n13_;clear hb hbox hg;have hnb15:=NB255_249.out;have hnc15:=NB249_255.out;have hnb16:=NB255_250.out;have hnc16:=NB250_255.out;have hnb17:=NB255_251.out;have hnc17:=NB251_255.out;have hcz18_0:w14.cell? ⟨gb255,0,none⟩=some (.int .i64 0):=(blk_cell BK255.out 0).trans rfl;have hcz18_1:w14.cell? ⟨gb255,1,none⟩=some (.slice none 0 0):=(blk_cell BK255.out 1).trans rfl;have hfz18_0:=blk_frozen BK255.out 0;have hfz18_1:=blk_frozen BK255.out 1;have hcz19_0:w14.cell? ⟨gb249,0,none⟩=some (.int .i64 a0_0):=(blk_cell BK249.out 0).trans rfl;have hcz19_1:w14.cell? ⟨gb249,1,none⟩=some (.slice A0_1 l0_1.length c0_1):=(blk_cell BK249.out 1).trans rfl;have hfz19_0:=blk_frozen BK249.out 0;have hfz19_1:=blk_frozen BK249.out 1))
 go_loopg [16] k (fun kq v16 w'=> ∃ (x16_1:Int) (x256001_1:List (S53)) (u256001:Value),v16= .int .i64 x16_1∧Aside0 (spec_l13Learn.l0 kq l0_1 (l0_1.length:Int) x16_1 a0_0 l0_1 a1_0 a1_1 a1_2 a0_0 x256001_1=some (r1,r2))∧Aside0 (kq≤k)∧Aside0 (Kd.R k53 53 w' w.heap.size (fun k_=>k_≠gb250) u256001 x256001_1)∧Aside0 (w'.heap[gb249]?=some (.cells #[.int .i64 a0_0,(.slice A0_1 l0_1.length c0_1)] 24 (0,0)))∧Aside0 (w'.heap[gb250]?=some (.cells #[.int .i64 a1_0,.int .i64 a1_1,.int .i64 a1_2] 53 (0,0)))∧Aside0 (w'.heap[gb251]?=some (.cells #[.int .i64 0,(.slice none 0 0)] 24 (0,0)))∧Aside0 (w'.heap[gb255]?=some (.cells #[.int .i64 a0_0,u256001] 24 (0,0)))∧Aside0 (Below w.heap.size w w'))
 case atStart=>exact⟨(0),(y252),(.slice Ao13 y252.length co13),(by first|rfl|(simp;done)|(simp [*];done)),H',⟨Nat.le_refl _⟩,⟨by(with_reducible repeat(first|apply Kd.R_alloc|apply Kd.R_drewN|apply Kd.R_drew));exact Kd.R_mono (Kd.R_far (p:=⟨gb255,1,none⟩) (Kd.R_far (p:=⟨gb255,0,none⟩) (Kd.R_types HO254.out BK255.out (by decide)) (fun _ hk=>hk.2) (.int .i64 a0_0)) (fun _ hk=>hk.2) (.slice Ao13 y252.length co13)) (fun _ hk=>hk.1.2)⟩,⟨by(with_reducible repeat(first|refine blk_drewN ?_ _|refine blk_drew ?_ |refine blk_alloc ?_ _));refine blk_far ?_ NB249_255.out _;(with_reducible repeat(first|refine blk_drewN ?_ _|refine blk_drew ?_ |refine blk_alloc ?_ _));refine blk_far ?_ NB249_255.out _;(with_reducible repeat(first|refine blk_drewN ?_ _|refine blk_drew ?_ |refine blk_alloc ?_ _));exact BK249.out⟩,⟨by(with_reducible repeat(first|refine blk_drewN ?_ _|refine blk_drew ?_ |refine blk_alloc ?_ _));refine blk_far ?_ NB250_255.out _;(with_reducible repeat(first|refine blk_drewN ?_ _|refine blk_drew ?_ |refine blk_alloc ?_ _));refine blk_far ?_ NB250_255.out _;(with_reducible repeat(first|refine blk_drewN ?_ _|refine blk_drew ?_ |refine blk_alloc ?_ _));exact BK250.out⟩,⟨by(with_reducible repeat(first|refine blk_drewN ?_ _|refine blk_drew ?_ |refine blk_alloc ?_ _));refine blk_far ?_ NB251_255.out _;(with_reducible repeat(first|refine blk_drewN ?_ _|refine blk_drew ?_ |refine blk_alloc ?_ _));refine blk_far ?_ NB251_255.out _;(with_reducible repeat(first|refine blk_drewN ?_ _|refine blk_drew ?_ |refine blk_alloc ?_ _));exact BK251.out⟩,⟨by(with_reducible repeat(first|refine blk_drewN ?_ _|refine blk_drew ?_ |refine blk_alloc ?_ _));refine blk_put (cs:= #[.int .i64 a0_0,.slice none 0 0]) ?_ 1 _ rfl;(with_reducible repeat(first|refine blk_drewN ?_ _|refine blk_drew ?_ |refine blk_alloc ?_ _));refine blk_put (cs:= #[.int .i64 0,.slice none 0 0]) ?_ 0 _ rfl;(with_reducible repeat(first|refine blk_drewN ?_ _|refine blk_drew ?_ |refine blk_alloc ?_ _));exact BK255.out⟩,⟨by repeat(first|(with_reducible first|exact HB.out|apply below_alloc|apply pw_below_drewN|apply below_drew1|refine below_set ?_ GE249.out|refine below_set ?_ GE250.out|refine below_set ?_ GE251.out|refine below_set ?_ GE255.out)|exact HB.out)⟩⟩
 case round=>
  clear H'
  try clear c1
  try clear p2
  try clear c3
  try clear c4
  try clear c6
  try clear c7
  try clear c9
  try clear c15
  try clear c16
  try clear c17
  try clear hcz10_0
  try clear hcz10_1
  try clear hcz10_2
  try clear hcz18_0
  try clear hcz18_1
  try clear hcz19_0
  try clear hcz19_1
  try clear hcz8_0
  try clear hcz8_1
  try clear hfz10_0
  try clear hfz10_1
  try clear hfz10_2
  try clear hfz18_0
  try clear hfz18_1
  try clear hfz19_0
  try clear hfz19_1
  try clear hfz8_0
  try clear hfz8_1
  obtain⟨x16_1,x256001_1,u256001,rfl,HA,HK1,HO_256001,BK249,BK250,BK251,BK255,HB⟩:=hrel
  cases gk with
  |zero=>exact absurd HA.out (by simp [spec_l13Learn.l0])
  |succ k1=>
   have H:=HA.out
   clear HA
   simp only [spec_l13Learn.l0] at H
   by_cases c20:x16_1< (l0_1.length:Int)
   ·rw [if_pos c20] at H
    have c20b0:decide (x16_1< (l0_1.length:Int))=true:=decide_eq_true c20
    clear c20
    by_cases c21: 0≤x16_1
    ·rw [if_pos c21] at H
     have c21b0:decide (0≤x16_1)=true:=decide_eq_true c21
     clear c21
     by_cases c22:x16_1< (l0_1.length:Int)
     ·rw [if_pos c22] at H
      have c22b0:decide (x16_1< (l0_1.length:Int))=true:=decide_eq_true c22
      clear c22
      by_cases c23:((rd_T53 l0_1 x16_1).f0)=a1_0
      ·rw [if_pos c23] at H
       have c23b0:(((rd_T53 l0_1 x16_1).f0)==a1_0)=true:=beq_iff_eq.mpr c23
       have c23b1:(((rd_T53 l0_1 x16_1).f0) !=a1_0)=false:=bne_eq_false_iff_eq.mpr c23
       clear c23
       have H':=Aside0.mk H
       clear H
       have p256: 0≤ (x16_1:Int):=of_decide_eq_true z1
       have q256:x16_1< (l0_1.length:Int):=of_decide_eq_true z1
       obtain⟨ad256,e256,hx256_0,hx256_1,hx256_2⟩:=at_T53 HR0_1.out x16_1 p256 q256
       cases e256
       replace hx256_0:=(HB.out.cell (World.block_lt_of_cell? w _ hx256_0)).trans hx256_0
       replace hx256_1:=(HB.out.cell (World.block_lt_of_cell? w _ hx256_1)).trans hx256_1
       replace hx256_2:=(HB.out.cell (World.block_lt_of_cell? w _ hx256_2)).trans hx256_2
       replace p256:=eq_true p256
       replace q256:=eq_true q256
       go_wp2_with (first|((with_reducible refine gate_dst (N:=7) rfl ?_);(try(refine gate_guard (by rfl) ?_;dsimp only));refine box_event ?hg (N:=7) ?hd (cs:= #[.int .i64 0,.int .i64 0,.int .i64 0]) (t:=53) ?hr ?_;(case hd=>rfl);(case hg=>rfl);(case hr=>first|(go_simp;done)|(go_simp;rfl));intro gb257 hg w24 hbox hb;have n0_:=Aside0.mk (Kd.R_below (Kd.R_elderB (z4 HO_256001) gb257 (Nat.le_of_eq hg.symm)) hb);have n1_:=Aside0.mk (blk_below (g:=gb249) (o:= .cells #[.int .i64 a0_0,.slice (some ad256) l0_1.length c0_1] 24 (0,0)) (z3 BK249) hb);have n2_:=Aside0.mk (blk_below (g:=gb250) (o:= .cells #[.int .i64 a1_0,.int .i64 a1_1,.int .i64 a1_2] 53 (0,0)) (z3 BK250) hb);have n3_:=Aside0.mk (blk_below (g:=gb251) (o:= .cells #[.int .i64 0,.slice none 0 0] 24 (0,0)) (z3 BK251) hb);have n4_:=Aside0.mk (blk_below (g:=gb255) (o:= .cells #[.int .i64 a0_0,u256001] 24 (0,0)) (z3 BK255) hb);have n5_:=Aside0.mk (below_step (zb4 HB GE249 GE250 GE251 GE255) hb);have n6_:=Aside0.mk (hbox);have n7_:=Aside0.mk ((by rw [hg];exact(below_size (zb4 HB GE249 GE250 GE251 GE255)):w.heap.size≤gb257));have n8_:=Aside0.mk ((by rw [hg];exact(below_size (zb4 HB GE249 GE250 GE251 GE255)):w.heap.size≤gb257));have n9_:=Aside0.mk ((by rw [hg];exact Nat.ne_of_lt (blk_lt (g:=gb249) (o:= .cells #[.int .i64 a0_0,.slice (some ad256) l0_1.length c0_1] 24 (0,0)) (z3 BK249)):gb249≠gb257));have n10_:=Aside0.mk ((by rw [hg];exact Nat.ne_of_gt (blk_lt (g:=gb249) (o:= .cells #[.int .i64 a0_0,.slice (some ad256) l0_1.length c0_1] 24 (0,0)) (z3 BK249)):gb257≠gb249));have n11_:=Aside0.mk ((by rw [hg];exact Nat.ne_of_lt (blk_lt (g:=gb250) (o:= .cells #[.int .i64 a1_0,.int .i64 a1_1,.int .i64 a1_2] 53 (0,0)) (z3 BK250)):gb250≠gb257));have n12_:=Aside0.mk ((by rw [hg];exact Nat.ne_of_gt (blk_lt (g:=gb250) (o:= .cells #[.int .i64 a1_0,.int .i64 a1_1,.int .i64 a1_2] 53 (0,0)) (z3 BK250)):gb257≠gb250));have n13_:=Aside0.mk ((by rw [hg];exact Nat.ne_of_lt (blk_lt (g:=gb251) (o:= .cells #[.int .i64 0,.slice none 0 0] 24 (0,0)) (z3 BK251)):gb251≠gb257));have n14_:=Aside0.mk ((by rw [hg];exact Nat.ne_of_gt (blk_lt (g:=gb251) (o:= .cells #[.int .i64 0,.slice none 0 0] 24 (0,0)) (z3 BK251)):gb257≠gb251));have n15_:=Aside0.mk ((by rw [hg];exact Nat.ne_of_lt (blk_lt (g:=gb255) (o:= .cells #[.int .i64 a0_0,u256001] 24 (0,0)) (z3 BK255)):gb255≠gb257));have n16_:=Aside0.mk ((by rw [hg];exact Nat.ne_of_gt (blk_lt (g:=gb255) (o:= .cells #[.int .i64 a0_0,u256001] 24 (0,0)) (z3 BK255)):gb257≠gb255));clear HO_256001;clear BK249;clear BK250;clear BK251;clear BK255;clear HB;have HO_256001:=n0_;have BK249:=n1_;have BK250:=n2_;have BK251:=n3_;have BK255:=n4_;have HB:=n5_;have BK257:=n6_;have GW257:=n7_;have GE257:=n8_;have NB249_257:=n9_;have NB257_249:=n10_;have NB250_257:=n11_;have NB257_250:=n12_;have NB251_257:=n13_;have NB257_251:=n14_;have NB255_257:=n15_;have NB257_255:=n16_;clear n0_ n1_ n2_ n3_ n4_ n5_ n6_ n7_ n8_ n9_ n10_ n11_ n12_ n13_ n14_ n15_ n16_;clear hb hbox hg;have hnb25:=NB257_249.out;have hnc25:=NB249_257.out;have hnb26:=NB257_250.out;have hnc26:=NB250_257.out;have hnb27:=NB257_251.out;have hnc27:=NB251_257.out;have hnb28:=NB257_255.out;have hnc28:=NB255_257.out;have hcz29_0:w24.cell? ⟨gb257,0,none⟩=some (.int .i64 0):=(blk_cell BK257.out 0).trans rfl;have hcz29_1:w24.cell? ⟨gb257,1,none⟩=some (.int .i64 0):=(blk_cell BK257.out 1).trans rfl;have hcz29_2:w24.cell? ⟨gb257,2,none⟩=some (.int .i64 0):=(blk_cell BK257.out 2).trans rfl;have hfz29_0:=blk_frozen BK257.out 0;have hfz29_1:=blk_frozen BK257.out 1;have hfz29_2:=blk_frozen BK257.out 2;have hnb30:=NB250_249.out;have hnc30:=NB249_250.out;have hnb31:=NB250_251.out;have hnc31:=NB251_250.out;have hnb32:=NB250_255.out;have hnc32:=NB255_250.out;have hcz33_0:w24.cell? ⟨gb250,0,none⟩=some (.int .i64 a1_0):=(blk_cell BK250.out 0).trans rfl;have hcz33_1:w24.cell? ⟨gb250,1,none⟩=some (.int .i64 a1_1):=(blk_cell BK250.out 1).trans rfl;have hcz33_2:w24.cell? ⟨gb250,2,none⟩=some (.int .i64 a1_2):=(blk_cell BK250.out 2).trans rfl;have hfz33_0:=blk_frozen BK250.out 0;have hfz33_1:=blk_frozen BK250.out 1;have hfz33_2:=blk_frozen BK250.out 2))
       go_roundg k1
       case measure=>have:=HK1.out;omega
       case rel=>exact⟨(wrap64 (x16_1+1)),(x256001_1),(u256001),(by first|rfl|(simp;done)|(simp [*];done)),H',⟨by have:=HK1.out;omega⟩,⟨by(with_reducible repeat(first|apply Kd.R_alloc|apply Kd.R_drewN|apply Kd.R_drew));exact Kd.R_mono (Kd.R_far (p:=⟨gb257,2,none⟩) (Kd.R_far (p:=⟨gb257,1,none⟩) (Kd.R_far (p:=⟨gb257,0,none⟩) (Kd.R_mono HO_256001.out (fun k_ hk=>(⟨hk,hk.2⟩ :_∧k_≠gb257))) (fun _ hk=>hk.2) (.int .i64 ((rd_T53 l0_1 x16_1).f0))) (fun _ hk=>hk.2) (.int .i64 ((rd_T53 l0_1 x16_1).f1))) (fun _ hk=>hk.2) (.int .i64 ((rd_T53 l0_1 x16_1).f2))) (fun _ hk=>hk.1.1)⟩,⟨by(with_reducible repeat(first|refine blk_drewN ?_ _|refine blk_drew ?_ |refine blk_alloc ?_ _));refine blk_far ?_ NB249_257.out _;(with_reducible repeat(first|refine blk_drewN ?_ _|refine blk_drew ?_ |refine blk_alloc ?_ _));refine blk_far ?_ NB249_257.out _;(with_reducible repeat(first|refine blk_drewN ?_ _|refine blk_drew ?_ |refine blk_alloc ?_ _));refine blk_far ?_ NB249_257.out _;(with_reducible repeat(first|refine blk_drewN ?_ _|refine blk_drew ?_ |refine blk_alloc ?_ _));exact BK249.out⟩,⟨by(with_reducible repeat(first|refine blk_drewN ?_ _|refine blk_drew ?_ |refine blk_alloc ?_ _));refine blk_far ?_ NB250_257.out _;(with_reducible repeat(first|refine blk_drewN ?_ _|refine blk_drew ?_ |refine blk_alloc ?_ _));refine blk_far ?_ NB250_257.out _;(with_reducible repeat(first|refine blk_drewN ?_ _|refine blk_drew ?_ |refine blk_alloc ?_ _));refine blk_far ?_ NB250_257.out _;(with_reducible repeat(first|refine blk_drewN ?_ _|refine blk_drew ?_ |refine blk_alloc ?_ _));exact BK250.out⟩,⟨by(with_reducible repeat(first|refine blk_drewN ?_ _|refine blk_drew ?_ |refine blk_alloc ?_ _));refine blk_far ?_ NB251_257.out _;(with_reducible repeat(first|refine blk_drewN ?_ _|refine blk_drew ?_ |refine blk_alloc ?_ _));refine blk_far ?_ NB251_257.out _;(with_reducible repeat(first|refine blk_drewN ?_ _|refine blk_drew ?_ |refine blk_alloc ?_ _));refine blk_far ?_ NB251_257.out _;(with_reducible repeat(first|refine blk_drewN ?_ _|refine blk_drew ?_ |refine blk_alloc ?_ _));exact BK251.out⟩,⟨by(with_reducible repeat(first|refine blk_drewN ?_ _|refine blk_drew ?_ |refine blk_alloc ?_ _));refine blk_far ?_ NB255_257.out _;(with_reducible repeat(first|refine blk_drewN ?_ _|refine blk_drew ?_ |refine blk_alloc ?_ _));refine blk_far ?_ NB255_257.out _;(with_reducible repeat(first|refine blk_drewN ?_ _|refine blk_drew ?_ |refine blk_alloc ?_ _));refine blk_far ?_ NB255_257.out _;(with_reducible repeat(first|refine blk_drewN ?_ _|refine blk_drew ?_ |refine blk_alloc ?_ _));exact BK255.out⟩,⟨by repeat(first|(with_reducible first|exact HB.out|apply below_alloc|apply pw_below_drewN|apply below_drew1|refine below_set ?_ GE249.out|refine below_set ?_ GE250.out|refine below_set ?_ GE251.out|refine below_set ?_ GE255.out|refine below_set ?_ GE257.out)|exact HB.out)⟩⟩
      ·rw [if_neg c23] at H
       have c23b0:(((rd_T53 l0_1 x16_1).f0)==a1_0)=false:=beq_eq_false_iff_ne.mpr c23
       have c23b1:(((rd_T53 l0_1 x16_1).f0) !=a1_0)=true:=bne_iff_ne.mpr c23
       by_cases c34:(x256001_1.length:Int)<a0_0
       ·rw [if_pos c34] at H
        have c34b0:decide ((x256001_1.length:Int)<a0_0)=true:=decide_eq_true c34
        clear c34
        by_cases c35:x256001_1.length< 5864062014805
        ·rw [if_pos c35] at H
         have LMc35:=Aside0.mk c35
         clear c35
         obtain⟨y258,hy258⟩ :∃ y_:List (S53),y_= (x256001_1++ [(⟨(rd_T53 l0_1 x16_1).f0,(rd_T53 l0_1 x16_1).f1,(rd_T53 l0_1 x16_1).f2⟩ :S53)]):=⟨_,rfl⟩
         replace H:(spec_l13Learn.l0 k1 l0_1 (l0_1.length:Int) (wrap64 (x16_1+1)) a0_0 l0_1 a1_0 a1_1 a1_2 a0_0 y258)=some (r1,r2):=by first|(rw [hy258];with_reducible exact H)|(have H2_:=(Option.bind_some _ _).symm.trans H;rw [hy258];with_reducible exact H2_)|(have H2_:=(Option.bind_some _ _).symm.trans H;with_reducible exact H2_)|with_reducible exact H|(rw [hy258];exact H)|exact H
         have Ny258:=Aside0.mk hy258
         clear hy258
         have H':=Aside0.mk H
         clear H
         have p256: 0≤ (x16_1:Int):=of_decide_eq_true z1
         have q256:x16_1< (l0_1.length:Int):=of_decide_eq_true z1
         obtain⟨ad256,e256,hx256_0,hx256_1,hx256_2⟩:=at_T53 HR0_1.out x16_1 p256 q256
         cases e256
         replace hx256_0:=(HB.out.cell (World.block_lt_of_cell? w _ hx256_0)).trans hx256_0
         replace hx256_1:=(HB.out.cell (World.block_lt_of_cell? w _ hx256_1)).trans hx256_1
         replace hx256_2:=(HB.out.cell (World.block_lt_of_cell? w _ hx256_2)).trans hx256_2
         replace p256:=eq_true p256
         replace q256:=eq_true q256
         go_wp2_with (first|((with_reducible refine gate_dst (N:=7) rfl ?_);(try(refine gate_guard (by rfl) ?_;dsimp only));refine box_event ?hg (N:=7) ?hd (cs:= #[.int .i64 0,.int .i64 0,.int .i64 0]) (t:=53) ?hr ?_;(case hd=>rfl);(case hg=>rfl);(case hr=>first|(go_simp;done)|(go_simp;rfl));intro gb257 hg w36 hbox hb;have n0_:=Aside0.mk (Kd.R_below (Kd.R_elderB (z4 HO_256001) gb257 (Nat.le_of_eq hg.symm)) hb);have n1_:=Aside0.mk (blk_below (g:=gb249) (o:= .cells #[.int .i64 a0_0,.slice (some ad256) l0_1.length c0_1] 24 (0,0)) (z3 BK249) hb);have n2_:=Aside0.mk (blk_below (g:=gb250) (o:= .cells #[.int .i64 a1_0,.int .i64 a1_1,.int .i64 a1_2] 53 (0,0)) (z3 BK250) hb);have n3_:=Aside0.mk (blk_below (g:=gb251) (o:= .cells #[.int .i64 0,.slice none 0 0] 24 (0,0)) (z3 BK251) hb);have n4_:=Aside0.mk (blk_below (g:=gb255) (o:= .cells #[.int .i64 a0_0,u256001] 24 (0,0)) (z3 BK255) hb);have n5_:=Aside0.mk (below_step (zb4 HB GE249 GE250 GE251 GE255) hb);have n6_:=Aside0.mk (hbox);have n7_:=Aside0.mk ((by rw [hg];exact(below_size (zb4 HB GE249 GE250 GE251 GE255)):w.heap.size≤gb257));have n8_:=Aside0.mk ((by rw [hg];exact(below_size (zb4 HB GE249 GE250 GE251 GE255)):w.heap.size≤gb257));have n9_:=Aside0.mk ((by rw [hg];exact Nat.ne_of_lt (blk_lt (g:=gb249) (o:= .cells #[.int .i64 a0_0,.slice (some ad256) l0_1.length c0_1] 24 (0,0)) (z3 BK249)):gb249≠gb257));have n10_:=Aside0.mk ((by rw [hg];exact Nat.ne_of_gt (blk_lt (g:=gb249) (o:= .cells #[.int .i64 a0_0,.slice (some ad256) l0_1.length c0_1] 24 (0,0)) (z3 BK249)):gb257≠gb249));have n11_:=Aside0.mk ((by rw [hg];exact Nat.ne_of_lt (blk_lt (g:=gb250) (o:= .cells #[.int .i64 a1_0,.int .i64 a1_1,.int .i64 a1_2] 53 (0,0)) (z3 BK250)):gb250≠gb257));have n12_:=Aside0.mk ((by rw [hg];exact Nat.ne_of_gt (blk_lt (g:=gb250) (o:= .cells #[.int .i64 a1_0,.int .i64 a1_1,.int .i64 a1_2] 53 (0,0)) (z3 BK250)):gb257≠gb250));have n13_:=Aside0.mk ((by rw [hg];exact Nat.ne_of_lt (blk_lt (g:=gb251) (o:= .cells #[.int .i64 0,.slice none 0 0] 24 (0,0)) (z3 BK251)):gb251≠gb257));have n14_:=Aside0.mk ((by rw [hg];exact Nat.ne_of_gt (blk_lt (g:=gb251) (o:= .cells #[.int .i64 0,.slice none 0 0] 24 (0,0)) (z3 BK251)):gb257≠gb251));have n15_:=Aside0.mk ((by rw [hg];exact Nat.ne_of_lt (blk_lt (g:=gb255) (o:= .cells #[.int .i64 a0_0,u256001] 24 (0,0)) (z3 BK255)):gb255≠gb257));have n16_:=Aside0.mk ((by rw [hg];exact Nat.ne_of_gt (blk_lt (g:=gb255) (o:= .cells #[.int .i64 a0_0,u256001] 24 (0,0)) (z3 BK255)):gb257≠gb255));clear HO_256001;clear BK249;clear BK250;clear BK251;clear BK255;clear HB;have HO_256001:=n0_;have BK249:=n1_;have BK250:=n2_;have BK251:=n3_;have BK255:=n4_;have HB:=n5_;have BK257:=n6_;have GW257:=n7_;have GE257:=n8_;have NB249_257:=n9_;have NB257_249:=n10_;have NB250_257:=n11_;have NB257_250:=n12_;have NB251_257:=n13_;have NB257_251:=n14_;have NB255_257:=n15_;have NB257_255:=n16_;clear n0_ n1_ n2_ n3_ n4_ n5_ n6_ n7_ n8_ n9_ n10_ n11_ n12_ n13_ n14_ n15_ n16_;clear hb hbox hg;have hnb37:=NB257_249.out;have hnc37:=NB249_257.out;have hnb38:=NB257_250.out;have hnc38:=NB250_257.out;have hnb39:=NB257_251.out;have hnc39:=NB251_257.out;have hnb40:=NB257_255.out;have hnc40:=NB255_257.out;have hcz41_0:w36.cell? ⟨gb257,0,none⟩=some (.int .i64 0):=(blk_cell BK257.out 0).trans rfl;have hcz41_1:w36.cell? ⟨gb257,1,none⟩=some (.int .i64 0):=(blk_cell BK257.out 1).trans rfl;have hcz41_2:w36.cell? ⟨gb257,2,none⟩=some (.int .i64 0):=(blk_cell BK257.out 2).trans rfl;have hfz41_0:=blk_frozen BK257.out 0;have hfz41_1:=blk_frozen BK257.out 1;have hfz41_2:=blk_frozen BK257.out 2;have hnb42:=NB250_249.out;have hnc42:=NB249_250.out;have hnb43:=NB250_251.out;have hnc43:=NB251_250.out;have hnb44:=NB250_255.out;have hnc44:=NB255_250.out;have hcz45_0:w36.cell? ⟨gb250,0,none⟩=some (.int .i64 a1_0):=(blk_cell BK250.out 0).trans rfl;have hcz45_1:w36.cell? ⟨gb250,1,none⟩=some (.int .i64 a1_1):=(blk_cell BK250.out 1).trans rfl;have hcz45_2:w36.cell? ⟨gb250,2,none⟩=some (.int .i64 a1_2):=(blk_cell BK250.out 2).trans rfl;have hfz45_0:=blk_frozen BK250.out 0;have hfz45_1:=blk_frozen BK250.out 1;have hfz45_2:=blk_frozen BK250.out 2;have hnb46:=NB255_249.out;have hnc46:=NB249_255.out;have hnb47:=NB255_251.out;have hnc47:=NB251_255.out;have hcz48_0:w36.cell? ⟨gb255,0,none⟩=some (.int .i64 a0_0):=(blk_cell BK255.out 0).trans rfl;have hcz48_1:w36.cell? ⟨gb255,1,none⟩=some (u256001):=(blk_cell BK255.out 1).trans rfl;have hfz48_0:=blk_frozen BK255.out 0;have hfz48_1:=blk_frozen BK255.out 1;obtain⟨Ao49,co49,eo49⟩:=Kd.R_slice HO_256001.out;subst eo49;have hnb50:=NB249_251.out;have hnc50:=NB251_249.out;have hcz51_0:w36.cell? ⟨gb249,0,none⟩=some (.int .i64 a0_0):=(blk_cell BK249.out 0).trans rfl;have hcz51_1:w36.cell? ⟨gb249,1,none⟩=some (.slice (some ad256) l0_1.length c0_1):=(blk_cell BK249.out 1).trans rfl;have hfz51_0:=blk_frozen BK249.out 0;have hfz51_1:=blk_frozen BK249.out 1)|((with_reducible refine gate_builtin (b:= .append) (xs:= #[.tmp 34,.tmp 36]) rfl ?_);(try(refine gate_guard (by rfl) ?_;dsimp only));at_builtin;refine Kd.R_append k53 (w0:=w) w.heap.size rfl (.tmp 34) (.tmp 36) 22 53 (.agg #[(.int .i64 0),(.int .i64 0),(.int .i64 0)]) 24 rfl Try.underlying22 info53 rfl (by decide) (by omega) (.slice Ao49 x256001_1.length co49) x256001_1 (⟨(rd_T53 l0_1 x16_1).f0,(rd_T53 l0_1 x16_1).f1,(rd_T53 l0_1 x16_1).f2⟩ :S53) [.int .i64 ((rd_T53 l0_1 x16_1).f0),.int .i64 ((rd_T53 l0_1 x16_1).f1),.int .i64 ((rd_T53 l0_1 x16_1).f2)] (fun k_=>k_≠gb250∧k_≠gb257) (fun _=>False) rfl (by first|(go_simp;done)|(go_simp;rfl)) ?aP (fun _ hk=>hk.elim) ?aF ?aO ?aB ?aS ?aL ?_;(case aP=>exact k53_mkM _ _ _ (⟨(rd_T53 l0_1 x16_1).f0,(rd_T53 l0_1 x16_1).f1,(rd_T53 l0_1 x16_1).f2⟩ :S53));(case aB=>exact(zb5 HB GE249 GE250 GE251 GE255 GE257));(case aF=>exact(fun k_ hk=>⟨Kd.freshB (g:=gb250) (o:= .cells #[.int .i64 a1_0,.int .i64 a1_1,.int .i64 a1_2] 53 (0,0)) (by(with_reducible repeat(first|refine blk_drewN ?_ _|refine blk_drew ?_ |refine blk_alloc ?_ _));refine blk_far ?_ NB250_257.out _;(with_reducible repeat(first|refine blk_drewN ?_ _|refine blk_drew ?_ |refine blk_alloc ?_ _));refine blk_far ?_ NB250_257.out _;(with_reducible repeat(first|refine blk_drewN ?_ _|refine blk_drew ?_ |refine blk_alloc ?_ _));refine blk_far ?_ NB250_257.out _;(with_reducible repeat(first|refine blk_drewN ?_ _|refine blk_drew ?_ |refine blk_alloc ?_ _));exact BK250.out) k_ hk,Kd.freshB (g:=gb257) (o:= .cells #[.int .i64 ((rd_T53 l0_1 x16_1).f0),.int .i64 ((rd_T53 l0_1 x16_1).f1),.int .i64 ((rd_T53 l0_1 x16_1).f2)] 53 (0,0)) (by(with_reducible repeat(first|refine blk_drewN ?_ _|refine blk_drew ?_ |refine blk_alloc ?_ _));refine blk_put (cs:= #[.int .i64 ((rd_T53 l0_1 x16_1).f0),.int .i64 ((rd_T53 l0_1 x16_1).f1),.int .i64 0]) ?_ 2 _ rfl;(with_reducible repeat(first|refine blk_drewN ?_ _|refine blk_drew ?_ |refine blk_alloc ?_ _));refine blk_put (cs:= #[.int .i64 ((rd_T53 l0_1 x16_1).f0),.int .i64 0,.int .i64 0]) ?_ 1 _ rfl;(with_reducible repeat(first|refine blk_drewN ?_ _|refine blk_drew ?_ |refine blk_alloc ?_ _));refine blk_put (cs:= #[.int .i64 0,.int .i64 0,.int .i64 0]) ?_ 0 _ rfl;(with_reducible repeat(first|refine blk_drewN ?_ _|refine blk_drew ?_ |refine blk_alloc ?_ _));exact BK257.out) k_ hk⟩));(case aO=>exact(by(with_reducible repeat(first|apply Kd.R_alloc|apply Kd.R_drewN|apply Kd.R_drew));exact Kd.R_mono (Kd.R_far (p:=⟨gb257,2,none⟩) (Kd.R_far (p:=⟨gb257,1,none⟩) (Kd.R_far (p:=⟨gb257,0,none⟩) (Kd.R_mono HO_256001.out (fun k_ hk=>(⟨hk,hk.2⟩ :_∧k_≠gb257))) (fun _ hk=>hk.2) (.int .i64 ((rd_T53 l0_1 x16_1).f0))) (fun _ hk=>hk.2) (.int .i64 ((rd_T53 l0_1 x16_1).f1))) (fun _ hk=>hk.2) (.int .i64 ((rd_T53 l0_1 x16_1).f2))) (fun _ hk=>⟨hk.1.1,hk.1.2⟩)));(case aS=>exact(below_size (zb5 HB GE249 GE250 GE251 GE255 GE257)));(case aL=>have:=LMc35.out;omega);intro v259 w52 ho hb hg hat;rw [← Ny258.out] at ho;have n0_:=Aside0.mk (blk_grown (g:=gb249) (o:= .cells #[.int .i64 a0_0,.slice (some ad256) l0_1.length c0_1] 24 (0,0)) (by(with_reducible repeat(first|refine blk_drewN ?_ _|refine blk_drew ?_ |refine blk_alloc ?_ _));refine blk_far ?_ NB249_257.out _;(with_reducible repeat(first|refine blk_drewN ?_ _|refine blk_drew ?_ |refine blk_alloc ?_ _));refine blk_far ?_ NB249_257.out _;(with_reducible repeat(first|refine blk_drewN ?_ _|refine blk_drew ?_ |refine blk_alloc ?_ _));refine blk_far ?_ NB249_257.out _;(with_reducible repeat(first|refine blk_drewN ?_ _|refine blk_drew ?_ |refine blk_alloc ?_ _));exact BK249.out) hg (Kd.R_ne HO_256001.out BK249.out (by decide)));have n1_:=Aside0.mk (blk_grown (g:=gb250) (o:= .cells #[.int .i64 a1_0,.int .i64 a1_1,.int .i64 a1_2] 53 (0,0)) (by(with_reducible repeat(first|refine blk_drewN ?_ _|refine blk_drew ?_ |refine blk_alloc ?_ _));refine blk_far ?_ NB250_257.out _;(with_reducible repeat(first|refine blk_drewN ?_ _|refine blk_drew ?_ |refine blk_alloc ?_ _));refine blk_far ?_ NB250_257.out _;(with_reducible repeat(first|refine blk_drewN ?_ _|refine blk_drew ?_ |refine blk_alloc ?_ _));refine blk_far ?_ NB250_257.out _;(with_reducible repeat(first|refine blk_drewN ?_ _|refine blk_drew ?_ |refine blk_alloc ?_ _));exact BK250.out) hg (Kd.R_away HO_256001.out (fun _ hk=>hk.1)));have n2_:=Aside0.mk (blk_grown (g:=gb251) (o:= .cells #[.int .i64 0,.slice none 0 0] 24 (0,0)) (by(with_reducible repeat(first|refine blk_drewN ?_ _|refine blk_drew ?_ |refine blk_alloc ?_ _));refine blk_far ?_ NB251_257.out _;(with_reducible repeat(first|refine blk_drewN ?_ _|refine blk_drew ?_ |refine blk_alloc ?_ _));refine blk_far ?_ NB251_257.out _;(with_reducible repeat(first|refine blk_drewN ?_ _|refine blk_drew ?_ |refine blk_alloc ?_ _));refine blk_far ?_ NB251_257.out _;(with_reducible repeat(first|refine blk_drewN ?_ _|refine blk_drew ?_ |refine blk_alloc ?_ _));exact BK251.out) hg (Kd.R_ne HO_256001.out BK251.out (by decide)));have n3_:=Aside0.mk (blk_grown (g:=gb255) (o:= .cells #[.int .i64 a0_0,.slice Ao49 x256001_1.length co49] 24 (0,0)) (by(with_reducible repeat(first|refine blk_drewN ?_ _|refine blk_drew ?_ |refine blk_alloc ?_ _));refine blk_far ?_ NB255_257.out _;(with_reducible repeat(first|refine blk_drewN ?_ _|refine blk_drew ?_ |refine blk_alloc ?_ _));refine blk_far ?_ NB255_257.out _;(with_reducible repeat(first|refine blk_drewN ?_ _|refine blk_drew ?_ |refine blk_alloc ?_ _));refine blk_far ?_ NB255_257.out _;(with_reducible repeat(first|refine blk_drewN ?_ _|refine blk_drew ?_ |refine blk_alloc ?_ _));exact BK255.out) hg (Kd.R_ne HO_256001.out BK255.out (by decide)));have n4_:=Aside0.mk (blk_grown (g:=gb257) (o:= .cells #[.int .i64 ((rd_T53 l0_1 x16_1).f0),.int .i64 ((rd_T53 l0_1 x16_1).f1),.int .i64 ((rd_T53 l0_1 x16_1).f2)] 53 (0,0)) (by(with_reducible repeat(first|refine blk_drewN ?_ _|refine blk_drew ?_ |refine blk_alloc ?_ _));refine blk_put (cs:= #[.int .i64 ((rd_T53 l0_1 x16_1).f0),.int .i64 ((rd_T53 l0_1 x16_1).f1),.int .i64 0]) ?_ 2 _ rfl;(with_reducible repeat(first|refine blk_drewN ?_ _|refine blk_drew ?_ |refine blk_alloc ?_ _));refine blk_put (cs:= #[.int .i64 ((rd_T53 l0_1 x16_1).f0),.int .i64 0,.int .i64 0]) ?_ 1 _ rfl;(with_reducible repeat(first|refine blk_drewN ?_ _|refine blk_drew ?_ |refine blk_alloc ?_ _));refine blk_put (cs:= #[.int .i64 0,.int .i64 0,.int .i64 0]) ?_ 0 _ rfl;(with_reducible repeat(first|refine blk_drewN ?_ _|refine blk_drew ?_ |refine blk_alloc ?_ _));exact BK257.out) hg (Kd.R_away HO_256001.out (fun _ hk=>hk.2)));have n5_:=Aside0.mk (hb);have n6_:=Aside0.mk (ho);clear BK249;clear BK250;clear BK251;clear BK255;clear BK257;clear HB;clear HO_256001;have BK249:=n0_;have BK250:=n1_;have BK251:=n2_;have BK255:=n3_;have BK257:=n4_;have HB:=n5_;have HO260:=n6_;clear n0_ n1_ n2_ n3_ n4_ n5_ n6_;clear ho hb hg hat;obtain⟨Ao53,co53,eo53⟩:=Kd.R_slice HO260.out;subst eo53;have hcz54_0:w52.cell? ⟨gb255,0,none⟩=some (.int .i64 a0_0):=(blk_cell BK255.out 0).trans rfl;have hcz54_1:w52.cell? ⟨gb255,1,none⟩=some (.slice Ao49 x256001_1.length co49):=(blk_cell BK255.out 1).trans rfl;have hfz54_0:=blk_frozen BK255.out 0;have hfz54_1:=blk_frozen BK255.out 1))
         go_roundg k1
         case measure=>have:=HK1.out;omega
         case rel=>exact⟨(wrap64 (x16_1+1)),(y258),(.slice Ao53 y258.length co53),(by first|rfl|(simp;done)|(simp [*];done)),H',⟨by have:=HK1.out;omega⟩,⟨by(with_reducible repeat(first|apply Kd.R_alloc|apply Kd.R_drewN|apply Kd.R_drew));exact Kd.R_mono (Kd.R_far (p:=⟨gb255,1,none⟩) (Kd.R_types HO260.out BK255.out (by decide)) (fun _ hk=>hk.2) (.slice Ao53 y258.length co53)) (fun _ hk=>hk.1.1)⟩,⟨by(with_reducible repeat(first|refine blk_drewN ?_ _|refine blk_drew ?_ |refine blk_alloc ?_ _));refine blk_far ?_ NB249_255.out _;(with_reducible repeat(first|refine blk_drewN ?_ _|refine blk_drew ?_ |refine blk_alloc ?_ _));exact BK249.out⟩,⟨by(with_reducible repeat(first|refine blk_drewN ?_ _|refine blk_drew ?_ |refine blk_alloc ?_ _));refine blk_far ?_ NB250_255.out _;(with_reducible repeat(first|refine blk_drewN ?_ _|refine blk_drew ?_ |refine blk_alloc ?_ _));exact BK250.out⟩,⟨by(with_reducible repeat(first|refine blk_drewN ?_ _|refine blk_drew ?_ |refine blk_alloc ?_ _));refine blk_far ?_ NB251_255.out _;(with_reducible repeat(first|refine blk_drewN ?_ _|refine blk_drew ?_ |refine blk_alloc ?_ _));exact BK251.out⟩,⟨by(with_reducible repeat(first|refine blk_drewN ?_ _|refine blk_drew ?_ |refine blk_alloc ?_ _));refine blk_put (cs:= #[.int .i64 a0_0,.slice Ao49 x256001_1.length co49]) ?_ 1 _ rfl;(with_reducible repeat(first|refine blk_drewN ?_ _|refine blk_drew ?_ |refine blk_alloc ?_ _));exact BK255.out⟩,⟨by repeat(first|(with_reducible first|exact HB.out|apply below_alloc|apply pw_below_drewN|apply below_drew1|refine below_set ?_ GE249.out|refine below_set ?_ GE250.out|refine below_set ?_ GE251.out|refine below_set ?_ GE255.out|refine below_set ?_ GE257.out)|exact HB.out)⟩⟩
        ·rw [if_neg c35] at H
         exact absurd H (by simp)
       ·rw [if_neg c34] at H
        have c34b0:decide ((x256001_1.length:Int)<a0_0)=false:=decide_eq_false c34
        clear c34
        have H':=Aside0.mk H
        clear H
        have p256: 0≤ (x16_1:Int):=of_decide_eq_true z1
        have q256:x16_1< (l0_1.length:Int):=of_decide_eq_true z1
        obtain⟨ad256,e256,hx256_0,hx256_1,hx256_2⟩:=at_T53 HR0_1.out x16_1 p256 q256
        cases e256
        replace hx256_0:=(HB.out.cell (World.block_lt_of_cell? w _ hx256_0)).trans hx256_0
        replace hx256_1:=(HB.out.cell (World.block_lt_of_cell? w _ hx256_1)).trans hx256_1
        replace hx256_2:=(HB.out.cell (World.block_lt_of_cell? w _ hx256_2)).trans hx256_2
        replace p256:=eq_true p256
        replace q256:=eq_true q256
        go_wp2_with (first|((with_reducible refine gate_dst (N:=7) rfl ?_);(try(refine gate_guard (by rfl) ?_;dsimp only));refine box_event ?hg (N:=7) ?hd (cs:= #[.int .i64 0,.int .i64 0,.int .i64 0]) (t:=53) ?hr ?_;(case hd=>rfl);(case hg=>rfl);(case hr=>first|(go_simp;done)|(go_simp;rfl));intro gb257 hg w55 hbox hb;have n0_:=Aside0.mk (Kd.R_below (Kd.R_elderB (z4 HO_256001) gb257 (Nat.le_of_eq hg.symm)) hb);have n1_:=Aside0.mk (blk_below (g:=gb249) (o:= .cells #[.int .i64 a0_0,.slice (some ad256) l0_1.length c0_1] 24 (0,0)) (z3 BK249) hb);have n2_:=Aside0.mk (blk_below (g:=gb250) (o:= .cells #[.int .i64 a1_0,.int .i64 a1_1,.int .i64 a1_2] 53 (0,0)) (z3 BK250) hb);have n3_:=Aside0.mk (blk_below (g:=gb251) (o:= .cells #[.int .i64 0,.slice none 0 0] 24 (0,0)) (z3 BK251) hb);have n4_:=Aside0.mk (blk_below (g:=gb255) (o:= .cells #[.int .i64 a0_0,u256001] 24 (0,0)) (z3 BK255) hb);have n5_:=Aside0.mk (below_step (zb4 HB GE249 GE250 GE251 GE255) hb);have n6_:=Aside0.mk (hbox);have n7_:=Aside0.mk ((by rw [hg];exact(below_size (zb4 HB GE249 GE250 GE251 GE255)):w.heap.size≤gb257));have n8_:=Aside0.mk ((by rw [hg];exact(below_size (zb4 HB GE249 GE250 GE251 GE255)):w.heap.size≤gb257));have n9_:=Aside0.mk ((by rw [hg];exact Nat.ne_of_lt (blk_lt (g:=gb249) (o:= .cells #[.int .i64 a0_0,.slice (some ad256) l0_1.length c0_1] 24 (0,0)) (z3 BK249)):gb249≠gb257));have n10_:=Aside0.mk ((by rw [hg];exact Nat.ne_of_gt (blk_lt (g:=gb249) (o:= .cells #[.int .i64 a0_0,.slice (some ad256) l0_1.length c0_1] 24 (0,0)) (z3 BK249)):gb257≠gb249));have n11_:=Aside0.mk ((by rw [hg];exact Nat.ne_of_lt (blk_lt (g:=gb250) (o:= .cells #[.int .i64 a1_0,.int .i64 a1_1,.int .i64 a1_2] 53 (0,0)) (z3 BK250)):gb250≠gb257));have n12_:=Aside0.mk ((by rw [hg];exact Nat.ne_of_gt (blk_lt (g:=gb250) (o:= .cells #[.int .i64 a1_0,.int .i64 a1_1,.int .i64 a1_2] 53 (0,0)) (z3 BK250)):gb257≠gb250));have n13_:=Aside0.mk ((by rw [hg];exact Nat.ne_of_lt (blk_lt (g:=gb251) (o:= .cells #[.int .i64 0,.slice none 0 0] 24 (0,0)) (z3 BK251)):gb251≠gb257));have n14_:=Aside0.mk ((by rw [hg];exact Nat.ne_of_gt (blk_lt (g:=gb251) (o:= .cells #[.int .i64 0,.slice none 0 0] 24 (0,0)) (z3 BK251)):gb257≠gb251));have n15_:=Aside0.mk ((by rw [hg];exact Nat.ne_of_lt (blk_lt (g:=gb255) (o:= .cells #[.int .i64 a0_0,u256001] 24 (0,0)) (z3 BK255)):gb255≠gb257));have n16_:=Aside0.mk ((by rw [hg];exact Nat.ne_of_gt (blk_lt (g:=gb255) (o:= .cells #[.int .i64 a0_0,u256001] 24 (0,0)) (z3 BK255)):gb257≠gb255));clear HO_256001;clear BK249;clear BK250;clear BK251;clear BK255;clear HB;have HO_256001:=n0_;have BK249:=n1_;have BK250:=n2_;have BK251:=n3_;have BK255:=n4_;have HB:=n5_;have BK257:=n6_;have GW257:=n7_;have GE257:=n8_;have NB249_257:=n9_;have NB257_249:=n10_;have NB250_257:=n11_;have NB257_250:=n12_;have NB251_257:=n13_;have NB257_251:=n14_;have NB255_257:=n15_;have NB257_255:=n16_;clear n0_ n1_ n2_ n3_ n4_ n5_ n6_ n7_ n8_ n9_ n10_ n11_ n12_ n13_ n14_ n15_ n16_;clear hb hbox hg;have hnb56:=NB257_249.out;have hnc56:=NB249_257.out;have hnb57:=NB257_250.out;have hnc57:=NB250_257.out;have hnb58:=NB257_251.out;have hnc58:=NB251_257.out;have hnb59:=NB257_255.out;have hnc59:=NB255_257.out;have hcz60_0:w55.cell? ⟨gb257,0,none⟩=some (.int .i64 0):=(blk_cell BK257.out 0).trans rfl;have hcz60_1:w55.cell? ⟨gb257,1,none⟩=some (.int .i64 0):=(blk_cell BK257.out 1).trans rfl;have hcz60_2:w55.cell? ⟨gb257,2,none⟩=some (.int .i64 0):=(blk_cell BK257.out 2).trans rfl;have hfz60_0:=blk_frozen BK257.out 0;have hfz60_1:=blk_frozen BK257.out 1;have hfz60_2:=blk_frozen BK257.out 2;have hnb61:=NB250_249.out;have hnc61:=NB249_250.out;have hnb62:=NB250_251.out;have hnc62:=NB251_250.out;have hnb63:=NB250_255.out;have hnc63:=NB255_250.out;have hcz64_0:w55.cell? ⟨gb250,0,none⟩=some (.int .i64 a1_0):=(blk_cell BK250.out 0).trans rfl;have hcz64_1:w55.cell? ⟨gb250,1,none⟩=some (.int .i64 a1_1):=(blk_cell BK250.out 1).trans rfl;have hcz64_2:w55.cell? ⟨gb250,2,none⟩=some (.int .i64 a1_2):=(blk_cell BK250.out 2).trans rfl;have hfz64_0:=blk_frozen BK250.out 0;have hfz64_1:=blk_frozen BK250.out 1;have hfz64_2:=blk_frozen BK250.out 2;have hnb65:=NB255_249.out;have hnc65:=NB249_255.out;have hnb66:=NB255_251.out;have hnc66:=NB251_255.out;have hcz67_0:w55.cell? ⟨gb255,0,none⟩=some (.int .i64 a0_0):=(blk_cell BK255.out 0).trans rfl;have hcz67_1:w55.cell? ⟨gb255,1,none⟩=some (u256001):=(blk_cell BK255.out 1).trans rfl;have hfz67_0:=blk_frozen BK255.out 0;have hfz67_1:=blk_frozen BK255.out 1;obtain⟨Ao68,co68,eo68⟩:=Kd.R_slice HO_256001.out;subst eo68;have hnb69:=NB249_251.out;have hnc69:=NB251_249.out;have hcz70_0:w55.cell? ⟨gb249,0,none⟩=some (.int .i64 a0_0):=(blk_cell BK249.out 0).trans rfl;have hcz70_1:w55.cell? ⟨gb249,1,none⟩=some (.slice (some ad256) l0_1.length c0_1):=(blk_cell BK249.out 1).trans rfl;have hfz70_0:=blk_frozen BK249.out 0;have hfz70_1:=blk_frozen BK249.out 1))
        go_roundg k1
        case measure=>have:=HK1.out;omega
        case rel=>exact⟨(wrap64 (x16_1+1)),(x256001_1),(.slice Ao68 x256001_1.length co68),(by first|rfl|(simp;done)|(simp [*];done)),H',⟨by have:=HK1.out;omega⟩,⟨by(with_reducible repeat(first|apply Kd.R_alloc|apply Kd.R_drewN|apply Kd.R_drew));exact Kd.R_mono (Kd.R_far (p:=⟨gb257,2,none⟩) (Kd.R_far (p:=⟨gb257,1,none⟩) (Kd.R_far (p:=⟨gb257,0,none⟩) (Kd.R_mono HO_256001.out (fun k_ hk=>(⟨hk,hk.2⟩ :_∧k_≠gb257))) (fun _ hk=>hk.2) (.int .i64 ((rd_T53 l0_1 x16_1).f0))) (fun _ hk=>hk.2) (.int .i64 ((rd_T53 l0_1 x16_1).f1))) (fun _ hk=>hk.2) (.int .i64 ((rd_T53 l0_1 x16_1).f2))) (fun _ hk=>hk.1.1)⟩,⟨by(with_reducible repeat(first|refine blk_drewN ?_ _|refine blk_drew ?_ |refine blk_alloc ?_ _));refine blk_far ?_ NB249_257.out _;(with_reducible repeat(first|refine blk_drewN ?_ _|refine blk_drew ?_ |refine blk_alloc ?_ _));refine blk_far ?_ NB249_257.out _;(with_reducible repeat(first|refine blk_drewN ?_ _|refine blk_drew ?_ |refine blk_alloc ?_ _));refine blk_far ?_ NB249_257.out _;(with_reducible repeat(first|refine blk_drewN ?_ _|refine blk_drew ?_ |refine blk_alloc ?_ _));exact BK249.out⟩,⟨by(with_reducible repeat(first|refine blk_drewN ?_ _|refine blk_drew ?_ |refine blk_alloc ?_ _));refine blk_far ?_ NB250_257.out _;(with_reducible repeat(first|refine blk_drewN ?_ _|refine blk_drew ?_ |refine blk_alloc ?_ _));refine blk_far ?_ NB250_257.out _;(with_reducible repeat(first|refine blk_drewN ?_ _|refine blk_drew ?_ |refine blk_alloc ?_ _));refine blk_far ?_ NB250_257.out _;(with_reducible repeat(first|refine blk_drewN ?_ _|refine blk_drew ?_ |refine blk_alloc ?_ _));exact BK250.out⟩,⟨by(with_reducible repeat(first|refine blk_drewN ?_ _|refine blk_drew ?_ |refine blk_alloc ?_ _));refine blk_far ?_ NB251_257.out _;(with_reducible repeat(first|refine blk_drewN ?_ _|refine blk_drew ?_ |refine blk_alloc ?_ _));refine blk_far ?_ NB251_257.out _;(with_reducible repeat(first|refine blk_drewN ?_ _|refine blk_drew ?_ |refine blk_alloc ?_ _));refine blk_far ?_ NB251_257.out _;(with_reducible repeat(first|refine blk_drewN ?_ _|refine blk_drew ?_ |refine blk_alloc ?_ _));exact BK251.out⟩,⟨by(with_reducible repeat(first|refine blk_drewN ?_ _|refine blk_drew ?_ |refine blk_alloc ?_ _));refine blk_far ?_ NB255_257.out _;(with_reducible repeat(first|refine blk_drewN ?_ _|refine blk_drew ?_ |refine blk_alloc ?_ _));refine blk_far ?_ NB255_257.out _;(with_reducible repeat(first|refine blk_drewN ?_ _|refine blk_drew ?_ |refine blk_alloc ?_ _));refine blk_far ?_ NB255_257.out _;(with_reducible repeat(first|refine blk_drewN ?_ _|refine blk_drew ?_ |refine blk_alloc ?_ _));exact BK255.out⟩,⟨by repeat(first|(with_reducible first|exact HB.out|apply below_alloc|apply pw_below_drewN|apply below_drew1|refine below_set ?_ GE249.out|refine below_set ?_ GE250.out|refine below_set ?_ GE251.out|refine below_set ?_ GE255.out|refine below_set ?_ GE257.out)|exact HB.out)⟩⟩
     ·rw [if_neg c22] at H
      exact absurd H (by simp)
    ·rw [if_neg c21] at H
     exact absurd H (by simp)
   ·rw [if_neg c20] at H
    have c20b0:decide (x16_1< (l0_1.length:Int))=false:=decide_eq_false c20
    clear c20
    simp only [Option.some.injEq,Prod.mk.injEq] at H
    obtain⟨rfl,rfl⟩:=H
    have hnb71:=NB255_249.out
    have hnc71:=NB249_255.out
    have hnb72:=NB255_250.out
    have hnc72:=NB250_255.out
    have hnb73:=NB255_251.out
    have hnc73:=NB251_255.out
    have hcz74_0:wr.cell? ⟨gb255,0,none⟩=some (.int .i64 a0_0):=(blk_cell BK255.out 0).trans rfl
    have hcz74_1:wr.cell? ⟨gb255,1,none⟩=some (u256001):=(blk_cell BK255.out 1).trans rfl
    have hfz74_0:=blk_frozen BK255.out 0
    have hfz74_1:=blk_frozen BK255.out 1
    have hnb75:=NB251_249.out
    have hnc75:=NB249_251.out
    have hnb76:=NB251_250.out
    have hnc76:=NB250_251.out
    have hcz77_0:wr.cell? ⟨gb251,0,none⟩=some (.int .i64 0):=(blk_cell BK251.out 0).trans rfl
    have hcz77_1:wr.cell? ⟨gb251,1,none⟩=some (.slice none 0 0):=(blk_cell BK251.out 1).trans rfl
    have hfz77_0:=blk_frozen BK251.out 0
    have hfz77_1:=blk_frozen BK251.out 1
    obtain⟨Ao78,co78,eo78⟩:=Kd.R_slice HO_256001.out
    subst eo78
    go_wp2
    refine bodyPost_ret (results_cell_row rfl _ _ gb251 24 #[.int .i64 a0_0,.slice Ao78 x256001_1.length co78] (0,0) _ rfl (by(with_reducible repeat(first|refine blk_drewN ?_ _|refine blk_drew ?_ |refine blk_alloc ?_ _));refine blk_put (cs:= #[.int .i64 a0_0,.slice none 0 0]) ?_ 1 _ rfl;(with_reducible repeat(first|refine blk_drewN ?_ _|refine blk_drew ?_ |refine blk_alloc ?_ _));refine blk_put (cs:= #[.int .i64 0,.slice none 0 0]) ?_ 0 _ rfl;(with_reducible repeat(first|refine blk_drewN ?_ _|refine blk_drew ?_ |refine blk_alloc ?_ _));exact BK251.out) Try.underlying24 rfl (by kernel_rfl)) rfl ?_
    exact⟨_,by first|rfl|(simp [errW_none,errW_some]<;>rfl)|(simp [*,errW_none,errW_some]<;>rfl),by(with_reducible repeat(first|apply Kd.R_alloc|apply Kd.R_drewN|apply Kd.R_drew));exact Kd.R_mono (Kd.R_far (p:=⟨gb251,1,none⟩) (Kd.R_far (p:=⟨gb251,0,none⟩) (Kd.R_types HO_256001.out BK251.out (by decide)) (fun _ hk=>hk.2) (.int .i64 a0_0)) (fun _ hk=>hk.2) (.slice Ao78 x256001_1.length co78)) (fun _ hk=>trivial),by repeat(first|(with_reducible first|exact HB.out|apply below_alloc|apply pw_below_drewN|apply below_drew1|refine below_set ?_ GE249.out|refine below_set ?_ GE250.out|refine below_set ?_ GE251.out|refine below_set ?_ GE255.out)|exact HB.out)⟩
end Go.Proofs.Ytcbofebikbbknaa.P

namespace Go.Proofs.Ytcbofebikbbknaa.P
open Go.RowKit Go.Proofs.YtcbofebikbbknaaW.PrintWords Go.Proofs.YtcbofebikbbknaaW.PrintLast Go.Proofs.YtcbofebikbbknaaW.PrintMore
attribute [local go_sem] max2_int min2_int max_two min_two max_three min_three max_four min_four   -- for this text's walks alone
set_option linter.unusedVariables false
set_option linter.unusedSimpArgs false
def spec_Learn.f (k:Nat) (a0_0:Int) (l0_1:List (S53)) (a1_0:Int) (a1_1:Int) (a1_2:Int):Option (Int × (List (S53)) × Bool):=(spec_GoodTable.f k a0_0 l0_1).bind fun t540=>(if t540=true then((spec_l13Row.f a1_0 a1_1 a1_2).bind fun t541=>(if t541=true then(if (l0_1.length:Int) > 0 then(if 0< (l0_1.length:Int) then(if a1_2< ((rd_T53 l0_1 0).f2) then(some (0,([] :List (S53)),false)) else((spec_l13Learn.f k a0_0 l0_1 a1_0 a1_1 a1_2).bind fun bt543=>(some (bt543.1,bt543.2,true)))) else(none)) else((spec_l13Learn.f k a0_0 l0_1 a1_0 a1_1 a1_2).bind fun bt547=>(some (bt547.1,bt547.2,true)))) else(some (0,([] :List (S53)),false)))) else(some (0,([] :List (S53)),false)))
def spec_Learn.T1:Bool × List (List Nat × List Nat):=(true,[([],[]),([0],[0]),([1],[1]),([2,1],[2]),([3],[3]),([4,3,3],[3,4]),([5,3],[3,5]),([3,6],[3,6]),([7,5],[7]),([8],[8]),([9,8],[8,9]),([10,8],[8,10]),([11,8],[8,11]),([12,8,8],[8,12]),([13],[13]),([14,13],[13,14]),([13],[13]),([16,13],[13,16]),([17,13],[13,17]),([18,13],[13,18]),([19,13],[13,19]),([15,20,13],[13,15,20]),([13,21,8],[8,13,21]),([8,22],[8,22])])
def spec_Learn.B1:List Nat:= [0,1,3,7,15,31,63,127,255,511,1023,2047,4095,8191,16383,32767,16383,81919,212991,475135,999423,2097151,4194303,8388607]
theorem spec_Learn.tab1:rtab .any (opsOf Try.f35 1)=spec_Learn.T1:=by kernel_rfl
theorem spec_Learn.bits1:waitsOk spec_Learn.T1.2 spec_Learn.B1=true:=by kernel_rfl
set_option maxHeartbeats 8000000 in
set_option maxRecDepth 100000 in
theorem spec_Learn.calls (k:Nat) (a0_0:Int) (A0_1:Option Addr) (c0_1:Nat) (l0_1:List (S53)) (a1_0:Int) (a1_1:Int) (a1_2:Int) (r1:Int) (r2:List (S53)) (r3:Bool) (w:World) (hr0_1:Kd.C k53 w A0_1 l0_1.length l0_1) (hc0_1:l0_1.length≤c0_1) (h:spec_Learn.f k a0_0 l0_1 a1_0 a1_1 a1_2=some (r1,r2,r3)):
  Calls Try.prog 35 #[.agg #[.int .i64 a0_0,.slice A0_1 l0_1.length c0_1],.agg #[.int .i64 a1_0,.int .i64 a1_1,.int .i64 a1_2]] w fun e w'=> ∃ v1_:Value,e= .returned (.tuple #[.agg #[.int .i64 r1,v1_],.bool r3])∧Kd.R k53 53 w' w.heap.size (fun _=>True) v1_ r2∧Below w.heap.size w w':=by
 have hu24:=Try.underlying24
 have hu53:=Try.underlying53
 have HR0_1:=Aside0.mk hr0_1
 have HC0_1:=Aside0.mk hc0_1
 clear hr0_1 hc0_1
 have HB:=Aside0.mk (Below.refl w.heap.size w)
 have H:((spec_GoodTable.f k a0_0 l0_1).bind fun t540=>(if t540=true then((spec_l13Row.f a1_0 a1_1 a1_2).bind fun t541=>(if t541=true then(if (l0_1.length:Int) > 0 then(if 0< (l0_1.length:Int) then(if a1_2< ((rd_T53 l0_1 0).f2) then(some (0,([] :List (S53)),false)) else((spec_l13Learn.f k a0_0 l0_1 a1_0 a1_1 a1_2).bind fun bt543=>(some (bt543.1,bt543.2,true)))) else(none)) else((spec_l13Learn.f k a0_0 l0_1 a1_0 a1_1 a1_2).bind fun bt547=>(some (bt547.1,bt547.2,true)))) else(some (0,([] :List (S53)),false)))) else(some (0,([] :List (S53)),false))))=some (r1,r2,r3):=h
 clear h
 replace H:=Option.bind_eq_some_iff.mp H
 obtain⟨t540,A30,H⟩:=H
 replace H:(if t540=true then((spec_l13Row.f a1_0 a1_1 a1_2).bind fun t541=>(if t541=true then(if (l0_1.length:Int) > 0 then(if 0< (l0_1.length:Int) then(if a1_2< ((rd_T53 l0_1 0).f2) then(some (0,([] :List (S53)),false)) else((spec_l13Learn.f k a0_0 l0_1 a1_0 a1_1 a1_2).bind fun bt543=>(some (bt543.1,bt543.2,true)))) else(none)) else((spec_l13Learn.f k a0_0 l0_1 a1_0 a1_1 a1_2).bind fun bt547=>(some (bt547.1,bt547.2,true)))) else(some (0,([] :List (S53)),false)))) else(some (0,([] :List (S53)),false)))=some (r1,r2,r3):=H
 have A3:=Aside0.mk A30
 clear A30
 by_cases c4:t540=true
 ·subst c4
  have H1:((spec_l13Row.f a1_0 a1_1 a1_2).bind fun t541=>(if t541=true then(if (l0_1.length:Int) > 0 then(if 0< (l0_1.length:Int) then(if a1_2< ((rd_T53 l0_1 0).f2) then(some (0,([] :List (S53)),false)) else((spec_l13Learn.f k a0_0 l0_1 a1_0 a1_1 a1_2).bind fun bt543=>(some (bt543.1,bt543.2,true)))) else(none)) else((spec_l13Learn.f k a0_0 l0_1 a1_0 a1_1 a1_2).bind fun bt547=>(some (bt547.1,bt547.2,true)))) else(some (0,([] :List (S53)),false))))=some (r1,r2,r3):=by rw [if_pos rfl] at H;exact H
  clear H
  have H:=H1
  clear H1
  replace H:=Option.bind_eq_some_iff.mp H
  obtain⟨t541,A50,H⟩:=H
  replace H:(if t541=true then(if (l0_1.length:Int) > 0 then(if 0< (l0_1.length:Int) then(if a1_2< ((rd_T53 l0_1 0).f2) then(some (0,([] :List (S53)),false)) else((spec_l13Learn.f k a0_0 l0_1 a1_0 a1_1 a1_2).bind fun bt543=>(some (bt543.1,bt543.2,true)))) else(none)) else((spec_l13Learn.f k a0_0 l0_1 a1_0 a1_1 a1_2).bind fun bt547=>(some (bt547.1,bt547.2,true)))) else(some (0,([] :List (S53)),false)))=some (r1,r2,r3):=H
  have A5:=Aside0.mk A50
  clear A50
  by_cases c6:t541=true
  ·subst c6
   have H1:(if (l0_1.length:Int) > 0 then(if 0< (l0_1.length:Int) then(if a1_2< ((rd_T53 l0_1 0).f2) then(some (0,([] :List (S53)),false)) else((spec_l13Learn.f k a0_0 l0_1 a1_0 a1_1 a1_2).bind fun bt543=>(some (bt543.1,bt543.2,true)))) else(none)) else((spec_l13Learn.f k a0_0 l0_1 a1_0 a1_1 a1_2).bind fun bt547=>(some (bt547.1,bt547.2,true))))=some (r1,r2,r3):=by rw [if_pos rfl] at H;exact H
   clear H
   have H:=H1
   clear H1
   by_cases c7:(l0_1.length:Int) > 0
   ·rw [if_pos c7] at H
    have c7b0:decide (0< (l0_1.length:Int))=true:=decide_eq_true c7
    have c7b1:decide (0<l0_1.length)=true:=decide_eq_true (by omega)
    clear c7
    by_cases c8: 0< (l0_1.length:Int)
    ·rw [if_pos c8] at H
     have c8b0:decide (0< (l0_1.length:Int))=true:=decide_eq_true c8
     have c8b1:decide (0<l0_1.length)=true:=decide_eq_true (by omega)
     clear c8
     by_cases c9:a1_2< ((rd_T53 l0_1 0).f2)
     ·rw [if_pos c9] at H
      have c9b0:decide (a1_2< ((rd_T53 l0_1 0).f2))=true:=decide_eq_true c9
      clear c9
      simp only [Option.some.injEq,Prod.mk.injEq] at H
      obtain⟨rfl,rfl,rfl⟩:=H
      go_enter Try.func35,Try.ntmps35
      try go_wp2_with (first|((with_reducible refine gate_dst (N:=2) rfl ?_);(try(refine gate_guard (by rfl) ?_;dsimp only));refine box_event ?hg (N:=2) ?hd (cs:= #[.int .i64 a0_0,.slice A0_1 l0_1.length c0_1]) (t:=24) ?hr ?_;(case hd=>rfl);(case hg=>rfl);(case hr=>first|(go_simp;done)|(go_simp;rfl));intro gb537 hg w10 hbox hb;have n0_:=Aside0.mk (below_step (zb0 HB) hb);have n1_:=Aside0.mk (hbox);have n2_:=Aside0.mk ((by rw [hg];exact(below_size (zb0 HB)):w.heap.size≤gb537));have n3_:=Aside0.mk ((by rw [hg];exact(below_size (zb0 HB)):w.heap.size≤gb537));clear HB;have HB:=n0_;have BK537:=n1_;have GW537:=n2_;have GE537:=n3_;clear n0_ n1_ n2_ n3_;clear hb hbox hg)|((with_reducible refine gate_dst (N:=3) rfl ?_);(try(refine gate_guard (by rfl) ?_;dsimp only));refine box_event ?hg (N:=3) ?hd (cs:= #[.int .i64 a1_0,.int .i64 a1_1,.int .i64 a1_2]) (t:=53) ?hr ?_;(case hd=>rfl);(case hg=>rfl);(case hr=>first|(go_simp;done)|(go_simp;rfl));intro gb538 hg w11 hbox hb;have n0_:=Aside0.mk (blk_below (g:=gb537) (o:= .cells #[.int .i64 a0_0,.slice A0_1 l0_1.length c0_1] 24 (0,0)) (z3 BK537) hb);have n1_:=Aside0.mk (below_step (zb1 HB GE537) hb);have n2_:=Aside0.mk (hbox);have n3_:=Aside0.mk ((by rw [hg];exact(below_size (zb1 HB GE537)):w.heap.size≤gb538));have n4_:=Aside0.mk ((by rw [hg];exact(below_size (zb1 HB GE537)):w.heap.size≤gb538));have n5_:=Aside0.mk ((by rw [hg];exact Nat.ne_of_lt (blk_lt (g:=gb537) (o:= .cells #[.int .i64 a0_0,.slice A0_1 l0_1.length c0_1] 24 (0,0)) (z3 BK537)):gb537≠gb538));have n6_:=Aside0.mk ((by rw [hg];exact Nat.ne_of_gt (blk_lt (g:=gb537) (o:= .cells #[.int .i64 a0_0,.slice A0_1 l0_1.length c0_1] 24 (0,0)) (z3 BK537)):gb538≠gb537));clear BK537;clear HB;have BK537:=n0_;have HB:=n1_;have BK538:=n2_;have GW538:=n3_;have GE538:=n4_;have NB537_538:=n5_;have NB538_537:=n6_;clear n0_ n1_ n2_ n3_ n4_ n5_ n6_;clear hb hbox hg)|((with_reducible refine gate_dst (N:=4) rfl ?_);(try(refine gate_guard (by rfl) ?_;dsimp only));refine box_event ?hg (N:=4) ?hd (cs:= #[.int .i64 0,.slice none 0 0]) (t:=24) ?hr ?_;(case hd=>rfl);(case hg=>rfl);(case hr=>first|(go_simp;done)|(go_simp;rfl));intro gb539 hg w12 hbox hb;have n0_:=Aside0.mk (blk_below (g:=gb537) (o:= .cells #[.int .i64 a0_0,.slice A0_1 l0_1.length c0_1] 24 (0,0)) (z3 BK537) hb);have n1_:=Aside0.mk (blk_below (g:=gb538) (o:= .cells #[.int .i64 a1_0,.int .i64 a1_1,.int .i64 a1_2] 53 (0,0)) (z3 BK538) hb);have n2_:=Aside0.mk (below_step (zb2 HB GE537 GE538) hb);have n3_:=Aside0.mk (hbox);have n4_:=Aside0.mk ((by rw [hg];exact(below_size (zb2 HB GE537 GE538)):w.heap.size≤gb539));have n5_:=Aside0.mk ((by rw [hg];exact(below_size (zb2 HB GE537 GE538)):w.heap.size≤gb539));have n6_:=Aside0.mk ((by rw [hg];exact Nat.ne_of_lt (blk_lt (g:=gb537) (o:= .cells #[.int .i64 a0_0,.slice A0_1 l0_1.length c0_1] 24 (0,0)) (z3 BK537)):gb537≠gb539));have n7_:=Aside0.mk ((by rw [hg];exact Nat.ne_of_gt (blk_lt (g:=gb537) (o:= .cells #[.int .i64 a0_0,.slice A0_1 l0_1.length c0_1] 24 (0,0)) (z3 BK537)):gb539≠gb537));have n8_:=Aside0.mk ((by rw [hg];exact Nat.ne_of_lt (blk_lt (g:=gb538) (o:= .cells #[.int .i64 a1_0,.int .i64 a1_1,.int .i64 a1_2] 53 (0,0)) (z3 BK538)):gb538≠gb539));have n9_:=Aside0.mk ((by rw [hg];exact Nat.ne_of_gt (blk_lt (g:=gb538) (o:= .cells #[.int .i64 a1_0,.int .i64 a1_1,.int .i64 a1_2] 53 (0,0)) (z3 BK538)):gb539≠gb538));clear BK537;clear BK538;clear HB;have BK537:=n0_;have BK538:=n1_;have HB:=n2_;have BK539:=n3_;have GW539:=n4_;have GE539:=n5_;have NB537_539:=n6_;have NB539_537:=n7_;have NB538_539:=n8_;have NB539_538:=n9_;clear n0_ n1_ n2_ n3_ n4_ n5_ n6_ n7_ n8_ n9_;clear hb hbox hg))
      have n0_:=Aside0.mk (blk_drew BK537.out)
      have n1_:=Aside0.mk (blk_drew BK538.out)
      have n2_:=Aside0.mk (blk_drew BK539.out)
      have n3_:=Aside0.mk (below_drew1 HB.out)
      clear BK537
      clear BK538
      clear BK539
      clear HB
      have BK537:=n0_
      have BK538:=n1_
      have BK539:=n2_
      have HB:=n3_
      clear n0_ n1_ n2_ n3_
      have p542: 0≤ (0:Int):=(by omega)
      have q542: 0< (l0_1.length:Int):=of_decide_eq_true z1
      obtain⟨ad542,e542,hx542_0,hx542_1,hx542_2⟩:=at_T53 HR0_1.out 0 p542 q542
      have hw542_2:=hx542_2
      (try rw [show ((0:Int)).toNat=0 from rfl] at hw542_2)
      (try rw [show 0 * 3=0 from rfl] at hw542_2)
      (try rw [Addr.add_zero'] at hw542_2)
      have hw542_1:=hx542_1
      (try rw [show ((0:Int)).toNat=0 from rfl] at hw542_1)
      (try rw [show 0 * 3=0 from rfl] at hw542_1)
      (try rw [Addr.add_zero'] at hw542_1)
      have hw542_0:=hx542_0
      (try rw [show ((0:Int)).toNat=0 from rfl] at hw542_0)
      (try rw [show 0 * 3=0 from rfl] at hw542_0)
      (try rw [Addr.add_zero'] at hw542_0)
      cases e542
      have qi542:(0<l0_1.length)=True:=eq_true (by omega)
      (try rw [show ((0:Int)).toNat=0 from rfl] at hx542_0)
      (try rw [show 0 * 3=0 from rfl] at hx542_0)
      (try rw [Addr.add_zero'] at hx542_0)
      (try rw [show ((0:Int)).toNat=0 from rfl] at hx542_1)
      (try rw [show 0 * 3=0 from rfl] at hx542_1)
      (try rw [Addr.add_zero'] at hx542_1)
      (try rw [show ((0:Int)).toNat=0 from rfl] at hx542_2)
      (try rw [show 0 * 3=0 from rfl] at hx542_2)
      (try rw [Addr.add_zero'] at hx542_2)
      replace hx542_0:=(HB.out.cell (World.block_lt_of_cell? w _ hx542_0)).trans hx542_0
      replace hx542_1:=(HB.out.cell (World.block_lt_of_cell? w _ hx542_1)).trans hx542_1
      replace hx542_2:=(HB.out.cell (World.block_lt_of_cell? w _ hx542_2)).trans hx542_2
      replace p542:=eq_true p542
      replace q542:=eq_true q542
      refine start_ (n:=24) (S:=fun w'=>w'.cell? ⟨gb537,0,none⟩=some (.int .i64 a0_0)∧w'.cell? ⟨gb537,1,none⟩=some (.slice (some ad542) l0_1.length c0_1)∧w'.cell? ⟨gb538,0,none⟩=some (.int .i64 a1_0)∧w'.cell? ⟨gb538,1,none⟩=some (.int .i64 a1_1)∧w'.cell? ⟨gb538,2,none⟩=some (.int .i64 a1_2)∧w'.cell? ad542=some (.int .i64 ((rd_T53 l0_1 0).f0))∧w'.cell? ⟨ad542.block,ad542.off+1,none⟩=some (.int .i64 ((rd_T53 l0_1 0).f1))∧w'.cell? ⟨ad542.block,ad542.off+2,none⟩=some (.int .i64 ((rd_T53 l0_1 0).f2))) (ds:= []) #[f',f',f',f',f',f',f',f',f',f',f',f',f',f',f',f',f',f',f',f',f',f',f',f'] (by kernel_rfl) rfl rfl ⟨(blk_cell BK537.out 0).trans rfl,(blk_cell BK537.out 1).trans rfl,(blk_cell BK538.out 0).trans rfl,(blk_cell BK538.out 1).trans rfl,(blk_cell BK538.out 2).trans rfl,((HB.out.cell (World.block_lt_of_cell? w _ hw542_0)).trans hw542_0),((HB.out.cell (World.block_lt_of_cell? w _ hw542_1)).trans hw542_1),((HB.out.cell (World.block_lt_of_cell? w _ hw542_2)).trans hw542_2)⟩ (fun hHeld=>?_);refine with_tabW spec_Learn.tab1 spec_Learn.bits1 (fun HT_ HW_=>?_)
      generalize w12.drew=w13 at BK537 BK538 BK539 HB hx542_0 hx542_1 hx542_2 hHeld ⊢
      refine take_ (i:=0) (N:=some 6) (v:=?_) (a':=?_) #[t',f',f',f',f',f',f',f',f',f',f',f',f',f',f',f',f',f',f',f',f',f',f',f'] rfl rfl (take_ofW HT_.out HW_.out (by kernel_rfl)) (fun _ _ _ h=>h) (Or.inl ⟨by rfl,?_⟩) hHeld ?_ ?_
      rotate_left
      ·rintro w' ⟨s0,s1,s2,s3,s4,s5,s6,s7⟩
       go_simp
       with_reducible rfl
      rotate_left
      ·simp only [Act.put,z5,z6,z7,i64_w,i32_w]
       rfl
      refine one_ (i:=1) (N:=some 7) #[t',t',f',f',f',f',f',f',f',f',f',f',f',f',f',f',f',f',f',f',f',f',f',f'] rfl rfl (one_of HT_.out (by kernel_rfl)) (by decide) (fun K hK=>?_)
      refine goes_ Try.func18 (by kernel_rfl) rfl #[.agg #[.int .i64 a0_0,.slice (some ad542) l0_1.length c0_1]] (by rfl) rfl rfl z2 ?_
      with_reducible refine(spec_GoodTable.calls k a0_0 _ _ l0_1 true _ ?side1 ?side2 A3.out).mono ?_
      (case side1=>repeat(first|exact(Kd.C_below HR0_1.out HB.out)|(with_reducible refine Kd.C_alloc ?_ _)|(with_reducible refine Kd.C_drewN ?_ _)|(with_reducible refine Kd.C_drew ?_)))
      (case side2=>exact HC0_1.out)
      rintro e w14 ⟨rfl,hb⟩
      refine⟨_,rfl,?_⟩
      have n0_:=Aside0.mk (blk_below (g:=gb537) (o:= .cells #[.int .i64 a0_0,.slice (some ad542) l0_1.length c0_1] 24 (0,0)) (z3 BK537) hb)
      have n1_:=Aside0.mk (blk_below (g:=gb538) (o:= .cells #[.int .i64 a1_0,.int .i64 a1_1,.int .i64 a1_2] 53 (0,0)) (z3 BK538) hb)
      have n2_:=Aside0.mk (blk_below (g:=gb539) (o:= .cells #[.int .i64 0,.slice none 0 0] 24 (0,0)) (z3 BK539) hb)
      have n3_:=Aside0.mk (below_step (zb3 HB GE537 GE538 GE539) hb)
      clear BK537
      clear BK538
      clear BK539
      clear HB
      have BK537:=n0_
      have BK538:=n1_
      have BK539:=n2_
      have HB:=n3_
      clear n0_ n1_ n2_ n3_
      (try clear hb)
      (try clear hb2)
      (try clear hk)
      (try clear hi)
      refine hK.out _ _ ⟨(blk_cell BK537.out 0).trans rfl,(blk_cell BK537.out 1).trans rfl,(blk_cell BK538.out 0).trans rfl,(blk_cell BK538.out 1).trans rfl,(blk_cell BK538.out 2).trans rfl,((HB.out.cell (World.block_lt_of_cell? w _ hw542_0)).trans hw542_0),((HB.out.cell (World.block_lt_of_cell? w _ hw542_1)).trans hw542_1),((HB.out.cell (World.block_lt_of_cell? w _ hw542_2)).trans hw542_2)⟩ (fun hHeld=>?_)
      clear hK K
      refine norm_ (a':=?_) ?_ ?_
      rotate_left
      ·show Act.put _ (some 7) _=_
       simp only [Act.put,z5,z6,z7,i64_w,i32_w]
       rfl
      refine pure_ (i:=2) (N:=some 8) (v:=?_) (a':=?_) #[t',t',t',f',f',f',f',f',f',f',f',f',f',f',f',f',f',f',f',f',f',f',f',f'] rfl rfl (any_of HT_.out (by kernel_rfl)) (fun _ _ _ h=>h) (Or.inl ⟨by rfl,?_⟩) ?_ ?_
      rotate_left
      ·intro w'
       go_simp
       with_reducible rfl
      rotate_left
      ·simp only [Act.put,z5,z6,z7,i64_w,i32_w]
       rfl
      refine pure_ (i:=3) (N:=some 9) (v:=?_) (a':=?_) #[t',t',t',t',f',f',f',f',f',f',f',f',f',f',f',f',f',f',f',f',f',f',f',f'] rfl rfl (any_of HT_.out (by kernel_rfl)) (fun _ _ _ h=>h) (Or.inl ⟨by rfl,?_⟩) ?_ ?_
      rotate_left
      ·intro w'
       go_simp
       with_reducible rfl
      rotate_left
      ·simp only [Act.put,z5,z6,z7,i64_w,i32_w]
       rfl
      refine take_ (i:=4) (N:=some 10) (v:=?_) (a':=?_) #[t',t',t',t',t',f',f',f',f',f',f',f',f',f',f',f',f',f',f',f',f',f',f',f'] rfl rfl (take_ofW HT_.out HW_.out (by kernel_rfl)) (fun _ _ _ h=>h) (Or.inl ⟨by rfl,?_⟩) hHeld ?_ ?_
      rotate_left
      ·rintro w' ⟨s0,s1,s2,s3,s4,s5,s6,s7⟩
       go_simp
       with_reducible rfl
      rotate_left
      ·simp only [Act.put,z5,z6,z7,i64_w,i32_w]
       rfl
      refine one_ (i:=5) (N:=some 11) #[t',t',t',t',t',t',f',f',f',f',f',f',f',f',f',f',f',f',f',f',f',f',f',f'] rfl rfl (one_of HT_.out (by kernel_rfl)) (by decide) (fun K hK=>?_)
      refine goes_ Try.func44 (by kernel_rfl) rfl #[.agg #[.int .i64 a1_0,.int .i64 a1_1,.int .i64 a1_2]] (by rfl) rfl rfl z2 ?_
      with_reducible refine(spec_l13Row.calls a1_0 a1_1 a1_2 true _ A5.out).mono ?_
      rintro e w15 ⟨rfl,hb⟩
      refine⟨_,rfl,?_⟩
      have n0_:=Aside0.mk (blk_below (g:=gb537) (o:= .cells #[.int .i64 a0_0,.slice (some ad542) l0_1.length c0_1] 24 (0,0)) (z3 BK537) hb)
      have n1_:=Aside0.mk (blk_below (g:=gb538) (o:= .cells #[.int .i64 a1_0,.int .i64 a1_1,.int .i64 a1_2] 53 (0,0)) (z3 BK538) hb)
      have n2_:=Aside0.mk (blk_below (g:=gb539) (o:= .cells #[.int .i64 0,.slice none 0 0] 24 (0,0)) (z3 BK539) hb)
      have n3_:=Aside0.mk (below_step (zb3 HB GE537 GE538 GE539) hb)
      clear BK537
      clear BK538
      clear BK539
      clear HB
      have BK537:=n0_
      have BK538:=n1_
      have BK539:=n2_
      have HB:=n3_
      clear n0_ n1_ n2_ n3_
      (try clear hb)
      (try clear hb2)
      (try clear hk)
      (try clear hi)
      refine hK.out _ _ ⟨(blk_cell BK537.out 0).trans rfl,(blk_cell BK537.out 1).trans rfl,(blk_cell BK538.out 0).trans rfl,(blk_cell BK538.out 1).trans rfl,(blk_cell BK538.out 2).trans rfl,((HB.out.cell (World.block_lt_of_cell? w _ hw542_0)).trans hw542_0),((HB.out.cell (World.block_lt_of_cell? w _ hw542_1)).trans hw542_1),((HB.out.cell (World.block_lt_of_cell? w _ hw542_2)).trans hw542_2)⟩ (fun hHeld=>?_)
      clear hK K
      refine norm_ (a':=?_) ?_ ?_
      rotate_left
      ·show Act.put _ (some 11) _=_
       simp only [Act.put,z5,z6,z7,i64_w,i32_w]
       rfl
      refine pure_ (i:=6) (N:=some 12) (v:=?_) (a':=?_) #[t',t',t',t',t',t',t',f',f',f',f',f',f',f',f',f',f',f',f',f',f',f',f',f'] rfl rfl (any_of HT_.out (by kernel_rfl)) (fun _ _ _ h=>h) (Or.inl ⟨by rfl,?_⟩) ?_ ?_
      rotate_left
      ·intro w'
       go_simp
       with_reducible rfl
      rotate_left
      ·simp only [Act.put,z5,z6,z7,i64_w,i32_w]
       rfl
      refine pure_ (i:=7) (N:=some 13) (v:=?_) (a':=?_) #[t',t',t',t',t',t',t',t',f',f',f',f',f',f',f',f',f',f',f',f',f',f',f',f'] rfl rfl (any_of HT_.out (by kernel_rfl)) (fun _ _ _ h=>h) (Or.inl ⟨by rfl,?_⟩) ?_ ?_
      rotate_left
      ·intro w'
       go_simp
       with_reducible rfl
      rotate_left
      ·simp only [Act.put,z5,z6,z7,i64_w,i32_w]
       rfl
      refine pure_ (i:=8) (N:=some 14) (v:=?_) (a':=?_) #[t',t',t',t',t',t',t',t',t',f',f',f',f',f',f',f',f',f',f',f',f',f',f',f'] rfl rfl (any_of HT_.out (by kernel_rfl)) (fun _ _ _ h=>h) (Or.inl ⟨by rfl,?_⟩) ?_ ?_
      rotate_left
      ·intro w'
       go_simp
       with_reducible rfl
      rotate_left
      ·simp only [Act.put,z5,z6,z7,i64_w,i32_w]
       rfl
      refine pure_ (i:=9) (N:=some 15) (v:=?_) (a':=?_) #[t',t',t',t',t',t',t',t',t',t',f',f',f',f',f',f',f',f',f',f',f',f',f',f'] rfl rfl (any_of HT_.out (by kernel_rfl)) (fun _ _ _ h=>h) (Or.inl ⟨by rfl,?_⟩) ?_ ?_
      rotate_left
      ·intro w'
       go_simp
       with_reducible rfl
      rotate_left
      ·simp only [Act.put,z5,z6,z7,i64_w,i32_w]
       rfl
      refine take_ (i:=10) (N:=some 16) (v:=?_) (a':=?_) #[t',t',t',t',t',t',t',t',t',t',t',f',f',f',f',f',f',f',f',f',f',f',f',f'] rfl rfl (take_ofW HT_.out HW_.out (by kernel_rfl)) (fun _ _ _ h=>h) (Or.inl ⟨by rfl,?_⟩) hHeld ?_ ?_
      rotate_left
      ·rintro w' ⟨s0,s1,s2,s3,s4,s5,s6,s7⟩
       go_simp
       with_reducible rfl
      rotate_left
      ·simp only [Act.put,z5,z6,z7,i64_w,i32_w]
       rfl
      refine pure_ (i:=11) (N:=some 17) (v:=?_) (a':=?_) #[t',t',t',t',t',t',t',t',t',t',t',t',f',f',f',f',f',f',f',f',f',f',f',f'] rfl rfl (any_of HT_.out (by kernel_rfl)) (fun _ _ _ h=>h) (Or.inl ⟨by rfl,?_⟩) ?_ ?_
      rotate_left
      ·intro w'
       go_simp
       with_reducible rfl
      rotate_left
      ·simp only [Act.put,z5,z6,z7,i64_w,i32_w]
       rfl
      refine pure_ (i:=12) (N:=some 18) (v:=?_) (a':=?_) #[t',t',t',t',t',t',t',t',t',t',t',t',t',f',f',f',f',f',f',f',f',f',f',f'] rfl rfl (any_of HT_.out (by kernel_rfl)) (fun _ _ _ h=>h) (Or.inl ⟨by rfl,?_⟩) ?_ ?_
      rotate_left
      ·intro w'
       go_simp
       with_reducible rfl
      rotate_left
      ·simp only [Act.put,z5,z6,z7,i64_w,i32_w]
       rfl
      refine pure_ (i:=13) (N:=some 19) (v:=?_) (a':=?_) #[t',t',t',t',t',t',t',t',t',t',t',t',t',t',f',f',f',f',f',f',f',f',f',f'] rfl rfl (any_of HT_.out (by kernel_rfl)) (fun _ _ _ h=>h) (Or.inl ⟨by rfl,?_⟩) ?_ ?_
      rotate_left
      ·intro w'
       go_simp
       with_reducible rfl
      rotate_left
      ·simp only [Act.put,z5,z6,z7,i64_w,i32_w]
       rfl
      refine pure_ (i:=14) (N:=some 20) (v:=?_) (a':=?_) #[t',t',t',t',t',t',t',t',t',t',t',t',t',t',t',f',f',f',f',f',f',f',f',f'] rfl rfl (any_of HT_.out (by kernel_rfl)) (fun _ _ _ h=>h) (Or.inl ⟨by rfl,?_⟩) ?_ ?_
      rotate_left
      ·intro w'
       go_simp
       with_reducible rfl
      rotate_left
      ·simp only [Act.put,z5,z6,z7,i64_w,i32_w]
       rfl
      refine pure_ (i:=16) (N:=some 22) (v:=?_) (a':=?_) #[t',t',t',t',t',t',t',t',t',t',t',t',t',t',t',f',t',f',f',f',f',f',f',f'] rfl rfl (any_of HT_.out (by kernel_rfl)) (fun _ _ _ h=>h) (Or.inl ⟨by rfl,?_⟩) ?_ ?_
      rotate_left
      ·intro w'
       go_simp
       with_reducible rfl
      rotate_left
      ·simp only [Act.put,z5,z6,z7,i64_w,i32_w]
       rfl
      refine take_ (i:=15) (N:=some 21) (v:=?_) (a':=?_) #[t',t',t',t',t',t',t',t',t',t',t',t',t',t',t',t',t',f',f',f',f',f',f',f'] rfl rfl (take_ofW HT_.out HW_.out (by kernel_rfl)) (fun _ _ _ h=>h) (Or.inl ⟨by rfl,?_⟩) hHeld ?_ ?_
      rotate_left
      ·rintro w' ⟨s0,s1,s2,s3,s4,s5,s6,s7⟩
       go_simp
       with_reducible rfl
      rotate_left
      ·simp only [Act.put,z5,z6,z7,i64_w,i32_w]
       rfl
      refine take_ (i:=17) (N:=some 23) (v:=?_) (a':=?_) #[t',t',t',t',t',t',t',t',t',t',t',t',t',t',t',t',t',t',f',f',f',f',f',f'] rfl rfl (take_ofW HT_.out HW_.out (by kernel_rfl)) (fun _ _ _ h=>h) (Or.inl ⟨by rfl,?_⟩) hHeld ?_ ?_
      rotate_left
      ·rintro w' ⟨s0,s1,s2,s3,s4,s5,s6,s7⟩
       go_simp
       with_reducible rfl
      rotate_left
      ·simp only [Act.put,z5,z6,z7,i64_w,i32_w]
       rfl
      refine pure_ (i:=18) (N:=some 24) (v:=?_) (a':=?_) #[t',t',t',t',t',t',t',t',t',t',t',t',t',t',t',t',t',t',t',f',f',f',f',f'] rfl rfl (any_of HT_.out (by kernel_rfl)) (fun _ _ _ h=>h) (Or.inl ⟨by rfl,?_⟩) ?_ ?_
      rotate_left
      ·intro w'
       go_simp
       with_reducible rfl
      rotate_left
      ·simp only [Act.put,z5,z6,z7,i64_w,i32_w]
       rfl
      refine pure_ (i:=19) (N:=some 25) (v:=?_) (a':=?_) #[t',t',t',t',t',t',t',t',t',t',t',t',t',t',t',t',t',t',t',t',f',f',f',f'] rfl rfl (any_of HT_.out (by kernel_rfl)) (fun _ _ _ h=>h) (Or.inl ⟨by rfl,?_⟩) ?_ ?_
      rotate_left
      ·intro w'
       go_simp
       with_reducible rfl
      rotate_left
      ·simp only [Act.put,z5,z6,z7,i64_w,i32_w]
       rfl
      refine take_ (i:=20) (N:=some 26) (v:=?_) (a':=?_) #[t',t',t',t',t',t',t',t',t',t',t',t',t',t',t',t',t',t',t',t',t',f',f',f'] rfl rfl (take_ofW HT_.out HW_.out (by kernel_rfl)) (fun _ _ _ h=>h) (Or.inl ⟨by rfl,?_⟩) hHeld ?_ ?_
      rotate_left
      ·rintro w' ⟨s0,s1,s2,s3,s4,s5,s6,s7⟩
       go_simp
       with_reducible rfl
      rotate_left
      ·simp only [Act.put,z5,z6,z7,i64_w,i32_w]
       rfl
      refine pure_ (i:=21) (N:=some 27) (v:=?_) (a':=?_) #[t',t',t',t',t',t',t',t',t',t',t',t',t',t',t',t',t',t',t',t',t',t',f',f'] rfl rfl (any_of HT_.out (by kernel_rfl)) (fun _ _ _ h=>h) (Or.inl ⟨by rfl,?_⟩) ?_ ?_
      rotate_left
      ·intro w'
       go_simp
       with_reducible rfl
      rotate_left
      ·simp only [Act.put,z5,z6,z7,i64_w,i32_w]
       rfl
      refine pure_ (i:=22) (N:=some 28) (v:=?_) (a':=?_) #[t',t',t',t',t',t',t',t',t',t',t',t',t',t',t',t',t',t',t',t',t',t',t',f'] rfl rfl (any_of HT_.out (by kernel_rfl)) (fun _ _ _ h=>h) (Or.inl ⟨by rfl,?_⟩) ?_ ?_
      rotate_left
      ·intro w'
       go_simp
       with_reducible rfl
      rotate_left
      ·simp only [Act.put,z5,z6,z7,i64_w,i32_w]
       rfl
      refine pure_ (i:=23) (N:=some 29) (v:=?_) (a':=?_) #[t',t',t',t',t',t',t',t',t',t',t',t',t',t',t',t',t',t',t',t',t',t',t',t'] rfl rfl (any_of HT_.out (by kernel_rfl)) (fun _ _ _ h=>h) (Or.inl ⟨by rfl,?_⟩) ?_ ?_
      rotate_left
      ·intro w'
       go_simp
       with_reducible rfl
      rotate_left
      ·simp only [Act.put,z5,z6,z7,i64_w,i32_w]
       rfl
      refine done_ (done_of HT_.out (by kernel_rfl)) ?_
      have hnb16:=NB539_537.out
      have hnc16:=NB537_539.out
      have hnb17:=NB539_538.out
      have hnc17:=NB538_539.out
      have hcz18_0:w15.cell? ⟨gb539,0,none⟩=some (.int .i64 0):=(blk_cell BK539.out 0).trans rfl
      have hcz18_1:w15.cell? ⟨gb539,1,none⟩=some (.slice none 0 0):=(blk_cell BK539.out 1).trans rfl
      have hfz18_0:=blk_frozen BK539.out 0
      have hfz18_1:=blk_frozen BK539.out 1
      try go_wp2
      refine bodyPost_ret (results_ct rfl _ _ gb539 24 #[.int .i64 0,.slice none 0 0] (0,0) _ rfl (by(with_reducible repeat(first|refine blk_drewN ?_ _|refine blk_drew ?_ |refine blk_alloc ?_ _));refine blk_put (cs:= #[.int .i64 0,.slice none 0 0]) ?_ 1 _ rfl;(with_reducible repeat(first|refine blk_drewN ?_ _|refine blk_drew ?_ |refine blk_alloc ?_ _));refine blk_put (cs:= #[.int .i64 0,.slice none 0 0]) ?_ 0 _ rfl;(with_reducible repeat(first|refine blk_drewN ?_ _|refine blk_drew ?_ |refine blk_alloc ?_ _));exact BK539.out) Try.underlying24 rfl (by kernel_rfl)) rfl ?_
      exact⟨_,by first|rfl|(simp [errW_none,errW_some]<;>rfl)|(simp [*,errW_none,errW_some]<;>rfl),by first|exact Kd.R_nil _ _ _ _ _|exact Kd.N_nil _ _ _ _ _|exact Kd.V_nil _ _ _ _ _|exact Kd.Q_nil _ _ _ _ _|exact Kd.S_nil _ _ _ _ _,by repeat(first|(with_reducible first|exact HB.out|apply below_alloc|apply pw_below_drewN|apply below_drew1|refine below_set ?_ GE537.out|refine below_set ?_ GE538.out|refine below_set ?_ GE539.out)|exact HB.out)⟩
     ·rw [if_neg c9] at H
      have c9b0:decide (a1_2< ((rd_T53 l0_1 0).f2))=false:=decide_eq_false c9
      clear c9
      replace H:=Option.bind_eq_some_iff.mp H
      obtain⟨⟨t543,t544⟩,A190,H⟩:=H
      replace H:(some (t543,t544,true))=some (r1,r2,r3):=H
      have A19:=Aside0.mk A190
      clear A190
      simp only [Option.some.injEq,Prod.mk.injEq] at H
      obtain⟨rfl,rfl,rfl⟩:=H
      go_enter Try.func35,Try.ntmps35
      try go_wp2_with (first|((with_reducible refine gate_dst (N:=2) rfl ?_);(try(refine gate_guard (by rfl) ?_;dsimp only));refine box_event ?hg (N:=2) ?hd (cs:= #[.int .i64 a0_0,.slice A0_1 l0_1.length c0_1]) (t:=24) ?hr ?_;(case hd=>rfl);(case hg=>rfl);(case hr=>first|(go_simp;done)|(go_simp;rfl));intro gb537 hg w20 hbox hb;have n0_:=Aside0.mk (below_step (zb0 HB) hb);have n1_:=Aside0.mk (hbox);have n2_:=Aside0.mk ((by rw [hg];exact(below_size (zb0 HB)):w.heap.size≤gb537));have n3_:=Aside0.mk ((by rw [hg];exact(below_size (zb0 HB)):w.heap.size≤gb537));clear HB;have HB:=n0_;have BK537:=n1_;have GW537:=n2_;have GE537:=n3_;clear n0_ n1_ n2_ n3_;clear hb hbox hg)|((with_reducible refine gate_dst (N:=3) rfl ?_);(try(refine gate_guard (by rfl) ?_;dsimp only));refine box_event ?hg (N:=3) ?hd (cs:= #[.int .i64 a1_0,.int .i64 a1_1,.int .i64 a1_2]) (t:=53) ?hr ?_;(case hd=>rfl);(case hg=>rfl);(case hr=>first|(go_simp;done)|(go_simp;rfl));intro gb538 hg w21 hbox hb;have n0_:=Aside0.mk (blk_below (g:=gb537) (o:= .cells #[.int .i64 a0_0,.slice A0_1 l0_1.length c0_1] 24 (0,0)) (z3 BK537) hb);have n1_:=Aside0.mk (below_step (zb1 HB GE537) hb);have n2_:=Aside0.mk (hbox);have n3_:=Aside0.mk ((by rw [hg];exact(below_size (zb1 HB GE537)):w.heap.size≤gb538));have n4_:=Aside0.mk ((by rw [hg];exact(below_size (zb1 HB GE537)):w.heap.size≤gb538));have n5_:=Aside0.mk ((by rw [hg];exact Nat.ne_of_lt (blk_lt (g:=gb537) (o:= .cells #[.int .i64 a0_0,.slice A0_1 l0_1.length c0_1] 24 (0,0)) (z3 BK537)):gb537≠gb538));have n6_:=Aside0.mk ((by rw [hg];exact Nat.ne_of_gt (blk_lt (g:=gb537) (o:= .cells #[.int .i64 a0_0,.slice A0_1 l0_1.length c0_1] 24 (0,0)) (z3 BK537)):gb538≠gb537));clear BK537;clear HB;have BK537:=n0_;have HB:=n1_;have BK538:=n2_;have GW538:=n3_;have GE538:=n4_;have NB537_538:=n5_;have NB538_537:=n6_;clear n0_ n1_ n2_ n3_ n4_ n5_ n6_;clear hb hbox hg)|((with_reducible refine gate_dst (N:=4) rfl ?_);(try(refine gate_guard (by rfl) ?_;dsimp only));refine box_event ?hg (N:=4) ?hd (cs:= #[.int .i64 0,.slice none 0 0]) (t:=24) ?hr ?_;(case hd=>rfl);(case hg=>rfl);(case hr=>first|(go_simp;done)|(go_simp;rfl));intro gb539 hg w22 hbox hb;have n0_:=Aside0.mk (blk_below (g:=gb537) (o:= .cells #[.int .i64 a0_0,.slice A0_1 l0_1.length c0_1] 24 (0,0)) (z3 BK537) hb);have n1_:=Aside0.mk (blk_below (g:=gb538) (o:= .cells #[.int .i64 a1_0,.int .i64 a1_1,.int .i64 a1_2] 53 (0,0)) (z3 BK538) hb);have n2_:=Aside0.mk (below_step (zb2 HB GE537 GE538) hb);have n3_:=Aside0.mk (hbox);have n4_:=Aside0.mk ((by rw [hg];exact(below_size (zb2 HB GE537 GE538)):w.heap.size≤gb539));have n5_:=Aside0.mk ((by rw [hg];exact(below_size (zb2 HB GE537 GE538)):w.heap.size≤gb539));have n6_:=Aside0.mk ((by rw [hg];exact Nat.ne_of_lt (blk_lt (g:=gb537) (o:= .cells #[.int .i64 a0_0,.slice A0_1 l0_1.length c0_1] 24 (0,0)) (z3 BK537)):gb537≠gb539));have n7_:=Aside0.mk ((by rw [hg];exact Nat.ne_of_gt (blk_lt (g:=gb537) (o:= .cells #[.int .i64 a0_0,.slice A0_1 l0_1.length c0_1] 24 (0,0)) (z3 BK537)):gb539≠gb537));have n8_:=Aside0.mk ((by rw [hg];exact Nat.ne_of_lt (blk_lt (g:=gb538) (o:= .cells #[.int .i64 a1_0,.int .i64 a1_1,.int .i64 a1_2] 53 (0,0)) (z3 BK538)):gb538≠gb539));have n9_:=Aside0.mk ((by rw [hg];exact Nat.ne_of_gt (blk_lt (g:=gb538) (o:= .cells #[.int .i64 a1_0,.int .i64 a1_1,.int .i64 a1_2] 53 (0,0)) (z3 BK538)):gb539≠gb538));clear BK537;clear BK538;clear HB;have BK537:=n0_;have BK538:=n1_;have HB:=n2_;have BK539:=n3_;have GW539:=n4_;have GE539:=n5_;have NB537_539:=n6_;have NB539_537:=n7_;have NB538_539:=n8_;have NB539_538:=n9_;clear n0_ n1_ n2_ n3_ n4_ n5_ n6_ n7_ n8_ n9_;clear hb hbox hg))
      have n0_:=Aside0.mk (blk_drew BK537.out)
      have n1_:=Aside0.mk (blk_drew BK538.out)
      have n2_:=Aside0.mk (blk_drew BK539.out)
      have n3_:=Aside0.mk (below_drew1 HB.out)
      clear BK537
      clear BK538
      clear BK539
      clear HB
      have BK537:=n0_
      have BK538:=n1_
      have BK539:=n2_
      have HB:=n3_
      clear n0_ n1_ n2_ n3_
      have p542: 0≤ (0:Int):=(by omega)
      have q542: 0< (l0_1.length:Int):=of_decide_eq_true z1
      obtain⟨ad542,e542,hx542_0,hx542_1,hx542_2⟩:=at_T53 HR0_1.out 0 p542 q542
      have hw542_2:=hx542_2
      (try rw [show ((0:Int)).toNat=0 from rfl] at hw542_2)
      (try rw [show 0 * 3=0 from rfl] at hw542_2)
      (try rw [Addr.add_zero'] at hw542_2)
      have hw542_1:=hx542_1
      (try rw [show ((0:Int)).toNat=0 from rfl] at hw542_1)
      (try rw [show 0 * 3=0 from rfl] at hw542_1)
      (try rw [Addr.add_zero'] at hw542_1)
      have hw542_0:=hx542_0
      (try rw [show ((0:Int)).toNat=0 from rfl] at hw542_0)
      (try rw [show 0 * 3=0 from rfl] at hw542_0)
      (try rw [Addr.add_zero'] at hw542_0)
      cases e542
      have qi542:(0<l0_1.length)=True:=eq_true (by omega)
      (try rw [show ((0:Int)).toNat=0 from rfl] at hx542_0)
      (try rw [show 0 * 3=0 from rfl] at hx542_0)
      (try rw [Addr.add_zero'] at hx542_0)
      (try rw [show ((0:Int)).toNat=0 from rfl] at hx542_1)
      (try rw [show 0 * 3=0 from rfl] at hx542_1)
      (try rw [Addr.add_zero'] at hx542_1)
      (try rw [show ((0:Int)).toNat=0 from rfl] at hx542_2)
      (try rw [show 0 * 3=0 from rfl] at hx542_2)
      (try rw [Addr.add_zero'] at hx542_2)
      replace hx542_0:=(HB.out.cell (World.block_lt_of_cell? w _ hx542_0)).trans hx542_0
      replace hx542_1:=(HB.out.cell (World.block_lt_of_cell? w _ hx542_1)).trans hx542_1
      replace hx542_2:=(HB.out.cell (World.block_lt_of_cell? w _ hx542_2)).trans hx542_2
      replace p542:=eq_true p542
      replace q542:=eq_true q542
      refine start_ (n:=24) (S:=fun w'=>w'.cell? ⟨gb537,0,none⟩=some (.int .i64 a0_0)∧w'.cell? ⟨gb537,1,none⟩=some (.slice (some ad542) l0_1.length c0_1)∧w'.cell? ⟨gb538,0,none⟩=some (.int .i64 a1_0)∧w'.cell? ⟨gb538,1,none⟩=some (.int .i64 a1_1)∧w'.cell? ⟨gb538,2,none⟩=some (.int .i64 a1_2)∧w'.cell? ad542=some (.int .i64 ((rd_T53 l0_1 0).f0))∧w'.cell? ⟨ad542.block,ad542.off+1,none⟩=some (.int .i64 ((rd_T53 l0_1 0).f1))∧w'.cell? ⟨ad542.block,ad542.off+2,none⟩=some (.int .i64 ((rd_T53 l0_1 0).f2))) (ds:= []) #[f',f',f',f',f',f',f',f',f',f',f',f',f',f',f',f',f',f',f',f',f',f',f',f'] (by kernel_rfl) rfl rfl ⟨(blk_cell BK537.out 0).trans rfl,(blk_cell BK537.out 1).trans rfl,(blk_cell BK538.out 0).trans rfl,(blk_cell BK538.out 1).trans rfl,(blk_cell BK538.out 2).trans rfl,((HB.out.cell (World.block_lt_of_cell? w _ hw542_0)).trans hw542_0),((HB.out.cell (World.block_lt_of_cell? w _ hw542_1)).trans hw542_1),((HB.out.cell (World.block_lt_of_cell? w _ hw542_2)).trans hw542_2)⟩ (fun hHeld=>?_);refine with_tabW spec_Learn.tab1 spec_Learn.bits1 (fun HT_ HW_=>?_)
      generalize w22.drew=w23 at BK537 BK538 BK539 HB hx542_0 hx542_1 hx542_2 hHeld ⊢
      refine take_ (i:=0) (N:=some 6) (v:=?_) (a':=?_) #[t',f',f',f',f',f',f',f',f',f',f',f',f',f',f',f',f',f',f',f',f',f',f',f'] rfl rfl (take_ofW HT_.out HW_.out (by kernel_rfl)) (fun _ _ _ h=>h) (Or.inl ⟨by rfl,?_⟩) hHeld ?_ ?_
      rotate_left
      ·rintro w' ⟨s0,s1,s2,s3,s4,s5,s6,s7⟩
       go_simp
       with_reducible rfl
      rotate_left
      ·simp only [Act.put,z5,z6,z7,i64_w,i32_w]
       rfl
      refine one_ (i:=1) (N:=some 7) #[t',t',f',f',f',f',f',f',f',f',f',f',f',f',f',f',f',f',f',f',f',f',f',f'] rfl rfl (one_of HT_.out (by kernel_rfl)) (by decide) (fun K hK=>?_)
      refine goes_ Try.func18 (by kernel_rfl) rfl #[.agg #[.int .i64 a0_0,.slice (some ad542) l0_1.length c0_1]] (by rfl) rfl rfl z2 ?_
      with_reducible refine(spec_GoodTable.calls k a0_0 _ _ l0_1 true _ ?side1 ?side2 A3.out).mono ?_
      (case side1=>repeat(first|exact(Kd.C_below HR0_1.out HB.out)|(with_reducible refine Kd.C_alloc ?_ _)|(with_reducible refine Kd.C_drewN ?_ _)|(with_reducible refine Kd.C_drew ?_)))
      (case side2=>exact HC0_1.out)
      rintro e w24 ⟨rfl,hb⟩
      refine⟨_,rfl,?_⟩
      have n0_:=Aside0.mk (blk_below (g:=gb537) (o:= .cells #[.int .i64 a0_0,.slice (some ad542) l0_1.length c0_1] 24 (0,0)) (z3 BK537) hb)
      have n1_:=Aside0.mk (blk_below (g:=gb538) (o:= .cells #[.int .i64 a1_0,.int .i64 a1_1,.int .i64 a1_2] 53 (0,0)) (z3 BK538) hb)
      have n2_:=Aside0.mk (blk_below (g:=gb539) (o:= .cells #[.int .i64 0,.slice none 0 0] 24 (0,0)) (z3 BK539) hb)
      have n3_:=Aside0.mk (below_step (zb3 HB GE537 GE538 GE539) hb)
      clear BK537
      clear BK538
      clear BK539
      clear HB
      have BK537:=n0_
      have BK538:=n1_
      have BK539:=n2_
      have HB:=n3_
      clear n0_ n1_ n2_ n3_
      (try clear hb)
      (try clear hb2)
      (try clear hk)
      (try clear hi)
      refine hK.out _ _ ⟨(blk_cell BK537.out 0).trans rfl,(blk_cell BK537.out 1).trans rfl,(blk_cell BK538.out 0).trans rfl,(blk_cell BK538.out 1).trans rfl,(blk_cell BK538.out 2).trans rfl,((HB.out.cell (World.block_lt_of_cell? w _ hw542_0)).trans hw542_0),((HB.out.cell (World.block_lt_of_cell? w _ hw542_1)).trans hw542_1),((HB.out.cell (World.block_lt_of_cell? w _ hw542_2)).trans hw542_2)⟩ (fun hHeld=>?_)
      clear hK K
      refine norm_ (a':=?_) ?_ ?_
      rotate_left
      ·show Act.put _ (some 7) _=_
       simp only [Act.put,z5,z6,z7,i64_w,i32_w]
       rfl
      refine pure_ (i:=2) (N:=some 8) (v:=?_) (a':=?_) #[t',t',t',f',f',f',f',f',f',f',f',f',f',f',f',f',f',f',f',f',f',f',f',f'] rfl rfl (any_of HT_.out (by kernel_rfl)) (fun _ _ _ h=>h) (Or.inl ⟨by rfl,?_⟩) ?_ ?_
      rotate_left
      ·intro w'
       go_simp
       with_reducible rfl
      rotate_left
      ·simp only [Act.put,z5,z6,z7,i64_w,i32_w]
       rfl
      refine pure_ (i:=3) (N:=some 9) (v:=?_) (a':=?_) #[t',t',t',t',f',f',f',f',f',f',f',f',f',f',f',f',f',f',f',f',f',f',f',f'] rfl rfl (any_of HT_.out (by kernel_rfl)) (fun _ _ _ h=>h) (Or.inl ⟨by rfl,?_⟩) ?_ ?_
      rotate_left
      ·intro w'
       go_simp
       with_reducible rfl
      rotate_left
      ·simp only [Act.put,z5,z6,z7,i64_w,i32_w]
       rfl
      refine take_ (i:=4) (N:=some 10) (v:=?_) (a':=?_) #[t',t',t',t',t',f',f',f',f',f',f',f',f',f',f',f',f',f',f',f',f',f',f',f'] rfl rfl (take_ofW HT_.out HW_.out (by kernel_rfl)) (fun _ _ _ h=>h) (Or.inl ⟨by rfl,?_⟩) hHeld ?_ ?_
      rotate_left
      ·rintro w' ⟨s0,s1,s2,s3,s4,s5,s6,s7⟩
       go_simp
       with_reducible rfl
      rotate_left
      ·simp only [Act.put,z5,z6,z7,i64_w,i32_w]
       rfl
      refine one_ (i:=5) (N:=some 11) #[t',t',t',t',t',t',f',f',f',f',f',f',f',f',f',f',f',f',f',f',f',f',f',f'] rfl rfl (one_of HT_.out (by kernel_rfl)) (by decide) (fun K hK=>?_)
      refine goes_ Try.func44 (by kernel_rfl) rfl #[.agg #[.int .i64 a1_0,.int .i64 a1_1,.int .i64 a1_2]] (by rfl) rfl rfl z2 ?_
      with_reducible refine(spec_l13Row.calls a1_0 a1_1 a1_2 true _ A5.out).mono ?_
      rintro e w25 ⟨rfl,hb⟩
      refine⟨_,rfl,?_⟩
      have n0_:=Aside0.mk (blk_below (g:=gb537) (o:= .cells #[.int .i64 a0_0,.slice (some ad542) l0_1.length c0_1] 24 (0,0)) (z3 BK537) hb)
      have n1_:=Aside0.mk (blk_below (g:=gb538) (o:= .cells #[.int .i64 a1_0,.int .i64 a1_1,.int .i64 a1_2] 53 (0,0)) (z3 BK538) hb)
      have n2_:=Aside0.mk (blk_below (g:=gb539) (o:= .cells #[.int .i64 0,.slice none 0 0] 24 (0,0)) (z3 BK539) hb)
      have n3_:=Aside0.mk (below_step (zb3 HB GE537 GE538 GE539) hb)
      clear BK537
      clear BK538
      clear BK539
      clear HB
      have BK537:=n0_
      have BK538:=n1_
      have BK539:=n2_
      have HB:=n3_
      clear n0_ n1_ n2_ n3_
      (try clear hb)
      (try clear hb2)
      (try clear hk)
      (try clear hi)
      refine hK.out _ _ ⟨(blk_cell BK537.out 0).trans rfl,(blk_cell BK537.out 1).trans rfl,(blk_cell BK538.out 0).trans rfl,(blk_cell BK538.out 1).trans rfl,(blk_cell BK538.out 2).trans rfl,((HB.out.cell (World.block_lt_of_cell? w _ hw542_0)).trans hw542_0),((HB.out.cell (World.block_lt_of_cell? w _ hw542_1)).trans hw542_1),((HB.out.cell (World.block_lt_of_cell? w _ hw542_2)).trans hw542_2)⟩ (fun hHeld=>?_)
      clear hK K
      refine norm_ (a':=?_) ?_ ?_
      rotate_left
      ·show Act.put _ (some 11) _=_
       simp only [Act.put,z5,z6,z7,i64_w,i32_w]
       rfl
      refine pure_ (i:=6) (N:=some 12) (v:=?_) (a':=?_) #[t',t',t',t',t',t',t',f',f',f',f',f',f',f',f',f',f',f',f',f',f',f',f',f'] rfl rfl (any_of HT_.out (by kernel_rfl)) (fun _ _ _ h=>h) (Or.inl ⟨by rfl,?_⟩) ?_ ?_
      rotate_left
      ·intro w'
       go_simp
       with_reducible rfl
      rotate_left
      ·simp only [Act.put,z5,z6,z7,i64_w,i32_w]
       rfl
      refine pure_ (i:=7) (N:=some 13) (v:=?_) (a':=?_) #[t',t',t',t',t',t',t',t',f',f',f',f',f',f',f',f',f',f',f',f',f',f',f',f'] rfl rfl (any_of HT_.out (by kernel_rfl)) (fun _ _ _ h=>h) (Or.inl ⟨by rfl,?_⟩) ?_ ?_
      rotate_left
      ·intro w'
       go_simp
       with_reducible rfl
      rotate_left
      ·simp only [Act.put,z5,z6,z7,i64_w,i32_w]
       rfl
      refine pure_ (i:=8) (N:=some 14) (v:=?_) (a':=?_) #[t',t',t',t',t',t',t',t',t',f',f',f',f',f',f',f',f',f',f',f',f',f',f',f'] rfl rfl (any_of HT_.out (by kernel_rfl)) (fun _ _ _ h=>h) (Or.inl ⟨by rfl,?_⟩) ?_ ?_
      rotate_left
      ·intro w'
       go_simp
       with_reducible rfl
      rotate_left
      ·simp only [Act.put,z5,z6,z7,i64_w,i32_w]
       rfl
      refine pure_ (i:=9) (N:=some 15) (v:=?_) (a':=?_) #[t',t',t',t',t',t',t',t',t',t',f',f',f',f',f',f',f',f',f',f',f',f',f',f'] rfl rfl (any_of HT_.out (by kernel_rfl)) (fun _ _ _ h=>h) (Or.inl ⟨by rfl,?_⟩) ?_ ?_
      rotate_left
      ·intro w'
       go_simp
       with_reducible rfl
      rotate_left
      ·simp only [Act.put,z5,z6,z7,i64_w,i32_w]
       rfl
      refine take_ (i:=10) (N:=some 16) (v:=?_) (a':=?_) #[t',t',t',t',t',t',t',t',t',t',t',f',f',f',f',f',f',f',f',f',f',f',f',f'] rfl rfl (take_ofW HT_.out HW_.out (by kernel_rfl)) (fun _ _ _ h=>h) (Or.inl ⟨by rfl,?_⟩) hHeld ?_ ?_
      rotate_left
      ·rintro w' ⟨s0,s1,s2,s3,s4,s5,s6,s7⟩
       go_simp
       with_reducible rfl
      rotate_left
      ·simp only [Act.put,z5,z6,z7,i64_w,i32_w]
       rfl
      refine pure_ (i:=11) (N:=some 17) (v:=?_) (a':=?_) #[t',t',t',t',t',t',t',t',t',t',t',t',f',f',f',f',f',f',f',f',f',f',f',f'] rfl rfl (any_of HT_.out (by kernel_rfl)) (fun _ _ _ h=>h) (Or.inl ⟨by rfl,?_⟩) ?_ ?_
      rotate_left
      ·intro w'
       go_simp
       with_reducible rfl
      rotate_left
      ·simp only [Act.put,z5,z6,z7,i64_w,i32_w]
       rfl
      refine pure_ (i:=12) (N:=some 18) (v:=?_) (a':=?_) #[t',t',t',t',t',t',t',t',t',t',t',t',t',f',f',f',f',f',f',f',f',f',f',f'] rfl rfl (any_of HT_.out (by kernel_rfl)) (fun _ _ _ h=>h) (Or.inl ⟨by rfl,?_⟩) ?_ ?_
      rotate_left
      ·intro w'
       go_simp
       with_reducible rfl
      rotate_left
      ·simp only [Act.put,z5,z6,z7,i64_w,i32_w]
       rfl
      refine pure_ (i:=13) (N:=some 19) (v:=?_) (a':=?_) #[t',t',t',t',t',t',t',t',t',t',t',t',t',t',f',f',f',f',f',f',f',f',f',f'] rfl rfl (any_of HT_.out (by kernel_rfl)) (fun _ _ _ h=>h) (Or.inl ⟨by rfl,?_⟩) ?_ ?_
      rotate_left
      ·intro w'
       go_simp
       with_reducible rfl
      rotate_left
      ·simp only [Act.put,z5,z6,z7,i64_w,i32_w]
       rfl
      refine pure_ (i:=14) (N:=some 20) (v:=?_) (a':=?_) #[t',t',t',t',t',t',t',t',t',t',t',t',t',t',t',f',f',f',f',f',f',f',f',f'] rfl rfl (any_of HT_.out (by kernel_rfl)) (fun _ _ _ h=>h) (Or.inl ⟨by rfl,?_⟩) ?_ ?_
      rotate_left
      ·intro w'
       go_simp
       with_reducible rfl
      rotate_left
      ·simp only [Act.put,z5,z6,z7,i64_w,i32_w]
       rfl
      refine pure_ (i:=16) (N:=some 22) (v:=?_) (a':=?_) #[t',t',t',t',t',t',t',t',t',t',t',t',t',t',t',f',t',f',f',f',f',f',f',f'] rfl rfl (any_of HT_.out (by kernel_rfl)) (fun _ _ _ h=>h) (Or.inl ⟨by rfl,?_⟩) ?_ ?_
      rotate_left
      ·intro w'
       go_simp
       with_reducible rfl
      rotate_left
      ·simp only [Act.put,z5,z6,z7,i64_w,i32_w]
       rfl
      refine take_ (i:=15) (N:=some 21) (v:=?_) (a':=?_) #[t',t',t',t',t',t',t',t',t',t',t',t',t',t',t',t',t',f',f',f',f',f',f',f'] rfl rfl (take_ofW HT_.out HW_.out (by kernel_rfl)) (fun _ _ _ h=>h) (Or.inl ⟨by rfl,?_⟩) hHeld ?_ ?_
      rotate_left
      ·rintro w' ⟨s0,s1,s2,s3,s4,s5,s6,s7⟩
       go_simp
       with_reducible rfl
      rotate_left
      ·simp only [Act.put,z5,z6,z7,i64_w,i32_w]
       rfl
      refine take_ (i:=17) (N:=some 23) (v:=?_) (a':=?_) #[t',t',t',t',t',t',t',t',t',t',t',t',t',t',t',t',t',t',f',f',f',f',f',f'] rfl rfl (take_ofW HT_.out HW_.out (by kernel_rfl)) (fun _ _ _ h=>h) (Or.inl ⟨by rfl,?_⟩) hHeld ?_ ?_
      rotate_left
      ·rintro w' ⟨s0,s1,s2,s3,s4,s5,s6,s7⟩
       go_simp
       with_reducible rfl
      rotate_left
      ·simp only [Act.put,z5,z6,z7,i64_w,i32_w]
       rfl
      refine pure_ (i:=18) (N:=some 24) (v:=?_) (a':=?_) #[t',t',t',t',t',t',t',t',t',t',t',t',t',t',t',t',t',t',t',f',f',f',f',f'] rfl rfl (any_of HT_.out (by kernel_rfl)) (fun _ _ _ h=>h) (Or.inl ⟨by rfl,?_⟩) ?_ ?_
      rotate_left
      ·intro w'
       go_simp
       with_reducible rfl
      rotate_left
      ·simp only [Act.put,z5,z6,z7,i64_w,i32_w]
       rfl
      refine pure_ (i:=19) (N:=some 25) (v:=?_) (a':=?_) #[t',t',t',t',t',t',t',t',t',t',t',t',t',t',t',t',t',t',t',t',f',f',f',f'] rfl rfl (any_of HT_.out (by kernel_rfl)) (fun _ _ _ h=>h) (Or.inl ⟨by rfl,?_⟩) ?_ ?_
      rotate_left
      ·intro w'
       go_simp
       with_reducible rfl
      rotate_left
      ·simp only [Act.put,z5,z6,z7,i64_w,i32_w]
       rfl
      refine take_ (i:=20) (N:=some 26) (v:=?_) (a':=?_) #[t',t',t',t',t',t',t',t',t',t',t',t',t',t',t',t',t',t',t',t',t',f',f',f'] rfl rfl (take_ofW HT_.out HW_.out (by kernel_rfl)) (fun _ _ _ h=>h) (Or.inl ⟨by rfl,?_⟩) hHeld ?_ ?_
      rotate_left
      ·rintro w' ⟨s0,s1,s2,s3,s4,s5,s6,s7⟩
       go_simp
       with_reducible rfl
      rotate_left
      ·simp only [Act.put,z5,z6,z7,i64_w,i32_w]
       rfl
      refine pure_ (i:=21) (N:=some 27) (v:=?_) (a':=?_) #[t',t',t',t',t',t',t',t',t',t',t',t',t',t',t',t',t',t',t',t',t',t',f',f'] rfl rfl (any_of HT_.out (by kernel_rfl)) (fun _ _ _ h=>h) (Or.inl ⟨by rfl,?_⟩) ?_ ?_
      rotate_left
      ·intro w'
       go_simp
       with_reducible rfl
      rotate_left
      ·simp only [Act.put,z5,z6,z7,i64_w,i32_w]
       rfl
      refine pure_ (i:=22) (N:=some 28) (v:=?_) (a':=?_) #[t',t',t',t',t',t',t',t',t',t',t',t',t',t',t',t',t',t',t',t',t',t',t',f'] rfl rfl (any_of HT_.out (by kernel_rfl)) (fun _ _ _ h=>h) (Or.inl ⟨by rfl,?_⟩) ?_ ?_
      rotate_left
      ·intro w'
       go_simp
       with_reducible rfl
      rotate_left
      ·simp only [Act.put,z5,z6,z7,i64_w,i32_w]
       rfl
      refine pure_ (i:=23) (N:=some 29) (v:=?_) (a':=?_) #[t',t',t',t',t',t',t',t',t',t',t',t',t',t',t',t',t',t',t',t',t',t',t',t'] rfl rfl (any_of HT_.out (by kernel_rfl)) (fun _ _ _ h=>h) (Or.inl ⟨by rfl,?_⟩) ?_ ?_
      rotate_left
      ·intro w'
       go_simp
       with_reducible rfl
      rotate_left
      ·simp only [Act.put,z5,z6,z7,i64_w,i32_w]
       rfl
      refine done_ (done_of HT_.out (by kernel_rfl)) ?_
      have hnb26:=NB537_538.out
      have hnc26:=NB538_537.out
      have hnb27:=NB537_539.out
      have hnc27:=NB539_537.out
      have hcz28_0:w25.cell? ⟨gb537,0,none⟩=some (.int .i64 a0_0):=(blk_cell BK537.out 0).trans rfl
      have hcz28_1:w25.cell? ⟨gb537,1,none⟩=some (.slice (some ad542) l0_1.length c0_1):=(blk_cell BK537.out 1).trans rfl
      have hfz28_0:=blk_frozen BK537.out 0
      have hfz28_1:=blk_frozen BK537.out 1
      have hnb29:=NB538_539.out
      have hnc29:=NB539_538.out
      have hcz30_0:w25.cell? ⟨gb538,0,none⟩=some (.int .i64 a1_0):=(blk_cell BK538.out 0).trans rfl
      have hcz30_1:w25.cell? ⟨gb538,1,none⟩=some (.int .i64 a1_1):=(blk_cell BK538.out 1).trans rfl
      have hcz30_2:w25.cell? ⟨gb538,2,none⟩=some (.int .i64 a1_2):=(blk_cell BK538.out 2).trans rfl
      have hfz30_0:=blk_frozen BK538.out 0
      have hfz30_1:=blk_frozen BK538.out 1
      have hfz30_2:=blk_frozen BK538.out 2
      try go_wp2_with (first|((with_reducible refine gate_callee (f:=49) rfl ?_);refine goesL_ (some 33) rfl rfl Try.func49 (by kernel_rfl) rfl #[.agg #[.int .i64 a0_0,.slice (some ad542) l0_1.length c0_1],.agg #[.int .i64 a1_0,.int .i64 a1_1,.int .i64 a1_2]] rfl z2 ?_;(with_reducible refine(spec_l13Learn.calls k a0_0 _ _ l0_1 a1_0 a1_1 a1_2 t543 t544 _ ?side1 ?side2 A19.out).mono ?_);(case side1=>repeat(first|exact(Kd.C_below HR0_1.out HB.out)|(with_reducible refine Kd.C_alloc ?_ _)|(with_reducible refine Kd.C_drewN ?_ _)|(with_reducible refine Kd.C_drew ?_)));(case side2=>exact HC0_1.out);rintro e w31 ⟨v545,rfl,ho0,hb⟩;refine⟨_,rfl,?_⟩;have n0_:=Aside0.mk (Kd.R_lower (Kd.R_newB ho0 (g:=gb538) (o:= .cells #[.int .i64 a1_0,.int .i64 a1_1,.int .i64 a1_2] 53 (0,0)) (z3 BK538)) (below_size (zb3 HB GE537 GE538 GE539)));have n1_:=Aside0.mk (blk_below (g:=gb537) (o:= .cells #[.int .i64 a0_0,.slice (some ad542) l0_1.length c0_1] 24 (0,0)) (z3 BK537) hb);have n2_:=Aside0.mk (blk_below (g:=gb538) (o:= .cells #[.int .i64 a1_0,.int .i64 a1_1,.int .i64 a1_2] 53 (0,0)) (z3 BK538) hb);have n3_:=Aside0.mk (blk_below (g:=gb539) (o:= .cells #[.int .i64 0,.slice none 0 0] 24 (0,0)) (z3 BK539) hb);have n4_:=Aside0.mk (below_step (zb3 HB GE537 GE538 GE539) hb);clear BK537;clear BK538;clear BK539;clear HB;have HO546:=n0_;have BK537:=n1_;have BK538:=n2_;have BK539:=n3_;have HB:=n4_;clear n0_ n1_ n2_ n3_ n4_;(try clear hb);(try clear hb2);(try clear hk);(try clear hi);(try clear ho0);have hcz32_0:w31.cell? ⟨gb539,0,none⟩=some (.int .i64 0):=(blk_cell BK539.out 0).trans rfl;have hcz32_1:w31.cell? ⟨gb539,1,none⟩=some (.slice none 0 0):=(blk_cell BK539.out 1).trans rfl;have hfz32_0:=blk_frozen BK539.out 0;have hfz32_1:=blk_frozen BK539.out 1;obtain⟨Ao33,co33,eo33⟩:=Kd.R_slice HO546.out;subst eo33))
      refine bodyPost_ret (results_ct rfl _ _ gb539 24 #[.int .i64 t543,.slice Ao33 t544.length co33] (0,0) _ rfl (by(with_reducible repeat(first|refine blk_drewN ?_ _|refine blk_drew ?_ |refine blk_alloc ?_ _));refine blk_put (cs:= #[.int .i64 t543,.slice none 0 0]) ?_ 1 _ rfl;(with_reducible repeat(first|refine blk_drewN ?_ _|refine blk_drew ?_ |refine blk_alloc ?_ _));refine blk_put (cs:= #[.int .i64 0,.slice none 0 0]) ?_ 0 _ rfl;(with_reducible repeat(first|refine blk_drewN ?_ _|refine blk_drew ?_ |refine blk_alloc ?_ _));exact BK539.out) Try.underlying24 rfl (by kernel_rfl)) rfl ?_
      exact⟨_,by first|rfl|(simp [errW_none,errW_some]<;>rfl)|(simp [*,errW_none,errW_some]<;>rfl),by(with_reducible repeat(first|apply Kd.R_alloc|apply Kd.R_drewN|apply Kd.R_drew));exact Kd.R_mono (Kd.R_far (p:=⟨gb539,1,none⟩) (Kd.R_far (p:=⟨gb539,0,none⟩) (Kd.R_types HO546.out BK539.out (by decide)) (fun _ hk=>hk.2) (.int .i64 t543)) (fun _ hk=>hk.2) (.slice Ao33 t544.length co33)) (fun _ hk=>trivial),by repeat(first|(with_reducible first|exact HB.out|apply below_alloc|apply pw_below_drewN|apply below_drew1|refine below_set ?_ GE537.out|refine below_set ?_ GE538.out|refine below_set ?_ GE539.out)|exact HB.out)⟩
    ·rw [if_neg c8] at H
     exact absurd H (by simp)
   ·rw [if_neg c7] at H
    have c7b0:decide (0< (l0_1.length:Int))=false:=decide_eq_false c7
    have c7b1:decide (0<l0_1.length)=false:=decide_eq_false (by omega)
    clear c7
    replace H:=Option.bind_eq_some_iff.mp H
    obtain⟨⟨t547,t548⟩,A340,H⟩:=H
    replace H:(some (t547,t548,true))=some (r1,r2,r3):=H
    have A34:=Aside0.mk A340
    clear A340
    simp only [Option.some.injEq,Prod.mk.injEq] at H
    obtain⟨rfl,rfl,rfl⟩:=H
    go_enter Try.func35,Try.ntmps35
    try go_wp2_with (first|((with_reducible refine gate_dst (N:=2) rfl ?_);(try(refine gate_guard (by rfl) ?_;dsimp only));refine box_event ?hg (N:=2) ?hd (cs:= #[.int .i64 a0_0,.slice A0_1 l0_1.length c0_1]) (t:=24) ?hr ?_;(case hd=>rfl);(case hg=>rfl);(case hr=>first|(go_simp;done)|(go_simp;rfl));intro gb537 hg w35 hbox hb;have n0_:=Aside0.mk (below_step (zb0 HB) hb);have n1_:=Aside0.mk (hbox);have n2_:=Aside0.mk ((by rw [hg];exact(below_size (zb0 HB)):w.heap.size≤gb537));have n3_:=Aside0.mk ((by rw [hg];exact(below_size (zb0 HB)):w.heap.size≤gb537));clear HB;have HB:=n0_;have BK537:=n1_;have GW537:=n2_;have GE537:=n3_;clear n0_ n1_ n2_ n3_;clear hb hbox hg)|((with_reducible refine gate_dst (N:=3) rfl ?_);(try(refine gate_guard (by rfl) ?_;dsimp only));refine box_event ?hg (N:=3) ?hd (cs:= #[.int .i64 a1_0,.int .i64 a1_1,.int .i64 a1_2]) (t:=53) ?hr ?_;(case hd=>rfl);(case hg=>rfl);(case hr=>first|(go_simp;done)|(go_simp;rfl));intro gb538 hg w36 hbox hb;have n0_:=Aside0.mk (blk_below (g:=gb537) (o:= .cells #[.int .i64 a0_0,.slice A0_1 l0_1.length c0_1] 24 (0,0)) (z3 BK537) hb);have n1_:=Aside0.mk (below_step (zb1 HB GE537) hb);have n2_:=Aside0.mk (hbox);have n3_:=Aside0.mk ((by rw [hg];exact(below_size (zb1 HB GE537)):w.heap.size≤gb538));have n4_:=Aside0.mk ((by rw [hg];exact(below_size (zb1 HB GE537)):w.heap.size≤gb538));have n5_:=Aside0.mk ((by rw [hg];exact Nat.ne_of_lt (blk_lt (g:=gb537) (o:= .cells #[.int .i64 a0_0,.slice A0_1 l0_1.length c0_1] 24 (0,0)) (z3 BK537)):gb537≠gb538));have n6_:=Aside0.mk ((by rw [hg];exact Nat.ne_of_gt (blk_lt (g:=gb537) (o:= .cells #[.int .i64 a0_0,.slice A0_1 l0_1.length c0_1] 24 (0,0)) (z3 BK537)):gb538≠gb537));clear BK537;clear HB;have BK537:=n0_;have HB:=n1_;have BK538:=n2_;have GW538:=n3_;have GE538:=n4_;have NB537_538:=n5_;have NB538_537:=n6_;clear n0_ n1_ n2_ n3_ n4_ n5_ n6_;clear hb hbox hg)|((with_reducible refine gate_dst (N:=4) rfl ?_);(try(refine gate_guard (by rfl) ?_;dsimp only));refine box_event ?hg (N:=4) ?hd (cs:= #[.int .i64 0,.slice none 0 0]) (t:=24) ?hr ?_;(case hd=>rfl);(case hg=>rfl);(case hr=>first|(go_simp;done)|(go_simp;rfl));intro gb539 hg w37 hbox hb;have n0_:=Aside0.mk (blk_below (g:=gb537) (o:= .cells #[.int .i64 a0_0,.slice A0_1 l0_1.length c0_1] 24 (0,0)) (z3 BK537) hb);have n1_:=Aside0.mk (blk_below (g:=gb538) (o:= .cells #[.int .i64 a1_0,.int .i64 a1_1,.int .i64 a1_2] 53 (0,0)) (z3 BK538) hb);have n2_:=Aside0.mk (below_step (zb2 HB GE537 GE538) hb);have n3_:=Aside0.mk (hbox);have n4_:=Aside0.mk ((by rw [hg];exact(below_size (zb2 HB GE537 GE538)):w.heap.size≤gb539));have n5_:=Aside0.mk ((by rw [hg];exact(below_size (zb2 HB GE537 GE538)):w.heap.size≤gb539));have n6_:=Aside0.mk ((by rw [hg];exact Nat.ne_of_lt (blk_lt (g:=gb537) (o:= .cells #[.int .i64 a0_0,.slice A0_1 l0_1.length c0_1] 24 (0,0)) (z3 BK537)):gb537≠gb539));have n7_:=Aside0.mk ((by rw [hg];exact Nat.ne_of_gt (blk_lt (g:=gb537) (o:= .cells #[.int .i64 a0_0,.slice A0_1 l0_1.length c0_1] 24 (0,0)) (z3 BK537)):gb539≠gb537));have n8_:=Aside0.mk ((by rw [hg];exact Nat.ne_of_lt (blk_lt (g:=gb538) (o:= .cells #[.int .i64 a1_0,.int .i64 a1_1,.int .i64 a1_2] 53 (0,0)) (z3 BK538)):gb538≠gb539));have n9_:=Aside0.mk ((by rw [hg];exact Nat.ne_of_gt (blk_lt (g:=gb538) (o:= .cells #[.int .i64 a1_0,.int .i64 a1_1,.int .i64 a1_2] 53 (0,0)) (z3 BK538)):gb539≠gb538));clear BK537;clear BK538;clear HB;have BK537:=n0_;have BK538:=n1_;have HB:=n2_;have BK539:=n3_;have GW539:=n4_;have GE539:=n5_;have NB537_539:=n6_;have NB539_537:=n7_;have NB538_539:=n8_;have NB539_538:=n9_;clear n0_ n1_ n2_ n3_ n4_ n5_ n6_ n7_ n8_ n9_;clear hb hbox hg))
    have n0_:=Aside0.mk (blk_drew BK537.out)
    have n1_:=Aside0.mk (blk_drew BK538.out)
    have n2_:=Aside0.mk (blk_drew BK539.out)
    have n3_:=Aside0.mk (below_drew1 HB.out)
    clear BK537
    clear BK538
    clear BK539
    clear HB
    have BK537:=n0_
    have BK538:=n1_
    have BK539:=n2_
    have HB:=n3_
    clear n0_ n1_ n2_ n3_
    refine start_ (n:=24) (S:=fun w'=>w'.cell? ⟨gb537,0,none⟩=some (.int .i64 a0_0)∧w'.cell? ⟨gb537,1,none⟩=some (.slice A0_1 l0_1.length c0_1)∧w'.cell? ⟨gb538,0,none⟩=some (.int .i64 a1_0)∧w'.cell? ⟨gb538,1,none⟩=some (.int .i64 a1_1)∧w'.cell? ⟨gb538,2,none⟩=some (.int .i64 a1_2)) (ds:= []) #[f',f',f',f',f',f',f',f',f',f',f',f',f',f',f',f',f',f',f',f',f',f',f',f'] (by kernel_rfl) rfl rfl ⟨(blk_cell BK537.out 0).trans rfl,(blk_cell BK537.out 1).trans rfl,(blk_cell BK538.out 0).trans rfl,(blk_cell BK538.out 1).trans rfl,(blk_cell BK538.out 2).trans rfl⟩ (fun hHeld=>?_);refine with_tabW spec_Learn.tab1 spec_Learn.bits1 (fun HT_ HW_=>?_)
    generalize w37.drew=w38 at BK537 BK538 BK539 HB hHeld ⊢
    refine take_ (i:=0) (N:=some 6) (v:=?_) (a':=?_) #[t',f',f',f',f',f',f',f',f',f',f',f',f',f',f',f',f',f',f',f',f',f',f',f'] rfl rfl (take_ofW HT_.out HW_.out (by kernel_rfl)) (fun _ _ _ h=>h) (Or.inl ⟨by rfl,?_⟩) hHeld ?_ ?_
    rotate_left
    ·rintro w' ⟨s0,s1,s2,s3,s4⟩
     go_simp
     with_reducible rfl
    rotate_left
    ·simp only [Act.put,z5,z6,z7,i64_w,i32_w]
     rfl
    refine one_ (i:=1) (N:=some 7) #[t',t',f',f',f',f',f',f',f',f',f',f',f',f',f',f',f',f',f',f',f',f',f',f'] rfl rfl (one_of HT_.out (by kernel_rfl)) (by decide) (fun K hK=>?_)
    refine goes_ Try.func18 (by kernel_rfl) rfl #[.agg #[.int .i64 a0_0,.slice A0_1 l0_1.length c0_1]] (by rfl) rfl rfl z2 ?_
    with_reducible refine(spec_GoodTable.calls k a0_0 _ _ l0_1 true _ ?side1 ?side2 A3.out).mono ?_
    (case side1=>repeat(first|exact(Kd.C_below HR0_1.out HB.out)|(with_reducible refine Kd.C_alloc ?_ _)|(with_reducible refine Kd.C_drewN ?_ _)|(with_reducible refine Kd.C_drew ?_)))
    (case side2=>exact HC0_1.out)
    rintro e w39 ⟨rfl,hb⟩
    refine⟨_,rfl,?_⟩
    have n0_:=Aside0.mk (blk_below (g:=gb537) (o:= .cells #[.int .i64 a0_0,.slice A0_1 l0_1.length c0_1] 24 (0,0)) (z3 BK537) hb)
    have n1_:=Aside0.mk (blk_below (g:=gb538) (o:= .cells #[.int .i64 a1_0,.int .i64 a1_1,.int .i64 a1_2] 53 (0,0)) (z3 BK538) hb)
    have n2_:=Aside0.mk (blk_below (g:=gb539) (o:= .cells #[.int .i64 0,.slice none 0 0] 24 (0,0)) (z3 BK539) hb)
    have n3_:=Aside0.mk (below_step (zb3 HB GE537 GE538 GE539) hb)
    clear BK537
    clear BK538
    clear BK539
    clear HB
    have BK537:=n0_
    have BK538:=n1_
    have BK539:=n2_
    have HB:=n3_
    clear n0_ n1_ n2_ n3_
    (try clear hb)
    (try clear hb2)
    (try clear hk)
    (try clear hi)
    refine hK.out _ _ ⟨(blk_cell BK537.out 0).trans rfl,(blk_cell BK537.out 1).trans rfl,(blk_cell BK538.out 0).trans rfl,(blk_cell BK538.out 1).trans rfl,(blk_cell BK538.out 2).trans rfl⟩ (fun hHeld=>?_)
    clear hK K
    refine norm_ (a':=?_) ?_ ?_
    rotate_left
    ·show Act.put _ (some 7) _=_
     simp only [Act.put,z5,z6,z7,i64_w,i32_w]
     rfl
    refine pure_ (i:=2) (N:=some 8) (v:=?_) (a':=?_) #[t',t',t',f',f',f',f',f',f',f',f',f',f',f',f',f',f',f',f',f',f',f',f',f'] rfl rfl (any_of HT_.out (by kernel_rfl)) (fun _ _ _ h=>h) (Or.inl ⟨by rfl,?_⟩) ?_ ?_
    rotate_left
    ·intro w'
     go_simp
     with_reducible rfl
    rotate_left
    ·simp only [Act.put,z5,z6,z7,i64_w,i32_w]
     rfl
    refine pure_ (i:=3) (N:=some 9) (v:=?_) (a':=?_) #[t',t',t',t',f',f',f',f',f',f',f',f',f',f',f',f',f',f',f',f',f',f',f',f'] rfl rfl (any_of HT_.out (by kernel_rfl)) (fun _ _ _ h=>h) (Or.inl ⟨by rfl,?_⟩) ?_ ?_
    rotate_left
    ·intro w'
     go_simp
     with_reducible rfl
    rotate_left
    ·simp only [Act.put,z5,z6,z7,i64_w,i32_w]
     rfl
    refine take_ (i:=4) (N:=some 10) (v:=?_) (a':=?_) #[t',t',t',t',t',f',f',f',f',f',f',f',f',f',f',f',f',f',f',f',f',f',f',f'] rfl rfl (take_ofW HT_.out HW_.out (by kernel_rfl)) (fun _ _ _ h=>h) (Or.inl ⟨by rfl,?_⟩) hHeld ?_ ?_
    rotate_left
    ·rintro w' ⟨s0,s1,s2,s3,s4⟩
     go_simp
     with_reducible rfl
    rotate_left
    ·simp only [Act.put,z5,z6,z7,i64_w,i32_w]
     rfl
    refine one_ (i:=5) (N:=some 11) #[t',t',t',t',t',t',f',f',f',f',f',f',f',f',f',f',f',f',f',f',f',f',f',f'] rfl rfl (one_of HT_.out (by kernel_rfl)) (by decide) (fun K hK=>?_)
    refine goes_ Try.func44 (by kernel_rfl) rfl #[.agg #[.int .i64 a1_0,.int .i64 a1_1,.int .i64 a1_2]] (by rfl) rfl rfl z2 ?_
    with_reducible refine(spec_l13Row.calls a1_0 a1_1 a1_2 true _ A5.out).mono ?_
    rintro e w40 ⟨rfl,hb⟩
    refine⟨_,rfl,?_⟩
    have n0_:=Aside0.mk (blk_below (g:=gb537) (o:= .cells #[.int .i64 a0_0,.slice A0_1 l0_1.length c0_1] 24 (0,0)) (z3 BK537) hb)
    have n1_:=Aside0.mk (blk_below (g:=gb538) (o:= .cells #[.int .i64 a1_0,.int .i64 a1_1,.int .i64 a1_2] 53 (0,0)) (z3 BK538) hb)
    have n2_:=Aside0.mk (blk_below (g:=gb539) (o:= .cells #[.int .i64 0,.slice none 0 0] 24 (0,0)) (z3 BK539) hb)
    have n3_:=Aside0.mk (below_step (zb3 HB GE537 GE538 GE539) hb)
    clear BK537
    clear BK538
    clear BK539
    clear HB
    have BK537:=n0_
    have BK538:=n1_
    have BK539:=n2_
    have HB:=n3_
    clear n0_ n1_ n2_ n3_
    (try clear hb)
    (try clear hb2)
    (try clear hk)
    (try clear hi)
    refine hK.out _ _ ⟨(blk_cell BK537.out 0).trans rfl,(blk_cell BK537.out 1).trans rfl,(blk_cell BK538.out 0).trans rfl,(blk_cell BK538.out 1).trans rfl,(blk_cell BK538.out 2).trans rfl⟩ (fun hHeld=>?_)
    clear hK K
    refine norm_ (a':=?_) ?_ ?_
    rotate_left
    ·show Act.put _ (some 11) _=_
     simp only [Act.put,z5,z6,z7,i64_w,i32_w]
     rfl
    refine pure_ (i:=6) (N:=some 12) (v:=?_) (a':=?_) #[t',t',t',t',t',t',t',f',f',f',f',f',f',f',f',f',f',f',f',f',f',f',f',f'] rfl rfl (any_of HT_.out (by kernel_rfl)) (fun _ _ _ h=>h) (Or.inl ⟨by rfl,?_⟩) ?_ ?_
    rotate_left
    ·intro w'
     go_simp
     with_reducible rfl
    rotate_left
    ·simp only [Act.put,z5,z6,z7,i64_w,i32_w]
     rfl
    refine pure_ (i:=7) (N:=some 13) (v:=?_) (a':=?_) #[t',t',t',t',t',t',t',t',f',f',f',f',f',f',f',f',f',f',f',f',f',f',f',f'] rfl rfl (any_of HT_.out (by kernel_rfl)) (fun _ _ _ h=>h) (Or.inl ⟨by rfl,?_⟩) ?_ ?_
    rotate_left
    ·intro w'
     go_simp
     with_reducible rfl
    rotate_left
    ·simp only [Act.put,z5,z6,z7,i64_w,i32_w]
     rfl
    refine pure_ (i:=8) (N:=some 14) (v:=?_) (a':=?_) #[t',t',t',t',t',t',t',t',t',f',f',f',f',f',f',f',f',f',f',f',f',f',f',f'] rfl rfl (any_of HT_.out (by kernel_rfl)) (fun _ _ _ h=>h) (Or.inl ⟨by rfl,?_⟩) ?_ ?_
    rotate_left
    ·intro w'
     go_simp
     with_reducible rfl
    rotate_left
    ·simp only [Act.put,z5,z6,z7,i64_w,i32_w]
     rfl
    refine pure_ (i:=9) (N:=some 15) (v:=?_) (a':=?_) #[t',t',t',t',t',t',t',t',t',t',f',f',f',f',f',f',f',f',f',f',f',f',f',f'] rfl rfl (any_of HT_.out (by kernel_rfl)) (fun _ _ _ h=>h) (Or.inl ⟨by rfl,?_⟩) ?_ ?_
    rotate_left
    ·intro w'
     go_simp
     with_reducible rfl
    rotate_left
    ·simp only [Act.put,z5,z6,z7,i64_w,i32_w]
     rfl
    refine take_ (i:=10) (N:=some 16) (v:=?_) (a':=?_) #[t',t',t',t',t',t',t',t',t',t',t',f',f',f',f',f',f',f',f',f',f',f',f',f'] rfl rfl (take_ofW HT_.out HW_.out (by kernel_rfl)) (fun _ _ _ h=>h) (Or.inl ⟨by rfl,?_⟩) hHeld ?_ ?_
    rotate_left
    ·rintro w' ⟨s0,s1,s2,s3,s4⟩
     go_simp
     with_reducible rfl
    rotate_left
    ·simp only [Act.put,z5,z6,z7,i64_w,i32_w]
     rfl
    refine pure_ (i:=11) (N:=some 17) (v:=?_) (a':=?_) #[t',t',t',t',t',t',t',t',t',t',t',t',f',f',f',f',f',f',f',f',f',f',f',f'] rfl rfl (any_of HT_.out (by kernel_rfl)) (fun _ _ _ h=>h) (Or.inl ⟨by rfl,?_⟩) ?_ ?_
    rotate_left
    ·intro w'
     go_simp
     with_reducible rfl
    rotate_left
    ·simp only [Act.put,z5,z6,z7,i64_w,i32_w]
     rfl
    refine pure_ (i:=12) (N:=some 18) (v:=?_) (a':=?_) #[t',t',t',t',t',t',t',t',t',t',t',t',t',f',f',f',f',f',f',f',f',f',f',f'] rfl rfl (any_of HT_.out (by kernel_rfl)) (fun _ _ _ h=>h) (Or.inl ⟨by rfl,?_⟩) ?_ ?_
    rotate_left
    ·intro w'
     go_simp
     with_reducible rfl
    rotate_left
    ·simp only [Act.put,z5,z6,z7,i64_w,i32_w]
     rfl
    refine pure_ (i:=13) (N:=some 19) (v:=?_) (a':=?_) #[t',t',t',t',t',t',t',t',t',t',t',t',t',t',f',f',f',f',f',f',f',f',f',f'] rfl rfl (any_of HT_.out (by kernel_rfl)) (fun _ _ _ h=>h) (Or.inl ⟨by rfl,?_⟩) ?_ ?_
    rotate_left
    ·intro w'
     go_simp
     with_reducible rfl
    rotate_left
    ·simp only [Act.put,z5,z6,z7,i64_w,i32_w]
     rfl
    refine pure_ (i:=14) (N:=some 20) (v:=undef) (a':=?_) #[t',t',t',t',t',t',t',t',t',t',t',t',t',t',t',f',f',f',f',f',f',f',f',f'] rfl rfl (any_of HT_.out (by kernel_rfl)) (fun _ _ _ h=>h) (Or.inr ⟨by rfl,rfl⟩) ?_ ?_
    rotate_left
    ·simp only [Act.put,z5,z6,z7,i64_w,i32_w]
     rfl
    refine pure_ (i:=15) (N:=some 21) (v:=undef) (a':=?_) #[t',t',t',t',t',t',t',t',t',t',t',t',t',t',t',t',f',f',f',f',f',f',f',f'] rfl rfl (any_of HT_.out (by kernel_rfl)) (fun _ _ _ h=>h) (Or.inr ⟨by rfl,rfl⟩) ?_ ?_
    rotate_left
    ·simp only [Act.put,z5,z6,z7,i64_w,i32_w]
     rfl
    refine pure_ (i:=16) (N:=some 22) (v:=undef) (a':=?_) #[t',t',t',t',t',t',t',t',t',t',t',t',t',t',t',t',t',f',f',f',f',f',f',f'] rfl rfl (any_of HT_.out (by kernel_rfl)) (fun _ _ _ h=>h) (Or.inr ⟨by rfl,rfl⟩) ?_ ?_
    rotate_left
    ·simp only [Act.put,z5,z6,z7,i64_w,i32_w]
     rfl
    refine pure_ (i:=17) (N:=some 23) (v:=undef) (a':=?_) #[t',t',t',t',t',t',t',t',t',t',t',t',t',t',t',t',t',t',f',f',f',f',f',f'] rfl rfl (any_of HT_.out (by kernel_rfl)) (fun _ _ _ h=>h) (Or.inr ⟨by rfl,rfl⟩) ?_ ?_
    rotate_left
    ·simp only [Act.put,z5,z6,z7,i64_w,i32_w]
     rfl
    refine pure_ (i:=18) (N:=some 24) (v:=undef) (a':=?_) #[t',t',t',t',t',t',t',t',t',t',t',t',t',t',t',t',t',t',t',f',f',f',f',f'] rfl rfl (any_of HT_.out (by kernel_rfl)) (fun _ _ _ h=>h) (Or.inr ⟨by rfl,rfl⟩) ?_ ?_
    rotate_left
    ·simp only [Act.put,z5,z6,z7,i64_w,i32_w]
     rfl
    refine pure_ (i:=19) (N:=some 25) (v:=undef) (a':=?_) #[t',t',t',t',t',t',t',t',t',t',t',t',t',t',t',t',t',t',t',t',f',f',f',f'] rfl rfl (any_of HT_.out (by kernel_rfl)) (fun _ _ _ h=>h) (Or.inr ⟨by rfl,rfl⟩) ?_ ?_
    rotate_left
    ·simp only [Act.put,z5,z6,z7,i64_w,i32_w]
     rfl
    refine pure_ (i:=20) (N:=some 26) (v:=undef) (a':=?_) #[t',t',t',t',t',t',t',t',t',t',t',t',t',t',t',t',t',t',t',t',t',f',f',f'] rfl rfl (any_of HT_.out (by kernel_rfl)) (fun _ _ _ h=>h) (Or.inr ⟨by rfl,rfl⟩) ?_ ?_
    rotate_left
    ·simp only [Act.put,z5,z6,z7,i64_w,i32_w]
     rfl
    refine pure_ (i:=21) (N:=some 27) (v:=undef) (a':=?_) #[t',t',t',t',t',t',t',t',t',t',t',t',t',t',t',t',t',t',t',t',t',t',f',f'] rfl rfl (any_of HT_.out (by kernel_rfl)) (fun _ _ _ h=>h) (Or.inr ⟨by rfl,rfl⟩) ?_ ?_
    rotate_left
    ·simp only [Act.put,z5,z6,z7,i64_w,i32_w]
     rfl
    refine pure_ (i:=22) (N:=some 28) (v:=?_) (a':=?_) #[t',t',t',t',t',t',t',t',t',t',t',t',t',t',t',t',t',t',t',t',t',t',t',f'] rfl rfl (any_of HT_.out (by kernel_rfl)) (fun _ _ _ h=>h) (Or.inl ⟨by rfl,?_⟩) ?_ ?_
    rotate_left
    ·intro w'
     go_simp
     with_reducible rfl
    rotate_left
    ·simp only [Act.put,z5,z6,z7,i64_w,i32_w]
     rfl
    refine pure_ (i:=23) (N:=some 29) (v:=?_) (a':=?_) #[t',t',t',t',t',t',t',t',t',t',t',t',t',t',t',t',t',t',t',t',t',t',t',t'] rfl rfl (any_of HT_.out (by kernel_rfl)) (fun _ _ _ h=>h) (Or.inl ⟨by rfl,?_⟩) ?_ ?_
    rotate_left
    ·intro w'
     go_simp
     with_reducible rfl
    rotate_left
    ·simp only [Act.put,z5,z6,z7,i64_w,i32_w]
     rfl
    refine done_ (done_of HT_.out (by kernel_rfl)) ?_
    have hnb41:=NB537_538.out
    have hnc41:=NB538_537.out
    have hnb42:=NB537_539.out
    have hnc42:=NB539_537.out
    have hcz43_0:w40.cell? ⟨gb537,0,none⟩=some (.int .i64 a0_0):=(blk_cell BK537.out 0).trans rfl
    have hcz43_1:w40.cell? ⟨gb537,1,none⟩=some (.slice A0_1 l0_1.length c0_1):=(blk_cell BK537.out 1).trans rfl
    have hfz43_0:=blk_frozen BK537.out 0
    have hfz43_1:=blk_frozen BK537.out 1
    have hnb44:=NB538_539.out
    have hnc44:=NB539_538.out
    have hcz45_0:w40.cell? ⟨gb538,0,none⟩=some (.int .i64 a1_0):=(blk_cell BK538.out 0).trans rfl
    have hcz45_1:w40.cell? ⟨gb538,1,none⟩=some (.int .i64 a1_1):=(blk_cell BK538.out 1).trans rfl
    have hcz45_2:w40.cell? ⟨gb538,2,none⟩=some (.int .i64 a1_2):=(blk_cell BK538.out 2).trans rfl
    have hfz45_0:=blk_frozen BK538.out 0
    have hfz45_1:=blk_frozen BK538.out 1
    have hfz45_2:=blk_frozen BK538.out 2
    try go_wp2_with (first|((with_reducible refine gate_callee (f:=49) rfl ?_);refine goesL_ (some 33) rfl rfl Try.func49 (by kernel_rfl) rfl #[.agg #[.int .i64 a0_0,.slice A0_1 l0_1.length c0_1],.agg #[.int .i64 a1_0,.int .i64 a1_1,.int .i64 a1_2]] rfl z2 ?_;(with_reducible refine(spec_l13Learn.calls k a0_0 _ _ l0_1 a1_0 a1_1 a1_2 t547 t548 _ ?side1 ?side2 A34.out).mono ?_);(case side1=>repeat(first|exact(Kd.C_below HR0_1.out HB.out)|(with_reducible refine Kd.C_alloc ?_ _)|(with_reducible refine Kd.C_drewN ?_ _)|(with_reducible refine Kd.C_drew ?_)));(case side2=>exact HC0_1.out);rintro e w46 ⟨v549,rfl,ho0,hb⟩;refine⟨_,rfl,?_⟩;have n0_:=Aside0.mk (Kd.R_lower (Kd.R_newB ho0 (g:=gb538) (o:= .cells #[.int .i64 a1_0,.int .i64 a1_1,.int .i64 a1_2] 53 (0,0)) (z3 BK538)) (below_size (zb3 HB GE537 GE538 GE539)));have n1_:=Aside0.mk (blk_below (g:=gb537) (o:= .cells #[.int .i64 a0_0,.slice A0_1 l0_1.length c0_1] 24 (0,0)) (z3 BK537) hb);have n2_:=Aside0.mk (blk_below (g:=gb538) (o:= .cells #[.int .i64 a1_0,.int .i64 a1_1,.int .i64 a1_2] 53 (0,0)) (z3 BK538) hb);have n3_:=Aside0.mk (blk_below (g:=gb539) (o:= .cells #[.int .i64 0,.slice none 0 0] 24 (0,0)) (z3 BK539) hb);have n4_:=Aside0.mk (below_step (zb3 HB GE537 GE538 GE539) hb);clear BK537;clear BK538;clear BK539;clear HB;have HO550:=n0_;have BK537:=n1_;have BK538:=n2_;have BK539:=n3_;have HB:=n4_;clear n0_ n1_ n2_ n3_ n4_;(try clear hb);(try clear hb2);(try clear hk);(try clear hi);(try clear ho0);have hcz47_0:w46.cell? ⟨gb539,0,none⟩=some (.int .i64 0):=(blk_cell BK539.out 0).trans rfl;have hcz47_1:w46.cell? ⟨gb539,1,none⟩=some (.slice none 0 0):=(blk_cell BK539.out 1).trans rfl;have hfz47_0:=blk_frozen BK539.out 0;have hfz47_1:=blk_frozen BK539.out 1;obtain⟨Ao48,co48,eo48⟩:=Kd.R_slice HO550.out;subst eo48))
    refine bodyPost_ret (results_ct rfl _ _ gb539 24 #[.int .i64 t547,.slice Ao48 t548.length co48] (0,0) _ rfl (by(with_reducible repeat(first|refine blk_drewN ?_ _|refine blk_drew ?_ |refine blk_alloc ?_ _));refine blk_put (cs:= #[.int .i64 t547,.slice none 0 0]) ?_ 1 _ rfl;(with_reducible repeat(first|refine blk_drewN ?_ _|refine blk_drew ?_ |refine blk_alloc ?_ _));refine blk_put (cs:= #[.int .i64 0,.slice none 0 0]) ?_ 0 _ rfl;(with_reducible repeat(first|refine blk_drewN ?_ _|refine blk_drew ?_ |refine blk_alloc ?_ _));exact BK539.out) Try.underlying24 rfl (by kernel_rfl)) rfl ?_
    exact⟨_,by first|rfl|(simp [errW_none,errW_some]<;>rfl)|(simp [*,errW_none,errW_some]<;>rfl),by(with_reducible repeat(first|apply Kd.R_alloc|apply Kd.R_drewN|apply Kd.R_drew));exact Kd.R_mono (Kd.R_far (p:=⟨gb539,1,none⟩) (Kd.R_far (p:=⟨gb539,0,none⟩) (Kd.R_types HO550.out BK539.out (by decide)) (fun _ hk=>hk.2) (.int .i64 t547)) (fun _ hk=>hk.2) (.slice Ao48 t548.length co48)) (fun _ hk=>trivial),by repeat(first|(with_reducible first|exact HB.out|apply below_alloc|apply pw_below_drewN|apply below_drew1|refine below_set ?_ GE537.out|refine below_set ?_ GE538.out|refine below_set ?_ GE539.out)|exact HB.out)⟩
  ·replace c6:=Bool.eq_false_iff.mpr c6
   subst c6
   have H1:(some (0,([] :List (S53)),false))=some (r1,r2,r3):=by rw [if_neg (show ¬ (false=true) by decide)] at H;exact H
   clear H
   have H:=H1
   clear H1
   simp only [Option.some.injEq,Prod.mk.injEq] at H
   obtain⟨rfl,rfl,rfl⟩:=H
   go_enter Try.func35,Try.ntmps35
   try go_wp2_with (first|((with_reducible refine gate_dst (N:=2) rfl ?_);(try(refine gate_guard (by rfl) ?_;dsimp only));refine box_event ?hg (N:=2) ?hd (cs:= #[.int .i64 a0_0,.slice A0_1 l0_1.length c0_1]) (t:=24) ?hr ?_;(case hd=>rfl);(case hg=>rfl);(case hr=>first|(go_simp;done)|(go_simp;rfl));intro gb537 hg w49 hbox hb;have n0_:=Aside0.mk (below_step (zb0 HB) hb);have n1_:=Aside0.mk (hbox);have n2_:=Aside0.mk ((by rw [hg];exact(below_size (zb0 HB)):w.heap.size≤gb537));have n3_:=Aside0.mk ((by rw [hg];exact(below_size (zb0 HB)):w.heap.size≤gb537));clear HB;have HB:=n0_;have BK537:=n1_;have GW537:=n2_;have GE537:=n3_;clear n0_ n1_ n2_ n3_;clear hb hbox hg)|((with_reducible refine gate_dst (N:=3) rfl ?_);(try(refine gate_guard (by rfl) ?_;dsimp only));refine box_event ?hg (N:=3) ?hd (cs:= #[.int .i64 a1_0,.int .i64 a1_1,.int .i64 a1_2]) (t:=53) ?hr ?_;(case hd=>rfl);(case hg=>rfl);(case hr=>first|(go_simp;done)|(go_simp;rfl));intro gb538 hg w50 hbox hb;have n0_:=Aside0.mk (blk_below (g:=gb537) (o:= .cells #[.int .i64 a0_0,.slice A0_1 l0_1.length c0_1] 24 (0,0)) (z3 BK537) hb);have n1_:=Aside0.mk (below_step (zb1 HB GE537) hb);have n2_:=Aside0.mk (hbox);have n3_:=Aside0.mk ((by rw [hg];exact(below_size (zb1 HB GE537)):w.heap.size≤gb538));have n4_:=Aside0.mk ((by rw [hg];exact(below_size (zb1 HB GE537)):w.heap.size≤gb538));have n5_:=Aside0.mk ((by rw [hg];exact Nat.ne_of_lt (blk_lt (g:=gb537) (o:= .cells #[.int .i64 a0_0,.slice A0_1 l0_1.length c0_1] 24 (0,0)) (z3 BK537)):gb537≠gb538));have n6_:=Aside0.mk ((by rw [hg];exact Nat.ne_of_gt (blk_lt (g:=gb537) (o:= .cells #[.int .i64 a0_0,.slice A0_1 l0_1.length c0_1] 24 (0,0)) (z3 BK537)):gb538≠gb537));clear BK537;clear HB;have BK537:=n0_;have HB:=n1_;have BK538:=n2_;have GW538:=n3_;have GE538:=n4_;have NB537_538:=n5_;have NB538_537:=n6_;clear n0_ n1_ n2_ n3_ n4_ n5_ n6_;clear hb hbox hg)|((with_reducible refine gate_dst (N:=4) rfl ?_);(try(refine gate_guard (by rfl) ?_;dsimp only));refine box_event ?hg (N:=4) ?hd (cs:= #[.int .i64 0,.slice none 0 0]) (t:=24) ?hr ?_;(case hd=>rfl);(case hg=>rfl);(case hr=>first|(go_simp;done)|(go_simp;rfl));intro gb539 hg w51 hbox hb;have n0_:=Aside0.mk (blk_below (g:=gb537) (o:= .cells #[.int .i64 a0_0,.slice A0_1 l0_1.length c0_1] 24 (0,0)) (z3 BK537) hb);have n1_:=Aside0.mk (blk_below (g:=gb538) (o:= .cells #[.int .i64 a1_0,.int .i64 a1_1,.int .i64 a1_2] 53 (0,0)) (z3 BK538) hb);have n2_:=Aside0.mk (below_step (zb2 HB GE537 GE538) hb);have n3_:=Aside0.mk (hbox);have n4_:=Aside0.mk ((by rw [hg];exact(below_size (zb2 HB GE537 GE538)):w.heap.size≤gb539));have n5_:=Aside0.mk ((by rw [hg];exact(below_size (zb2 HB GE537 GE538)):w.heap.size≤gb539));have n6_:=Aside0.mk ((by rw [hg];exact Nat.ne_of_lt (blk_lt (g:=gb537) (o:= .cells #[.int .i64 a0_0,.slice A0_1 l0_1.length c0_1] 24 (0,0)) (z3 BK537)):gb537≠gb539));have n7_:=Aside0.mk ((by rw [hg];exact Nat.ne_of_gt (blk_lt (g:=gb537) (o:= .cells #[.int .i64 a0_0,.slice A0_1 l0_1.length c0_1] 24 (0,0)) (z3 BK537)):gb539≠gb537));have n8_:=Aside0.mk ((by rw [hg];exact Nat.ne_of_lt (blk_lt (g:=gb538) (o:= .cells #[.int .i64 a1_0,.int .i64 a1_1,.int .i64 a1_2] 53 (0,0)) (z3 BK538)):gb538≠gb539));have n9_:=Aside0.mk ((by rw [hg];exact Nat.ne_of_gt (blk_lt (g:=gb538) (o:= .cells #[.int .i64 a1_0,.int .i64 a1_1,.int .i64 a1_2] 53 (0,0)) (z3 BK538)):gb539≠gb538));clear BK537;clear BK538;clear HB;have BK537:=n0_;have BK538:=n1_;have HB:=n2_;have BK539:=n3_;have GW539:=n4_;have GE539:=n5_;have NB537_539:=n6_;have NB539_537:=n7_;have NB538_539:=n8_;have NB539_538:=n9_;clear n0_ n1_ n2_ n3_ n4_ n5_ n6_ n7_ n8_ n9_;clear hb hbox hg))
   have n0_:=Aside0.mk (blk_drew BK537.out)
   have n1_:=Aside0.mk (blk_drew BK538.out)
   have n2_:=Aside0.mk (blk_drew BK539.out)
   have n3_:=Aside0.mk (below_drew1 HB.out)
   clear BK537
   clear BK538
   clear BK539
   clear HB
   have BK537:=n0_
   have BK538:=n1_
   have BK539:=n2_
   have HB:=n3_
   clear n0_ n1_ n2_ n3_
   refine start_ (n:=24) (S:=fun w'=>w'.cell? ⟨gb537,0,none⟩=some (.int .i64 a0_0)∧w'.cell? ⟨gb537,1,none⟩=some (.slice A0_1 l0_1.length c0_1)∧w'.cell? ⟨gb538,0,none⟩=some (.int .i64 a1_0)∧w'.cell? ⟨gb538,1,none⟩=some (.int .i64 a1_1)∧w'.cell? ⟨gb538,2,none⟩=some (.int .i64 a1_2)) (ds:= []) #[f',f',f',f',f',f',f',f',f',f',f',f',f',f',f',f',f',f',f',f',f',f',f',f'] (by kernel_rfl) rfl rfl ⟨(blk_cell BK537.out 0).trans rfl,(blk_cell BK537.out 1).trans rfl,(blk_cell BK538.out 0).trans rfl,(blk_cell BK538.out 1).trans rfl,(blk_cell BK538.out 2).trans rfl⟩ (fun hHeld=>?_);refine with_tabW spec_Learn.tab1 spec_Learn.bits1 (fun HT_ HW_=>?_)
   generalize w51.drew=w52 at BK537 BK538 BK539 HB hHeld ⊢
   refine take_ (i:=0) (N:=some 6) (v:=?_) (a':=?_) #[t',f',f',f',f',f',f',f',f',f',f',f',f',f',f',f',f',f',f',f',f',f',f',f'] rfl rfl (take_ofW HT_.out HW_.out (by kernel_rfl)) (fun _ _ _ h=>h) (Or.inl ⟨by rfl,?_⟩) hHeld ?_ ?_
   rotate_left
   ·rintro w' ⟨s0,s1,s2,s3,s4⟩
    go_simp
    with_reducible rfl
   rotate_left
   ·simp only [Act.put,z5,z6,z7,i64_w,i32_w]
    rfl
   refine one_ (i:=1) (N:=some 7) #[t',t',f',f',f',f',f',f',f',f',f',f',f',f',f',f',f',f',f',f',f',f',f',f'] rfl rfl (one_of HT_.out (by kernel_rfl)) (by decide) (fun K hK=>?_)
   refine goes_ Try.func18 (by kernel_rfl) rfl #[.agg #[.int .i64 a0_0,.slice A0_1 l0_1.length c0_1]] (by rfl) rfl rfl z2 ?_
   with_reducible refine(spec_GoodTable.calls k a0_0 _ _ l0_1 true _ ?side1 ?side2 A3.out).mono ?_
   (case side1=>repeat(first|exact(Kd.C_below HR0_1.out HB.out)|(with_reducible refine Kd.C_alloc ?_ _)|(with_reducible refine Kd.C_drewN ?_ _)|(with_reducible refine Kd.C_drew ?_)))
   (case side2=>exact HC0_1.out)
   rintro e w53 ⟨rfl,hb⟩
   refine⟨_,rfl,?_⟩
   have n0_:=Aside0.mk (blk_below (g:=gb537) (o:= .cells #[.int .i64 a0_0,.slice A0_1 l0_1.length c0_1] 24 (0,0)) (z3 BK537) hb)
   have n1_:=Aside0.mk (blk_below (g:=gb538) (o:= .cells #[.int .i64 a1_0,.int .i64 a1_1,.int .i64 a1_2] 53 (0,0)) (z3 BK538) hb)
   have n2_:=Aside0.mk (blk_below (g:=gb539) (o:= .cells #[.int .i64 0,.slice none 0 0] 24 (0,0)) (z3 BK539) hb)
   have n3_:=Aside0.mk (below_step (zb3 HB GE537 GE538 GE539) hb)
   clear BK537
   clear BK538
   clear BK539
   clear HB
   have BK537:=n0_
   have BK538:=n1_
   have BK539:=n2_
   have HB:=n3_
   clear n0_ n1_ n2_ n3_
   (try clear hb)
   (try clear hb2)
   (try clear hk)
   (try clear hi)
   refine hK.out _ _ ⟨(blk_cell BK537.out 0).trans rfl,(blk_cell BK537.out 1).trans rfl,(blk_cell BK538.out 0).trans rfl,(blk_cell BK538.out 1).trans rfl,(blk_cell BK538.out 2).trans rfl⟩ (fun hHeld=>?_)
   clear hK K
   refine norm_ (a':=?_) ?_ ?_
   rotate_left
   ·show Act.put _ (some 7) _=_
    simp only [Act.put,z5,z6,z7,i64_w,i32_w]
    rfl
   refine pure_ (i:=2) (N:=some 8) (v:=?_) (a':=?_) #[t',t',t',f',f',f',f',f',f',f',f',f',f',f',f',f',f',f',f',f',f',f',f',f'] rfl rfl (any_of HT_.out (by kernel_rfl)) (fun _ _ _ h=>h) (Or.inl ⟨by rfl,?_⟩) ?_ ?_
   rotate_left
   ·intro w'
    go_simp
    with_reducible rfl
   rotate_left
   ·simp only [Act.put,z5,z6,z7,i64_w,i32_w]
    rfl
   refine pure_ (i:=3) (N:=some 9) (v:=?_) (a':=?_) #[t',t',t',t',f',f',f',f',f',f',f',f',f',f',f',f',f',f',f',f',f',f',f',f'] rfl rfl (any_of HT_.out (by kernel_rfl)) (fun _ _ _ h=>h) (Or.inl ⟨by rfl,?_⟩) ?_ ?_
   rotate_left
   ·intro w'
    go_simp
    with_reducible rfl
   rotate_left
   ·simp only [Act.put,z5,z6,z7,i64_w,i32_w]
    rfl
   refine take_ (i:=4) (N:=some 10) (v:=?_) (a':=?_) #[t',t',t',t',t',f',f',f',f',f',f',f',f',f',f',f',f',f',f',f',f',f',f',f'] rfl rfl (take_ofW HT_.out HW_.out (by kernel_rfl)) (fun _ _ _ h=>h) (Or.inl ⟨by rfl,?_⟩) hHeld ?_ ?_
   rotate_left
   ·rintro w' ⟨s0,s1,s2,s3,s4⟩
    go_simp
    with_reducible rfl
   rotate_left
   ·simp only [Act.put,z5,z6,z7,i64_w,i32_w]
    rfl
   refine one_ (i:=5) (N:=some 11) #[t',t',t',t',t',t',f',f',f',f',f',f',f',f',f',f',f',f',f',f',f',f',f',f'] rfl rfl (one_of HT_.out (by kernel_rfl)) (by decide) (fun K hK=>?_)
   refine goes_ Try.func44 (by kernel_rfl) rfl #[.agg #[.int .i64 a1_0,.int .i64 a1_1,.int .i64 a1_2]] (by rfl) rfl rfl z2 ?_
   with_reducible refine(spec_l13Row.calls a1_0 a1_1 a1_2 false _ A5.out).mono ?_
   rintro e w54 ⟨rfl,hb⟩
   refine⟨_,rfl,?_⟩
   have n0_:=Aside0.mk (blk_below (g:=gb537) (o:= .cells #[.int .i64 a0_0,.slice A0_1 l0_1.length c0_1] 24 (0,0)) (z3 BK537) hb)
   have n1_:=Aside0.mk (blk_below (g:=gb538) (o:= .cells #[.int .i64 a1_0,.int .i64 a1_1,.int .i64 a1_2] 53 (0,0)) (z3 BK538) hb)
   have n2_:=Aside0.mk (blk_below (g:=gb539) (o:= .cells #[.int .i64 0,.slice none 0 0] 24 (0,0)) (z3 BK539) hb)
   have n3_:=Aside0.mk (below_step (zb3 HB GE537 GE538 GE539) hb)
   clear BK537
   clear BK538
   clear BK539
   clear HB
   have BK537:=n0_
   have BK538:=n1_
   have BK539:=n2_
   have HB:=n3_
   clear n0_ n1_ n2_ n3_
   (try clear hb)
   (try clear hb2)
   (try clear hk)
   (try clear hi)
   refine hK.out _ _ ⟨(blk_cell BK537.out 0).trans rfl,(blk_cell BK537.out 1).trans rfl,(blk_cell BK538.out 0).trans rfl,(blk_cell BK538.out 1).trans rfl,(blk_cell BK538.out 2).trans rfl⟩ (fun hHeld=>?_)
   clear hK K
   refine norm_ (a':=?_) ?_ ?_
   rotate_left
   ·show Act.put _ (some 11) _=_
    simp only [Act.put,z5,z6,z7,i64_w,i32_w]
    rfl
   refine pure_ (i:=6) (N:=some 12) (v:=?_) (a':=?_) #[t',t',t',t',t',t',t',f',f',f',f',f',f',f',f',f',f',f',f',f',f',f',f',f'] rfl rfl (any_of HT_.out (by kernel_rfl)) (fun _ _ _ h=>h) (Or.inl ⟨by rfl,?_⟩) ?_ ?_
   rotate_left
   ·intro w'
    go_simp
    with_reducible rfl
   rotate_left
   ·simp only [Act.put,z5,z6,z7,i64_w,i32_w]
    rfl
   refine pure_ (i:=7) (N:=some 13) (v:=?_) (a':=?_) #[t',t',t',t',t',t',t',t',f',f',f',f',f',f',f',f',f',f',f',f',f',f',f',f'] rfl rfl (any_of HT_.out (by kernel_rfl)) (fun _ _ _ h=>h) (Or.inl ⟨by rfl,?_⟩) ?_ ?_
   rotate_left
   ·intro w'
    go_simp
    with_reducible rfl
   rotate_left
   ·simp only [Act.put,z5,z6,z7,i64_w,i32_w]
    rfl
   refine pure_ (i:=8) (N:=some 14) (v:=?_) (a':=?_) #[t',t',t',t',t',t',t',t',t',f',f',f',f',f',f',f',f',f',f',f',f',f',f',f'] rfl rfl (any_of HT_.out (by kernel_rfl)) (fun _ _ _ h=>h) (Or.inl ⟨by rfl,?_⟩) ?_ ?_
   rotate_left
   ·intro w'
    go_simp
    with_reducible rfl
   rotate_left
   ·simp only [Act.put,z5,z6,z7,i64_w,i32_w]
    rfl
   refine pure_ (i:=9) (N:=some 15) (v:=undef) (a':=?_) #[t',t',t',t',t',t',t',t',t',t',f',f',f',f',f',f',f',f',f',f',f',f',f',f'] rfl rfl (any_of HT_.out (by kernel_rfl)) (fun _ _ _ h=>h) (Or.inr ⟨by rfl,rfl⟩) ?_ ?_
   rotate_left
   ·simp only [Act.put,z5,z6,z7,i64_w,i32_w]
    rfl
   refine pure_ (i:=10) (N:=some 16) (v:=undef) (a':=?_) #[t',t',t',t',t',t',t',t',t',t',t',f',f',f',f',f',f',f',f',f',f',f',f',f'] rfl rfl (any_of HT_.out (by kernel_rfl)) (fun _ _ _ h=>h) (Or.inr ⟨by rfl,rfl⟩) ?_ ?_
   rotate_left
   ·simp only [Act.put,z5,z6,z7,i64_w,i32_w]
    rfl
   refine pure_ (i:=11) (N:=some 17) (v:=undef) (a':=?_) #[t',t',t',t',t',t',t',t',t',t',t',t',f',f',f',f',f',f',f',f',f',f',f',f'] rfl rfl (any_of HT_.out (by kernel_rfl)) (fun _ _ _ h=>h) (Or.inr ⟨by rfl,rfl⟩) ?_ ?_
   rotate_left
   ·simp only [Act.put,z5,z6,z7,i64_w,i32_w]
    rfl
   refine pure_ (i:=12) (N:=some 18) (v:=undef) (a':=?_) #[t',t',t',t',t',t',t',t',t',t',t',t',t',f',f',f',f',f',f',f',f',f',f',f'] rfl rfl (any_of HT_.out (by kernel_rfl)) (fun _ _ _ h=>h) (Or.inr ⟨by rfl,rfl⟩) ?_ ?_
   rotate_left
   ·simp only [Act.put,z5,z6,z7,i64_w,i32_w]
    rfl
   refine pure_ (i:=13) (N:=some 19) (v:=undef) (a':=?_) #[t',t',t',t',t',t',t',t',t',t',t',t',t',t',f',f',f',f',f',f',f',f',f',f'] rfl rfl (any_of HT_.out (by kernel_rfl)) (fun _ _ _ h=>h) (Or.inr ⟨by rfl,rfl⟩) ?_ ?_
   rotate_left
   ·simp only [Act.put,z5,z6,z7,i64_w,i32_w]
    rfl
   refine pure_ (i:=14) (N:=some 20) (v:=undef) (a':=?_) #[t',t',t',t',t',t',t',t',t',t',t',t',t',t',t',f',f',f',f',f',f',f',f',f'] rfl rfl (any_of HT_.out (by kernel_rfl)) (fun _ _ _ h=>h) (Or.inr ⟨by rfl,rfl⟩) ?_ ?_
   rotate_left
   ·simp only [Act.put,z5,z6,z7,i64_w,i32_w]
    rfl
   refine pure_ (i:=15) (N:=some 21) (v:=undef) (a':=?_) #[t',t',t',t',t',t',t',t',t',t',t',t',t',t',t',t',f',f',f',f',f',f',f',f'] rfl rfl (any_of HT_.out (by kernel_rfl)) (fun _ _ _ h=>h) (Or.inr ⟨by rfl,rfl⟩) ?_ ?_
   rotate_left
   ·simp only [Act.put,z5,z6,z7,i64_w,i32_w]
    rfl
   refine pure_ (i:=16) (N:=some 22) (v:=undef) (a':=?_) #[t',t',t',t',t',t',t',t',t',t',t',t',t',t',t',t',t',f',f',f',f',f',f',f'] rfl rfl (any_of HT_.out (by kernel_rfl)) (fun _ _ _ h=>h) (Or.inr ⟨by rfl,rfl⟩) ?_ ?_
   rotate_left
   ·simp only [Act.put,z5,z6,z7,i64_w,i32_w]
    rfl
   refine pure_ (i:=17) (N:=some 23) (v:=undef) (a':=?_) #[t',t',t',t',t',t',t',t',t',t',t',t',t',t',t',t',t',t',f',f',f',f',f',f'] rfl rfl (any_of HT_.out (by kernel_rfl)) (fun _ _ _ h=>h) (Or.inr ⟨by rfl,rfl⟩) ?_ ?_
   rotate_left
   ·simp only [Act.put,z5,z6,z7,i64_w,i32_w]
    rfl
   refine pure_ (i:=18) (N:=some 24) (v:=undef) (a':=?_) #[t',t',t',t',t',t',t',t',t',t',t',t',t',t',t',t',t',t',t',f',f',f',f',f'] rfl rfl (any_of HT_.out (by kernel_rfl)) (fun _ _ _ h=>h) (Or.inr ⟨by rfl,rfl⟩) ?_ ?_
   rotate_left
   ·simp only [Act.put,z5,z6,z7,i64_w,i32_w]
    rfl
   refine pure_ (i:=19) (N:=some 25) (v:=undef) (a':=?_) #[t',t',t',t',t',t',t',t',t',t',t',t',t',t',t',t',t',t',t',t',f',f',f',f'] rfl rfl (any_of HT_.out (by kernel_rfl)) (fun _ _ _ h=>h) (Or.inr ⟨by rfl,rfl⟩) ?_ ?_
   rotate_left
   ·simp only [Act.put,z5,z6,z7,i64_w,i32_w]
    rfl
   refine pure_ (i:=20) (N:=some 26) (v:=undef) (a':=?_) #[t',t',t',t',t',t',t',t',t',t',t',t',t',t',t',t',t',t',t',t',t',f',f',f'] rfl rfl (any_of HT_.out (by kernel_rfl)) (fun _ _ _ h=>h) (Or.inr ⟨by rfl,rfl⟩) ?_ ?_
   rotate_left
   ·simp only [Act.put,z5,z6,z7,i64_w,i32_w]
    rfl
   refine pure_ (i:=21) (N:=some 27) (v:=undef) (a':=?_) #[t',t',t',t',t',t',t',t',t',t',t',t',t',t',t',t',t',t',t',t',t',t',f',f'] rfl rfl (any_of HT_.out (by kernel_rfl)) (fun _ _ _ h=>h) (Or.inr ⟨by rfl,rfl⟩) ?_ ?_
   rotate_left
   ·simp only [Act.put,z5,z6,z7,i64_w,i32_w]
    rfl
   refine pure_ (i:=22) (N:=some 28) (v:=undef) (a':=?_) #[t',t',t',t',t',t',t',t',t',t',t',t',t',t',t',t',t',t',t',t',t',t',t',f'] rfl rfl (any_of HT_.out (by kernel_rfl)) (fun _ _ _ h=>h) (Or.inr ⟨by rfl,rfl⟩) ?_ ?_
   rotate_left
   ·simp only [Act.put,z5,z6,z7,i64_w,i32_w]
    rfl
   refine pure_ (i:=23) (N:=some 29) (v:=?_) (a':=?_) #[t',t',t',t',t',t',t',t',t',t',t',t',t',t',t',t',t',t',t',t',t',t',t',t'] rfl rfl (any_of HT_.out (by kernel_rfl)) (fun _ _ _ h=>h) (Or.inl ⟨by rfl,?_⟩) ?_ ?_
   rotate_left
   ·intro w'
    go_simp
    with_reducible rfl
   rotate_left
   ·simp only [Act.put,z5,z6,z7,i64_w,i32_w]
    rfl
   refine done_ (done_of HT_.out (by kernel_rfl)) ?_
   have hnb55:=NB539_537.out
   have hnc55:=NB537_539.out
   have hnb56:=NB539_538.out
   have hnc56:=NB538_539.out
   have hcz57_0:w54.cell? ⟨gb539,0,none⟩=some (.int .i64 0):=(blk_cell BK539.out 0).trans rfl
   have hcz57_1:w54.cell? ⟨gb539,1,none⟩=some (.slice none 0 0):=(blk_cell BK539.out 1).trans rfl
   have hfz57_0:=blk_frozen BK539.out 0
   have hfz57_1:=blk_frozen BK539.out 1
   try go_wp2
   refine bodyPost_ret (results_ct rfl _ _ gb539 24 #[.int .i64 0,.slice none 0 0] (0,0) _ rfl (by(with_reducible repeat(first|refine blk_drewN ?_ _|refine blk_drew ?_ |refine blk_alloc ?_ _));refine blk_put (cs:= #[.int .i64 0,.slice none 0 0]) ?_ 1 _ rfl;(with_reducible repeat(first|refine blk_drewN ?_ _|refine blk_drew ?_ |refine blk_alloc ?_ _));refine blk_put (cs:= #[.int .i64 0,.slice none 0 0]) ?_ 0 _ rfl;(with_reducible repeat(first|refine blk_drewN ?_ _|refine blk_drew ?_ |refine blk_alloc ?_ _));exact BK539.out) Try.underlying24 rfl (by kernel_rfl)) rfl ?_
   exact⟨_,by first|rfl|(simp [errW_none,errW_some]<;>rfl)|(simp [*,errW_none,errW_some]<;>rfl),by first|exact Kd.R_nil _ _ _ _ _|exact Kd.N_nil _ _ _ _ _|exact Kd.V_nil _ _ _ _ _|exact Kd.Q_nil _ _ _ _ _|exact Kd.S_nil _ _ _ _ _,by repeat(first|(with_reducible first|exact HB.out|apply below_alloc|apply pw_below_drewN|apply below_drew1|refine below_set ?_ GE537.out|refine below_set ?_ GE538.out|refine below_set ?_ GE539.out)|exact HB.out)⟩
 ·replace c4:=Bool.eq_false_iff.mpr c4
  subst c4
  have H1:(some (0,([] :List (S53)),false))=some (r1,r2,r3):=by rw [if_neg (show ¬ (false=true) by decide)] at H;exact H
  clear H
  have H:=H1
  clear H1
  simp only [Option.some.injEq,Prod.mk.injEq] at H
  obtain⟨rfl,rfl,rfl⟩:=H
  go_enter Try.func35,Try.ntmps35
  try go_wp2_with (first|((with_reducible refine gate_dst (N:=2) rfl ?_);(try(refine gate_guard (by rfl) ?_;dsimp only));refine box_event ?hg (N:=2) ?hd (cs:= #[.int .i64 a0_0,.slice A0_1 l0_1.length c0_1]) (t:=24) ?hr ?_;(case hd=>rfl);(case hg=>rfl);(case hr=>first|(go_simp;done)|(go_simp;rfl));intro gb537 hg w58 hbox hb;have n0_:=Aside0.mk (below_step (zb0 HB) hb);have n1_:=Aside0.mk (hbox);have n2_:=Aside0.mk ((by rw [hg];exact(below_size (zb0 HB)):w.heap.size≤gb537));have n3_:=Aside0.mk ((by rw [hg];exact(below_size (zb0 HB)):w.heap.size≤gb537));clear HB;have HB:=n0_;have BK537:=n1_;have GW537:=n2_;have GE537:=n3_;clear n0_ n1_ n2_ n3_;clear hb hbox hg)|((with_reducible refine gate_dst (N:=3) rfl ?_);(try(refine gate_guard (by rfl) ?_;dsimp only));refine box_event ?hg (N:=3) ?hd (cs:= #[.int .i64 a1_0,.int .i64 a1_1,.int .i64 a1_2]) (t:=53) ?hr ?_;(case hd=>rfl);(case hg=>rfl);(case hr=>first|(go_simp;done)|(go_simp;rfl));intro gb538 hg w59 hbox hb;have n0_:=Aside0.mk (blk_below (g:=gb537) (o:= .cells #[.int .i64 a0_0,.slice A0_1 l0_1.length c0_1] 24 (0,0)) (z3 BK537) hb);have n1_:=Aside0.mk (below_step (zb1 HB GE537) hb);have n2_:=Aside0.mk (hbox);have n3_:=Aside0.mk ((by rw [hg];exact(below_size (zb1 HB GE537)):w.heap.size≤gb538));have n4_:=Aside0.mk ((by rw [hg];exact(below_size (zb1 HB GE537)):w.heap.size≤gb538));have n5_:=Aside0.mk ((by rw [hg];exact Nat.ne_of_lt (blk_lt (g:=gb537) (o:= .cells #[.int .i64 a0_0,.slice A0_1 l0_1.length c0_1] 24 (0,0)) (z3 BK537)):gb537≠gb538));have n6_:=Aside0.mk ((by rw [hg];exact Nat.ne_of_gt (blk_lt (g:=gb537) (o:= .cells #[.int .i64 a0_0,.slice A0_1 l0_1.length c0_1] 24 (0,0)) (z3 BK537)):gb538≠gb537));clear BK537;clear HB;have BK537:=n0_;have HB:=n1_;have BK538:=n2_;have GW538:=n3_;have GE538:=n4_;have NB537_538:=n5_;have NB538_537:=n6_;clear n0_ n1_ n2_ n3_ n4_ n5_ n6_;clear hb hbox hg)|((with_reducible refine gate_dst (N:=4) rfl ?_);(try(refine gate_guard (by rfl) ?_;dsimp only));refine box_event ?hg (N:=4) ?hd (cs:= #[.int .i64 0,.slice none 0 0]) (t:=24) ?hr ?_;(case hd=>rfl);(case hg=>rfl);(case hr=>first|(go_simp;done)|(go_simp;rfl));intro gb539 hg w60 hbox hb;have n0_:=Aside0.mk (blk_below (g:=gb537) (o:= .cells #[.int .i64 a0_0,.slice A0_1 l0_1.length c0_1] 24 (0,0)) (z3 BK537) hb);have n1_:=Aside0.mk (blk_below (g:=gb538) (o:= .cells #[.int .i64 a1_0,.int .i64 a1_1,.int .i64 a1_2] 53 (0,0)) (z3 BK538) hb);have n2_:=Aside0.mk (below_step (zb2 HB GE537 GE538) hb);have n3_:=Aside0.mk (hbox);have n4_:=Aside0.mk ((by rw [hg];exact(below_size (zb2 HB GE537 GE538)):w.heap.size≤gb539));have n5_:=Aside0.mk ((by rw [hg];exact(below_size (zb2 HB GE537 GE538)):w.heap.size≤gb539));have n6_:=Aside0.mk ((by rw [hg];exact Nat.ne_of_lt (blk_lt (g:=gb537) (o:= .cells #[.int .i64 a0_0,.slice A0_1 l0_1.length c0_1] 24 (0,0)) (z3 BK537)):gb537≠gb539));have n7_:=Aside0.mk ((by rw [hg];exact Nat.ne_of_gt (blk_lt (g:=gb537) (o:= .cells #[.int .i64 a0_0,.slice A0_1 l0_1.length c0_1] 24 (0,0)) (z3 BK537)):gb539≠gb537));have n8_:=Aside0.mk ((by rw [hg];exact Nat.ne_of_lt (blk_lt (g:=gb538) (o:= .cells #[.int .i64 a1_0,.int .i64 a1_1,.int .i64 a1_2] 53 (0,0)) (z3 BK538)):gb538≠gb539));have n9_:=Aside0.mk ((by rw [hg];exact Nat.ne_of_gt (blk_lt (g:=gb538) (o:= .cells #[.int .i64 a1_0,.int .i64 a1_1,.int .i64 a1_2] 53 (0,0)) (z3 BK538)):gb539≠gb538));clear BK537;clear BK538;clear HB;have BK537:=n0_;have BK538:=n1_;have HB:=n2_;have BK539:=n3_;have GW539:=n4_;have GE539:=n5_;have NB537_539:=n6_;have NB539_537:=n7_;have NB538_539:=n8_;have NB539_538:=n9_;clear n0_ n1_ n2_ n3_ n4_ n5_ n6_ n7_ n8_ n9_;clear hb hbox hg))
  have n0_:=Aside0.mk (blk_drew BK537.out)
  have n1_:=Aside0.mk (blk_drew BK538.out)
  have n2_:=Aside0.mk (blk_drew BK539.out)
  have n3_:=Aside0.mk (below_drew1 HB.out)
  clear BK537
  clear BK538
  clear BK539
  clear HB
  have BK537:=n0_
  have BK538:=n1_
  have BK539:=n2_
  have HB:=n3_
  clear n0_ n1_ n2_ n3_
  refine start_ (n:=24) (S:=fun w'=>w'.cell? ⟨gb537,0,none⟩=some (.int .i64 a0_0)∧w'.cell? ⟨gb537,1,none⟩=some (.slice A0_1 l0_1.length c0_1)) (ds:= []) #[f',f',f',f',f',f',f',f',f',f',f',f',f',f',f',f',f',f',f',f',f',f',f',f'] (by kernel_rfl) rfl rfl ⟨(blk_cell BK537.out 0).trans rfl,(blk_cell BK537.out 1).trans rfl⟩ (fun hHeld=>?_);refine with_tabW spec_Learn.tab1 spec_Learn.bits1 (fun HT_ HW_=>?_)
  generalize w60.drew=w61 at BK537 BK538 BK539 HB hHeld ⊢
  refine take_ (i:=0) (N:=some 6) (v:=?_) (a':=?_) #[t',f',f',f',f',f',f',f',f',f',f',f',f',f',f',f',f',f',f',f',f',f',f',f'] rfl rfl (take_ofW HT_.out HW_.out (by kernel_rfl)) (fun _ _ _ h=>h) (Or.inl ⟨by rfl,?_⟩) hHeld ?_ ?_
  rotate_left
  ·rintro w' ⟨s0,s1⟩
   go_simp
   with_reducible rfl
  rotate_left
  ·simp only [Act.put,z5,z6,z7,i64_w,i32_w]
   rfl
  refine one_ (i:=1) (N:=some 7) #[t',t',f',f',f',f',f',f',f',f',f',f',f',f',f',f',f',f',f',f',f',f',f',f'] rfl rfl (one_of HT_.out (by kernel_rfl)) (by decide) (fun K hK=>?_)
  refine goes_ Try.func18 (by kernel_rfl) rfl #[.agg #[.int .i64 a0_0,.slice A0_1 l0_1.length c0_1]] (by rfl) rfl rfl z2 ?_
  with_reducible refine(spec_GoodTable.calls k a0_0 _ _ l0_1 false _ ?side1 ?side2 A3.out).mono ?_
  (case side1=>repeat(first|exact(Kd.C_below HR0_1.out HB.out)|(with_reducible refine Kd.C_alloc ?_ _)|(with_reducible refine Kd.C_drewN ?_ _)|(with_reducible refine Kd.C_drew ?_)))
  (case side2=>exact HC0_1.out)
  rintro e w62 ⟨rfl,hb⟩
  refine⟨_,rfl,?_⟩
  have n0_:=Aside0.mk (blk_below (g:=gb537) (o:= .cells #[.int .i64 a0_0,.slice A0_1 l0_1.length c0_1] 24 (0,0)) (z3 BK537) hb)
  have n1_:=Aside0.mk (blk_below (g:=gb538) (o:= .cells #[.int .i64 a1_0,.int .i64 a1_1,.int .i64 a1_2] 53 (0,0)) (z3 BK538) hb)
  have n2_:=Aside0.mk (blk_below (g:=gb539) (o:= .cells #[.int .i64 0,.slice none 0 0] 24 (0,0)) (z3 BK539) hb)
  have n3_:=Aside0.mk (below_step (zb3 HB GE537 GE538 GE539) hb)
  clear BK537
  clear BK538
  clear BK539
  clear HB
  have BK537:=n0_
  have BK538:=n1_
  have BK539:=n2_
  have HB:=n3_
  clear n0_ n1_ n2_ n3_
  (try clear hb)
  (try clear hb2)
  (try clear hk)
  (try clear hi)
  refine hK.out _ _ ⟨(blk_cell BK537.out 0).trans rfl,(blk_cell BK537.out 1).trans rfl⟩ (fun hHeld=>?_)
  clear hK K
  refine norm_ (a':=?_) ?_ ?_
  rotate_left
  ·show Act.put _ (some 7) _=_
   simp only [Act.put,z5,z6,z7,i64_w,i32_w]
   rfl
  refine pure_ (i:=2) (N:=some 8) (v:=?_) (a':=?_) #[t',t',t',f',f',f',f',f',f',f',f',f',f',f',f',f',f',f',f',f',f',f',f',f'] rfl rfl (any_of HT_.out (by kernel_rfl)) (fun _ _ _ h=>h) (Or.inl ⟨by rfl,?_⟩) ?_ ?_
  rotate_left
  ·intro w'
   go_simp
   with_reducible rfl
  rotate_left
  ·simp only [Act.put,z5,z6,z7,i64_w,i32_w]
   rfl
  refine pure_ (i:=3) (N:=some 9) (v:=?_) (a':=?_) #[t',t',t',t',f',f',f',f',f',f',f',f',f',f',f',f',f',f',f',f',f',f',f',f'] rfl rfl (any_of HT_.out (by kernel_rfl)) (fun _ _ _ h=>h) (Or.inl ⟨by rfl,?_⟩) ?_ ?_
  rotate_left
  ·intro w'
   go_simp
   with_reducible rfl
  rotate_left
  ·simp only [Act.put,z5,z6,z7,i64_w,i32_w]
   rfl
  refine pure_ (i:=4) (N:=some 10) (v:=undef) (a':=?_) #[t',t',t',t',t',f',f',f',f',f',f',f',f',f',f',f',f',f',f',f',f',f',f',f'] rfl rfl (any_of HT_.out (by kernel_rfl)) (fun _ _ _ h=>h) (Or.inr ⟨by rfl,rfl⟩) ?_ ?_
  rotate_left
  ·simp only [Act.put,z5,z6,z7,i64_w,i32_w]
   rfl
  refine pure_ (i:=5) (N:=some 11) (v:=undef) (a':=?_) #[t',t',t',t',t',t',f',f',f',f',f',f',f',f',f',f',f',f',f',f',f',f',f',f'] rfl rfl (any_of HT_.out (by kernel_rfl)) (fun _ _ _ h=>h) (Or.inr ⟨by rfl,rfl⟩) ?_ ?_
  rotate_left
  ·simp only [Act.put,z5,z6,z7,i64_w,i32_w]
   rfl
  refine pure_ (i:=6) (N:=some 12) (v:=undef) (a':=?_) #[t',t',t',t',t',t',t',f',f',f',f',f',f',f',f',f',f',f',f',f',f',f',f',f'] rfl rfl (any_of HT_.out (by kernel_rfl)) (fun _ _ _ h=>h) (Or.inr ⟨by rfl,rfl⟩) ?_ ?_
  rotate_left
  ·simp only [Act.put,z5,z6,z7,i64_w,i32_w]
   rfl
  refine pure_ (i:=7) (N:=some 13) (v:=?_) (a':=?_) #[t',t',t',t',t',t',t',t',f',f',f',f',f',f',f',f',f',f',f',f',f',f',f',f'] rfl rfl (any_of HT_.out (by kernel_rfl)) (fun _ _ _ h=>h) (Or.inl ⟨by rfl,?_⟩) ?_ ?_
  rotate_left
  ·intro w'
   go_simp
   with_reducible rfl
  rotate_left
  ·simp only [Act.put,z5,z6,z7,i64_w,i32_w]
   rfl
  refine pure_ (i:=8) (N:=some 14) (v:=?_) (a':=?_) #[t',t',t',t',t',t',t',t',t',f',f',f',f',f',f',f',f',f',f',f',f',f',f',f'] rfl rfl (any_of HT_.out (by kernel_rfl)) (fun _ _ _ h=>h) (Or.inl ⟨by rfl,?_⟩) ?_ ?_
  rotate_left
  ·intro w'
   go_simp
   with_reducible rfl
  rotate_left
  ·simp only [Act.put,z5,z6,z7,i64_w,i32_w]
   rfl
  refine pure_ (i:=9) (N:=some 15) (v:=undef) (a':=?_) #[t',t',t',t',t',t',t',t',t',t',f',f',f',f',f',f',f',f',f',f',f',f',f',f'] rfl rfl (any_of HT_.out (by kernel_rfl)) (fun _ _ _ h=>h) (Or.inr ⟨by rfl,rfl⟩) ?_ ?_
  rotate_left
  ·simp only [Act.put,z5,z6,z7,i64_w,i32_w]
   rfl
  refine pure_ (i:=10) (N:=some 16) (v:=undef) (a':=?_) #[t',t',t',t',t',t',t',t',t',t',t',f',f',f',f',f',f',f',f',f',f',f',f',f'] rfl rfl (any_of HT_.out (by kernel_rfl)) (fun _ _ _ h=>h) (Or.inr ⟨by rfl,rfl⟩) ?_ ?_
  rotate_left
  ·simp only [Act.put,z5,z6,z7,i64_w,i32_w]
   rfl
  refine pure_ (i:=11) (N:=some 17) (v:=undef) (a':=?_) #[t',t',t',t',t',t',t',t',t',t',t',t',f',f',f',f',f',f',f',f',f',f',f',f'] rfl rfl (any_of HT_.out (by kernel_rfl)) (fun _ _ _ h=>h) (Or.inr ⟨by rfl,rfl⟩) ?_ ?_
  rotate_left
  ·simp only [Act.put,z5,z6,z7,i64_w,i32_w]
   rfl
  refine pure_ (i:=12) (N:=some 18) (v:=undef) (a':=?_) #[t',t',t',t',t',t',t',t',t',t',t',t',t',f',f',f',f',f',f',f',f',f',f',f'] rfl rfl (any_of HT_.out (by kernel_rfl)) (fun _ _ _ h=>h) (Or.inr ⟨by rfl,rfl⟩) ?_ ?_
  rotate_left
  ·simp only [Act.put,z5,z6,z7,i64_w,i32_w]
   rfl
  refine pure_ (i:=13) (N:=some 19) (v:=undef) (a':=?_) #[t',t',t',t',t',t',t',t',t',t',t',t',t',t',f',f',f',f',f',f',f',f',f',f'] rfl rfl (any_of HT_.out (by kernel_rfl)) (fun _ _ _ h=>h) (Or.inr ⟨by rfl,rfl⟩) ?_ ?_
  rotate_left
  ·simp only [Act.put,z5,z6,z7,i64_w,i32_w]
   rfl
  refine pure_ (i:=14) (N:=some 20) (v:=undef) (a':=?_) #[t',t',t',t',t',t',t',t',t',t',t',t',t',t',t',f',f',f',f',f',f',f',f',f'] rfl rfl (any_of HT_.out (by kernel_rfl)) (fun _ _ _ h=>h) (Or.inr ⟨by rfl,rfl⟩) ?_ ?_
  rotate_left
  ·simp only [Act.put,z5,z6,z7,i64_w,i32_w]
   rfl
  refine pure_ (i:=15) (N:=some 21) (v:=undef) (a':=?_) #[t',t',t',t',t',t',t',t',t',t',t',t',t',t',t',t',f',f',f',f',f',f',f',f'] rfl rfl (any_of HT_.out (by kernel_rfl)) (fun _ _ _ h=>h) (Or.inr ⟨by rfl,rfl⟩) ?_ ?_
  rotate_left
  ·simp only [Act.put,z5,z6,z7,i64_w,i32_w]
   rfl
  refine pure_ (i:=16) (N:=some 22) (v:=undef) (a':=?_) #[t',t',t',t',t',t',t',t',t',t',t',t',t',t',t',t',t',f',f',f',f',f',f',f'] rfl rfl (any_of HT_.out (by kernel_rfl)) (fun _ _ _ h=>h) (Or.inr ⟨by rfl,rfl⟩) ?_ ?_
  rotate_left
  ·simp only [Act.put,z5,z6,z7,i64_w,i32_w]
   rfl
  refine pure_ (i:=17) (N:=some 23) (v:=undef) (a':=?_) #[t',t',t',t',t',t',t',t',t',t',t',t',t',t',t',t',t',t',f',f',f',f',f',f'] rfl rfl (any_of HT_.out (by kernel_rfl)) (fun _ _ _ h=>h) (Or.inr ⟨by rfl,rfl⟩) ?_ ?_
  rotate_left
  ·simp only [Act.put,z5,z6,z7,i64_w,i32_w]
   rfl
  refine pure_ (i:=18) (N:=some 24) (v:=undef) (a':=?_) #[t',t',t',t',t',t',t',t',t',t',t',t',t',t',t',t',t',t',t',f',f',f',f',f'] rfl rfl (any_of HT_.out (by kernel_rfl)) (fun _ _ _ h=>h) (Or.inr ⟨by rfl,rfl⟩) ?_ ?_
  rotate_left
  ·simp only [Act.put,z5,z6,z7,i64_w,i32_w]
   rfl
  refine pure_ (i:=19) (N:=some 25) (v:=undef) (a':=?_) #[t',t',t',t',t',t',t',t',t',t',t',t',t',t',t',t',t',t',t',t',f',f',f',f'] rfl rfl (any_of HT_.out (by kernel_rfl)) (fun _ _ _ h=>h) (Or.inr ⟨by rfl,rfl⟩) ?_ ?_
  rotate_left
  ·simp only [Act.put,z5,z6,z7,i64_w,i32_w]
   rfl
  refine pure_ (i:=20) (N:=some 26) (v:=undef) (a':=?_) #[t',t',t',t',t',t',t',t',t',t',t',t',t',t',t',t',t',t',t',t',t',f',f',f'] rfl rfl (any_of HT_.out (by kernel_rfl)) (fun _ _ _ h=>h) (Or.inr ⟨by rfl,rfl⟩) ?_ ?_
  rotate_left
  ·simp only [Act.put,z5,z6,z7,i64_w,i32_w]
   rfl
  refine pure_ (i:=21) (N:=some 27) (v:=undef) (a':=?_) #[t',t',t',t',t',t',t',t',t',t',t',t',t',t',t',t',t',t',t',t',t',t',f',f'] rfl rfl (any_of HT_.out (by kernel_rfl)) (fun _ _ _ h=>h) (Or.inr ⟨by rfl,rfl⟩) ?_ ?_
  rotate_left
  ·simp only [Act.put,z5,z6,z7,i64_w,i32_w]
   rfl
  refine pure_ (i:=22) (N:=some 28) (v:=undef) (a':=?_) #[t',t',t',t',t',t',t',t',t',t',t',t',t',t',t',t',t',t',t',t',t',t',t',f'] rfl rfl (any_of HT_.out (by kernel_rfl)) (fun _ _ _ h=>h) (Or.inr ⟨by rfl,rfl⟩) ?_ ?_
  rotate_left
  ·simp only [Act.put,z5,z6,z7,i64_w,i32_w]
   rfl
  refine pure_ (i:=23) (N:=some 29) (v:=?_) (a':=?_) #[t',t',t',t',t',t',t',t',t',t',t',t',t',t',t',t',t',t',t',t',t',t',t',t'] rfl rfl (any_of HT_.out (by kernel_rfl)) (fun _ _ _ h=>h) (Or.inl ⟨by rfl,?_⟩) ?_ ?_
  rotate_left
  ·intro w'
   go_simp
   with_reducible rfl
  rotate_left
  ·simp only [Act.put,z5,z6,z7,i64_w,i32_w]
   rfl
  refine done_ (done_of HT_.out (by kernel_rfl)) ?_
  have hnb63:=NB539_537.out
  have hnc63:=NB537_539.out
  have hnb64:=NB539_538.out
  have hnc64:=NB538_539.out
  have hcz65_0:w62.cell? ⟨gb539,0,none⟩=some (.int .i64 0):=(blk_cell BK539.out 0).trans rfl
  have hcz65_1:w62.cell? ⟨gb539,1,none⟩=some (.slice none 0 0):=(blk_cell BK539.out 1).trans rfl
  have hfz65_0:=blk_frozen BK539.out 0
  have hfz65_1:=blk_frozen BK539.out 1
  try go_wp2
  refine bodyPost_ret (results_ct rfl _ _ gb539 24 #[.int .i64 0,.slice none 0 0] (0,0) _ rfl (by(with_reducible repeat(first|refine blk_drewN ?_ _|refine blk_drew ?_ |refine blk_alloc ?_ _));refine blk_put (cs:= #[.int .i64 0,.slice none 0 0]) ?_ 1 _ rfl;(with_reducible repeat(first|refine blk_drewN ?_ _|refine blk_drew ?_ |refine blk_alloc ?_ _));refine blk_put (cs:= #[.int .i64 0,.slice none 0 0]) ?_ 0 _ rfl;(with_reducible repeat(first|refine blk_drewN ?_ _|refine blk_drew ?_ |refine blk_alloc ?_ _));exact BK539.out) Try.underlying24 rfl (by kernel_rfl)) rfl ?_
  exact⟨_,by first|rfl|(simp [errW_none,errW_some]<;>rfl)|(simp [*,errW_none,errW_some]<;>rfl),by first|exact Kd.R_nil _ _ _ _ _|exact Kd.N_nil _ _ _ _ _|exact Kd.V_nil _ _ _ _ _|exact Kd.Q_nil _ _ _ _ _|exact Kd.S_nil _ _ _ _ _,by repeat(first|(with_reducible first|exact HB.out|apply below_alloc|apply pw_below_drewN|apply below_drew1|refine below_set ?_ GE537.out|refine below_set ?_ GE538.out|refine below_set ?_ GE539.out)|exact HB.out)⟩
end Go.Proofs.Ytcbofebikbbknaa.P
