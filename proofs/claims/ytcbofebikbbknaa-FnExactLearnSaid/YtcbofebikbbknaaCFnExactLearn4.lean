/- Functions, walks and plain lemmas that the law FnExactLearn reaches, part 4. -/
import Derived.Test.YtcbofebikbbknaaCFnExactLearn3
import Derived.WalkKit
import Derived.ProofKit
import Derived.OpenShut
import Derived.ChangeOld
import Derived.Below
import Derived.SizedLaws
import Derived.ChangeArms
import Derived.DataElems
import Derived.Deep.Draws
import Derived.Deep.AppendLies
import Derived.Maps.AppendAt
import Derived.OwnWalk
import Derived.Laws.BytesArg
import Derived.Laws.MakeOwn
import Derived.Laws.OwnMore
import Derived.Deep.OwnRows
import Derived.Tactics
import Derived.Lib.ConvBytes
import Derived.Laws.Slices
import Derived.KernelRfl
import Derived.RowKit3
import Derived.Deep.LoopGhost
import Derived.Deep.QuietTactic
import Derived.BigQuiet
import Derived.WideLaws
import Derived.Deep.DeepCutAuto
import Derived.Deep.CutBlock
import Derived.Deep.RegionHeld3
import Derived.Laws.Rows
import Derived.Lib.AppendStr
import Derived.ArgAppend
import Derived.Laws.IdiomCopy
import Derived.OrdersHeld
import Derived.Laws.BitsLemmas
import Derived.RowKit
import Derived.WalkSpells
import Derived.Lib.SliceRun
import Derived.Shelf.Abstract
import Derived.ShutString
namespace Go.Proofs.Ytcbofebikbbknaa.P
open Go.RowKit Go.Proofs.YtcbofebikbbknaaW.PrintWords Go.Proofs.YtcbofebikbbknaaW.PrintLast Go.Proofs.YtcbofebikbbknaaW.PrintMore
attribute [local go_sem] max2_int min2_int max_two min_two max_three min_three max_four min_four   -- for this text's walks alone
set_option linter.unusedVariables false
set_option linter.unusedSimpArgs false
def impl_Table_kept.l0 (p:S53→Bool):Nat→List (S53)→Int→Int→Int→List (S53)→Option (Int × (List (S53)))
 | 0,_,_,_,_,_=>none
 |k+1,x12,x13,x14,x277000,x277001=>if x14<x13 then(if 0≤x14 then(if x14< (x12.length:Int) then((some (p (rd_T53 x12 x14))).bind fun t279=>(if t279=true then(if x277001.length< 5864062014805 then(impl_Table_kept.l0 p k x12 x13 (wrap64 (x14+1)) x277000 (x277001++ [(⟨(rd_T53 x12 x14).f0,(rd_T53 x12 x14).f1,(rd_T53 x12 x14).f2⟩ :S53)])) else(none)) else(impl_Table_kept.l0 p k x12 x13 (wrap64 (x14+1)) x277000 x277001))) else(none)) else(none)) else(some (x277000,x277001))
def impl_Table_kept.f (k:Nat) (a0_0:Int) (l0_1:List (S53)) (p:S53→Bool):Option (Int × (List (S53))):=impl_Table_kept.l0 p k l0_1 (l0_1.length:Int) 0 a0_0 ([] :List (S53))
set_option maxHeartbeats 8000000 in
set_option maxRecDepth 100000 in
theorem impl_Table_kept.calls (k:Nat) (a0_0:Int) (A0_1:Option Addr) (c0_1:Nat) (l0_1:List (S53)) (p:S53→Bool) (g:Nat) (lb:Array Value) (eg:∀ args w,(callFunc g args).run Try.prog w= .ok (.enter g args) w) (r1:Int) (r2:List (S53)) (w:World) (hr0_1:Kd.C k53 w A0_1 l0_1.length l0_1) (hc0_1:l0_1.length≤c0_1) (hp:PredK53 g lb p w) (h:impl_Table_kept.f k a0_0 l0_1 p=some (r1,r2)):
  Calls Try.prog 52 #[.agg #[.int .i64 a0_0,.slice A0_1 l0_1.length c0_1],.func (.func g) #[] lb] w fun e w'=> ∃ v1_:Value,e= .returned (.agg #[.int .i64 r1,v1_])∧Kd.R k53 53 w' w.heap.size (fun _=>True) v1_ r2∧Below w.heap.size w w':=by
 have hu24:=Try.underlying24
 have hu53:=Try.underlying53
 have HPK:=Aside0.mk hp
 clear hp
 have HR0_1:=Aside0.mk hr0_1
 have HC0_1:=Aside0.mk hc0_1
 clear hr0_1 hc0_1
 have HB:=Aside0.mk (Below.refl w.heap.size w)
 have H:(impl_Table_kept.l0 p k l0_1 (l0_1.length:Int) 0 a0_0 ([] :List (S53)))=some (r1,r2):=h
 clear h
 have H':=Aside0.mk H
 clear H
 go_enter Try.func52,Try.ntmps52
 go_wp2_with (first|((with_reducible refine gate_dst (N:=2) rfl ?_);refine box_event ?hg (N:=2) ?hd (cs:= #[.int .i64 a0_0,.slice A0_1 l0_1.length c0_1]) (t:=24) ?hr ?_;(case hd=>rfl);(case hg=>rfl);(case hr=>first|(go_simp;done)|(go_simp;rfl));intro gb274 hg w3 hbox hb;have n0_:=Aside0.mk (below_step (zb0 HB) hb);have n1_:=Aside0.mk (hbox);have n2_:=Aside0.mk ((by rw [hg];exact(below_size (zb0 HB)):w.heap.size≤gb274));have n3_:=Aside0.mk ((by rw [hg];exact(below_size (zb0 HB)):w.heap.size≤gb274));clear HB;have HB:=n0_;have BK274:=n1_;have GW274:=n2_;have GE274:=n3_;clear n0_ n1_ n2_ n3_;clear hb hbox hg)|((with_reducible refine gate_dst (N:=4) rfl ?_);refine box_event ?hg (N:=4) ?hd (cs:= #[.int .i64 0,.slice none 0 0]) (t:=24) ?hr ?_;(case hd=>rfl);(case hg=>rfl);(case hr=>first|(go_simp;done)|(go_simp;rfl));intro gb275 hg w4 hbox hb;have n0_:=Aside0.mk (blk_below (g:=gb274) (o:= .cells #[.int .i64 a0_0,.slice A0_1 l0_1.length c0_1] 24 (0,0)) (z3 BK274) hb);have n1_:=Aside0.mk (below_step (zb1 HB GE274) hb);have n2_:=Aside0.mk (hbox);have n3_:=Aside0.mk ((by rw [hg];exact(below_size (zb1 HB GE274)):w.heap.size≤gb275));have n4_:=Aside0.mk ((by rw [hg];exact(below_size (zb1 HB GE274)):w.heap.size≤gb275));have n5_:=Aside0.mk ((by rw [hg];exact Nat.ne_of_lt (blk_lt (g:=gb274) (o:= .cells #[.int .i64 a0_0,.slice A0_1 l0_1.length c0_1] 24 (0,0)) (z3 BK274)):gb274≠gb275));have n6_:=Aside0.mk ((by rw [hg];exact Nat.ne_of_gt (blk_lt (g:=gb274) (o:= .cells #[.int .i64 a0_0,.slice A0_1 l0_1.length c0_1] 24 (0,0)) (z3 BK274)):gb275≠gb274));clear BK274;clear HB;have BK274:=n0_;have HB:=n1_;have BK275:=n2_;have GW275:=n3_;have GE275:=n4_;have NB274_275:=n5_;have NB275_274:=n6_;clear n0_ n1_ n2_ n3_ n4_ n5_ n6_;clear hb hbox hg;have hnb5:=NB274_275.out;have hnc5:=NB275_274.out;have hcz6_0:w4.cell? ⟨gb274,0,none⟩=some (.int .i64 a0_0):=(blk_cell BK274.out 0).trans rfl;have hcz6_1:w4.cell? ⟨gb274,1,none⟩=some (.slice A0_1 l0_1.length c0_1):=(blk_cell BK274.out 1).trans rfl;have hfz6_0:=blk_frozen BK274.out 0;have hfz6_1:=blk_frozen BK274.out 1)|((with_reducible refine gate_dst (N:=5) rfl ?_);refine box_event ?hg (N:=5) ?hd (cs:= #[.int .i64 0,.slice none 0 0]) (t:=24) ?hr ?_;(case hd=>rfl);(case hg=>rfl);(case hr=>first|(go_simp;done)|(go_simp;rfl));intro gb276 hg w7 hbox hb;have n0_:=Aside0.mk (blk_below (g:=gb274) (o:= .cells #[.int .i64 a0_0,.slice A0_1 l0_1.length c0_1] 24 (0,0)) (z3 BK274) hb);have n1_:=Aside0.mk (blk_below (g:=gb275) (o:= .cells #[.int .i64 0,.slice none 0 0] 24 (0,0)) (z3 BK275) hb);have n2_:=Aside0.mk (below_step (zb2 HB GE274 GE275) hb);have n3_:=Aside0.mk (hbox);have n4_:=Aside0.mk ((by rw [hg];exact(below_size (zb2 HB GE274 GE275)):w.heap.size≤gb276));have n5_:=Aside0.mk ((by rw [hg];exact(below_size (zb2 HB GE274 GE275)):w.heap.size≤gb276));have n6_:=Aside0.mk ((by rw [hg];exact Nat.ne_of_lt (blk_lt (g:=gb274) (o:= .cells #[.int .i64 a0_0,.slice A0_1 l0_1.length c0_1] 24 (0,0)) (z3 BK274)):gb274≠gb276));have n7_:=Aside0.mk ((by rw [hg];exact Nat.ne_of_gt (blk_lt (g:=gb274) (o:= .cells #[.int .i64 a0_0,.slice A0_1 l0_1.length c0_1] 24 (0,0)) (z3 BK274)):gb276≠gb274));have n8_:=Aside0.mk ((by rw [hg];exact Nat.ne_of_lt (blk_lt (g:=gb275) (o:= .cells #[.int .i64 0,.slice none 0 0] 24 (0,0)) (z3 BK275)):gb275≠gb276));have n9_:=Aside0.mk ((by rw [hg];exact Nat.ne_of_gt (blk_lt (g:=gb275) (o:= .cells #[.int .i64 0,.slice none 0 0] 24 (0,0)) (z3 BK275)):gb276≠gb275));clear BK274;clear BK275;clear HB;have BK274:=n0_;have BK275:=n1_;have HB:=n2_;have BK276:=n3_;have GW276:=n4_;have GE276:=n5_;have NB274_276:=n6_;have NB276_274:=n7_;have NB275_276:=n8_;have NB276_275:=n9_;clear n0_ n1_ n2_ n3_ n4_ n5_ n6_ n7_ n8_ n9_;clear hb hbox hg;have hnb8:=NB276_274.out;have hnc8:=NB274_276.out;have hnb9:=NB276_275.out;have hnc9:=NB275_276.out;have hcz10_0:w7.cell? ⟨gb276,0,none⟩=some (.int .i64 0):=(blk_cell BK276.out 0).trans rfl;have hcz10_1:w7.cell? ⟨gb276,1,none⟩=some (.slice none 0 0):=(blk_cell BK276.out 1).trans rfl;have hfz10_0:=blk_frozen BK276.out 0;have hfz10_1:=blk_frozen BK276.out 1;have hcz11_0:w7.cell? ⟨gb274,0,none⟩=some (.int .i64 a0_0):=(blk_cell BK274.out 0).trans rfl;have hcz11_1:w7.cell? ⟨gb274,1,none⟩=some (.slice A0_1 l0_1.length c0_1):=(blk_cell BK274.out 1).trans rfl;have hfz11_0:=blk_frozen BK274.out 0;have hfz11_1:=blk_frozen BK274.out 1))
 go_loopg [14] k (fun kq v14 w'=> ∃ (x14_1:Int) (x277001_1:List (S53)) (u277001:Value),v14= .int .i64 x14_1∧Aside0 (impl_Table_kept.l0 p kq l0_1 (l0_1.length:Int) x14_1 a0_0 x277001_1=some (r1,r2))∧Aside0 (kq≤k)∧Aside0 (Kd.R k53 53 w' w.heap.size (fun _=>True) u277001 x277001_1)∧Aside0 (w'.heap[gb274]?=some (.cells #[.int .i64 a0_0,(.slice A0_1 l0_1.length c0_1)] 24 (0,0)))∧Aside0 (w'.heap[gb275]?=some (.cells #[.int .i64 0,(.slice none 0 0)] 24 (0,0)))∧Aside0 (w'.heap[gb276]?=some (.cells #[.int .i64 a0_0,u277001] 24 (0,0)))∧Aside0 (Below w.heap.size w w'))
 case atStart=>exact⟨(0),(([] :List (S53))),(.slice none 0 0),(by first|rfl|(simp;done)|(simp [*];done)),H',⟨Nat.le_refl _⟩,⟨by first|exact Kd.R_nil _ _ _ _ _|exact Kd.N_nil _ _ _ _ _|exact Kd.V_nil _ _ _ _ _|exact Kd.Q_nil _ _ _ _ _|exact Kd.S_nil _ _ _ _ _⟩,⟨by(with_reducible repeat(first|refine blk_drewN ?_ _|refine blk_drew ?_ |refine blk_alloc ?_ _));refine blk_far ?_ NB274_276.out _;(with_reducible repeat(first|refine blk_drewN ?_ _|refine blk_drew ?_ |refine blk_alloc ?_ _));refine blk_far ?_ NB274_276.out _;(with_reducible repeat(first|refine blk_drewN ?_ _|refine blk_drew ?_ |refine blk_alloc ?_ _));exact BK274.out⟩,⟨by(with_reducible repeat(first|refine blk_drewN ?_ _|refine blk_drew ?_ |refine blk_alloc ?_ _));refine blk_far ?_ NB275_276.out _;(with_reducible repeat(first|refine blk_drewN ?_ _|refine blk_drew ?_ |refine blk_alloc ?_ _));refine blk_far ?_ NB275_276.out _;(with_reducible repeat(first|refine blk_drewN ?_ _|refine blk_drew ?_ |refine blk_alloc ?_ _));exact BK275.out⟩,⟨by(with_reducible repeat(first|refine blk_drewN ?_ _|refine blk_drew ?_ |refine blk_alloc ?_ _));refine blk_put (cs:= #[.int .i64 a0_0,.slice none 0 0]) ?_ 1 _ rfl;(with_reducible repeat(first|refine blk_drewN ?_ _|refine blk_drew ?_ |refine blk_alloc ?_ _));refine blk_put (cs:= #[.int .i64 0,.slice none 0 0]) ?_ 0 _ rfl;(with_reducible repeat(first|refine blk_drewN ?_ _|refine blk_drew ?_ |refine blk_alloc ?_ _));exact BK276.out⟩,⟨by repeat(first|(with_reducible first|exact HB.out|apply below_alloc|apply pw_below_drewN|apply below_drew1|refine below_set ?_ GE274.out|refine below_set ?_ GE275.out|refine below_set ?_ GE276.out)|exact HB.out)⟩⟩
 case round=>
  clear H'
  try clear p2
  try clear c5
  try clear c8
  try clear c9
  try clear hcz10_0
  try clear hcz10_1
  try clear hcz11_0
  try clear hcz11_1
  try clear hcz6_0
  try clear hcz6_1
  try clear hfz10_0
  try clear hfz10_1
  try clear hfz11_0
  try clear hfz11_1
  try clear hfz6_0
  try clear hfz6_1
  obtain⟨x14_1,x277001_1,u277001,rfl,HA,HK1,HO_277001,BK274,BK275,BK276,HB⟩:=hrel
  cases gk with
  |zero=>exact absurd HA.out (by simp [impl_Table_kept.l0])
  |succ k1=>
   have H:=HA.out
   clear HA
   simp only [impl_Table_kept.l0] at H
   by_cases c12:x14_1< (l0_1.length:Int)
   ·rw [if_pos c12] at H
    have c12b0:decide (x14_1< (l0_1.length:Int))=true:=decide_eq_true c12
    clear c12
    by_cases c13: 0≤x14_1
    ·rw [if_pos c13] at H
     have c13b0:decide (0≤x14_1)=true:=decide_eq_true c13
     clear c13
     by_cases c14:x14_1< (l0_1.length:Int)
     ·rw [if_pos c14] at H
      have c14b0:decide (x14_1< (l0_1.length:Int))=true:=decide_eq_true c14
      clear c14
      replace H:=Option.bind_eq_some_iff.mp H
      obtain⟨t279,A150,H⟩:=H
      replace H:(if t279=true then(if x277001_1.length< 5864062014805 then(impl_Table_kept.l0 p k1 l0_1 (l0_1.length:Int) (wrap64 (x14_1+1)) a0_0 (x277001_1++ [(⟨(rd_T53 l0_1 x14_1).f0,(rd_T53 l0_1 x14_1).f1,(rd_T53 l0_1 x14_1).f2⟩ :S53)])) else(none)) else(impl_Table_kept.l0 p k1 l0_1 (l0_1.length:Int) (wrap64 (x14_1+1)) a0_0 x277001_1))=some (r1,r2):=H
      have A15:=Aside0.mk A150
      clear A150
      by_cases c16:t279=true
      ·subst c16
       have H1:(if x277001_1.length< 5864062014805 then(impl_Table_kept.l0 p k1 l0_1 (l0_1.length:Int) (wrap64 (x14_1+1)) a0_0 (x277001_1++ [(⟨(rd_T53 l0_1 x14_1).f0,(rd_T53 l0_1 x14_1).f1,(rd_T53 l0_1 x14_1).f2⟩ :S53)])) else(none))=some (r1,r2):=by rw [if_pos rfl] at H;exact H
       clear H
       have H:=H1
       clear H1
       by_cases c17:x277001_1.length< 5864062014805
       ·rw [if_pos c17] at H
        have LMc17:=Aside0.mk c17
        clear c17
        obtain⟨y280,hy280⟩ :∃ y_:List (S53),y_= (x277001_1++ [(⟨(rd_T53 l0_1 x14_1).f0,(rd_T53 l0_1 x14_1).f1,(rd_T53 l0_1 x14_1).f2⟩ :S53)]):=⟨_,rfl⟩
        replace H:(impl_Table_kept.l0 p k1 l0_1 (l0_1.length:Int) (wrap64 (x14_1+1)) a0_0 y280)=some (r1,r2):=by first|(rw [hy280];with_reducible exact H)|(have H2_:=(Option.bind_some _ _).symm.trans H;rw [hy280];with_reducible exact H2_)|(have H2_:=(Option.bind_some _ _).symm.trans H;with_reducible exact H2_)|with_reducible exact H|(rw [hy280];exact H)|exact H
        have Ny280:=Aside0.mk hy280
        clear hy280
        have H':=Aside0.mk H
        clear H
        have p277: 0≤ (x14_1:Int):=of_decide_eq_true z1
        have q277:x14_1< (l0_1.length:Int):=of_decide_eq_true z1
        obtain⟨ad277,e277,hx277_0,hx277_1,hx277_2⟩:=at_T53 HR0_1.out x14_1 p277 q277
        cases e277
        replace hx277_0:=(HB.out.cell (World.block_lt_of_cell? w _ hx277_0)).trans hx277_0
        replace hx277_1:=(HB.out.cell (World.block_lt_of_cell? w _ hx277_1)).trans hx277_1
        replace hx277_2:=(HB.out.cell (World.block_lt_of_cell? w _ hx277_2)).trans hx277_2
        replace p277:=eq_true p277
        replace q277:=eq_true q277
        go_wp2_with (first|((with_reducible refine gate_dst (N:=7) rfl ?_);refine box_event ?hg (N:=7) ?hd (cs:= #[.int .i64 0,.int .i64 0,.int .i64 0]) (t:=53) ?hr ?_;(case hd=>rfl);(case hg=>rfl);(case hr=>first|(go_simp;done)|(go_simp;rfl));intro gb278 hg w18 hbox hb;have n0_:=Aside0.mk (Kd.R_below (Kd.R_elderB (z4 HO_277001) gb278 (Nat.le_of_eq hg.symm)) hb);have n1_:=Aside0.mk (blk_below (g:=gb274) (o:= .cells #[.int .i64 a0_0,.slice (some ad277) l0_1.length c0_1] 24 (0,0)) (z3 BK274) hb);have n2_:=Aside0.mk (blk_below (g:=gb275) (o:= .cells #[.int .i64 0,.slice none 0 0] 24 (0,0)) (z3 BK275) hb);have n3_:=Aside0.mk (blk_below (g:=gb276) (o:= .cells #[.int .i64 a0_0,u277001] 24 (0,0)) (z3 BK276) hb);have n4_:=Aside0.mk (below_step (zb3 HB GE274 GE275 GE276) hb);have n5_:=Aside0.mk (hbox);have n6_:=Aside0.mk ((by rw [hg];exact(below_size (zb3 HB GE274 GE275 GE276)):w.heap.size≤gb278));have n7_:=Aside0.mk ((by rw [hg];exact(below_size (zb3 HB GE274 GE275 GE276)):w.heap.size≤gb278));have n8_:=Aside0.mk ((by rw [hg];exact Nat.ne_of_lt (blk_lt (g:=gb274) (o:= .cells #[.int .i64 a0_0,.slice (some ad277) l0_1.length c0_1] 24 (0,0)) (z3 BK274)):gb274≠gb278));have n9_:=Aside0.mk ((by rw [hg];exact Nat.ne_of_gt (blk_lt (g:=gb274) (o:= .cells #[.int .i64 a0_0,.slice (some ad277) l0_1.length c0_1] 24 (0,0)) (z3 BK274)):gb278≠gb274));have n10_:=Aside0.mk ((by rw [hg];exact Nat.ne_of_lt (blk_lt (g:=gb275) (o:= .cells #[.int .i64 0,.slice none 0 0] 24 (0,0)) (z3 BK275)):gb275≠gb278));have n11_:=Aside0.mk ((by rw [hg];exact Nat.ne_of_gt (blk_lt (g:=gb275) (o:= .cells #[.int .i64 0,.slice none 0 0] 24 (0,0)) (z3 BK275)):gb278≠gb275));have n12_:=Aside0.mk ((by rw [hg];exact Nat.ne_of_lt (blk_lt (g:=gb276) (o:= .cells #[.int .i64 a0_0,u277001] 24 (0,0)) (z3 BK276)):gb276≠gb278));have n13_:=Aside0.mk ((by rw [hg];exact Nat.ne_of_gt (blk_lt (g:=gb276) (o:= .cells #[.int .i64 a0_0,u277001] 24 (0,0)) (z3 BK276)):gb278≠gb276));clear HO_277001;clear BK274;clear BK275;clear BK276;clear HB;have HO_277001:=n0_;have BK274:=n1_;have BK275:=n2_;have BK276:=n3_;have HB:=n4_;have BK278:=n5_;have GW278:=n6_;have GE278:=n7_;have NB274_278:=n8_;have NB278_274:=n9_;have NB275_278:=n10_;have NB278_275:=n11_;have NB276_278:=n12_;have NB278_276:=n13_;clear n0_ n1_ n2_ n3_ n4_ n5_ n6_ n7_ n8_ n9_ n10_ n11_ n12_ n13_;clear hb hbox hg;have hnb19:=NB278_274.out;have hnc19:=NB274_278.out;have hnb20:=NB278_275.out;have hnc20:=NB275_278.out;have hnb21:=NB278_276.out;have hnc21:=NB276_278.out;have hcz22_0:w18.cell? ⟨gb278,0,none⟩=some (.int .i64 0):=(blk_cell BK278.out 0).trans rfl;have hcz22_1:w18.cell? ⟨gb278,1,none⟩=some (.int .i64 0):=(blk_cell BK278.out 1).trans rfl;have hcz22_2:w18.cell? ⟨gb278,2,none⟩=some (.int .i64 0):=(blk_cell BK278.out 2).trans rfl;have hfz22_0:=blk_frozen BK278.out 0;have hfz22_1:=blk_frozen BK278.out 1;have hfz22_2:=blk_frozen BK278.out 2)|(go_at_fn g;refine(HPK.out _ (rd_T53 l0_1 x14_1) ?bw_).mono ?_;(case bw_=>exact(zb4 HB GE274 GE275 GE276 GE278));rintro e w23 ⟨he_,hb⟩;rw [Option.some.inj A15.out] at he_;subst he_;have n0_:=Aside0.mk (Kd.R_below (by(with_reducible repeat(first|apply Kd.R_alloc|apply Kd.R_drewN|apply Kd.R_drew));exact(Kd.R_mono (Kd.R_far (p:=⟨gb278,2,none⟩) (Kd.R_far (p:=⟨gb278,1,none⟩) (Kd.R_far (p:=⟨gb278,0,none⟩) (Kd.R_mono HO_277001.out (fun k_ hk=>(⟨hk,hk.2⟩ :_∧k_≠gb278))) (fun _ hk=>hk.2) (.int .i64 ((rd_T53 l0_1 x14_1).f0))) (fun _ hk=>hk.2) (.int .i64 ((rd_T53 l0_1 x14_1).f1))) (fun _ hk=>hk.2) (.int .i64 ((rd_T53 l0_1 x14_1).f2))) (fun _ h_=>h_.1))) hb);have n1_:=Aside0.mk (blk_below (g:=gb274) (o:= .cells #[.int .i64 a0_0,.slice (some ad277) l0_1.length c0_1] 24 (0,0)) (by(with_reducible repeat(first|refine blk_drewN ?_ _|refine blk_drew ?_ |refine blk_alloc ?_ _));refine blk_far ?_ NB274_278.out _;(with_reducible repeat(first|refine blk_drewN ?_ _|refine blk_drew ?_ |refine blk_alloc ?_ _));refine blk_far ?_ NB274_278.out _;(with_reducible repeat(first|refine blk_drewN ?_ _|refine blk_drew ?_ |refine blk_alloc ?_ _));refine blk_far ?_ NB274_278.out _;(with_reducible repeat(first|refine blk_drewN ?_ _|refine blk_drew ?_ |refine blk_alloc ?_ _));exact BK274.out) hb);have n2_:=Aside0.mk (blk_below (g:=gb275) (o:= .cells #[.int .i64 0,.slice none 0 0] 24 (0,0)) (by(with_reducible repeat(first|refine blk_drewN ?_ _|refine blk_drew ?_ |refine blk_alloc ?_ _));refine blk_far ?_ NB275_278.out _;(with_reducible repeat(first|refine blk_drewN ?_ _|refine blk_drew ?_ |refine blk_alloc ?_ _));refine blk_far ?_ NB275_278.out _;(with_reducible repeat(first|refine blk_drewN ?_ _|refine blk_drew ?_ |refine blk_alloc ?_ _));refine blk_far ?_ NB275_278.out _;(with_reducible repeat(first|refine blk_drewN ?_ _|refine blk_drew ?_ |refine blk_alloc ?_ _));exact BK275.out) hb);have n3_:=Aside0.mk (blk_below (g:=gb276) (o:= .cells #[.int .i64 a0_0,u277001] 24 (0,0)) (by(with_reducible repeat(first|refine blk_drewN ?_ _|refine blk_drew ?_ |refine blk_alloc ?_ _));refine blk_far ?_ NB276_278.out _;(with_reducible repeat(first|refine blk_drewN ?_ _|refine blk_drew ?_ |refine blk_alloc ?_ _));refine blk_far ?_ NB276_278.out _;(with_reducible repeat(first|refine blk_drewN ?_ _|refine blk_drew ?_ |refine blk_alloc ?_ _));refine blk_far ?_ NB276_278.out _;(with_reducible repeat(first|refine blk_drewN ?_ _|refine blk_drew ?_ |refine blk_alloc ?_ _));exact BK276.out) hb);have n4_:=Aside0.mk (blk_below (g:=gb278) (o:= .cells #[.int .i64 ((rd_T53 l0_1 x14_1).f0),.int .i64 ((rd_T53 l0_1 x14_1).f1),.int .i64 ((rd_T53 l0_1 x14_1).f2)] 53 (0,0)) (by(with_reducible repeat(first|refine blk_drewN ?_ _|refine blk_drew ?_ |refine blk_alloc ?_ _));refine blk_put (cs:= #[.int .i64 ((rd_T53 l0_1 x14_1).f0),.int .i64 ((rd_T53 l0_1 x14_1).f1),.int .i64 0]) ?_ 2 _ rfl;(with_reducible repeat(first|refine blk_drewN ?_ _|refine blk_drew ?_ |refine blk_alloc ?_ _));refine blk_put (cs:= #[.int .i64 ((rd_T53 l0_1 x14_1).f0),.int .i64 0,.int .i64 0]) ?_ 1 _ rfl;(with_reducible repeat(first|refine blk_drewN ?_ _|refine blk_drew ?_ |refine blk_alloc ?_ _));refine blk_put (cs:= #[.int .i64 0,.int .i64 0,.int .i64 0]) ?_ 0 _ rfl;(with_reducible repeat(first|refine blk_drewN ?_ _|refine blk_drew ?_ |refine blk_alloc ?_ _));exact BK278.out) hb);have n5_:=Aside0.mk (below_step (zb4 HB GE274 GE275 GE276 GE278) hb);clear HO_277001;clear BK274;clear BK275;clear BK276;clear BK278;clear HB;have HO_277001:=n0_;have BK274:=n1_;have BK275:=n2_;have BK276:=n3_;have BK278:=n4_;have HB:=n5_;clear n0_ n1_ n2_ n3_ n4_ n5_;(try clear hb);(try clear hb2);(try clear hk);(try clear hi);have hnb24:=NB276_274.out;have hnc24:=NB274_276.out;have hnb25:=NB276_275.out;have hnc25:=NB275_276.out;have hcz26_0:w23.cell? ⟨gb276,0,none⟩=some (.int .i64 a0_0):=(blk_cell BK276.out 0).trans rfl;have hcz26_1:w23.cell? ⟨gb276,1,none⟩=some (u277001):=(blk_cell BK276.out 1).trans rfl;have hfz26_0:=blk_frozen BK276.out 0;have hfz26_1:=blk_frozen BK276.out 1;have hcz27_0:w23.cell? ⟨gb278,0,none⟩=some (.int .i64 ((rd_T53 l0_1 x14_1).f0)):=(blk_cell BK278.out 0).trans rfl;have hcz27_1:w23.cell? ⟨gb278,1,none⟩=some (.int .i64 ((rd_T53 l0_1 x14_1).f1)):=(blk_cell BK278.out 1).trans rfl;have hcz27_2:w23.cell? ⟨gb278,2,none⟩=some (.int .i64 ((rd_T53 l0_1 x14_1).f2)):=(blk_cell BK278.out 2).trans rfl;have hfz27_0:=blk_frozen BK278.out 0;have hfz27_1:=blk_frozen BK278.out 1;have hfz27_2:=blk_frozen BK278.out 2)|((with_reducible refine gate_builtin (b:= .append) (xs:= #[.tmp 22,.tmp 24]) rfl ?_);at_builtin;refine Kd.R_append k53 (w0:=w) w.heap.size rfl (.tmp 22) (.tmp 24) 22 53 (.agg #[(.int .i64 0),(.int .i64 0),(.int .i64 0)]) 24 rfl Try.underlying22 info53 rfl (by decide) (by omega) u277001 x277001_1 (⟨(rd_T53 l0_1 x14_1).f0,(rd_T53 l0_1 x14_1).f1,(rd_T53 l0_1 x14_1).f2⟩ :S53) [.int .i64 ((rd_T53 l0_1 x14_1).f0),.int .i64 ((rd_T53 l0_1 x14_1).f1),.int .i64 ((rd_T53 l0_1 x14_1).f2)] (fun k_=>k_≠gb278) (fun _=>False) rfl rfl ?aP (fun _ hk=>hk.elim) ?aF ?aO ?aB ?aS ?aL ?_;(case aP=>exact k53_mkM _ _ _ (⟨(rd_T53 l0_1 x14_1).f0,(rd_T53 l0_1 x14_1).f1,(rd_T53 l0_1 x14_1).f2⟩ :S53));(case aB=>exact(zb4 HB GE274 GE275 GE276 GE278));(case aF=>exact(fun k_ hk=>Kd.freshB (g:=gb278) (o:= .cells #[.int .i64 ((rd_T53 l0_1 x14_1).f0),.int .i64 ((rd_T53 l0_1 x14_1).f1),.int .i64 ((rd_T53 l0_1 x14_1).f2)] 53 (0,0)) (z3 BK278) k_ hk));(case aO=>exact(by(with_reducible repeat(first|apply Kd.R_alloc|apply Kd.R_drewN|apply Kd.R_drew));exact Kd.R_mono HO_277001.out (fun _ hk=>hk.2)));(case aS=>exact(below_size (zb4 HB GE274 GE275 GE276 GE278)));(case aL=>have:=LMc17.out;omega);intro v281 w28 ho hb hg hat;rw [← Ny280.out] at ho;have n0_:=Aside0.mk (blk_grown (g:=gb274) (o:= .cells #[.int .i64 a0_0,.slice (some ad277) l0_1.length c0_1] 24 (0,0)) (z3 BK274) hg (Kd.R_ne HO_277001.out BK274.out (by decide)));have n1_:=Aside0.mk (blk_grown (g:=gb275) (o:= .cells #[.int .i64 0,.slice none 0 0] 24 (0,0)) (z3 BK275) hg (Kd.R_ne HO_277001.out BK275.out (by decide)));have n2_:=Aside0.mk (blk_grown (g:=gb276) (o:= .cells #[.int .i64 a0_0,u277001] 24 (0,0)) (z3 BK276) hg (Kd.R_ne HO_277001.out BK276.out (by decide)));have n3_:=Aside0.mk (blk_grown (g:=gb278) (o:= .cells #[.int .i64 ((rd_T53 l0_1 x14_1).f0),.int .i64 ((rd_T53 l0_1 x14_1).f1),.int .i64 ((rd_T53 l0_1 x14_1).f2)] 53 (0,0)) (z3 BK278) hg (Kd.R_away HO_277001.out (fun _ hk=>hk.2)));have n4_:=Aside0.mk (hb);have n5_:=Aside0.mk (ho);clear BK274;clear BK275;clear BK276;clear BK278;clear HB;clear HO_277001;have BK274:=n0_;have BK275:=n1_;have BK276:=n2_;have BK278:=n3_;have HB:=n4_;have HO282:=n5_;clear n0_ n1_ n2_ n3_ n4_ n5_;clear ho hb hg hat;obtain⟨Ao29,co29,eo29⟩:=Kd.R_slice HO282.out;subst eo29;have hcz30_0:w28.cell? ⟨gb276,0,none⟩=some (.int .i64 a0_0):=(blk_cell BK276.out 0).trans rfl;have hcz30_1:w28.cell? ⟨gb276,1,none⟩=some (u277001):=(blk_cell BK276.out 1).trans rfl;have hfz30_0:=blk_frozen BK276.out 0;have hfz30_1:=blk_frozen BK276.out 1))
        go_roundg k1
        case measure=>have:=HK1.out;omega
        case rel=>exact⟨(wrap64 (x14_1+1)),(y280),(.slice Ao29 y280.length co29),(by first|rfl|(simp;done)|(simp [*];done)),H',⟨by have:=HK1.out;omega⟩,⟨by(with_reducible repeat(first|apply Kd.R_alloc|apply Kd.R_drewN|apply Kd.R_drew));exact Kd.R_mono (Kd.R_far (p:=⟨gb276,1,none⟩) (Kd.R_types HO282.out BK276.out (by decide)) (fun _ hk=>hk.2) (.slice Ao29 y280.length co29)) (fun _ hk=>trivial)⟩,⟨by(with_reducible repeat(first|refine blk_drewN ?_ _|refine blk_drew ?_ |refine blk_alloc ?_ _));refine blk_far ?_ NB274_276.out _;(with_reducible repeat(first|refine blk_drewN ?_ _|refine blk_drew ?_ |refine blk_alloc ?_ _));exact BK274.out⟩,⟨by(with_reducible repeat(first|refine blk_drewN ?_ _|refine blk_drew ?_ |refine blk_alloc ?_ _));refine blk_far ?_ NB275_276.out _;(with_reducible repeat(first|refine blk_drewN ?_ _|refine blk_drew ?_ |refine blk_alloc ?_ _));exact BK275.out⟩,⟨by(with_reducible repeat(first|refine blk_drewN ?_ _|refine blk_drew ?_ |refine blk_alloc ?_ _));refine blk_put (cs:= #[.int .i64 a0_0,u277001]) ?_ 1 _ rfl;(with_reducible repeat(first|refine blk_drewN ?_ _|refine blk_drew ?_ |refine blk_alloc ?_ _));exact BK276.out⟩,⟨by repeat(first|(with_reducible first|exact HB.out|apply below_alloc|apply pw_below_drewN|apply below_drew1|refine below_set ?_ GE274.out|refine below_set ?_ GE275.out|refine below_set ?_ GE276.out|refine below_set ?_ GE278.out)|exact HB.out)⟩⟩
       ·rw [if_neg c17] at H
        exact absurd H (by simp)
      ·replace c16:=Bool.eq_false_iff.mpr c16
       subst c16
       have H1:(impl_Table_kept.l0 p k1 l0_1 (l0_1.length:Int) (wrap64 (x14_1+1)) a0_0 x277001_1)=some (r1,r2):=by rw [if_neg (show ¬ (false=true) by decide)] at H;exact H
       clear H
       have H:=H1
       clear H1
       have H':=Aside0.mk H
       clear H
       have p277: 0≤ (x14_1:Int):=of_decide_eq_true z1
       have q277:x14_1< (l0_1.length:Int):=of_decide_eq_true z1
       obtain⟨ad277,e277,hx277_0,hx277_1,hx277_2⟩:=at_T53 HR0_1.out x14_1 p277 q277
       cases e277
       replace hx277_0:=(HB.out.cell (World.block_lt_of_cell? w _ hx277_0)).trans hx277_0
       replace hx277_1:=(HB.out.cell (World.block_lt_of_cell? w _ hx277_1)).trans hx277_1
       replace hx277_2:=(HB.out.cell (World.block_lt_of_cell? w _ hx277_2)).trans hx277_2
       replace p277:=eq_true p277
       replace q277:=eq_true q277
       go_wp2_with (first|((with_reducible refine gate_dst (N:=7) rfl ?_);refine box_event ?hg (N:=7) ?hd (cs:= #[.int .i64 0,.int .i64 0,.int .i64 0]) (t:=53) ?hr ?_;(case hd=>rfl);(case hg=>rfl);(case hr=>first|(go_simp;done)|(go_simp;rfl));intro gb278 hg w31 hbox hb;have n0_:=Aside0.mk (Kd.R_below (Kd.R_elderB (z4 HO_277001) gb278 (Nat.le_of_eq hg.symm)) hb);have n1_:=Aside0.mk (blk_below (g:=gb274) (o:= .cells #[.int .i64 a0_0,.slice (some ad277) l0_1.length c0_1] 24 (0,0)) (z3 BK274) hb);have n2_:=Aside0.mk (blk_below (g:=gb275) (o:= .cells #[.int .i64 0,.slice none 0 0] 24 (0,0)) (z3 BK275) hb);have n3_:=Aside0.mk (blk_below (g:=gb276) (o:= .cells #[.int .i64 a0_0,u277001] 24 (0,0)) (z3 BK276) hb);have n4_:=Aside0.mk (below_step (zb3 HB GE274 GE275 GE276) hb);have n5_:=Aside0.mk (hbox);have n6_:=Aside0.mk ((by rw [hg];exact(below_size (zb3 HB GE274 GE275 GE276)):w.heap.size≤gb278));have n7_:=Aside0.mk ((by rw [hg];exact(below_size (zb3 HB GE274 GE275 GE276)):w.heap.size≤gb278));have n8_:=Aside0.mk ((by rw [hg];exact Nat.ne_of_lt (blk_lt (g:=gb274) (o:= .cells #[.int .i64 a0_0,.slice (some ad277) l0_1.length c0_1] 24 (0,0)) (z3 BK274)):gb274≠gb278));have n9_:=Aside0.mk ((by rw [hg];exact Nat.ne_of_gt (blk_lt (g:=gb274) (o:= .cells #[.int .i64 a0_0,.slice (some ad277) l0_1.length c0_1] 24 (0,0)) (z3 BK274)):gb278≠gb274));have n10_:=Aside0.mk ((by rw [hg];exact Nat.ne_of_lt (blk_lt (g:=gb275) (o:= .cells #[.int .i64 0,.slice none 0 0] 24 (0,0)) (z3 BK275)):gb275≠gb278));have n11_:=Aside0.mk ((by rw [hg];exact Nat.ne_of_gt (blk_lt (g:=gb275) (o:= .cells #[.int .i64 0,.slice none 0 0] 24 (0,0)) (z3 BK275)):gb278≠gb275));have n12_:=Aside0.mk ((by rw [hg];exact Nat.ne_of_lt (blk_lt (g:=gb276) (o:= .cells #[.int .i64 a0_0,u277001] 24 (0,0)) (z3 BK276)):gb276≠gb278));have n13_:=Aside0.mk ((by rw [hg];exact Nat.ne_of_gt (blk_lt (g:=gb276) (o:= .cells #[.int .i64 a0_0,u277001] 24 (0,0)) (z3 BK276)):gb278≠gb276));clear HO_277001;clear BK274;clear BK275;clear BK276;clear HB;have HO_277001:=n0_;have BK274:=n1_;have BK275:=n2_;have BK276:=n3_;have HB:=n4_;have BK278:=n5_;have GW278:=n6_;have GE278:=n7_;have NB274_278:=n8_;have NB278_274:=n9_;have NB275_278:=n10_;have NB278_275:=n11_;have NB276_278:=n12_;have NB278_276:=n13_;clear n0_ n1_ n2_ n3_ n4_ n5_ n6_ n7_ n8_ n9_ n10_ n11_ n12_ n13_;clear hb hbox hg;have hnb32:=NB278_274.out;have hnc32:=NB274_278.out;have hnb33:=NB278_275.out;have hnc33:=NB275_278.out;have hnb34:=NB278_276.out;have hnc34:=NB276_278.out;have hcz35_0:w31.cell? ⟨gb278,0,none⟩=some (.int .i64 0):=(blk_cell BK278.out 0).trans rfl;have hcz35_1:w31.cell? ⟨gb278,1,none⟩=some (.int .i64 0):=(blk_cell BK278.out 1).trans rfl;have hcz35_2:w31.cell? ⟨gb278,2,none⟩=some (.int .i64 0):=(blk_cell BK278.out 2).trans rfl;have hfz35_0:=blk_frozen BK278.out 0;have hfz35_1:=blk_frozen BK278.out 1;have hfz35_2:=blk_frozen BK278.out 2)|(go_at_fn g;refine(HPK.out _ (rd_T53 l0_1 x14_1) ?bw_).mono ?_;(case bw_=>exact(zb4 HB GE274 GE275 GE276 GE278));rintro e w36 ⟨he_,hb⟩;rw [Option.some.inj A15.out] at he_;subst he_;have n0_:=Aside0.mk (Kd.R_below (by(with_reducible repeat(first|apply Kd.R_alloc|apply Kd.R_drewN|apply Kd.R_drew));exact(Kd.R_mono (Kd.R_far (p:=⟨gb278,2,none⟩) (Kd.R_far (p:=⟨gb278,1,none⟩) (Kd.R_far (p:=⟨gb278,0,none⟩) (Kd.R_mono HO_277001.out (fun k_ hk=>(⟨hk,hk.2⟩ :_∧k_≠gb278))) (fun _ hk=>hk.2) (.int .i64 ((rd_T53 l0_1 x14_1).f0))) (fun _ hk=>hk.2) (.int .i64 ((rd_T53 l0_1 x14_1).f1))) (fun _ hk=>hk.2) (.int .i64 ((rd_T53 l0_1 x14_1).f2))) (fun _ h_=>h_.1))) hb);have n1_:=Aside0.mk (blk_below (g:=gb274) (o:= .cells #[.int .i64 a0_0,.slice (some ad277) l0_1.length c0_1] 24 (0,0)) (by(with_reducible repeat(first|refine blk_drewN ?_ _|refine blk_drew ?_ |refine blk_alloc ?_ _));refine blk_far ?_ NB274_278.out _;(with_reducible repeat(first|refine blk_drewN ?_ _|refine blk_drew ?_ |refine blk_alloc ?_ _));refine blk_far ?_ NB274_278.out _;(with_reducible repeat(first|refine blk_drewN ?_ _|refine blk_drew ?_ |refine blk_alloc ?_ _));refine blk_far ?_ NB274_278.out _;(with_reducible repeat(first|refine blk_drewN ?_ _|refine blk_drew ?_ |refine blk_alloc ?_ _));exact BK274.out) hb);have n2_:=Aside0.mk (blk_below (g:=gb275) (o:= .cells #[.int .i64 0,.slice none 0 0] 24 (0,0)) (by(with_reducible repeat(first|refine blk_drewN ?_ _|refine blk_drew ?_ |refine blk_alloc ?_ _));refine blk_far ?_ NB275_278.out _;(with_reducible repeat(first|refine blk_drewN ?_ _|refine blk_drew ?_ |refine blk_alloc ?_ _));refine blk_far ?_ NB275_278.out _;(with_reducible repeat(first|refine blk_drewN ?_ _|refine blk_drew ?_ |refine blk_alloc ?_ _));refine blk_far ?_ NB275_278.out _;(with_reducible repeat(first|refine blk_drewN ?_ _|refine blk_drew ?_ |refine blk_alloc ?_ _));exact BK275.out) hb);have n3_:=Aside0.mk (blk_below (g:=gb276) (o:= .cells #[.int .i64 a0_0,u277001] 24 (0,0)) (by(with_reducible repeat(first|refine blk_drewN ?_ _|refine blk_drew ?_ |refine blk_alloc ?_ _));refine blk_far ?_ NB276_278.out _;(with_reducible repeat(first|refine blk_drewN ?_ _|refine blk_drew ?_ |refine blk_alloc ?_ _));refine blk_far ?_ NB276_278.out _;(with_reducible repeat(first|refine blk_drewN ?_ _|refine blk_drew ?_ |refine blk_alloc ?_ _));refine blk_far ?_ NB276_278.out _;(with_reducible repeat(first|refine blk_drewN ?_ _|refine blk_drew ?_ |refine blk_alloc ?_ _));exact BK276.out) hb);have n4_:=Aside0.mk (blk_below (g:=gb278) (o:= .cells #[.int .i64 ((rd_T53 l0_1 x14_1).f0),.int .i64 ((rd_T53 l0_1 x14_1).f1),.int .i64 ((rd_T53 l0_1 x14_1).f2)] 53 (0,0)) (by(with_reducible repeat(first|refine blk_drewN ?_ _|refine blk_drew ?_ |refine blk_alloc ?_ _));refine blk_put (cs:= #[.int .i64 ((rd_T53 l0_1 x14_1).f0),.int .i64 ((rd_T53 l0_1 x14_1).f1),.int .i64 0]) ?_ 2 _ rfl;(with_reducible repeat(first|refine blk_drewN ?_ _|refine blk_drew ?_ |refine blk_alloc ?_ _));refine blk_put (cs:= #[.int .i64 ((rd_T53 l0_1 x14_1).f0),.int .i64 0,.int .i64 0]) ?_ 1 _ rfl;(with_reducible repeat(first|refine blk_drewN ?_ _|refine blk_drew ?_ |refine blk_alloc ?_ _));refine blk_put (cs:= #[.int .i64 0,.int .i64 0,.int .i64 0]) ?_ 0 _ rfl;(with_reducible repeat(first|refine blk_drewN ?_ _|refine blk_drew ?_ |refine blk_alloc ?_ _));exact BK278.out) hb);have n5_:=Aside0.mk (below_step (zb4 HB GE274 GE275 GE276 GE278) hb);clear HO_277001;clear BK274;clear BK275;clear BK276;clear BK278;clear HB;have HO_277001:=n0_;have BK274:=n1_;have BK275:=n2_;have BK276:=n3_;have BK278:=n4_;have HB:=n5_;clear n0_ n1_ n2_ n3_ n4_ n5_;(try clear hb);(try clear hb2);(try clear hk);(try clear hi)))
       go_roundg k1
       case measure=>have:=HK1.out;omega
       case rel=>exact⟨(wrap64 (x14_1+1)),(x277001_1),(u277001),(by first|rfl|(simp;done)|(simp [*];done)),H',⟨by have:=HK1.out;omega⟩,⟨by(with_reducible repeat(first|apply Kd.R_alloc|apply Kd.R_drewN|apply Kd.R_drew));exact Kd.R_mono HO_277001.out (fun _ hk=>trivial)⟩,⟨by(with_reducible repeat(first|refine blk_drewN ?_ _|refine blk_drew ?_ |refine blk_alloc ?_ _));exact BK274.out⟩,⟨by(with_reducible repeat(first|refine blk_drewN ?_ _|refine blk_drew ?_ |refine blk_alloc ?_ _));exact BK275.out⟩,⟨by(with_reducible repeat(first|refine blk_drewN ?_ _|refine blk_drew ?_ |refine blk_alloc ?_ _));exact BK276.out⟩,⟨by repeat(first|(with_reducible first|exact HB.out|apply below_alloc|apply pw_below_drewN|apply below_drew1|refine below_set ?_ GE274.out|refine below_set ?_ GE275.out|refine below_set ?_ GE276.out|refine below_set ?_ GE278.out)|exact HB.out)⟩⟩
     ·rw [if_neg c14] at H
      exact absurd H (by simp)
    ·rw [if_neg c13] at H
     exact absurd H (by simp)
   ·rw [if_neg c12] at H
    have c12b0:decide (x14_1< (l0_1.length:Int))=false:=decide_eq_false c12
    clear c12
    simp only [Option.some.injEq,Prod.mk.injEq] at H
    obtain⟨rfl,rfl⟩:=H
    have hnb37:=NB276_274.out
    have hnc37:=NB274_276.out
    have hnb38:=NB276_275.out
    have hnc38:=NB275_276.out
    have hcz39_0:wr.cell? ⟨gb276,0,none⟩=some (.int .i64 a0_0):=(blk_cell BK276.out 0).trans rfl
    have hcz39_1:wr.cell? ⟨gb276,1,none⟩=some (u277001):=(blk_cell BK276.out 1).trans rfl
    have hfz39_0:=blk_frozen BK276.out 0
    have hfz39_1:=blk_frozen BK276.out 1
    have hnb40:=NB275_274.out
    have hnc40:=NB274_275.out
    have hcz41_0:wr.cell? ⟨gb275,0,none⟩=some (.int .i64 0):=(blk_cell BK275.out 0).trans rfl
    have hcz41_1:wr.cell? ⟨gb275,1,none⟩=some (.slice none 0 0):=(blk_cell BK275.out 1).trans rfl
    have hfz41_0:=blk_frozen BK275.out 0
    have hfz41_1:=blk_frozen BK275.out 1
    obtain⟨Ao42,co42,eo42⟩:=Kd.R_slice HO_277001.out
    subst eo42
    go_wp2
    refine bodyPost_ret (results_cell_row rfl _ _ gb275 24 #[.int .i64 a0_0,.slice Ao42 x277001_1.length co42] (0,0) _ rfl (by(with_reducible repeat(first|refine blk_drewN ?_ _|refine blk_drew ?_ |refine blk_alloc ?_ _));refine blk_put (cs:= #[.int .i64 a0_0,.slice none 0 0]) ?_ 1 _ rfl;(with_reducible repeat(first|refine blk_drewN ?_ _|refine blk_drew ?_ |refine blk_alloc ?_ _));refine blk_put (cs:= #[.int .i64 0,.slice none 0 0]) ?_ 0 _ rfl;(with_reducible repeat(first|refine blk_drewN ?_ _|refine blk_drew ?_ |refine blk_alloc ?_ _));exact BK275.out) Try.underlying24 rfl (by kernel_rfl)) rfl ?_
    exact⟨_,by first|rfl|(simp [errW_none,errW_some]<;>rfl)|(simp [*,errW_none,errW_some]<;>rfl),by(with_reducible repeat(first|apply Kd.R_alloc|apply Kd.R_drewN|apply Kd.R_drew));exact Kd.R_mono (Kd.R_far (p:=⟨gb275,1,none⟩) (Kd.R_far (p:=⟨gb275,0,none⟩) (Kd.R_types HO_277001.out BK275.out (by decide)) (fun _ hk=>hk.2) (.int .i64 a0_0)) (fun _ hk=>hk.2) (.slice Ao42 x277001_1.length co42)) (fun _ hk=>trivial),by repeat(first|(with_reducible first|exact HB.out|apply below_alloc|apply pw_below_drewN|apply below_drew1|refine below_set ?_ GE274.out|refine below_set ?_ GE275.out|refine below_set ?_ GE276.out)|exact HB.out)⟩
def impl_Table_learn.f (k:Nat) (a0_0:Int) (l0_1:List (S53)) (a1_0:Int) (a1_1:Int) (a1_2:Int):Option (Int × (List (S53))):=(impl_Table_kept.f k a0_0 l0_1 (fun y=>y.f0 !=a1_0)).bind fun bt286=>((some (([(⟨a1_0,a1_1,a1_2⟩ :S53)] :List (S53)):List (S53))).bind fun y291=>(if y291.length+bt286.2.length< 5864062014805 then((some (y291++bt286.2:List (S53))).bind fun y294=>(if 0≤ (mn (y294.length:Int) a0_0) then(if (mn (y294.length:Int) a0_0)≤ (y294.length:Int) then(some (bt286.1,(y294.take ((mn (y294.length:Int) a0_0):Int).toNat))) else(none)) else(none))) else(none)))
set_option maxHeartbeats 8000000 in
set_option maxRecDepth 100000 in
theorem impl_Table_learn.calls (k:Nat) (a0_0:Int) (A0_1:Option Addr) (c0_1:Nat) (l0_1:List (S53)) (a1_0:Int) (a1_1:Int) (a1_2:Int) (r1:Int) (r2:List (S53)) (w:World) (hr0_1:Kd.C k53 w A0_1 l0_1.length l0_1) (hc0_1:l0_1.length≤c0_1) (h:impl_Table_learn.f k a0_0 l0_1 a1_0 a1_1 a1_2=some (r1,r2)):
  Calls Try.prog 55 #[.agg #[.int .i64 a0_0,.slice A0_1 l0_1.length c0_1],.agg #[.int .i64 a1_0,.int .i64 a1_1,.int .i64 a1_2]] w fun e w'=> ∃ v1_:Value,e= .returned (.agg #[.int .i64 r1,v1_])∧Kd.R k53 53 w' w.heap.size (fun _=>True) v1_ r2∧Below w.heap.size w w':=by
 have hu24:=Try.underlying24
 have hu53:=Try.underlying53
 have HR0_1:=Aside0.mk hr0_1
 have HC0_1:=Aside0.mk hc0_1
 clear hr0_1 hc0_1
 have HB:=Aside0.mk (Below.refl w.heap.size w)
 have EGC:=Aside0.mk (show ∀ args w,(callFunc 60 args).run Try.prog w= .ok (.enter 60 args) w from enters_of Try.func60 (by kernel_rfl) rfl)
 have H:((impl_Table_kept.f k a0_0 l0_1 (fun y=>y.f0 !=a1_0)).bind fun bt286=>((some (([(⟨a1_0,a1_1,a1_2⟩ :S53)] :List (S53)):List (S53))).bind fun y291=>(if y291.length+bt286.2.length< 5864062014805 then((some (y291++bt286.2:List (S53))).bind fun y294=>(if 0≤ (mn (y294.length:Int) a0_0) then(if (mn (y294.length:Int) a0_0)≤ (y294.length:Int) then(some (bt286.1,(y294.take ((mn (y294.length:Int) a0_0):Int).toNat))) else(none)) else(none))) else(none))))=some (r1,r2):=h
 clear h
 replace H:=Option.bind_eq_some_iff.mp H
 obtain⟨⟨t286,t287⟩,A30,H⟩:=H
 replace H:((some (([(⟨a1_0,a1_1,a1_2⟩ :S53)] :List (S53)):List (S53))).bind fun y291=>(if y291.length+t287.length< 5864062014805 then((some (y291++t287:List (S53))).bind fun y294=>(if 0≤ (mn (y294.length:Int) a0_0) then(if (mn (y294.length:Int) a0_0)≤ (y294.length:Int) then(some (t286,(y294.take ((mn (y294.length:Int) a0_0):Int).toNat))) else(none)) else(none))) else(none)))=some (r1,r2):=H
 have A3:=Aside0.mk A30
 clear A30
 obtain⟨y291,hy291⟩ :∃ y_:List (S53),y_= (([(⟨a1_0,a1_1,a1_2⟩ :S53)] :List (S53))):=⟨_,rfl⟩
 replace H:(if y291.length+t287.length< 5864062014805 then((some (y291++t287:List (S53))).bind fun y294=>(if 0≤ (mn (y294.length:Int) a0_0) then(if (mn (y294.length:Int) a0_0)≤ (y294.length:Int) then(some (t286,(y294.take ((mn (y294.length:Int) a0_0):Int).toNat))) else(none)) else(none))) else(none))=some (r1,r2):=by first|(rw [hy291];with_reducible exact H)|(have H2_:=(Option.bind_some _ _).symm.trans H;rw [hy291];with_reducible exact H2_)|(have H2_:=(Option.bind_some _ _).symm.trans H;with_reducible exact H2_)|with_reducible exact H|(rw [hy291];exact H)|exact H
 have Ny291:=Aside0.mk hy291
 clear hy291
 by_cases c4:y291.length+t287.length< 5864062014805
 ·rw [if_pos c4] at H
  have LMc4:=Aside0.mk c4
  clear c4
  obtain⟨y294,hy294⟩ :∃ y_:List (S53),y_= (y291++t287):=⟨_,rfl⟩
  replace H:(if 0≤ (mn (y294.length:Int) a0_0) then(if (mn (y294.length:Int) a0_0)≤ (y294.length:Int) then(some (t286,(y294.take ((mn (y294.length:Int) a0_0):Int).toNat))) else(none)) else(none))=some (r1,r2):=by first|(rw [hy294];with_reducible exact H)|(have H2_:=(Option.bind_some _ _).symm.trans H;rw [hy294];with_reducible exact H2_)|(have H2_:=(Option.bind_some _ _).symm.trans H;with_reducible exact H2_)|with_reducible exact H|(rw [hy294];exact H)|exact H
  have Ny294:=Aside0.mk hy294
  clear hy294
  obtain⟨ji5,hji5⟩ :∃ j_:Int,(mn (y294.length:Int) a0_0)=j_:=⟨_,rfl⟩
  replace H:(if 0≤ (ji5) then(if (ji5)≤ (y294.length:Int) then(some (t286,(y294.take ((ji5):Int).toNat))) else(none)) else(none))=some (r1,r2):=by first|(rw [hji5] at H;exact H)|(simp only [hji5] at H ⊢;exact H)
  (try rw [hji5] at A3)
  have hji5_:(if a0_0< (y294.length:Int) then a0_0 else(y294.length:Int))=ji5:=hji5
  by_cases c6: 0≤ (ji5)
  ·rw [if_pos c6] at H
   have c6b0:=eq_true c6
   have c6b1:decide (0≤ (ji5))=true:=decide_eq_true c6
   clear c6
   by_cases c7:(ji5)≤ (y294.length:Int)
   ·rw [if_pos c7] at H
    have c7b0:=eq_true c7
    have c7b1:decide ((ji5)≤ (y294.length:Int))=true:=decide_eq_true c7
    clear c7
    obtain⟨y297,hy297⟩ :∃ y_:List (S53),y_= (y294.take ((ji5):Int).toNat):=⟨_,rfl⟩
    replace H:(some (t286,y297))=some (r1,r2):=by first|(rw [hy297];with_reducible exact H)|(have H2_:=(Option.bind_some _ _).symm.trans H;rw [hy297];with_reducible exact H2_)|(have H2_:=(Option.bind_some _ _).symm.trans H;with_reducible exact H2_)|with_reducible exact H|(rw [hy297];exact H)|exact H
    have Ny297:=Aside0.mk hy297
    clear hy297
    simp only [Option.some.injEq,Prod.mk.injEq] at H
    obtain⟨rfl,rfl⟩:=H
    go_enter Try.func55,Try.ntmps55
    go_wp2_with (first|((with_reducible refine gate_dst (N:=2) rfl ?_);refine box_event ?hg (N:=2) ?hd (cs:= #[.int .i64 a0_0,.slice A0_1 l0_1.length c0_1]) (t:=24) ?hr ?_;(case hd=>rfl);(case hg=>rfl);(case hr=>first|(go_simp;done)|(go_simp;rfl));intro gb283 hg w8 hbox hb;have n0_:=Aside0.mk (below_step (zb0 HB) hb);have n1_:=Aside0.mk (hbox);have n2_:=Aside0.mk ((by rw [hg];exact(below_size (zb0 HB)):w.heap.size≤gb283));have n3_:=Aside0.mk ((by rw [hg];exact(below_size (zb0 HB)):w.heap.size≤gb283));clear HB;have HB:=n0_;have BK283:=n1_;have GW283:=n2_;have GE283:=n3_;clear n0_ n1_ n2_ n3_;clear hb hbox hg)|((with_reducible refine gate_dst (N:=3) rfl ?_);refine box_event ?hg (N:=3) ?hd (cs:= #[.int .i64 a1_0,.int .i64 a1_1,.int .i64 a1_2]) (t:=53) ?hr ?_;(case hd=>rfl);(case hg=>rfl);(case hr=>first|(go_simp;done)|(go_simp;rfl));intro gb284 hg w9 hbox hb;have n0_:=Aside0.mk (blk_below (g:=gb283) (o:= .cells #[.int .i64 a0_0,.slice A0_1 l0_1.length c0_1] 24 (0,0)) (z3 BK283) hb);have n1_:=Aside0.mk (below_step (zb1 HB GE283) hb);have n2_:=Aside0.mk (hbox);have n3_:=Aside0.mk ((by rw [hg];exact(below_size (zb1 HB GE283)):w.heap.size≤gb284));have n4_:=Aside0.mk ((by rw [hg];exact(below_size (zb1 HB GE283)):w.heap.size≤gb284));have n5_:=Aside0.mk ((by rw [hg];exact Nat.ne_of_lt (blk_lt (g:=gb283) (o:= .cells #[.int .i64 a0_0,.slice A0_1 l0_1.length c0_1] 24 (0,0)) (z3 BK283)):gb283≠gb284));have n6_:=Aside0.mk ((by rw [hg];exact Nat.ne_of_gt (blk_lt (g:=gb283) (o:= .cells #[.int .i64 a0_0,.slice A0_1 l0_1.length c0_1] 24 (0,0)) (z3 BK283)):gb284≠gb283));clear BK283;clear HB;have BK283:=n0_;have HB:=n1_;have BK284:=n2_;have GW284:=n3_;have GE284:=n4_;have NB283_284:=n5_;have NB284_283:=n6_;clear n0_ n1_ n2_ n3_ n4_ n5_ n6_;clear hb hbox hg)|((with_reducible refine gate_dst (N:=4) rfl ?_);refine box_event ?hg (N:=4) ?hd (cs:= #[.int .i64 0,.slice none 0 0]) (t:=24) ?hr ?_;(case hd=>rfl);(case hg=>rfl);(case hr=>first|(go_simp;done)|(go_simp;rfl));intro gb285 hg w10 hbox hb;have n0_:=Aside0.mk (blk_below (g:=gb283) (o:= .cells #[.int .i64 a0_0,.slice A0_1 l0_1.length c0_1] 24 (0,0)) (z3 BK283) hb);have n1_:=Aside0.mk (blk_below (g:=gb284) (o:= .cells #[.int .i64 a1_0,.int .i64 a1_1,.int .i64 a1_2] 53 (0,0)) (z3 BK284) hb);have n2_:=Aside0.mk (below_step (zb2 HB GE283 GE284) hb);have n3_:=Aside0.mk (hbox);have n4_:=Aside0.mk ((by rw [hg];exact(below_size (zb2 HB GE283 GE284)):w.heap.size≤gb285));have n5_:=Aside0.mk ((by rw [hg];exact(below_size (zb2 HB GE283 GE284)):w.heap.size≤gb285));have n6_:=Aside0.mk ((by rw [hg];exact Nat.ne_of_lt (blk_lt (g:=gb283) (o:= .cells #[.int .i64 a0_0,.slice A0_1 l0_1.length c0_1] 24 (0,0)) (z3 BK283)):gb283≠gb285));have n7_:=Aside0.mk ((by rw [hg];exact Nat.ne_of_gt (blk_lt (g:=gb283) (o:= .cells #[.int .i64 a0_0,.slice A0_1 l0_1.length c0_1] 24 (0,0)) (z3 BK283)):gb285≠gb283));have n8_:=Aside0.mk ((by rw [hg];exact Nat.ne_of_lt (blk_lt (g:=gb284) (o:= .cells #[.int .i64 a1_0,.int .i64 a1_1,.int .i64 a1_2] 53 (0,0)) (z3 BK284)):gb284≠gb285));have n9_:=Aside0.mk ((by rw [hg];exact Nat.ne_of_gt (blk_lt (g:=gb284) (o:= .cells #[.int .i64 a1_0,.int .i64 a1_1,.int .i64 a1_2] 53 (0,0)) (z3 BK284)):gb285≠gb284));clear BK283;clear BK284;clear HB;have BK283:=n0_;have BK284:=n1_;have HB:=n2_;have BK285:=n3_;have GW285:=n4_;have GE285:=n5_;have NB283_285:=n6_;have NB285_283:=n7_;have NB284_285:=n8_;have NB285_284:=n9_;clear n0_ n1_ n2_ n3_ n4_ n5_ n6_ n7_ n8_ n9_;clear hb hbox hg;have hnb11:=NB283_284.out;have hnc11:=NB284_283.out;have hnb12:=NB283_285.out;have hnc12:=NB285_283.out;have hcz13_0:w10.cell? ⟨gb283,0,none⟩=some (.int .i64 a0_0):=(blk_cell BK283.out 0).trans rfl;have hcz13_1:w10.cell? ⟨gb283,1,none⟩=some (.slice A0_1 l0_1.length c0_1):=(blk_cell BK283.out 1).trans rfl;have hfz13_0:=blk_frozen BK283.out 0;have hfz13_1:=blk_frozen BK283.out 1)|((with_reducible refine gate_callee (f:=52) rfl ?_);refine goesL_ (some 8) rfl rfl Try.func52 (by kernel_rfl) rfl #[.agg #[.int .i64 a0_0,.slice A0_1 l0_1.length c0_1],.func (.func 60) #[] #[.pointer (some ⟨gb284,0,none⟩)]] rfl z2 ?_;(with_reducible refine(impl_Table_kept.calls k a0_0 _ _ l0_1 (fun y=>y.f0 !=a1_0) 60 #[.pointer (some ⟨gb284,0,none⟩)] EGC.out t286 t287 _ ?side1 ?side2 ?sidep A3.out).mono ?_);(case sidep=>exact(learnC_ok a1_0 a1_1 a1_2 gb284 _ (z3 BK284)));(case side1=>repeat(first|exact(Kd.C_below HR0_1.out HB.out)|(with_reducible refine Kd.C_alloc ?_ _)|(with_reducible refine Kd.C_drewN ?_ _)|(with_reducible refine Kd.C_drew ?_)));(case side2=>exact HC0_1.out);rintro e w14 ⟨v288,rfl,ho0,hb⟩;refine⟨_,rfl,?_⟩;have n0_:=Aside0.mk (Kd.R_lower (Kd.R_newB ho0 (g:=gb284) (o:= .cells #[.int .i64 a1_0,.int .i64 a1_1,.int .i64 a1_2] 53 (0,0)) (z3 BK284)) (below_size (zb3 HB GE283 GE284 GE285)));have n1_:=Aside0.mk (blk_below (g:=gb283) (o:= .cells #[.int .i64 a0_0,.slice A0_1 l0_1.length c0_1] 24 (0,0)) (z3 BK283) hb);have n2_:=Aside0.mk (blk_below (g:=gb284) (o:= .cells #[.int .i64 a1_0,.int .i64 a1_1,.int .i64 a1_2] 53 (0,0)) (z3 BK284) hb);have n3_:=Aside0.mk (blk_below (g:=gb285) (o:= .cells #[.int .i64 0,.slice none 0 0] 24 (0,0)) (z3 BK285) hb);have n4_:=Aside0.mk (below_step (zb3 HB GE283 GE284 GE285) hb);clear BK283;clear BK284;clear BK285;clear HB;have HO289:=n0_;have BK283:=n1_;have BK284:=n2_;have BK285:=n3_;have HB:=n4_;clear n0_ n1_ n2_ n3_ n4_;(try clear hb);(try clear hb2);(try clear hk);(try clear hi);(try clear ho0))|((with_reducible refine gate_dst (N:=5) rfl ?_);refine box_event ?hg (N:=5) ?hd (cs:= #[.int .i64 0,.slice none 0 0]) (t:=24) ?hr ?_;(case hd=>rfl);(case hg=>rfl);(case hr=>first|(go_simp;done)|(go_simp;rfl));intro gb290 hg w15 hbox hb;have n0_:=Aside0.mk (Kd.R_below (z4 HO289) hb);have n1_:=Aside0.mk (blk_below (g:=gb283) (o:= .cells #[.int .i64 a0_0,.slice A0_1 l0_1.length c0_1] 24 (0,0)) (z3 BK283) hb);have n2_:=Aside0.mk (blk_below (g:=gb284) (o:= .cells #[.int .i64 a1_0,.int .i64 a1_1,.int .i64 a1_2] 53 (0,0)) (z3 BK284) hb);have n3_:=Aside0.mk (blk_below (g:=gb285) (o:= .cells #[.int .i64 0,.slice none 0 0] 24 (0,0)) (z3 BK285) hb);have n4_:=Aside0.mk (below_step (zb3 HB GE283 GE284 GE285) hb);have n5_:=Aside0.mk (hbox);have n6_:=Aside0.mk ((by rw [hg];exact(below_size (zb3 HB GE283 GE284 GE285)):w.heap.size≤gb290));have n7_:=Aside0.mk ((by rw [hg];exact(below_size (zb3 HB GE283 GE284 GE285)):w.heap.size≤gb290));have n8_:=Aside0.mk ((by rw [hg];exact Nat.ne_of_lt (blk_lt (g:=gb283) (o:= .cells #[.int .i64 a0_0,.slice A0_1 l0_1.length c0_1] 24 (0,0)) (z3 BK283)):gb283≠gb290));have n9_:=Aside0.mk ((by rw [hg];exact Nat.ne_of_gt (blk_lt (g:=gb283) (o:= .cells #[.int .i64 a0_0,.slice A0_1 l0_1.length c0_1] 24 (0,0)) (z3 BK283)):gb290≠gb283));have n10_:=Aside0.mk ((by rw [hg];exact Nat.ne_of_lt (blk_lt (g:=gb284) (o:= .cells #[.int .i64 a1_0,.int .i64 a1_1,.int .i64 a1_2] 53 (0,0)) (z3 BK284)):gb284≠gb290));have n11_:=Aside0.mk ((by rw [hg];exact Nat.ne_of_gt (blk_lt (g:=gb284) (o:= .cells #[.int .i64 a1_0,.int .i64 a1_1,.int .i64 a1_2] 53 (0,0)) (z3 BK284)):gb290≠gb284));have n12_:=Aside0.mk ((by rw [hg];exact Nat.ne_of_lt (blk_lt (g:=gb285) (o:= .cells #[.int .i64 0,.slice none 0 0] 24 (0,0)) (z3 BK285)):gb285≠gb290));have n13_:=Aside0.mk ((by rw [hg];exact Nat.ne_of_gt (blk_lt (g:=gb285) (o:= .cells #[.int .i64 0,.slice none 0 0] 24 (0,0)) (z3 BK285)):gb290≠gb285));clear HO289;clear BK283;clear BK284;clear BK285;clear HB;have HO289:=n0_;have BK283:=n1_;have BK284:=n2_;have BK285:=n3_;have HB:=n4_;have BK290:=n5_;have GW290:=n6_;have GE290:=n7_;have NB283_290:=n8_;have NB290_283:=n9_;have NB284_290:=n10_;have NB290_284:=n11_;have NB285_290:=n12_;have NB290_285:=n13_;clear n0_ n1_ n2_ n3_ n4_ n5_ n6_ n7_ n8_ n9_ n10_ n11_ n12_ n13_;clear hb hbox hg;have hnb16:=NB290_283.out;have hnc16:=NB283_290.out;have hnb17:=NB290_284.out;have hnc17:=NB284_290.out;have hnb18:=NB290_285.out;have hnc18:=NB285_290.out;have hcz19_0:w15.cell? ⟨gb290,0,none⟩=some (.int .i64 0):=(blk_cell BK290.out 0).trans rfl;have hcz19_1:w15.cell? ⟨gb290,1,none⟩=some (.slice none 0 0):=(blk_cell BK290.out 1).trans rfl;have hfz19_0:=blk_frozen BK290.out 0;have hfz19_1:=blk_frozen BK290.out 1;obtain⟨Ao20,co20,eo20⟩:=Kd.R_slice HO289.out;subst eo20;have hnb21:=NB284_285.out;have hnc21:=NB285_284.out;have hcz22_0:w15.cell? ⟨gb284,0,none⟩=some (.int .i64 a1_0):=(blk_cell BK284.out 0).trans rfl;have hcz22_1:w15.cell? ⟨gb284,1,none⟩=some (.int .i64 a1_1):=(blk_cell BK284.out 1).trans rfl;have hcz22_2:w15.cell? ⟨gb284,2,none⟩=some (.int .i64 a1_2):=(blk_cell BK284.out 2).trans rfl;have hfz22_0:=blk_frozen BK284.out 0;have hfz22_1:=blk_frozen BK284.out 1;have hfz22_2:=blk_frozen BK284.out 2)|((with_reducible refine gate_dst (N:=10) rfl ?_);refine Kd.R_lit k53 _ 53 ?hg (N:=10) ?hd (xs:=([(⟨a1_0,a1_1,a1_2⟩ :S53)] :List (S53))) (inner:= [.int .i64 a1_0,.int .i64 a1_1,.int .i64 a1_2]) (ok:=fun _=>True) (okp:=fun _=>True) ?hr ?hp (fun _ hk=>hk) trivial (Below.refl _ _) (Nat.le_refl _) (by simp) ?_;(case hd=>rfl);(case hg=>rfl);(case hr=>first|(go_simp;done)|(go_simp;rfl));(case hp=>exact(Reps.c3 (show Kd.M k53 _ _ _ (⟨a1_0,a1_1,a1_2⟩ :S53) [.int .i64 a1_0,.int .i64 a1_1,.int .i64 a1_2] from (k53_mkM _ _ _ (⟨a1_0,a1_1,a1_2⟩ :S53) )) (Reps.none _ _)));intro v292 w23 ho24 hb hg_ hnew_;clear hg_ hnew_;(first|rw [← Ny291.out] at ho24|(simp only [Int.reduceToNat] at ho24;rw [← Ny291.out] at ho24));have n0_:=Aside0.mk (Kd.R_elder' (by(with_reducible repeat(first|apply Kd.R_alloc|apply Kd.R_drewN|apply Kd.R_drew));exact(Kd.R_mono (Kd.R_far (p:=⟨gb290,1,none⟩) (Kd.R_far (p:=⟨gb290,0,none⟩) (Kd.R_types HO289.out BK290.out (by decide)) (fun _ hk=>hk.2) (.int .i64 t286)) (fun _ hk=>hk.2) (.slice Ao20 t287.length co20)) (fun _ h_=>h_.1))) (Kd.R_base ho24) hb);have n1_:=Aside0.mk (Kd.R_lower (Kd.R_newB (Kd.R_new' ho24 (Kd.R_lt (by(with_reducible repeat(first|apply Kd.R_alloc|apply Kd.R_drewN|apply Kd.R_drew));exact(Kd.R_mono (Kd.R_far (p:=⟨gb290,1,none⟩) (Kd.R_far (p:=⟨gb290,0,none⟩) (Kd.R_types HO289.out BK290.out (by decide)) (fun _ hk=>hk.2) (.int .i64 t286)) (fun _ hk=>hk.2) (.slice Ao20 t287.length co20)) (fun _ h_=>h_.1))))) (g:=gb284) (o:= .cells #[.int .i64 a1_0,.int .i64 a1_1,.int .i64 a1_2] 53 (0,0)) (by(with_reducible repeat(first|refine blk_drewN ?_ _|refine blk_drew ?_ |refine blk_alloc ?_ _));refine blk_far ?_ NB284_290.out _;(with_reducible repeat(first|refine blk_drewN ?_ _|refine blk_drew ?_ |refine blk_alloc ?_ _));refine blk_far ?_ NB284_290.out _;(with_reducible repeat(first|refine blk_drewN ?_ _|refine blk_drew ?_ |refine blk_alloc ?_ _));exact BK284.out)) (below_size (zb4 HB GE283 GE284 GE285 GE290)));have n2_:=Aside0.mk (blk_below (g:=gb283) (o:= .cells #[.int .i64 a0_0,.slice A0_1 l0_1.length c0_1] 24 (0,0)) (by(with_reducible repeat(first|refine blk_drewN ?_ _|refine blk_drew ?_ |refine blk_alloc ?_ _));refine blk_far ?_ NB283_290.out _;(with_reducible repeat(first|refine blk_drewN ?_ _|refine blk_drew ?_ |refine blk_alloc ?_ _));refine blk_far ?_ NB283_290.out _;(with_reducible repeat(first|refine blk_drewN ?_ _|refine blk_drew ?_ |refine blk_alloc ?_ _));exact BK283.out) hb);have n3_:=Aside0.mk (blk_below (g:=gb284) (o:= .cells #[.int .i64 a1_0,.int .i64 a1_1,.int .i64 a1_2] 53 (0,0)) (by(with_reducible repeat(first|refine blk_drewN ?_ _|refine blk_drew ?_ |refine blk_alloc ?_ _));refine blk_far ?_ NB284_290.out _;(with_reducible repeat(first|refine blk_drewN ?_ _|refine blk_drew ?_ |refine blk_alloc ?_ _));refine blk_far ?_ NB284_290.out _;(with_reducible repeat(first|refine blk_drewN ?_ _|refine blk_drew ?_ |refine blk_alloc ?_ _));exact BK284.out) hb);have n4_:=Aside0.mk (blk_below (g:=gb285) (o:= .cells #[.int .i64 0,.slice none 0 0] 24 (0,0)) (by(with_reducible repeat(first|refine blk_drewN ?_ _|refine blk_drew ?_ |refine blk_alloc ?_ _));refine blk_far ?_ NB285_290.out _;(with_reducible repeat(first|refine blk_drewN ?_ _|refine blk_drew ?_ |refine blk_alloc ?_ _));refine blk_far ?_ NB285_290.out _;(with_reducible repeat(first|refine blk_drewN ?_ _|refine blk_drew ?_ |refine blk_alloc ?_ _));exact BK285.out) hb);have n5_:=Aside0.mk (blk_below (g:=gb290) (o:= .cells #[.int .i64 t286,.slice Ao20 t287.length co20] 24 (0,0)) (by(with_reducible repeat(first|refine blk_drewN ?_ _|refine blk_drew ?_ |refine blk_alloc ?_ _));refine blk_put (cs:= #[.int .i64 t286,.slice none 0 0]) ?_ 1 _ rfl;(with_reducible repeat(first|refine blk_drewN ?_ _|refine blk_drew ?_ |refine blk_alloc ?_ _));refine blk_put (cs:= #[.int .i64 0,.slice none 0 0]) ?_ 0 _ rfl;(with_reducible repeat(first|refine blk_drewN ?_ _|refine blk_drew ?_ |refine blk_alloc ?_ _));exact BK290.out) hb);have n6_:=Aside0.mk (below_step (zb4 HB GE283 GE284 GE285 GE290) hb);clear HO289;clear BK283;clear BK284;clear BK285;clear BK290;clear HB;have HO289:=n0_;have HO293:=n1_;have BK283:=n2_;have BK284:=n3_;have BK285:=n4_;have BK290:=n5_;have HB:=n6_;clear n0_ n1_ n2_ n3_ n4_ n5_ n6_;clear hb ho24;have hcz25_0:w23.cell? ⟨gb290,0,none⟩=some (.int .i64 t286):=(blk_cell BK290.out 0).trans rfl;have hcz25_1:w23.cell? ⟨gb290,1,none⟩=some (.slice Ao20 t287.length co20):=(blk_cell BK290.out 1).trans rfl;have hfz25_0:=blk_frozen BK290.out 0;have hfz25_1:=blk_frozen BK290.out 1)|((with_reducible refine gate_builtin (b:= .append) (xs:= #[.tmp 10,.tmp 12]) rfl ?_);at_builtin;refine Kd.R_append_rows k53 (w0:=w) w.heap.size rfl (.tmp 10) (.tmp 12) 22 53 (.agg #[(.int .i64 0),(.int .i64 0),(.int .i64 0)]) 24 rfl Try.underlying22 info53 rfl (by decide) (by omega) v292 y291 t287 _ _ _ (fun k_=>some k_≠ (.slice Ao20 t287.length co20:Value).ownBlock∧k_≠gb284) (fun _=>False) rfl rfl ?aO ?aR (fun _ _ h=>h) (fun _ h=>h.elim) ?aF ?aB ?aS ?aL ?_;(case aR=>repeat(first|exact(Kd.R_reads' HO289.out).2.2|(with_reducible refine Kd.C_alloc ?_ _)|(with_reducible refine Kd.C_drewN ?_ _)|(with_reducible refine Kd.C_drew ?_)));(case aB=>exact(zb4 HB GE283 GE284 GE285 GE290));(case aF=>exact(fun k_ hk=>⟨Kd.fresh' (Kd.R_lt (z4 HO289)) k_ hk,Kd.freshB (g:=gb284) (o:= .cells #[.int .i64 a1_0,.int .i64 a1_1,.int .i64 a1_2] 53 (0,0)) (z3 BK284) k_ hk⟩));(case aO=>exact(by(with_reducible repeat(first|apply Kd.R_alloc|apply Kd.R_drewN|apply Kd.R_drew));exact Kd.R_mono HO293.out (fun _ hk=>⟨hk.1.2,hk.2⟩)));(case aS=>exact(below_size (zb4 HB GE283 GE284 GE285 GE290)));(case aL=>have:=LMc4.out;omega);intro v295 w26 ho hb hg hat;rw [← Ny294.out] at ho;have n0_:=Aside0.mk (blk_grown (g:=gb283) (o:= .cells #[.int .i64 a0_0,.slice A0_1 l0_1.length c0_1] 24 (0,0)) (z3 BK283) hg (Kd.R_ne HO293.out BK283.out (by decide)));have n1_:=Aside0.mk (blk_grown (g:=gb284) (o:= .cells #[.int .i64 a1_0,.int .i64 a1_1,.int .i64 a1_2] 53 (0,0)) (z3 BK284) hg (Kd.R_away HO293.out (fun _ hk=>hk.2)));have n2_:=Aside0.mk (blk_grown (g:=gb285) (o:= .cells #[.int .i64 0,.slice none 0 0] 24 (0,0)) (z3 BK285) hg (Kd.R_ne HO293.out BK285.out (by decide)));have n3_:=Aside0.mk (Kd.R_after (ok:=(fun k_=>k_≠gb284)) (by(with_reducible repeat(first|apply Kd.R_alloc|apply Kd.R_drewN|apply Kd.R_drew));exact Kd.R_mono HO289.out (fun _ hk=>⟨hk.1.2,hk.2⟩)) hg hat);have n4_:=Aside0.mk (blk_grown (g:=gb290) (o:= .cells #[.int .i64 t286,.slice Ao20 t287.length co20] 24 (0,0)) (z3 BK290) hg (Kd.R_ne HO293.out BK290.out (by decide)));have n5_:=Aside0.mk (hb);have n6_:=Aside0.mk (ho);clear BK283;clear BK284;clear BK285;clear HO289;clear BK290;clear HB;clear HO293;have BK283:=n0_;have BK284:=n1_;have BK285:=n2_;have HO289:=n3_;have BK290:=n4_;have HB:=n5_;have HO296:=n6_;clear n0_ n1_ n2_ n3_ n4_ n5_ n6_;clear ho hb hg hat;obtain⟨Ao27,co27,eo27⟩:=Kd.R_slice HO296.out;subst eo27;have hcz28_0:w26.cell? ⟨gb290,0,none⟩=some (.int .i64 t286):=(blk_cell BK290.out 0).trans rfl;have hcz28_1:w26.cell? ⟨gb290,1,none⟩=some (.slice Ao20 t287.length co20):=(blk_cell BK290.out 1).trans rfl;have hfz28_0:=blk_frozen BK290.out 0;have hfz28_1:=blk_frozen BK290.out 1)|((with_reducible refine gate_store (t:=22) (p:=14) rfl ?_);refine store_event (t:=22) (p:=14) (v:=?vo_w29) (w1:=(w26.setCell ⟨gb290,1,none⟩ (.slice Ao27 y294.length co27))) ?hg ?ho ?hn ?hr ?_;(case ho=>rfl);(case hg=>rfl);(case hn=>rfl);(case hr=>first|(go_simp;done)|(go_simp;rfl));intro w29 hw;have n0_:Aside0 (Kd.R k53 53 w29 w.heap.size (fun k_=>some k_≠ (.slice Ao27 y294.length co27:Value).ownBlock∧k_≠gb284) (.slice Ao20 t287.length co20) t287):=⟨(by rw [hw];exact(by(with_reducible repeat(first|apply Kd.R_alloc|apply Kd.R_drewN|apply Kd.R_drew));exact Kd.R_mono (Kd.R_far (p:=⟨gb290,1,none⟩) (Kd.R_types HO289.out BK290.out (by decide)) (fun _ hk=>hk.2) (.slice Ao27 y294.length co27)) (fun _ hk=>⟨hk.1.2,hk.1.1⟩)))⟩;have n1_:Aside0 (Kd.R k53 53 w29 w.heap.size (fun k_=>some k_≠ (.slice Ao20 t287.length co20:Value).ownBlock∧k_≠gb284) (.slice Ao27 y294.length co27) y294):=⟨(by rw [hw];exact(by(with_reducible repeat(first|apply Kd.R_alloc|apply Kd.R_drewN|apply Kd.R_drew));exact Kd.R_mono (Kd.R_far (p:=⟨gb290,1,none⟩) (Kd.R_types HO296.out BK290.out (by decide)) (fun _ hk=>hk.2) (.slice Ao27 y294.length co27)) (fun _ hk=>⟨hk.1.1,hk.1.2⟩)))⟩;have n2_:Aside0 (w29.heap[gb283]?=some (.cells #[.int .i64 a0_0,.slice A0_1 l0_1.length c0_1] 24 (0,0))):=⟨(by rw [hw];exact(by(with_reducible repeat(first|refine blk_drewN ?_ _|refine blk_drew ?_ |refine blk_alloc ?_ _));refine blk_far ?_ NB283_290.out _;(with_reducible repeat(first|refine blk_drewN ?_ _|refine blk_drew ?_ |refine blk_alloc ?_ _));exact BK283.out))⟩;have n3_:Aside0 (w29.heap[gb284]?=some (.cells #[.int .i64 a1_0,.int .i64 a1_1,.int .i64 a1_2] 53 (0,0))):=⟨(by rw [hw];exact(by(with_reducible repeat(first|refine blk_drewN ?_ _|refine blk_drew ?_ |refine blk_alloc ?_ _));refine blk_far ?_ NB284_290.out _;(with_reducible repeat(first|refine blk_drewN ?_ _|refine blk_drew ?_ |refine blk_alloc ?_ _));exact BK284.out))⟩;have n4_:Aside0 (w29.heap[gb285]?=some (.cells #[.int .i64 0,.slice none 0 0] 24 (0,0))):=⟨(by rw [hw];exact(by(with_reducible repeat(first|refine blk_drewN ?_ _|refine blk_drew ?_ |refine blk_alloc ?_ _));refine blk_far ?_ NB285_290.out _;(with_reducible repeat(first|refine blk_drewN ?_ _|refine blk_drew ?_ |refine blk_alloc ?_ _));exact BK285.out))⟩;have n5_:Aside0 (w29.heap[gb290]?=some (.cells #[.int .i64 t286,.slice Ao27 y294.length co27] 24 (0,0))):=⟨(by rw [hw];exact(by(with_reducible repeat(first|refine blk_drewN ?_ _|refine blk_drew ?_ |refine blk_alloc ?_ _));refine blk_put (cs:= #[.int .i64 t286,.slice Ao20 t287.length co20]) ?_ 1 _ rfl;(with_reducible repeat(first|refine blk_drewN ?_ _|refine blk_drew ?_ |refine blk_alloc ?_ _));exact BK290.out))⟩;have n6_:Aside0 (Below w.heap.size w w29):=⟨(by rw [hw];exact(zb4 HB GE283 GE284 GE285 GE290))⟩;clear hw;clear HO289;clear HO296;clear BK283;clear BK284;clear BK285;clear BK290;clear HB;have HO289:=n0_;have HO296:=n1_;have BK283:=n2_;have BK284:=n3_;have BK285:=n4_;have BK290:=n5_;have HB:=n6_;clear n0_ n1_ n2_ n3_ n4_ n5_ n6_;have hcz30_0:w29.cell? ⟨gb290,0,none⟩=some (.int .i64 t286):=(blk_cell BK290.out 0).trans rfl;have hcz30_1:w29.cell? ⟨gb290,1,none⟩=some (.slice Ao27 y294.length co27):=(blk_cell BK290.out 1).trans rfl;have hfz30_0:=blk_frozen BK290.out 0;have hfz30_1:=blk_frozen BK290.out 1;have hcz31_0:w29.cell? ⟨gb283,0,none⟩=some (.int .i64 a0_0):=(blk_cell BK283.out 0).trans rfl;have hcz31_1:w29.cell? ⟨gb283,1,none⟩=some (.slice A0_1 l0_1.length c0_1):=(blk_cell BK283.out 1).trans rfl;have hfz31_0:=blk_frozen BK283.out 0;have hfz31_1:=blk_frozen BK283.out 1;have q32:((ji5):Int)≤ ((y294.length:Int):Int):=of_decide_eq_true z1;obtain⟨i032,hi032,_,hsz32,_⟩:=info_parts info53;have hcut32:=cut_to (P:=Try.prog) 22 53 .i64 Try.underlying22 hi032 Ao27 y294.length co27 (ji5) (of_decide_eq_true z1) q32 (Kd.R_reads' HO296.out).2.1;have hr32:=Kd.R_take (m:=((ji5):Int).toNat) HO296.out (by omega);have hy32:y297.length= ((ji5):Int).toNat:=(by rw [Ny297.out,List.length_take];omega);rw [← Ny297.out] at hr32;rw [← hy32] at hr32 hcut32;clear hy32 hi032 hsz32 HO296;have HO299:=Aside0.mk hr32;clear hr32;replace q32:=eq_true q32;have hcz33_0:w29.cell? ⟨gb285,0,none⟩=some (.int .i64 0):=(blk_cell BK285.out 0).trans rfl;have hcz33_1:w29.cell? ⟨gb285,1,none⟩=some (.slice none 0 0):=(blk_cell BK285.out 1).trans rfl;have hfz33_0:=blk_frozen BK285.out 0;have hfz33_1:=blk_frozen BK285.out 1))
    refine bodyPost_ret (results_cell_row rfl _ _ gb285 24 #[.int .i64 t286,.slice Ao27 y297.length co27] (0,0) _ rfl (by(with_reducible repeat(first|refine blk_drewN ?_ _|refine blk_drew ?_ |refine blk_alloc ?_ _));refine blk_put (cs:= #[.int .i64 t286,.slice none 0 0]) ?_ 1 _ rfl;(with_reducible repeat(first|refine blk_drewN ?_ _|refine blk_drew ?_ |refine blk_alloc ?_ _));refine blk_put (cs:= #[.int .i64 0,.slice none 0 0]) ?_ 0 _ rfl;(with_reducible repeat(first|refine blk_drewN ?_ _|refine blk_drew ?_ |refine blk_alloc ?_ _));refine blk_far ?_ NB285_290.out _;(with_reducible repeat(first|refine blk_drewN ?_ _|refine blk_drew ?_ |refine blk_alloc ?_ _));exact BK285.out) Try.underlying24 rfl (by kernel_rfl)) rfl ?_
    exact⟨_,by first|rfl|(simp [errW_none,errW_some]<;>rfl)|(simp only [← hji5];first|rfl|(simp [errW_none,errW_some]<;>rfl))|(simp [*,errW_none,errW_some]<;>rfl),by(with_reducible repeat(first|apply Kd.R_alloc|apply Kd.R_drewN|apply Kd.R_drew));exact Kd.R_mono (Kd.R_far (p:=⟨gb285,1,none⟩) (Kd.R_far (p:=⟨gb285,0,none⟩) (Kd.R_far (p:=⟨gb290,1,none⟩) (Kd.R_types (Kd.R_types HO299.out BK290.out (by decide)) BK285.out (by decide)) (fun _ hk=>hk.1.2) (.slice Ao27 y297.length co27)) (fun _ hk=>hk.2) (.int .i64 t286)) (fun _ hk=>hk.2) (.slice Ao27 y297.length co27)) (fun _ hk=>trivial),by repeat(first|(with_reducible first|exact HB.out|apply below_alloc|apply pw_below_drewN|apply below_drew1|refine below_set ?_ GE283.out|refine below_set ?_ GE284.out|refine below_set ?_ GE285.out|refine below_set ?_ GE290.out)|exact HB.out)⟩
   ·rw [if_neg c7] at H
    exact absurd H (by simp)
  ·rw [if_neg c6] at H
   exact absurd H (by simp)
 ·rw [if_neg c4] at H
  exact absurd H (by simp)
end Go.Proofs.Ytcbofebikbbknaa.P

namespace Go.Proofs.Ytcbofebikbbknaa.P
open Go.RowKit Go.Proofs.YtcbofebikbbknaaW.PrintWords Go.Proofs.YtcbofebikbbknaaW.PrintLast Go.Proofs.YtcbofebikbbknaaW.PrintMore
attribute [local go_sem] max2_int min2_int max_two min_two max_three min_three max_four min_four   -- for this text's walks alone
set_option linter.unusedVariables false
set_option linter.unusedSimpArgs false
def impl_Learn.f (k:Nat) (a0_0:Int) (l0_1:List (S53)) (a1_0:Int) (a1_1:Int) (a1_2:Int):Option (Int × (List (S53)) × Bool):=(impl_GoodTable.f k a0_0 l0_1).bind fun t554=>(if t554=true then((impl_isSeen.f a1_0 a1_1 a1_2).bind fun t555=>(if t555=true then(if (l0_1.length:Int) > 0 then(if 0< (l0_1.length:Int) then(if ((rd_T53 l0_1 0).f2) > a1_2 then(some (0,([] :List (S53)),false)) else((impl_Table_learn.f k a0_0 l0_1 a1_0 a1_1 a1_2).bind fun bt557=>(some (bt557.1,bt557.2,true)))) else(none)) else((impl_Table_learn.f k a0_0 l0_1 a1_0 a1_1 a1_2).bind fun bt561=>(some (bt561.1,bt561.2,true)))) else(some (0,([] :List (S53)),false)))) else(some (0,([] :List (S53)),false)))
def impl_Learn.T1:Bool × List (List Nat × List Nat):=(true,[([],[]),([0],[0]),([1],[1]),([2,1],[2]),([3],[3]),([4,3,3],[3,4]),([5,3],[3,5]),([3,6],[3,6]),([7,5],[7]),([8],[8]),([9,8],[8,9]),([10,8],[8,10]),([11,8],[8,11]),([12,8,8],[8,12]),([13],[13]),([14,13],[13,14]),([15,13],[13,15]),([16,13],[13,16]),([17,13],[13,17]),([13],[13]),([19,13],[13,19]),([18,20,13],[13,18,20]),([13,21,8],[8,13,21]),([8,22],[8,22])])
def impl_Learn.B1:List Nat:= [0,1,3,7,15,31,63,127,255,511,1023,2047,4095,8191,16383,32767,65535,131071,262143,16383,540671,2097151,4194303,8388607]
theorem impl_Learn.tab1:rtab .any (opsOf Try.f37 1)=impl_Learn.T1:=by kernel_rfl
theorem impl_Learn.bits1:waitsOk impl_Learn.T1.2 impl_Learn.B1=true:=by kernel_rfl
set_option maxHeartbeats 8000000 in
set_option maxRecDepth 100000 in
theorem impl_Learn.calls (k:Nat) (a0_0:Int) (A0_1:Option Addr) (c0_1:Nat) (l0_1:List (S53)) (a1_0:Int) (a1_1:Int) (a1_2:Int) (r1:Int) (r2:List (S53)) (r3:Bool) (w:World) (hr0_1:Kd.C k53 w A0_1 l0_1.length l0_1) (hc0_1:l0_1.length≤c0_1) (h:impl_Learn.f k a0_0 l0_1 a1_0 a1_1 a1_2=some (r1,r2,r3)):
  Calls Try.prog 37 #[.agg #[.int .i64 a0_0,.slice A0_1 l0_1.length c0_1],.agg #[.int .i64 a1_0,.int .i64 a1_1,.int .i64 a1_2]] w fun e w'=> ∃ v1_:Value,e= .returned (.tuple #[.agg #[.int .i64 r1,v1_],.bool r3])∧Kd.R k53 53 w' w.heap.size (fun _=>True) v1_ r2∧Below w.heap.size w w':=by
 have hu24:=Try.underlying24
 have hu53:=Try.underlying53
 have HR0_1:=Aside0.mk hr0_1
 have HC0_1:=Aside0.mk hc0_1
 clear hr0_1 hc0_1
 have HB:=Aside0.mk (Below.refl w.heap.size w)
 have H:((impl_GoodTable.f k a0_0 l0_1).bind fun t554=>(if t554=true then((impl_isSeen.f a1_0 a1_1 a1_2).bind fun t555=>(if t555=true then(if (l0_1.length:Int) > 0 then(if 0< (l0_1.length:Int) then(if ((rd_T53 l0_1 0).f2) > a1_2 then(some (0,([] :List (S53)),false)) else((impl_Table_learn.f k a0_0 l0_1 a1_0 a1_1 a1_2).bind fun bt557=>(some (bt557.1,bt557.2,true)))) else(none)) else((impl_Table_learn.f k a0_0 l0_1 a1_0 a1_1 a1_2).bind fun bt561=>(some (bt561.1,bt561.2,true)))) else(some (0,([] :List (S53)),false)))) else(some (0,([] :List (S53)),false))))=some (r1,r2,r3):=h
 clear h
 replace H:=Option.bind_eq_some_iff.mp H
 obtain⟨t554,A30,H⟩:=H
 replace H:(if t554=true then((impl_isSeen.f a1_0 a1_1 a1_2).bind fun t555=>(if t555=true then(if (l0_1.length:Int) > 0 then(if 0< (l0_1.length:Int) then(if ((rd_T53 l0_1 0).f2) > a1_2 then(some (0,([] :List (S53)),false)) else((impl_Table_learn.f k a0_0 l0_1 a1_0 a1_1 a1_2).bind fun bt557=>(some (bt557.1,bt557.2,true)))) else(none)) else((impl_Table_learn.f k a0_0 l0_1 a1_0 a1_1 a1_2).bind fun bt561=>(some (bt561.1,bt561.2,true)))) else(some (0,([] :List (S53)),false)))) else(some (0,([] :List (S53)),false)))=some (r1,r2,r3):=H
 have A3:=Aside0.mk A30
 clear A30
 by_cases c4:t554=true
 ·subst c4
  have H1:((impl_isSeen.f a1_0 a1_1 a1_2).bind fun t555=>(if t555=true then(if (l0_1.length:Int) > 0 then(if 0< (l0_1.length:Int) then(if ((rd_T53 l0_1 0).f2) > a1_2 then(some (0,([] :List (S53)),false)) else((impl_Table_learn.f k a0_0 l0_1 a1_0 a1_1 a1_2).bind fun bt557=>(some (bt557.1,bt557.2,true)))) else(none)) else((impl_Table_learn.f k a0_0 l0_1 a1_0 a1_1 a1_2).bind fun bt561=>(some (bt561.1,bt561.2,true)))) else(some (0,([] :List (S53)),false))))=some (r1,r2,r3):=by rw [if_pos rfl] at H;exact H
  clear H
  have H:=H1
  clear H1
  replace H:=Option.bind_eq_some_iff.mp H
  obtain⟨t555,A50,H⟩:=H
  replace H:(if t555=true then(if (l0_1.length:Int) > 0 then(if 0< (l0_1.length:Int) then(if ((rd_T53 l0_1 0).f2) > a1_2 then(some (0,([] :List (S53)),false)) else((impl_Table_learn.f k a0_0 l0_1 a1_0 a1_1 a1_2).bind fun bt557=>(some (bt557.1,bt557.2,true)))) else(none)) else((impl_Table_learn.f k a0_0 l0_1 a1_0 a1_1 a1_2).bind fun bt561=>(some (bt561.1,bt561.2,true)))) else(some (0,([] :List (S53)),false)))=some (r1,r2,r3):=H
  have A5:=Aside0.mk A50
  clear A50
  by_cases c6:t555=true
  ·subst c6
   have H1:(if (l0_1.length:Int) > 0 then(if 0< (l0_1.length:Int) then(if ((rd_T53 l0_1 0).f2) > a1_2 then(some (0,([] :List (S53)),false)) else((impl_Table_learn.f k a0_0 l0_1 a1_0 a1_1 a1_2).bind fun bt557=>(some (bt557.1,bt557.2,true)))) else(none)) else((impl_Table_learn.f k a0_0 l0_1 a1_0 a1_1 a1_2).bind fun bt561=>(some (bt561.1,bt561.2,true))))=some (r1,r2,r3):=by rw [if_pos rfl] at H;exact H
   clear H
   have H:=H1
   clear H1
   by_cases c7:(l0_1.length:Int) > 0
   ·rw [if_pos c7] at H
    have c7b0:decide (0< (l0_1.length:Int))=true:=decide_eq_true c7
    have c7b1:decide (0<l0_1.length)=true:=decide_eq_true (by omega)
    clear c7
    by_cases c8: 0< (l0_1.length:Int)
    ·rw [if_pos c8] at H
     have c8b0:decide (0< (l0_1.length:Int))=true:=decide_eq_true c8
     have c8b1:decide (0<l0_1.length)=true:=decide_eq_true (by omega)
     clear c8
     by_cases c9:((rd_T53 l0_1 0).f2) > a1_2
     ·rw [if_pos c9] at H
      have c9b0:decide (a1_2< ((rd_T53 l0_1 0).f2))=true:=decide_eq_true c9
      clear c9
      simp only [Option.some.injEq,Prod.mk.injEq] at H
      obtain⟨rfl,rfl,rfl⟩:=H
      go_enter Try.func37,Try.ntmps37
      try go_wp2_with (first|((with_reducible refine gate_dst (N:=2) rfl ?_);(try(refine gate_guard (by rfl) ?_;dsimp only));refine box_event ?hg (N:=2) ?hd (cs:= #[.int .i64 a0_0,.slice A0_1 l0_1.length c0_1]) (t:=24) ?hr ?_;(case hd=>rfl);(case hg=>rfl);(case hr=>first|(go_simp;done)|(go_simp;rfl));intro gb551 hg w10 hbox hb;have n0_:=Aside0.mk (below_step (zb0 HB) hb);have n1_:=Aside0.mk (hbox);have n2_:=Aside0.mk ((by rw [hg];exact(below_size (zb0 HB)):w.heap.size≤gb551));have n3_:=Aside0.mk ((by rw [hg];exact(below_size (zb0 HB)):w.heap.size≤gb551));clear HB;have HB:=n0_;have BK551:=n1_;have GW551:=n2_;have GE551:=n3_;clear n0_ n1_ n2_ n3_;clear hb hbox hg)|((with_reducible refine gate_dst (N:=3) rfl ?_);(try(refine gate_guard (by rfl) ?_;dsimp only));refine box_event ?hg (N:=3) ?hd (cs:= #[.int .i64 a1_0,.int .i64 a1_1,.int .i64 a1_2]) (t:=53) ?hr ?_;(case hd=>rfl);(case hg=>rfl);(case hr=>first|(go_simp;done)|(go_simp;rfl));intro gb552 hg w11 hbox hb;have n0_:=Aside0.mk (blk_below (g:=gb551) (o:= .cells #[.int .i64 a0_0,.slice A0_1 l0_1.length c0_1] 24 (0,0)) (z3 BK551) hb);have n1_:=Aside0.mk (below_step (zb1 HB GE551) hb);have n2_:=Aside0.mk (hbox);have n3_:=Aside0.mk ((by rw [hg];exact(below_size (zb1 HB GE551)):w.heap.size≤gb552));have n4_:=Aside0.mk ((by rw [hg];exact(below_size (zb1 HB GE551)):w.heap.size≤gb552));have n5_:=Aside0.mk ((by rw [hg];exact Nat.ne_of_lt (blk_lt (g:=gb551) (o:= .cells #[.int .i64 a0_0,.slice A0_1 l0_1.length c0_1] 24 (0,0)) (z3 BK551)):gb551≠gb552));have n6_:=Aside0.mk ((by rw [hg];exact Nat.ne_of_gt (blk_lt (g:=gb551) (o:= .cells #[.int .i64 a0_0,.slice A0_1 l0_1.length c0_1] 24 (0,0)) (z3 BK551)):gb552≠gb551));clear BK551;clear HB;have BK551:=n0_;have HB:=n1_;have BK552:=n2_;have GW552:=n3_;have GE552:=n4_;have NB551_552:=n5_;have NB552_551:=n6_;clear n0_ n1_ n2_ n3_ n4_ n5_ n6_;clear hb hbox hg)|((with_reducible refine gate_dst (N:=4) rfl ?_);(try(refine gate_guard (by rfl) ?_;dsimp only));refine box_event ?hg (N:=4) ?hd (cs:= #[.int .i64 0,.slice none 0 0]) (t:=24) ?hr ?_;(case hd=>rfl);(case hg=>rfl);(case hr=>first|(go_simp;done)|(go_simp;rfl));intro gb553 hg w12 hbox hb;have n0_:=Aside0.mk (blk_below (g:=gb551) (o:= .cells #[.int .i64 a0_0,.slice A0_1 l0_1.length c0_1] 24 (0,0)) (z3 BK551) hb);have n1_:=Aside0.mk (blk_below (g:=gb552) (o:= .cells #[.int .i64 a1_0,.int .i64 a1_1,.int .i64 a1_2] 53 (0,0)) (z3 BK552) hb);have n2_:=Aside0.mk (below_step (zb2 HB GE551 GE552) hb);have n3_:=Aside0.mk (hbox);have n4_:=Aside0.mk ((by rw [hg];exact(below_size (zb2 HB GE551 GE552)):w.heap.size≤gb553));have n5_:=Aside0.mk ((by rw [hg];exact(below_size (zb2 HB GE551 GE552)):w.heap.size≤gb553));have n6_:=Aside0.mk ((by rw [hg];exact Nat.ne_of_lt (blk_lt (g:=gb551) (o:= .cells #[.int .i64 a0_0,.slice A0_1 l0_1.length c0_1] 24 (0,0)) (z3 BK551)):gb551≠gb553));have n7_:=Aside0.mk ((by rw [hg];exact Nat.ne_of_gt (blk_lt (g:=gb551) (o:= .cells #[.int .i64 a0_0,.slice A0_1 l0_1.length c0_1] 24 (0,0)) (z3 BK551)):gb553≠gb551));have n8_:=Aside0.mk ((by rw [hg];exact Nat.ne_of_lt (blk_lt (g:=gb552) (o:= .cells #[.int .i64 a1_0,.int .i64 a1_1,.int .i64 a1_2] 53 (0,0)) (z3 BK552)):gb552≠gb553));have n9_:=Aside0.mk ((by rw [hg];exact Nat.ne_of_gt (blk_lt (g:=gb552) (o:= .cells #[.int .i64 a1_0,.int .i64 a1_1,.int .i64 a1_2] 53 (0,0)) (z3 BK552)):gb553≠gb552));clear BK551;clear BK552;clear HB;have BK551:=n0_;have BK552:=n1_;have HB:=n2_;have BK553:=n3_;have GW553:=n4_;have GE553:=n5_;have NB551_553:=n6_;have NB553_551:=n7_;have NB552_553:=n8_;have NB553_552:=n9_;clear n0_ n1_ n2_ n3_ n4_ n5_ n6_ n7_ n8_ n9_;clear hb hbox hg))
      have n0_:=Aside0.mk (blk_drew BK551.out)
      have n1_:=Aside0.mk (blk_drew BK552.out)
      have n2_:=Aside0.mk (blk_drew BK553.out)
      have n3_:=Aside0.mk (below_drew1 HB.out)
      clear BK551
      clear BK552
      clear BK553
      clear HB
      have BK551:=n0_
      have BK552:=n1_
      have BK553:=n2_
      have HB:=n3_
      clear n0_ n1_ n2_ n3_
      have p556: 0≤ (0:Int):=(by omega)
      have q556: 0< (l0_1.length:Int):=of_decide_eq_true z1
      obtain⟨ad556,e556,hx556_0,hx556_1,hx556_2⟩:=at_T53 HR0_1.out 0 p556 q556
      have hw556_2:=hx556_2
      (try rw [show ((0:Int)).toNat=0 from rfl] at hw556_2)
      (try rw [show 0 * 3=0 from rfl] at hw556_2)
      (try rw [Addr.add_zero'] at hw556_2)
      have hw556_1:=hx556_1
      (try rw [show ((0:Int)).toNat=0 from rfl] at hw556_1)
      (try rw [show 0 * 3=0 from rfl] at hw556_1)
      (try rw [Addr.add_zero'] at hw556_1)
      have hw556_0:=hx556_0
      (try rw [show ((0:Int)).toNat=0 from rfl] at hw556_0)
      (try rw [show 0 * 3=0 from rfl] at hw556_0)
      (try rw [Addr.add_zero'] at hw556_0)
      cases e556
      have qi556:(0<l0_1.length)=True:=eq_true (by omega)
      (try rw [show ((0:Int)).toNat=0 from rfl] at hx556_0)
      (try rw [show 0 * 3=0 from rfl] at hx556_0)
      (try rw [Addr.add_zero'] at hx556_0)
      (try rw [show ((0:Int)).toNat=0 from rfl] at hx556_1)
      (try rw [show 0 * 3=0 from rfl] at hx556_1)
      (try rw [Addr.add_zero'] at hx556_1)
      (try rw [show ((0:Int)).toNat=0 from rfl] at hx556_2)
      (try rw [show 0 * 3=0 from rfl] at hx556_2)
      (try rw [Addr.add_zero'] at hx556_2)
      replace hx556_0:=(HB.out.cell (World.block_lt_of_cell? w _ hx556_0)).trans hx556_0
      replace hx556_1:=(HB.out.cell (World.block_lt_of_cell? w _ hx556_1)).trans hx556_1
      replace hx556_2:=(HB.out.cell (World.block_lt_of_cell? w _ hx556_2)).trans hx556_2
      replace p556:=eq_true p556
      replace q556:=eq_true q556
      refine start_ (n:=24) (S:=fun w'=>w'.cell? ⟨gb551,0,none⟩=some (.int .i64 a0_0)∧w'.cell? ⟨gb551,1,none⟩=some (.slice (some ad556) l0_1.length c0_1)∧w'.cell? ⟨gb552,0,none⟩=some (.int .i64 a1_0)∧w'.cell? ⟨gb552,1,none⟩=some (.int .i64 a1_1)∧w'.cell? ⟨gb552,2,none⟩=some (.int .i64 a1_2)∧w'.cell? ad556=some (.int .i64 ((rd_T53 l0_1 0).f0))∧w'.cell? ⟨ad556.block,ad556.off+1,none⟩=some (.int .i64 ((rd_T53 l0_1 0).f1))∧w'.cell? ⟨ad556.block,ad556.off+2,none⟩=some (.int .i64 ((rd_T53 l0_1 0).f2))) (ds:= []) #[f',f',f',f',f',f',f',f',f',f',f',f',f',f',f',f',f',f',f',f',f',f',f',f'] (by kernel_rfl) rfl rfl ⟨(blk_cell BK551.out 0).trans rfl,(blk_cell BK551.out 1).trans rfl,(blk_cell BK552.out 0).trans rfl,(blk_cell BK552.out 1).trans rfl,(blk_cell BK552.out 2).trans rfl,((HB.out.cell (World.block_lt_of_cell? w _ hw556_0)).trans hw556_0),((HB.out.cell (World.block_lt_of_cell? w _ hw556_1)).trans hw556_1),((HB.out.cell (World.block_lt_of_cell? w _ hw556_2)).trans hw556_2)⟩ (fun hHeld=>?_);refine with_tabW impl_Learn.tab1 impl_Learn.bits1 (fun HT_ HW_=>?_)
      generalize w12.drew=w13 at BK551 BK552 BK553 HB hx556_0 hx556_1 hx556_2 hHeld ⊢
      refine take_ (i:=0) (N:=some 6) (v:=?_) (a':=?_) #[t',f',f',f',f',f',f',f',f',f',f',f',f',f',f',f',f',f',f',f',f',f',f',f'] rfl rfl (take_ofW HT_.out HW_.out (by kernel_rfl)) (fun _ _ _ h=>h) (Or.inl ⟨by rfl,?_⟩) hHeld ?_ ?_
      rotate_left
      ·rintro w' ⟨s0,s1,s2,s3,s4,s5,s6,s7⟩
       go_simp
       with_reducible rfl
      rotate_left
      ·simp only [Act.put,z5,z6,z7,i64_w,i32_w]
       rfl
      refine one_ (i:=1) (N:=some 7) #[t',t',f',f',f',f',f',f',f',f',f',f',f',f',f',f',f',f',f',f',f',f',f',f'] rfl rfl (one_of HT_.out (by kernel_rfl)) (by decide) (fun K hK=>?_)
      refine goes_ Try.func20 (by kernel_rfl) rfl #[.agg #[.int .i64 a0_0,.slice (some ad556) l0_1.length c0_1]] (by rfl) rfl rfl z2 ?_
      with_reducible refine(impl_GoodTable.calls k a0_0 _ _ l0_1 true _ ?side1 ?side2 A3.out).mono ?_
      (case side1=>repeat(first|exact(Kd.C_below HR0_1.out HB.out)|(with_reducible refine Kd.C_alloc ?_ _)|(with_reducible refine Kd.C_drewN ?_ _)|(with_reducible refine Kd.C_drew ?_)))
      (case side2=>exact HC0_1.out)
      rintro e w14 ⟨rfl,hb⟩
      refine⟨_,rfl,?_⟩
      have n0_:=Aside0.mk (blk_below (g:=gb551) (o:= .cells #[.int .i64 a0_0,.slice (some ad556) l0_1.length c0_1] 24 (0,0)) (z3 BK551) hb)
      have n1_:=Aside0.mk (blk_below (g:=gb552) (o:= .cells #[.int .i64 a1_0,.int .i64 a1_1,.int .i64 a1_2] 53 (0,0)) (z3 BK552) hb)
      have n2_:=Aside0.mk (blk_below (g:=gb553) (o:= .cells #[.int .i64 0,.slice none 0 0] 24 (0,0)) (z3 BK553) hb)
      have n3_:=Aside0.mk (below_step (zb3 HB GE551 GE552 GE553) hb)
      clear BK551
      clear BK552
      clear BK553
      clear HB
      have BK551:=n0_
      have BK552:=n1_
      have BK553:=n2_
      have HB:=n3_
      clear n0_ n1_ n2_ n3_
      (try clear hb)
      (try clear hb2)
      (try clear hk)
      (try clear hi)
      refine hK.out _ _ ⟨(blk_cell BK551.out 0).trans rfl,(blk_cell BK551.out 1).trans rfl,(blk_cell BK552.out 0).trans rfl,(blk_cell BK552.out 1).trans rfl,(blk_cell BK552.out 2).trans rfl,((HB.out.cell (World.block_lt_of_cell? w _ hw556_0)).trans hw556_0),((HB.out.cell (World.block_lt_of_cell? w _ hw556_1)).trans hw556_1),((HB.out.cell (World.block_lt_of_cell? w _ hw556_2)).trans hw556_2)⟩ (fun hHeld=>?_)
      clear hK K
      refine norm_ (a':=?_) ?_ ?_
      rotate_left
      ·show Act.put _ (some 7) _=_
       simp only [Act.put,z5,z6,z7,i64_w,i32_w]
       rfl
      refine pure_ (i:=2) (N:=some 8) (v:=?_) (a':=?_) #[t',t',t',f',f',f',f',f',f',f',f',f',f',f',f',f',f',f',f',f',f',f',f',f'] rfl rfl (any_of HT_.out (by kernel_rfl)) (fun _ _ _ h=>h) (Or.inl ⟨by rfl,?_⟩) ?_ ?_
      rotate_left
      ·intro w'
       go_simp
       with_reducible rfl
      rotate_left
      ·simp only [Act.put,z5,z6,z7,i64_w,i32_w]
       rfl
      refine pure_ (i:=3) (N:=some 9) (v:=?_) (a':=?_) #[t',t',t',t',f',f',f',f',f',f',f',f',f',f',f',f',f',f',f',f',f',f',f',f'] rfl rfl (any_of HT_.out (by kernel_rfl)) (fun _ _ _ h=>h) (Or.inl ⟨by rfl,?_⟩) ?_ ?_
      rotate_left
      ·intro w'
       go_simp
       with_reducible rfl
      rotate_left
      ·simp only [Act.put,z5,z6,z7,i64_w,i32_w]
       rfl
      refine take_ (i:=4) (N:=some 10) (v:=?_) (a':=?_) #[t',t',t',t',t',f',f',f',f',f',f',f',f',f',f',f',f',f',f',f',f',f',f',f'] rfl rfl (take_ofW HT_.out HW_.out (by kernel_rfl)) (fun _ _ _ h=>h) (Or.inl ⟨by rfl,?_⟩) hHeld ?_ ?_
      rotate_left
      ·rintro w' ⟨s0,s1,s2,s3,s4,s5,s6,s7⟩
       go_simp
       with_reducible rfl
      rotate_left
      ·simp only [Act.put,z5,z6,z7,i64_w,i32_w]
       rfl
      refine one_ (i:=5) (N:=some 11) #[t',t',t',t',t',t',f',f',f',f',f',f',f',f',f',f',f',f',f',f',f',f',f',f'] rfl rfl (one_of HT_.out (by kernel_rfl)) (by decide) (fun K hK=>?_)
      refine goes_ Try.func45 (by kernel_rfl) rfl #[.agg #[.int .i64 a1_0,.int .i64 a1_1,.int .i64 a1_2]] (by rfl) rfl rfl z2 ?_
      with_reducible refine(impl_isSeen.calls a1_0 a1_1 a1_2 true _ A5.out).mono ?_
      rintro e w15 ⟨rfl,hb⟩
      refine⟨_,rfl,?_⟩
      have n0_:=Aside0.mk (blk_below (g:=gb551) (o:= .cells #[.int .i64 a0_0,.slice (some ad556) l0_1.length c0_1] 24 (0,0)) (z3 BK551) hb)
      have n1_:=Aside0.mk (blk_below (g:=gb552) (o:= .cells #[.int .i64 a1_0,.int .i64 a1_1,.int .i64 a1_2] 53 (0,0)) (z3 BK552) hb)
      have n2_:=Aside0.mk (blk_below (g:=gb553) (o:= .cells #[.int .i64 0,.slice none 0 0] 24 (0,0)) (z3 BK553) hb)
      have n3_:=Aside0.mk (below_step (zb3 HB GE551 GE552 GE553) hb)
      clear BK551
      clear BK552
      clear BK553
      clear HB
      have BK551:=n0_
      have BK552:=n1_
      have BK553:=n2_
      have HB:=n3_
      clear n0_ n1_ n2_ n3_
      (try clear hb)
      (try clear hb2)
      (try clear hk)
      (try clear hi)
      refine hK.out _ _ ⟨(blk_cell BK551.out 0).trans rfl,(blk_cell BK551.out 1).trans rfl,(blk_cell BK552.out 0).trans rfl,(blk_cell BK552.out 1).trans rfl,(blk_cell BK552.out 2).trans rfl,((HB.out.cell (World.block_lt_of_cell? w _ hw556_0)).trans hw556_0),((HB.out.cell (World.block_lt_of_cell? w _ hw556_1)).trans hw556_1),((HB.out.cell (World.block_lt_of_cell? w _ hw556_2)).trans hw556_2)⟩ (fun hHeld=>?_)
      clear hK K
      refine norm_ (a':=?_) ?_ ?_
      rotate_left
      ·show Act.put _ (some 11) _=_
       simp only [Act.put,z5,z6,z7,i64_w,i32_w]
       rfl
      refine pure_ (i:=6) (N:=some 12) (v:=?_) (a':=?_) #[t',t',t',t',t',t',t',f',f',f',f',f',f',f',f',f',f',f',f',f',f',f',f',f'] rfl rfl (any_of HT_.out (by kernel_rfl)) (fun _ _ _ h=>h) (Or.inl ⟨by rfl,?_⟩) ?_ ?_
      rotate_left
      ·intro w'
       go_simp
       with_reducible rfl
      rotate_left
      ·simp only [Act.put,z5,z6,z7,i64_w,i32_w]
       rfl
      refine pure_ (i:=7) (N:=some 13) (v:=?_) (a':=?_) #[t',t',t',t',t',t',t',t',f',f',f',f',f',f',f',f',f',f',f',f',f',f',f',f'] rfl rfl (any_of HT_.out (by kernel_rfl)) (fun _ _ _ h=>h) (Or.inl ⟨by rfl,?_⟩) ?_ ?_
      rotate_left
      ·intro w'
       go_simp
       with_reducible rfl
      rotate_left
      ·simp only [Act.put,z5,z6,z7,i64_w,i32_w]
       rfl
      refine pure_ (i:=8) (N:=some 14) (v:=?_) (a':=?_) #[t',t',t',t',t',t',t',t',t',f',f',f',f',f',f',f',f',f',f',f',f',f',f',f'] rfl rfl (any_of HT_.out (by kernel_rfl)) (fun _ _ _ h=>h) (Or.inl ⟨by rfl,?_⟩) ?_ ?_
      rotate_left
      ·intro w'
       go_simp
       with_reducible rfl
      rotate_left
      ·simp only [Act.put,z5,z6,z7,i64_w,i32_w]
       rfl
      refine pure_ (i:=9) (N:=some 15) (v:=?_) (a':=?_) #[t',t',t',t',t',t',t',t',t',t',f',f',f',f',f',f',f',f',f',f',f',f',f',f'] rfl rfl (any_of HT_.out (by kernel_rfl)) (fun _ _ _ h=>h) (Or.inl ⟨by rfl,?_⟩) ?_ ?_
      rotate_left
      ·intro w'
       go_simp
       with_reducible rfl
      rotate_left
      ·simp only [Act.put,z5,z6,z7,i64_w,i32_w]
       rfl
      refine take_ (i:=10) (N:=some 16) (v:=?_) (a':=?_) #[t',t',t',t',t',t',t',t',t',t',t',f',f',f',f',f',f',f',f',f',f',f',f',f'] rfl rfl (take_ofW HT_.out HW_.out (by kernel_rfl)) (fun _ _ _ h=>h) (Or.inl ⟨by rfl,?_⟩) hHeld ?_ ?_
      rotate_left
      ·rintro w' ⟨s0,s1,s2,s3,s4,s5,s6,s7⟩
       go_simp
       with_reducible rfl
      rotate_left
      ·simp only [Act.put,z5,z6,z7,i64_w,i32_w]
       rfl
      refine pure_ (i:=11) (N:=some 17) (v:=?_) (a':=?_) #[t',t',t',t',t',t',t',t',t',t',t',t',f',f',f',f',f',f',f',f',f',f',f',f'] rfl rfl (any_of HT_.out (by kernel_rfl)) (fun _ _ _ h=>h) (Or.inl ⟨by rfl,?_⟩) ?_ ?_
      rotate_left
      ·intro w'
       go_simp
       with_reducible rfl
      rotate_left
      ·simp only [Act.put,z5,z6,z7,i64_w,i32_w]
       rfl
      refine pure_ (i:=12) (N:=some 18) (v:=?_) (a':=?_) #[t',t',t',t',t',t',t',t',t',t',t',t',t',f',f',f',f',f',f',f',f',f',f',f'] rfl rfl (any_of HT_.out (by kernel_rfl)) (fun _ _ _ h=>h) (Or.inl ⟨by rfl,?_⟩) ?_ ?_
      rotate_left
      ·intro w'
       go_simp
       with_reducible rfl
      rotate_left
      ·simp only [Act.put,z5,z6,z7,i64_w,i32_w]
       rfl
      refine pure_ (i:=13) (N:=some 19) (v:=?_) (a':=?_) #[t',t',t',t',t',t',t',t',t',t',t',t',t',t',f',f',f',f',f',f',f',f',f',f'] rfl rfl (any_of HT_.out (by kernel_rfl)) (fun _ _ _ h=>h) (Or.inl ⟨by rfl,?_⟩) ?_ ?_
      rotate_left
      ·intro w'
       go_simp
       with_reducible rfl
      rotate_left
      ·simp only [Act.put,z5,z6,z7,i64_w,i32_w]
       rfl
      refine pure_ (i:=14) (N:=some 20) (v:=?_) (a':=?_) #[t',t',t',t',t',t',t',t',t',t',t',t',t',t',t',f',f',f',f',f',f',f',f',f'] rfl rfl (any_of HT_.out (by kernel_rfl)) (fun _ _ _ h=>h) (Or.inl ⟨by rfl,?_⟩) ?_ ?_
      rotate_left
      ·intro w'
       go_simp
       with_reducible rfl
      rotate_left
      ·simp only [Act.put,z5,z6,z7,i64_w,i32_w]
       rfl
      refine pure_ (i:=19) (N:=some 25) (v:=?_) (a':=?_) #[t',t',t',t',t',t',t',t',t',t',t',t',t',t',t',f',f',f',f',t',f',f',f',f'] rfl rfl (any_of HT_.out (by kernel_rfl)) (fun _ _ _ h=>h) (Or.inl ⟨by rfl,?_⟩) ?_ ?_
      rotate_left
      ·intro w'
       go_simp
       with_reducible rfl
      rotate_left
      ·simp only [Act.put,z5,z6,z7,i64_w,i32_w]
       rfl
      refine take_ (i:=15) (N:=some 21) (v:=?_) (a':=?_) #[t',t',t',t',t',t',t',t',t',t',t',t',t',t',t',t',f',f',f',t',f',f',f',f'] rfl rfl (take_ofW HT_.out HW_.out (by kernel_rfl)) (fun _ _ _ h=>h) (Or.inl ⟨by rfl,?_⟩) hHeld ?_ ?_
      rotate_left
      ·rintro w' ⟨s0,s1,s2,s3,s4,s5,s6,s7⟩
       go_simp
       with_reducible rfl
      rotate_left
      ·simp only [Act.put,z5,z6,z7,i64_w,i32_w]
       rfl
      refine pure_ (i:=16) (N:=some 22) (v:=?_) (a':=?_) #[t',t',t',t',t',t',t',t',t',t',t',t',t',t',t',t',t',f',f',t',f',f',f',f'] rfl rfl (any_of HT_.out (by kernel_rfl)) (fun _ _ _ h=>h) (Or.inl ⟨by rfl,?_⟩) ?_ ?_
      rotate_left
      ·intro w'
       go_simp
       with_reducible rfl
      rotate_left
      ·simp only [Act.put,z5,z6,z7,i64_w,i32_w]
       rfl
      refine pure_ (i:=17) (N:=some 23) (v:=?_) (a':=?_) #[t',t',t',t',t',t',t',t',t',t',t',t',t',t',t',t',t',t',f',t',f',f',f',f'] rfl rfl (any_of HT_.out (by kernel_rfl)) (fun _ _ _ h=>h) (Or.inl ⟨by rfl,?_⟩) ?_ ?_
      rotate_left
      ·intro w'
       go_simp
       with_reducible rfl
      rotate_left
      ·simp only [Act.put,z5,z6,z7,i64_w,i32_w]
       rfl
      refine take_ (i:=18) (N:=some 24) (v:=?_) (a':=?_) #[t',t',t',t',t',t',t',t',t',t',t',t',t',t',t',t',t',t',t',t',f',f',f',f'] rfl rfl (take_ofW HT_.out HW_.out (by kernel_rfl)) (fun _ _ _ h=>h) (Or.inl ⟨by rfl,?_⟩) hHeld ?_ ?_
      rotate_left
      ·rintro w' ⟨s0,s1,s2,s3,s4,s5,s6,s7⟩
       go_simp
       with_reducible rfl
      rotate_left
      ·simp only [Act.put,z5,z6,z7,i64_w,i32_w]
       rfl
      refine take_ (i:=20) (N:=some 26) (v:=?_) (a':=?_) #[t',t',t',t',t',t',t',t',t',t',t',t',t',t',t',t',t',t',t',t',t',f',f',f'] rfl rfl (take_ofW HT_.out HW_.out (by kernel_rfl)) (fun _ _ _ h=>h) (Or.inl ⟨by rfl,?_⟩) hHeld ?_ ?_
      rotate_left
      ·rintro w' ⟨s0,s1,s2,s3,s4,s5,s6,s7⟩
       go_simp
       with_reducible rfl
      rotate_left
      ·simp only [Act.put,z5,z6,z7,i64_w,i32_w]
       rfl
      refine pure_ (i:=21) (N:=some 27) (v:=?_) (a':=?_) #[t',t',t',t',t',t',t',t',t',t',t',t',t',t',t',t',t',t',t',t',t',t',f',f'] rfl rfl (any_of HT_.out (by kernel_rfl)) (fun _ _ _ h=>h) (Or.inl ⟨by rfl,?_⟩) ?_ ?_
      rotate_left
      ·intro w'
       go_simp
       with_reducible rfl
      rotate_left
      ·simp only [Act.put,z5,z6,z7,i64_w,i32_w]
       rfl
      refine pure_ (i:=22) (N:=some 28) (v:=?_) (a':=?_) #[t',t',t',t',t',t',t',t',t',t',t',t',t',t',t',t',t',t',t',t',t',t',t',f'] rfl rfl (any_of HT_.out (by kernel_rfl)) (fun _ _ _ h=>h) (Or.inl ⟨by rfl,?_⟩) ?_ ?_
      rotate_left
      ·intro w'
       go_simp
       with_reducible rfl
      rotate_left
      ·simp only [Act.put,z5,z6,z7,i64_w,i32_w]
       rfl
      refine pure_ (i:=23) (N:=some 29) (v:=?_) (a':=?_) #[t',t',t',t',t',t',t',t',t',t',t',t',t',t',t',t',t',t',t',t',t',t',t',t'] rfl rfl (any_of HT_.out (by kernel_rfl)) (fun _ _ _ h=>h) (Or.inl ⟨by rfl,?_⟩) ?_ ?_
      rotate_left
      ·intro w'
       go_simp
       with_reducible rfl
      rotate_left
      ·simp only [Act.put,z5,z6,z7,i64_w,i32_w]
       rfl
      refine done_ (done_of HT_.out (by kernel_rfl)) ?_
      have hnb16:=NB553_551.out
      have hnc16:=NB551_553.out
      have hnb17:=NB553_552.out
      have hnc17:=NB552_553.out
      have hcz18_0:w15.cell? ⟨gb553,0,none⟩=some (.int .i64 0):=(blk_cell BK553.out 0).trans rfl
      have hcz18_1:w15.cell? ⟨gb553,1,none⟩=some (.slice none 0 0):=(blk_cell BK553.out 1).trans rfl
      have hfz18_0:=blk_frozen BK553.out 0
      have hfz18_1:=blk_frozen BK553.out 1
      try go_wp2
      refine bodyPost_ret (results_ct rfl _ _ gb553 24 #[.int .i64 0,.slice none 0 0] (0,0) _ rfl (by(with_reducible repeat(first|refine blk_drewN ?_ _|refine blk_drew ?_ |refine blk_alloc ?_ _));refine blk_put (cs:= #[.int .i64 0,.slice none 0 0]) ?_ 1 _ rfl;(with_reducible repeat(first|refine blk_drewN ?_ _|refine blk_drew ?_ |refine blk_alloc ?_ _));refine blk_put (cs:= #[.int .i64 0,.slice none 0 0]) ?_ 0 _ rfl;(with_reducible repeat(first|refine blk_drewN ?_ _|refine blk_drew ?_ |refine blk_alloc ?_ _));exact BK553.out) Try.underlying24 rfl (by kernel_rfl)) rfl ?_
      exact⟨_,by first|rfl|(simp [errW_none,errW_some]<;>rfl)|(simp [*,errW_none,errW_some]<;>rfl),by first|exact Kd.R_nil _ _ _ _ _|exact Kd.N_nil _ _ _ _ _|exact Kd.V_nil _ _ _ _ _|exact Kd.Q_nil _ _ _ _ _|exact Kd.S_nil _ _ _ _ _,by repeat(first|(with_reducible first|exact HB.out|apply below_alloc|apply pw_below_drewN|apply below_drew1|refine below_set ?_ GE551.out|refine below_set ?_ GE552.out|refine below_set ?_ GE553.out)|exact HB.out)⟩
     ·rw [if_neg c9] at H
      have c9b0:decide (a1_2< ((rd_T53 l0_1 0).f2))=false:=decide_eq_false c9
      clear c9
      replace H:=Option.bind_eq_some_iff.mp H
      obtain⟨⟨t557,t558⟩,A190,H⟩:=H
      replace H:(some (t557,t558,true))=some (r1,r2,r3):=H
      have A19:=Aside0.mk A190
      clear A190
      simp only [Option.some.injEq,Prod.mk.injEq] at H
      obtain⟨rfl,rfl,rfl⟩:=H
      go_enter Try.func37,Try.ntmps37
      try go_wp2_with (first|((with_reducible refine gate_dst (N:=2) rfl ?_);(try(refine gate_guard (by rfl) ?_;dsimp only));refine box_event ?hg (N:=2) ?hd (cs:= #[.int .i64 a0_0,.slice A0_1 l0_1.length c0_1]) (t:=24) ?hr ?_;(case hd=>rfl);(case hg=>rfl);(case hr=>first|(go_simp;done)|(go_simp;rfl));intro gb551 hg w20 hbox hb;have n0_:=Aside0.mk (below_step (zb0 HB) hb);have n1_:=Aside0.mk (hbox);have n2_:=Aside0.mk ((by rw [hg];exact(below_size (zb0 HB)):w.heap.size≤gb551));have n3_:=Aside0.mk ((by rw [hg];exact(below_size (zb0 HB)):w.heap.size≤gb551));clear HB;have HB:=n0_;have BK551:=n1_;have GW551:=n2_;have GE551:=n3_;clear n0_ n1_ n2_ n3_;clear hb hbox hg)|((with_reducible refine gate_dst (N:=3) rfl ?_);(try(refine gate_guard (by rfl) ?_;dsimp only));refine box_event ?hg (N:=3) ?hd (cs:= #[.int .i64 a1_0,.int .i64 a1_1,.int .i64 a1_2]) (t:=53) ?hr ?_;(case hd=>rfl);(case hg=>rfl);(case hr=>first|(go_simp;done)|(go_simp;rfl));intro gb552 hg w21 hbox hb;have n0_:=Aside0.mk (blk_below (g:=gb551) (o:= .cells #[.int .i64 a0_0,.slice A0_1 l0_1.length c0_1] 24 (0,0)) (z3 BK551) hb);have n1_:=Aside0.mk (below_step (zb1 HB GE551) hb);have n2_:=Aside0.mk (hbox);have n3_:=Aside0.mk ((by rw [hg];exact(below_size (zb1 HB GE551)):w.heap.size≤gb552));have n4_:=Aside0.mk ((by rw [hg];exact(below_size (zb1 HB GE551)):w.heap.size≤gb552));have n5_:=Aside0.mk ((by rw [hg];exact Nat.ne_of_lt (blk_lt (g:=gb551) (o:= .cells #[.int .i64 a0_0,.slice A0_1 l0_1.length c0_1] 24 (0,0)) (z3 BK551)):gb551≠gb552));have n6_:=Aside0.mk ((by rw [hg];exact Nat.ne_of_gt (blk_lt (g:=gb551) (o:= .cells #[.int .i64 a0_0,.slice A0_1 l0_1.length c0_1] 24 (0,0)) (z3 BK551)):gb552≠gb551));clear BK551;clear HB;have BK551:=n0_;have HB:=n1_;have BK552:=n2_;have GW552:=n3_;have GE552:=n4_;have NB551_552:=n5_;have NB552_551:=n6_;clear n0_ n1_ n2_ n3_ n4_ n5_ n6_;clear hb hbox hg)|((with_reducible refine gate_dst (N:=4) rfl ?_);(try(refine gate_guard (by rfl) ?_;dsimp only));refine box_event ?hg (N:=4) ?hd (cs:= #[.int .i64 0,.slice none 0 0]) (t:=24) ?hr ?_;(case hd=>rfl);(case hg=>rfl);(case hr=>first|(go_simp;done)|(go_simp;rfl));intro gb553 hg w22 hbox hb;have n0_:=Aside0.mk (blk_below (g:=gb551) (o:= .cells #[.int .i64 a0_0,.slice A0_1 l0_1.length c0_1] 24 (0,0)) (z3 BK551) hb);have n1_:=Aside0.mk (blk_below (g:=gb552) (o:= .cells #[.int .i64 a1_0,.int .i64 a1_1,.int .i64 a1_2] 53 (0,0)) (z3 BK552) hb);have n2_:=Aside0.mk (below_step (zb2 HB GE551 GE552) hb);have n3_:=Aside0.mk (hbox);have n4_:=Aside0.mk ((by rw [hg];exact(below_size (zb2 HB GE551 GE552)):w.heap.size≤gb553));have n5_:=Aside0.mk ((by rw [hg];exact(below_size (zb2 HB GE551 GE552)):w.heap.size≤gb553));have n6_:=Aside0.mk ((by rw [hg];exact Nat.ne_of_lt (blk_lt (g:=gb551) (o:= .cells #[.int .i64 a0_0,.slice A0_1 l0_1.length c0_1] 24 (0,0)) (z3 BK551)):gb551≠gb553));have n7_:=Aside0.mk ((by rw [hg];exact Nat.ne_of_gt (blk_lt (g:=gb551) (o:= .cells #[.int .i64 a0_0,.slice A0_1 l0_1.length c0_1] 24 (0,0)) (z3 BK551)):gb553≠gb551));have n8_:=Aside0.mk ((by rw [hg];exact Nat.ne_of_lt (blk_lt (g:=gb552) (o:= .cells #[.int .i64 a1_0,.int .i64 a1_1,.int .i64 a1_2] 53 (0,0)) (z3 BK552)):gb552≠gb553));have n9_:=Aside0.mk ((by rw [hg];exact Nat.ne_of_gt (blk_lt (g:=gb552) (o:= .cells #[.int .i64 a1_0,.int .i64 a1_1,.int .i64 a1_2] 53 (0,0)) (z3 BK552)):gb553≠gb552));clear BK551;clear BK552;clear HB;have BK551:=n0_;have BK552:=n1_;have HB:=n2_;have BK553:=n3_;have GW553:=n4_;have GE553:=n5_;have NB551_553:=n6_;have NB553_551:=n7_;have NB552_553:=n8_;have NB553_552:=n9_;clear n0_ n1_ n2_ n3_ n4_ n5_ n6_ n7_ n8_ n9_;clear hb hbox hg))
      have n0_:=Aside0.mk (blk_drew BK551.out)
      have n1_:=Aside0.mk (blk_drew BK552.out)
      have n2_:=Aside0.mk (blk_drew BK553.out)
      have n3_:=Aside0.mk (below_drew1 HB.out)
      clear BK551
      clear BK552
      clear BK553
      clear HB
      have BK551:=n0_
      have BK552:=n1_
      have BK553:=n2_
      have HB:=n3_
      clear n0_ n1_ n2_ n3_
      have p556: 0≤ (0:Int):=(by omega)
      have q556: 0< (l0_1.length:Int):=of_decide_eq_true z1
      obtain⟨ad556,e556,hx556_0,hx556_1,hx556_2⟩:=at_T53 HR0_1.out 0 p556 q556
      have hw556_2:=hx556_2
      (try rw [show ((0:Int)).toNat=0 from rfl] at hw556_2)
      (try rw [show 0 * 3=0 from rfl] at hw556_2)
      (try rw [Addr.add_zero'] at hw556_2)
      have hw556_1:=hx556_1
      (try rw [show ((0:Int)).toNat=0 from rfl] at hw556_1)
      (try rw [show 0 * 3=0 from rfl] at hw556_1)
      (try rw [Addr.add_zero'] at hw556_1)
      have hw556_0:=hx556_0
      (try rw [show ((0:Int)).toNat=0 from rfl] at hw556_0)
      (try rw [show 0 * 3=0 from rfl] at hw556_0)
      (try rw [Addr.add_zero'] at hw556_0)
      cases e556
      have qi556:(0<l0_1.length)=True:=eq_true (by omega)
      (try rw [show ((0:Int)).toNat=0 from rfl] at hx556_0)
      (try rw [show 0 * 3=0 from rfl] at hx556_0)
      (try rw [Addr.add_zero'] at hx556_0)
      (try rw [show ((0:Int)).toNat=0 from rfl] at hx556_1)
      (try rw [show 0 * 3=0 from rfl] at hx556_1)
      (try rw [Addr.add_zero'] at hx556_1)
      (try rw [show ((0:Int)).toNat=0 from rfl] at hx556_2)
      (try rw [show 0 * 3=0 from rfl] at hx556_2)
      (try rw [Addr.add_zero'] at hx556_2)
      replace hx556_0:=(HB.out.cell (World.block_lt_of_cell? w _ hx556_0)).trans hx556_0
      replace hx556_1:=(HB.out.cell (World.block_lt_of_cell? w _ hx556_1)).trans hx556_1
      replace hx556_2:=(HB.out.cell (World.block_lt_of_cell? w _ hx556_2)).trans hx556_2
      replace p556:=eq_true p556
      replace q556:=eq_true q556
      refine start_ (n:=24) (S:=fun w'=>w'.cell? ⟨gb551,0,none⟩=some (.int .i64 a0_0)∧w'.cell? ⟨gb551,1,none⟩=some (.slice (some ad556) l0_1.length c0_1)∧w'.cell? ⟨gb552,0,none⟩=some (.int .i64 a1_0)∧w'.cell? ⟨gb552,1,none⟩=some (.int .i64 a1_1)∧w'.cell? ⟨gb552,2,none⟩=some (.int .i64 a1_2)∧w'.cell? ad556=some (.int .i64 ((rd_T53 l0_1 0).f0))∧w'.cell? ⟨ad556.block,ad556.off+1,none⟩=some (.int .i64 ((rd_T53 l0_1 0).f1))∧w'.cell? ⟨ad556.block,ad556.off+2,none⟩=some (.int .i64 ((rd_T53 l0_1 0).f2))) (ds:= []) #[f',f',f',f',f',f',f',f',f',f',f',f',f',f',f',f',f',f',f',f',f',f',f',f'] (by kernel_rfl) rfl rfl ⟨(blk_cell BK551.out 0).trans rfl,(blk_cell BK551.out 1).trans rfl,(blk_cell BK552.out 0).trans rfl,(blk_cell BK552.out 1).trans rfl,(blk_cell BK552.out 2).trans rfl,((HB.out.cell (World.block_lt_of_cell? w _ hw556_0)).trans hw556_0),((HB.out.cell (World.block_lt_of_cell? w _ hw556_1)).trans hw556_1),((HB.out.cell (World.block_lt_of_cell? w _ hw556_2)).trans hw556_2)⟩ (fun hHeld=>?_);refine with_tabW impl_Learn.tab1 impl_Learn.bits1 (fun HT_ HW_=>?_)
      generalize w22.drew=w23 at BK551 BK552 BK553 HB hx556_0 hx556_1 hx556_2 hHeld ⊢
      refine take_ (i:=0) (N:=some 6) (v:=?_) (a':=?_) #[t',f',f',f',f',f',f',f',f',f',f',f',f',f',f',f',f',f',f',f',f',f',f',f'] rfl rfl (take_ofW HT_.out HW_.out (by kernel_rfl)) (fun _ _ _ h=>h) (Or.inl ⟨by rfl,?_⟩) hHeld ?_ ?_
      rotate_left
      ·rintro w' ⟨s0,s1,s2,s3,s4,s5,s6,s7⟩
       go_simp
       with_reducible rfl
      rotate_left
      ·simp only [Act.put,z5,z6,z7,i64_w,i32_w]
       rfl
      refine one_ (i:=1) (N:=some 7) #[t',t',f',f',f',f',f',f',f',f',f',f',f',f',f',f',f',f',f',f',f',f',f',f'] rfl rfl (one_of HT_.out (by kernel_rfl)) (by decide) (fun K hK=>?_)
      refine goes_ Try.func20 (by kernel_rfl) rfl #[.agg #[.int .i64 a0_0,.slice (some ad556) l0_1.length c0_1]] (by rfl) rfl rfl z2 ?_
      with_reducible refine(impl_GoodTable.calls k a0_0 _ _ l0_1 true _ ?side1 ?side2 A3.out).mono ?_
      (case side1=>repeat(first|exact(Kd.C_below HR0_1.out HB.out)|(with_reducible refine Kd.C_alloc ?_ _)|(with_reducible refine Kd.C_drewN ?_ _)|(with_reducible refine Kd.C_drew ?_)))
      (case side2=>exact HC0_1.out)
      rintro e w24 ⟨rfl,hb⟩
      refine⟨_,rfl,?_⟩
      have n0_:=Aside0.mk (blk_below (g:=gb551) (o:= .cells #[.int .i64 a0_0,.slice (some ad556) l0_1.length c0_1] 24 (0,0)) (z3 BK551) hb)
      have n1_:=Aside0.mk (blk_below (g:=gb552) (o:= .cells #[.int .i64 a1_0,.int .i64 a1_1,.int .i64 a1_2] 53 (0,0)) (z3 BK552) hb)
      have n2_:=Aside0.mk (blk_below (g:=gb553) (o:= .cells #[.int .i64 0,.slice none 0 0] 24 (0,0)) (z3 BK553) hb)
      have n3_:=Aside0.mk (below_step (zb3 HB GE551 GE552 GE553) hb)
      clear BK551
      clear BK552
      clear BK553
      clear HB
      have BK551:=n0_
      have BK552:=n1_
      have BK553:=n2_
      have HB:=n3_
      clear n0_ n1_ n2_ n3_
      (try clear hb)
      (try clear hb2)
      (try clear hk)
      (try clear hi)
      refine hK.out _ _ ⟨(blk_cell BK551.out 0).trans rfl,(blk_cell BK551.out 1).trans rfl,(blk_cell BK552.out 0).trans rfl,(blk_cell BK552.out 1).trans rfl,(blk_cell BK552.out 2).trans rfl,((HB.out.cell (World.block_lt_of_cell? w _ hw556_0)).trans hw556_0),((HB.out.cell (World.block_lt_of_cell? w _ hw556_1)).trans hw556_1),((HB.out.cell (World.block_lt_of_cell? w _ hw556_2)).trans hw556_2)⟩ (fun hHeld=>?_)
      clear hK K
      refine norm_ (a':=?_) ?_ ?_
      rotate_left
      ·show Act.put _ (some 7) _=_
       simp only [Act.put,z5,z6,z7,i64_w,i32_w]
       rfl
      refine pure_ (i:=2) (N:=some 8) (v:=?_) (a':=?_) #[t',t',t',f',f',f',f',f',f',f',f',f',f',f',f',f',f',f',f',f',f',f',f',f'] rfl rfl (any_of HT_.out (by kernel_rfl)) (fun _ _ _ h=>h) (Or.inl ⟨by rfl,?_⟩) ?_ ?_
      rotate_left
      ·intro w'
       go_simp
       with_reducible rfl
      rotate_left
      ·simp only [Act.put,z5,z6,z7,i64_w,i32_w]
       rfl
      refine pure_ (i:=3) (N:=some 9) (v:=?_) (a':=?_) #[t',t',t',t',f',f',f',f',f',f',f',f',f',f',f',f',f',f',f',f',f',f',f',f'] rfl rfl (any_of HT_.out (by kernel_rfl)) (fun _ _ _ h=>h) (Or.inl ⟨by rfl,?_⟩) ?_ ?_
      rotate_left
      ·intro w'
       go_simp
       with_reducible rfl
      rotate_left
      ·simp only [Act.put,z5,z6,z7,i64_w,i32_w]
       rfl
      refine take_ (i:=4) (N:=some 10) (v:=?_) (a':=?_) #[t',t',t',t',t',f',f',f',f',f',f',f',f',f',f',f',f',f',f',f',f',f',f',f'] rfl rfl (take_ofW HT_.out HW_.out (by kernel_rfl)) (fun _ _ _ h=>h) (Or.inl ⟨by rfl,?_⟩) hHeld ?_ ?_
      rotate_left
      ·rintro w' ⟨s0,s1,s2,s3,s4,s5,s6,s7⟩
       go_simp
       with_reducible rfl
      rotate_left
      ·simp only [Act.put,z5,z6,z7,i64_w,i32_w]
       rfl
      refine one_ (i:=5) (N:=some 11) #[t',t',t',t',t',t',f',f',f',f',f',f',f',f',f',f',f',f',f',f',f',f',f',f'] rfl rfl (one_of HT_.out (by kernel_rfl)) (by decide) (fun K hK=>?_)
      refine goes_ Try.func45 (by kernel_rfl) rfl #[.agg #[.int .i64 a1_0,.int .i64 a1_1,.int .i64 a1_2]] (by rfl) rfl rfl z2 ?_
      with_reducible refine(impl_isSeen.calls a1_0 a1_1 a1_2 true _ A5.out).mono ?_
      rintro e w25 ⟨rfl,hb⟩
      refine⟨_,rfl,?_⟩
      have n0_:=Aside0.mk (blk_below (g:=gb551) (o:= .cells #[.int .i64 a0_0,.slice (some ad556) l0_1.length c0_1] 24 (0,0)) (z3 BK551) hb)
      have n1_:=Aside0.mk (blk_below (g:=gb552) (o:= .cells #[.int .i64 a1_0,.int .i64 a1_1,.int .i64 a1_2] 53 (0,0)) (z3 BK552) hb)
      have n2_:=Aside0.mk (blk_below (g:=gb553) (o:= .cells #[.int .i64 0,.slice none 0 0] 24 (0,0)) (z3 BK553) hb)
      have n3_:=Aside0.mk (below_step (zb3 HB GE551 GE552 GE553) hb)
      clear BK551
      clear BK552
      clear BK553
      clear HB
      have BK551:=n0_
      have BK552:=n1_
      have BK553:=n2_
      have HB:=n3_
      clear n0_ n1_ n2_ n3_
      (try clear hb)
      (try clear hb2)
      (try clear hk)
      (try clear hi)
      refine hK.out _ _ ⟨(blk_cell BK551.out 0).trans rfl,(blk_cell BK551.out 1).trans rfl,(blk_cell BK552.out 0).trans rfl,(blk_cell BK552.out 1).trans rfl,(blk_cell BK552.out 2).trans rfl,((HB.out.cell (World.block_lt_of_cell? w _ hw556_0)).trans hw556_0),((HB.out.cell (World.block_lt_of_cell? w _ hw556_1)).trans hw556_1),((HB.out.cell (World.block_lt_of_cell? w _ hw556_2)).trans hw556_2)⟩ (fun hHeld=>?_)
      clear hK K
      refine norm_ (a':=?_) ?_ ?_
      rotate_left
      ·show Act.put _ (some 11) _=_
       simp only [Act.put,z5,z6,z7,i64_w,i32_w]
       rfl
      refine pure_ (i:=6) (N:=some 12) (v:=?_) (a':=?_) #[t',t',t',t',t',t',t',f',f',f',f',f',f',f',f',f',f',f',f',f',f',f',f',f'] rfl rfl (any_of HT_.out (by kernel_rfl)) (fun _ _ _ h=>h) (Or.inl ⟨by rfl,?_⟩) ?_ ?_
      rotate_left
      ·intro w'
       go_simp
       with_reducible rfl
      rotate_left
      ·simp only [Act.put,z5,z6,z7,i64_w,i32_w]
       rfl
      refine pure_ (i:=7) (N:=some 13) (v:=?_) (a':=?_) #[t',t',t',t',t',t',t',t',f',f',f',f',f',f',f',f',f',f',f',f',f',f',f',f'] rfl rfl (any_of HT_.out (by kernel_rfl)) (fun _ _ _ h=>h) (Or.inl ⟨by rfl,?_⟩) ?_ ?_
      rotate_left
      ·intro w'
       go_simp
       with_reducible rfl
      rotate_left
      ·simp only [Act.put,z5,z6,z7,i64_w,i32_w]
       rfl
      refine pure_ (i:=8) (N:=some 14) (v:=?_) (a':=?_) #[t',t',t',t',t',t',t',t',t',f',f',f',f',f',f',f',f',f',f',f',f',f',f',f'] rfl rfl (any_of HT_.out (by kernel_rfl)) (fun _ _ _ h=>h) (Or.inl ⟨by rfl,?_⟩) ?_ ?_
      rotate_left
      ·intro w'
       go_simp
       with_reducible rfl
      rotate_left
      ·simp only [Act.put,z5,z6,z7,i64_w,i32_w]
       rfl
      refine pure_ (i:=9) (N:=some 15) (v:=?_) (a':=?_) #[t',t',t',t',t',t',t',t',t',t',f',f',f',f',f',f',f',f',f',f',f',f',f',f'] rfl rfl (any_of HT_.out (by kernel_rfl)) (fun _ _ _ h=>h) (Or.inl ⟨by rfl,?_⟩) ?_ ?_
      rotate_left
      ·intro w'
       go_simp
       with_reducible rfl
      rotate_left
      ·simp only [Act.put,z5,z6,z7,i64_w,i32_w]
       rfl
      refine take_ (i:=10) (N:=some 16) (v:=?_) (a':=?_) #[t',t',t',t',t',t',t',t',t',t',t',f',f',f',f',f',f',f',f',f',f',f',f',f'] rfl rfl (take_ofW HT_.out HW_.out (by kernel_rfl)) (fun _ _ _ h=>h) (Or.inl ⟨by rfl,?_⟩) hHeld ?_ ?_
      rotate_left
      ·rintro w' ⟨s0,s1,s2,s3,s4,s5,s6,s7⟩
       go_simp
       with_reducible rfl
      rotate_left
      ·simp only [Act.put,z5,z6,z7,i64_w,i32_w]
       rfl
      refine pure_ (i:=11) (N:=some 17) (v:=?_) (a':=?_) #[t',t',t',t',t',t',t',t',t',t',t',t',f',f',f',f',f',f',f',f',f',f',f',f'] rfl rfl (any_of HT_.out (by kernel_rfl)) (fun _ _ _ h=>h) (Or.inl ⟨by rfl,?_⟩) ?_ ?_
      rotate_left
      ·intro w'
       go_simp
       with_reducible rfl
      rotate_left
      ·simp only [Act.put,z5,z6,z7,i64_w,i32_w]
       rfl
      refine pure_ (i:=12) (N:=some 18) (v:=?_) (a':=?_) #[t',t',t',t',t',t',t',t',t',t',t',t',t',f',f',f',f',f',f',f',f',f',f',f'] rfl rfl (any_of HT_.out (by kernel_rfl)) (fun _ _ _ h=>h) (Or.inl ⟨by rfl,?_⟩) ?_ ?_
      rotate_left
      ·intro w'
       go_simp
       with_reducible rfl
      rotate_left
      ·simp only [Act.put,z5,z6,z7,i64_w,i32_w]
       rfl
      refine pure_ (i:=13) (N:=some 19) (v:=?_) (a':=?_) #[t',t',t',t',t',t',t',t',t',t',t',t',t',t',f',f',f',f',f',f',f',f',f',f'] rfl rfl (any_of HT_.out (by kernel_rfl)) (fun _ _ _ h=>h) (Or.inl ⟨by rfl,?_⟩) ?_ ?_
      rotate_left
      ·intro w'
       go_simp
       with_reducible rfl
      rotate_left
      ·simp only [Act.put,z5,z6,z7,i64_w,i32_w]
       rfl
      refine pure_ (i:=14) (N:=some 20) (v:=?_) (a':=?_) #[t',t',t',t',t',t',t',t',t',t',t',t',t',t',t',f',f',f',f',f',f',f',f',f'] rfl rfl (any_of HT_.out (by kernel_rfl)) (fun _ _ _ h=>h) (Or.inl ⟨by rfl,?_⟩) ?_ ?_
      rotate_left
      ·intro w'
       go_simp
       with_reducible rfl
      rotate_left
      ·simp only [Act.put,z5,z6,z7,i64_w,i32_w]
       rfl
      refine pure_ (i:=19) (N:=some 25) (v:=?_) (a':=?_) #[t',t',t',t',t',t',t',t',t',t',t',t',t',t',t',f',f',f',f',t',f',f',f',f'] rfl rfl (any_of HT_.out (by kernel_rfl)) (fun _ _ _ h=>h) (Or.inl ⟨by rfl,?_⟩) ?_ ?_
      rotate_left
      ·intro w'
       go_simp
       with_reducible rfl
      rotate_left
      ·simp only [Act.put,z5,z6,z7,i64_w,i32_w]
       rfl
      refine take_ (i:=15) (N:=some 21) (v:=?_) (a':=?_) #[t',t',t',t',t',t',t',t',t',t',t',t',t',t',t',t',f',f',f',t',f',f',f',f'] rfl rfl (take_ofW HT_.out HW_.out (by kernel_rfl)) (fun _ _ _ h=>h) (Or.inl ⟨by rfl,?_⟩) hHeld ?_ ?_
      rotate_left
      ·rintro w' ⟨s0,s1,s2,s3,s4,s5,s6,s7⟩
       go_simp
       with_reducible rfl
      rotate_left
      ·simp only [Act.put,z5,z6,z7,i64_w,i32_w]
       rfl
      refine pure_ (i:=16) (N:=some 22) (v:=?_) (a':=?_) #[t',t',t',t',t',t',t',t',t',t',t',t',t',t',t',t',t',f',f',t',f',f',f',f'] rfl rfl (any_of HT_.out (by kernel_rfl)) (fun _ _ _ h=>h) (Or.inl ⟨by rfl,?_⟩) ?_ ?_
      rotate_left
      ·intro w'
       go_simp
       with_reducible rfl
      rotate_left
      ·simp only [Act.put,z5,z6,z7,i64_w,i32_w]
       rfl
      refine pure_ (i:=17) (N:=some 23) (v:=?_) (a':=?_) #[t',t',t',t',t',t',t',t',t',t',t',t',t',t',t',t',t',t',f',t',f',f',f',f'] rfl rfl (any_of HT_.out (by kernel_rfl)) (fun _ _ _ h=>h) (Or.inl ⟨by rfl,?_⟩) ?_ ?_
      rotate_left
      ·intro w'
       go_simp
       with_reducible rfl
      rotate_left
      ·simp only [Act.put,z5,z6,z7,i64_w,i32_w]
       rfl
      refine take_ (i:=18) (N:=some 24) (v:=?_) (a':=?_) #[t',t',t',t',t',t',t',t',t',t',t',t',t',t',t',t',t',t',t',t',f',f',f',f'] rfl rfl (take_ofW HT_.out HW_.out (by kernel_rfl)) (fun _ _ _ h=>h) (Or.inl ⟨by rfl,?_⟩) hHeld ?_ ?_
      rotate_left
      ·rintro w' ⟨s0,s1,s2,s3,s4,s5,s6,s7⟩
       go_simp
       with_reducible rfl
      rotate_left
      ·simp only [Act.put,z5,z6,z7,i64_w,i32_w]
       rfl
      refine take_ (i:=20) (N:=some 26) (v:=?_) (a':=?_) #[t',t',t',t',t',t',t',t',t',t',t',t',t',t',t',t',t',t',t',t',t',f',f',f'] rfl rfl (take_ofW HT_.out HW_.out (by kernel_rfl)) (fun _ _ _ h=>h) (Or.inl ⟨by rfl,?_⟩) hHeld ?_ ?_
      rotate_left
      ·rintro w' ⟨s0,s1,s2,s3,s4,s5,s6,s7⟩
       go_simp
       with_reducible rfl
      rotate_left
      ·simp only [Act.put,z5,z6,z7,i64_w,i32_w]
       rfl
      refine pure_ (i:=21) (N:=some 27) (v:=?_) (a':=?_) #[t',t',t',t',t',t',t',t',t',t',t',t',t',t',t',t',t',t',t',t',t',t',f',f'] rfl rfl (any_of HT_.out (by kernel_rfl)) (fun _ _ _ h=>h) (Or.inl ⟨by rfl,?_⟩) ?_ ?_
      rotate_left
      ·intro w'
       go_simp
       with_reducible rfl
      rotate_left
      ·simp only [Act.put,z5,z6,z7,i64_w,i32_w]
       rfl
      refine pure_ (i:=22) (N:=some 28) (v:=?_) (a':=?_) #[t',t',t',t',t',t',t',t',t',t',t',t',t',t',t',t',t',t',t',t',t',t',t',f'] rfl rfl (any_of HT_.out (by kernel_rfl)) (fun _ _ _ h=>h) (Or.inl ⟨by rfl,?_⟩) ?_ ?_
      rotate_left
      ·intro w'
       go_simp
       with_reducible rfl
      rotate_left
      ·simp only [Act.put,z5,z6,z7,i64_w,i32_w]
       rfl
      refine pure_ (i:=23) (N:=some 29) (v:=?_) (a':=?_) #[t',t',t',t',t',t',t',t',t',t',t',t',t',t',t',t',t',t',t',t',t',t',t',t'] rfl rfl (any_of HT_.out (by kernel_rfl)) (fun _ _ _ h=>h) (Or.inl ⟨by rfl,?_⟩) ?_ ?_
      rotate_left
      ·intro w'
       go_simp
       with_reducible rfl
      rotate_left
      ·simp only [Act.put,z5,z6,z7,i64_w,i32_w]
       rfl
      refine done_ (done_of HT_.out (by kernel_rfl)) ?_
      have hnb26:=NB551_552.out
      have hnc26:=NB552_551.out
      have hnb27:=NB551_553.out
      have hnc27:=NB553_551.out
      have hcz28_0:w25.cell? ⟨gb551,0,none⟩=some (.int .i64 a0_0):=(blk_cell BK551.out 0).trans rfl
      have hcz28_1:w25.cell? ⟨gb551,1,none⟩=some (.slice (some ad556) l0_1.length c0_1):=(blk_cell BK551.out 1).trans rfl
      have hfz28_0:=blk_frozen BK551.out 0
      have hfz28_1:=blk_frozen BK551.out 1
      have hnb29:=NB552_553.out
      have hnc29:=NB553_552.out
      have hcz30_0:w25.cell? ⟨gb552,0,none⟩=some (.int .i64 a1_0):=(blk_cell BK552.out 0).trans rfl
      have hcz30_1:w25.cell? ⟨gb552,1,none⟩=some (.int .i64 a1_1):=(blk_cell BK552.out 1).trans rfl
      have hcz30_2:w25.cell? ⟨gb552,2,none⟩=some (.int .i64 a1_2):=(blk_cell BK552.out 2).trans rfl
      have hfz30_0:=blk_frozen BK552.out 0
      have hfz30_1:=blk_frozen BK552.out 1
      have hfz30_2:=blk_frozen BK552.out 2
      try go_wp2_with (first|((with_reducible refine gate_callee (f:=55) rfl ?_);refine goesL_ (some 33) rfl rfl Try.func55 (by kernel_rfl) rfl #[.agg #[.int .i64 a0_0,.slice (some ad556) l0_1.length c0_1],.agg #[.int .i64 a1_0,.int .i64 a1_1,.int .i64 a1_2]] rfl z2 ?_;(with_reducible refine(impl_Table_learn.calls k a0_0 _ _ l0_1 a1_0 a1_1 a1_2 t557 t558 _ ?side1 ?side2 A19.out).mono ?_);(case side1=>repeat(first|exact(Kd.C_below HR0_1.out HB.out)|(with_reducible refine Kd.C_alloc ?_ _)|(with_reducible refine Kd.C_drewN ?_ _)|(with_reducible refine Kd.C_drew ?_)));(case side2=>exact HC0_1.out);rintro e w31 ⟨v559,rfl,ho0,hb⟩;refine⟨_,rfl,?_⟩;have n0_:=Aside0.mk (Kd.R_lower (Kd.R_newB ho0 (g:=gb552) (o:= .cells #[.int .i64 a1_0,.int .i64 a1_1,.int .i64 a1_2] 53 (0,0)) (z3 BK552)) (below_size (zb3 HB GE551 GE552 GE553)));have n1_:=Aside0.mk (blk_below (g:=gb551) (o:= .cells #[.int .i64 a0_0,.slice (some ad556) l0_1.length c0_1] 24 (0,0)) (z3 BK551) hb);have n2_:=Aside0.mk (blk_below (g:=gb552) (o:= .cells #[.int .i64 a1_0,.int .i64 a1_1,.int .i64 a1_2] 53 (0,0)) (z3 BK552) hb);have n3_:=Aside0.mk (blk_below (g:=gb553) (o:= .cells #[.int .i64 0,.slice none 0 0] 24 (0,0)) (z3 BK553) hb);have n4_:=Aside0.mk (below_step (zb3 HB GE551 GE552 GE553) hb);clear BK551;clear BK552;clear BK553;clear HB;have HO560:=n0_;have BK551:=n1_;have BK552:=n2_;have BK553:=n3_;have HB:=n4_;clear n0_ n1_ n2_ n3_ n4_;(try clear hb);(try clear hb2);(try clear hk);(try clear hi);(try clear ho0);have hcz32_0:w31.cell? ⟨gb553,0,none⟩=some (.int .i64 0):=(blk_cell BK553.out 0).trans rfl;have hcz32_1:w31.cell? ⟨gb553,1,none⟩=some (.slice none 0 0):=(blk_cell BK553.out 1).trans rfl;have hfz32_0:=blk_frozen BK553.out 0;have hfz32_1:=blk_frozen BK553.out 1;obtain⟨Ao33,co33,eo33⟩:=Kd.R_slice HO560.out;subst eo33))
      refine bodyPost_ret (results_ct rfl _ _ gb553 24 #[.int .i64 t557,.slice Ao33 t558.length co33] (0,0) _ rfl (by(with_reducible repeat(first|refine blk_drewN ?_ _|refine blk_drew ?_ |refine blk_alloc ?_ _));refine blk_put (cs:= #[.int .i64 t557,.slice none 0 0]) ?_ 1 _ rfl;(with_reducible repeat(first|refine blk_drewN ?_ _|refine blk_drew ?_ |refine blk_alloc ?_ _));refine blk_put (cs:= #[.int .i64 0,.slice none 0 0]) ?_ 0 _ rfl;(with_reducible repeat(first|refine blk_drewN ?_ _|refine blk_drew ?_ |refine blk_alloc ?_ _));exact BK553.out) Try.underlying24 rfl (by kernel_rfl)) rfl ?_
      exact⟨_,by first|rfl|(simp [errW_none,errW_some]<;>rfl)|(simp [*,errW_none,errW_some]<;>rfl),by(with_reducible repeat(first|apply Kd.R_alloc|apply Kd.R_drewN|apply Kd.R_drew));exact Kd.R_mono (Kd.R_far (p:=⟨gb553,1,none⟩) (Kd.R_far (p:=⟨gb553,0,none⟩) (Kd.R_types HO560.out BK553.out (by decide)) (fun _ hk=>hk.2) (.int .i64 t557)) (fun _ hk=>hk.2) (.slice Ao33 t558.length co33)) (fun _ hk=>trivial),by repeat(first|(with_reducible first|exact HB.out|apply below_alloc|apply pw_below_drewN|apply below_drew1|refine below_set ?_ GE551.out|refine below_set ?_ GE552.out|refine below_set ?_ GE553.out)|exact HB.out)⟩
    ·rw [if_neg c8] at H
     exact absurd H (by simp)
   ·rw [if_neg c7] at H
    have c7b0:decide (0< (l0_1.length:Int))=false:=decide_eq_false c7
    have c7b1:decide (0<l0_1.length)=false:=decide_eq_false (by omega)
    clear c7
    replace H:=Option.bind_eq_some_iff.mp H
    obtain⟨⟨t561,t562⟩,A340,H⟩:=H
    replace H:(some (t561,t562,true))=some (r1,r2,r3):=H
    have A34:=Aside0.mk A340
    clear A340
    simp only [Option.some.injEq,Prod.mk.injEq] at H
    obtain⟨rfl,rfl,rfl⟩:=H
    go_enter Try.func37,Try.ntmps37
    try go_wp2_with (first|((with_reducible refine gate_dst (N:=2) rfl ?_);(try(refine gate_guard (by rfl) ?_;dsimp only));refine box_event ?hg (N:=2) ?hd (cs:= #[.int .i64 a0_0,.slice A0_1 l0_1.length c0_1]) (t:=24) ?hr ?_;(case hd=>rfl);(case hg=>rfl);(case hr=>first|(go_simp;done)|(go_simp;rfl));intro gb551 hg w35 hbox hb;have n0_:=Aside0.mk (below_step (zb0 HB) hb);have n1_:=Aside0.mk (hbox);have n2_:=Aside0.mk ((by rw [hg];exact(below_size (zb0 HB)):w.heap.size≤gb551));have n3_:=Aside0.mk ((by rw [hg];exact(below_size (zb0 HB)):w.heap.size≤gb551));clear HB;have HB:=n0_;have BK551:=n1_;have GW551:=n2_;have GE551:=n3_;clear n0_ n1_ n2_ n3_;clear hb hbox hg)|((with_reducible refine gate_dst (N:=3) rfl ?_);(try(refine gate_guard (by rfl) ?_;dsimp only));refine box_event ?hg (N:=3) ?hd (cs:= #[.int .i64 a1_0,.int .i64 a1_1,.int .i64 a1_2]) (t:=53) ?hr ?_;(case hd=>rfl);(case hg=>rfl);(case hr=>first|(go_simp;done)|(go_simp;rfl));intro gb552 hg w36 hbox hb;have n0_:=Aside0.mk (blk_below (g:=gb551) (o:= .cells #[.int .i64 a0_0,.slice A0_1 l0_1.length c0_1] 24 (0,0)) (z3 BK551) hb);have n1_:=Aside0.mk (below_step (zb1 HB GE551) hb);have n2_:=Aside0.mk (hbox);have n3_:=Aside0.mk ((by rw [hg];exact(below_size (zb1 HB GE551)):w.heap.size≤gb552));have n4_:=Aside0.mk ((by rw [hg];exact(below_size (zb1 HB GE551)):w.heap.size≤gb552));have n5_:=Aside0.mk ((by rw [hg];exact Nat.ne_of_lt (blk_lt (g:=gb551) (o:= .cells #[.int .i64 a0_0,.slice A0_1 l0_1.length c0_1] 24 (0,0)) (z3 BK551)):gb551≠gb552));have n6_:=Aside0.mk ((by rw [hg];exact Nat.ne_of_gt (blk_lt (g:=gb551) (o:= .cells #[.int .i64 a0_0,.slice A0_1 l0_1.length c0_1] 24 (0,0)) (z3 BK551)):gb552≠gb551));clear BK551;clear HB;have BK551:=n0_;have HB:=n1_;have BK552:=n2_;have GW552:=n3_;have GE552:=n4_;have NB551_552:=n5_;have NB552_551:=n6_;clear n0_ n1_ n2_ n3_ n4_ n5_ n6_;clear hb hbox hg)|((with_reducible refine gate_dst (N:=4) rfl ?_);(try(refine gate_guard (by rfl) ?_;dsimp only));refine box_event ?hg (N:=4) ?hd (cs:= #[.int .i64 0,.slice none 0 0]) (t:=24) ?hr ?_;(case hd=>rfl);(case hg=>rfl);(case hr=>first|(go_simp;done)|(go_simp;rfl));intro gb553 hg w37 hbox hb;have n0_:=Aside0.mk (blk_below (g:=gb551) (o:= .cells #[.int .i64 a0_0,.slice A0_1 l0_1.length c0_1] 24 (0,0)) (z3 BK551) hb);have n1_:=Aside0.mk (blk_below (g:=gb552) (o:= .cells #[.int .i64 a1_0,.int .i64 a1_1,.int .i64 a1_2] 53 (0,0)) (z3 BK552) hb);have n2_:=Aside0.mk (below_step (zb2 HB GE551 GE552) hb);have n3_:=Aside0.mk (hbox);have n4_:=Aside0.mk ((by rw [hg];exact(below_size (zb2 HB GE551 GE552)):w.heap.size≤gb553));have n5_:=Aside0.mk ((by rw [hg];exact(below_size (zb2 HB GE551 GE552)):w.heap.size≤gb553));have n6_:=Aside0.mk ((by rw [hg];exact Nat.ne_of_lt (blk_lt (g:=gb551) (o:= .cells #[.int .i64 a0_0,.slice A0_1 l0_1.length c0_1] 24 (0,0)) (z3 BK551)):gb551≠gb553));have n7_:=Aside0.mk ((by rw [hg];exact Nat.ne_of_gt (blk_lt (g:=gb551) (o:= .cells #[.int .i64 a0_0,.slice A0_1 l0_1.length c0_1] 24 (0,0)) (z3 BK551)):gb553≠gb551));have n8_:=Aside0.mk ((by rw [hg];exact Nat.ne_of_lt (blk_lt (g:=gb552) (o:= .cells #[.int .i64 a1_0,.int .i64 a1_1,.int .i64 a1_2] 53 (0,0)) (z3 BK552)):gb552≠gb553));have n9_:=Aside0.mk ((by rw [hg];exact Nat.ne_of_gt (blk_lt (g:=gb552) (o:= .cells #[.int .i64 a1_0,.int .i64 a1_1,.int .i64 a1_2] 53 (0,0)) (z3 BK552)):gb553≠gb552));clear BK551;clear BK552;clear HB;have BK551:=n0_;have BK552:=n1_;have HB:=n2_;have BK553:=n3_;have GW553:=n4_;have GE553:=n5_;have NB551_553:=n6_;have NB553_551:=n7_;have NB552_553:=n8_;have NB553_552:=n9_;clear n0_ n1_ n2_ n3_ n4_ n5_ n6_ n7_ n8_ n9_;clear hb hbox hg))
    have n0_:=Aside0.mk (blk_drew BK551.out)
    have n1_:=Aside0.mk (blk_drew BK552.out)
    have n2_:=Aside0.mk (blk_drew BK553.out)
    have n3_:=Aside0.mk (below_drew1 HB.out)
    clear BK551
    clear BK552
    clear BK553
    clear HB
    have BK551:=n0_
    have BK552:=n1_
    have BK553:=n2_
    have HB:=n3_
    clear n0_ n1_ n2_ n3_
    refine start_ (n:=24) (S:=fun w'=>w'.cell? ⟨gb551,0,none⟩=some (.int .i64 a0_0)∧w'.cell? ⟨gb551,1,none⟩=some (.slice A0_1 l0_1.length c0_1)∧w'.cell? ⟨gb552,0,none⟩=some (.int .i64 a1_0)∧w'.cell? ⟨gb552,1,none⟩=some (.int .i64 a1_1)∧w'.cell? ⟨gb552,2,none⟩=some (.int .i64 a1_2)) (ds:= []) #[f',f',f',f',f',f',f',f',f',f',f',f',f',f',f',f',f',f',f',f',f',f',f',f'] (by kernel_rfl) rfl rfl ⟨(blk_cell BK551.out 0).trans rfl,(blk_cell BK551.out 1).trans rfl,(blk_cell BK552.out 0).trans rfl,(blk_cell BK552.out 1).trans rfl,(blk_cell BK552.out 2).trans rfl⟩ (fun hHeld=>?_);refine with_tabW impl_Learn.tab1 impl_Learn.bits1 (fun HT_ HW_=>?_)
    generalize w37.drew=w38 at BK551 BK552 BK553 HB hHeld ⊢
    refine take_ (i:=0) (N:=some 6) (v:=?_) (a':=?_) #[t',f',f',f',f',f',f',f',f',f',f',f',f',f',f',f',f',f',f',f',f',f',f',f'] rfl rfl (take_ofW HT_.out HW_.out (by kernel_rfl)) (fun _ _ _ h=>h) (Or.inl ⟨by rfl,?_⟩) hHeld ?_ ?_
    rotate_left
    ·rintro w' ⟨s0,s1,s2,s3,s4⟩
     go_simp
     with_reducible rfl
    rotate_left
    ·simp only [Act.put,z5,z6,z7,i64_w,i32_w]
     rfl
    refine one_ (i:=1) (N:=some 7) #[t',t',f',f',f',f',f',f',f',f',f',f',f',f',f',f',f',f',f',f',f',f',f',f'] rfl rfl (one_of HT_.out (by kernel_rfl)) (by decide) (fun K hK=>?_)
    refine goes_ Try.func20 (by kernel_rfl) rfl #[.agg #[.int .i64 a0_0,.slice A0_1 l0_1.length c0_1]] (by rfl) rfl rfl z2 ?_
    with_reducible refine(impl_GoodTable.calls k a0_0 _ _ l0_1 true _ ?side1 ?side2 A3.out).mono ?_
    (case side1=>repeat(first|exact(Kd.C_below HR0_1.out HB.out)|(with_reducible refine Kd.C_alloc ?_ _)|(with_reducible refine Kd.C_drewN ?_ _)|(with_reducible refine Kd.C_drew ?_)))
    (case side2=>exact HC0_1.out)
    rintro e w39 ⟨rfl,hb⟩
    refine⟨_,rfl,?_⟩
    have n0_:=Aside0.mk (blk_below (g:=gb551) (o:= .cells #[.int .i64 a0_0,.slice A0_1 l0_1.length c0_1] 24 (0,0)) (z3 BK551) hb)
    have n1_:=Aside0.mk (blk_below (g:=gb552) (o:= .cells #[.int .i64 a1_0,.int .i64 a1_1,.int .i64 a1_2] 53 (0,0)) (z3 BK552) hb)
    have n2_:=Aside0.mk (blk_below (g:=gb553) (o:= .cells #[.int .i64 0,.slice none 0 0] 24 (0,0)) (z3 BK553) hb)
    have n3_:=Aside0.mk (below_step (zb3 HB GE551 GE552 GE553) hb)
    clear BK551
    clear BK552
    clear BK553
    clear HB
    have BK551:=n0_
    have BK552:=n1_
    have BK553:=n2_
    have HB:=n3_
    clear n0_ n1_ n2_ n3_
    (try clear hb)
    (try clear hb2)
    (try clear hk)
    (try clear hi)
    refine hK.out _ _ ⟨(blk_cell BK551.out 0).trans rfl,(blk_cell BK551.out 1).trans rfl,(blk_cell BK552.out 0).trans rfl,(blk_cell BK552.out 1).trans rfl,(blk_cell BK552.out 2).trans rfl⟩ (fun hHeld=>?_)
    clear hK K
    refine norm_ (a':=?_) ?_ ?_
    rotate_left
    ·show Act.put _ (some 7) _=_
     simp only [Act.put,z5,z6,z7,i64_w,i32_w]
     rfl
    refine pure_ (i:=2) (N:=some 8) (v:=?_) (a':=?_) #[t',t',t',f',f',f',f',f',f',f',f',f',f',f',f',f',f',f',f',f',f',f',f',f'] rfl rfl (any_of HT_.out (by kernel_rfl)) (fun _ _ _ h=>h) (Or.inl ⟨by rfl,?_⟩) ?_ ?_
    rotate_left
    ·intro w'
     go_simp
     with_reducible rfl
    rotate_left
    ·simp only [Act.put,z5,z6,z7,i64_w,i32_w]
     rfl
    refine pure_ (i:=3) (N:=some 9) (v:=?_) (a':=?_) #[t',t',t',t',f',f',f',f',f',f',f',f',f',f',f',f',f',f',f',f',f',f',f',f'] rfl rfl (any_of HT_.out (by kernel_rfl)) (fun _ _ _ h=>h) (Or.inl ⟨by rfl,?_⟩) ?_ ?_
    rotate_left
    ·intro w'
     go_simp
     with_reducible rfl
    rotate_left
    ·simp only [Act.put,z5,z6,z7,i64_w,i32_w]
     rfl
    refine take_ (i:=4) (N:=some 10) (v:=?_) (a':=?_) #[t',t',t',t',t',f',f',f',f',f',f',f',f',f',f',f',f',f',f',f',f',f',f',f'] rfl rfl (take_ofW HT_.out HW_.out (by kernel_rfl)) (fun _ _ _ h=>h) (Or.inl ⟨by rfl,?_⟩) hHeld ?_ ?_
    rotate_left
    ·rintro w' ⟨s0,s1,s2,s3,s4⟩
     go_simp
     with_reducible rfl
    rotate_left
    ·simp only [Act.put,z5,z6,z7,i64_w,i32_w]
     rfl
    refine one_ (i:=5) (N:=some 11) #[t',t',t',t',t',t',f',f',f',f',f',f',f',f',f',f',f',f',f',f',f',f',f',f'] rfl rfl (one_of HT_.out (by kernel_rfl)) (by decide) (fun K hK=>?_)
    refine goes_ Try.func45 (by kernel_rfl) rfl #[.agg #[.int .i64 a1_0,.int .i64 a1_1,.int .i64 a1_2]] (by rfl) rfl rfl z2 ?_
    with_reducible refine(impl_isSeen.calls a1_0 a1_1 a1_2 true _ A5.out).mono ?_
    rintro e w40 ⟨rfl,hb⟩
    refine⟨_,rfl,?_⟩
    have n0_:=Aside0.mk (blk_below (g:=gb551) (o:= .cells #[.int .i64 a0_0,.slice A0_1 l0_1.length c0_1] 24 (0,0)) (z3 BK551) hb)
    have n1_:=Aside0.mk (blk_below (g:=gb552) (o:= .cells #[.int .i64 a1_0,.int .i64 a1_1,.int .i64 a1_2] 53 (0,0)) (z3 BK552) hb)
    have n2_:=Aside0.mk (blk_below (g:=gb553) (o:= .cells #[.int .i64 0,.slice none 0 0] 24 (0,0)) (z3 BK553) hb)
    have n3_:=Aside0.mk (below_step (zb3 HB GE551 GE552 GE553) hb)
    clear BK551
    clear BK552
    clear BK553
    clear HB
    have BK551:=n0_
    have BK552:=n1_
    have BK553:=n2_
    have HB:=n3_
    clear n0_ n1_ n2_ n3_
    (try clear hb)
    (try clear hb2)
    (try clear hk)
    (try clear hi)
    refine hK.out _ _ ⟨(blk_cell BK551.out 0).trans rfl,(blk_cell BK551.out 1).trans rfl,(blk_cell BK552.out 0).trans rfl,(blk_cell BK552.out 1).trans rfl,(blk_cell BK552.out 2).trans rfl⟩ (fun hHeld=>?_)
    clear hK K
    refine norm_ (a':=?_) ?_ ?_
    rotate_left
    ·show Act.put _ (some 11) _=_
     simp only [Act.put,z5,z6,z7,i64_w,i32_w]
     rfl
    refine pure_ (i:=6) (N:=some 12) (v:=?_) (a':=?_) #[t',t',t',t',t',t',t',f',f',f',f',f',f',f',f',f',f',f',f',f',f',f',f',f'] rfl rfl (any_of HT_.out (by kernel_rfl)) (fun _ _ _ h=>h) (Or.inl ⟨by rfl,?_⟩) ?_ ?_
    rotate_left
    ·intro w'
     go_simp
     with_reducible rfl
    rotate_left
    ·simp only [Act.put,z5,z6,z7,i64_w,i32_w]
     rfl
    refine pure_ (i:=7) (N:=some 13) (v:=?_) (a':=?_) #[t',t',t',t',t',t',t',t',f',f',f',f',f',f',f',f',f',f',f',f',f',f',f',f'] rfl rfl (any_of HT_.out (by kernel_rfl)) (fun _ _ _ h=>h) (Or.inl ⟨by rfl,?_⟩) ?_ ?_
    rotate_left
    ·intro w'
     go_simp
     with_reducible rfl
    rotate_left
    ·simp only [Act.put,z5,z6,z7,i64_w,i32_w]
     rfl
    refine pure_ (i:=8) (N:=some 14) (v:=?_) (a':=?_) #[t',t',t',t',t',t',t',t',t',f',f',f',f',f',f',f',f',f',f',f',f',f',f',f'] rfl rfl (any_of HT_.out (by kernel_rfl)) (fun _ _ _ h=>h) (Or.inl ⟨by rfl,?_⟩) ?_ ?_
    rotate_left
    ·intro w'
     go_simp
     with_reducible rfl
    rotate_left
    ·simp only [Act.put,z5,z6,z7,i64_w,i32_w]
     rfl
    refine pure_ (i:=9) (N:=some 15) (v:=?_) (a':=?_) #[t',t',t',t',t',t',t',t',t',t',f',f',f',f',f',f',f',f',f',f',f',f',f',f'] rfl rfl (any_of HT_.out (by kernel_rfl)) (fun _ _ _ h=>h) (Or.inl ⟨by rfl,?_⟩) ?_ ?_
    rotate_left
    ·intro w'
     go_simp
     with_reducible rfl
    rotate_left
    ·simp only [Act.put,z5,z6,z7,i64_w,i32_w]
     rfl
    refine take_ (i:=10) (N:=some 16) (v:=?_) (a':=?_) #[t',t',t',t',t',t',t',t',t',t',t',f',f',f',f',f',f',f',f',f',f',f',f',f'] rfl rfl (take_ofW HT_.out HW_.out (by kernel_rfl)) (fun _ _ _ h=>h) (Or.inl ⟨by rfl,?_⟩) hHeld ?_ ?_
    rotate_left
    ·rintro w' ⟨s0,s1,s2,s3,s4⟩
     go_simp
     with_reducible rfl
    rotate_left
    ·simp only [Act.put,z5,z6,z7,i64_w,i32_w]
     rfl
    refine pure_ (i:=11) (N:=some 17) (v:=?_) (a':=?_) #[t',t',t',t',t',t',t',t',t',t',t',t',f',f',f',f',f',f',f',f',f',f',f',f'] rfl rfl (any_of HT_.out (by kernel_rfl)) (fun _ _ _ h=>h) (Or.inl ⟨by rfl,?_⟩) ?_ ?_
    rotate_left
    ·intro w'
     go_simp
     with_reducible rfl
    rotate_left
    ·simp only [Act.put,z5,z6,z7,i64_w,i32_w]
     rfl
    refine pure_ (i:=12) (N:=some 18) (v:=?_) (a':=?_) #[t',t',t',t',t',t',t',t',t',t',t',t',t',f',f',f',f',f',f',f',f',f',f',f'] rfl rfl (any_of HT_.out (by kernel_rfl)) (fun _ _ _ h=>h) (Or.inl ⟨by rfl,?_⟩) ?_ ?_
    rotate_left
    ·intro w'
     go_simp
     with_reducible rfl
    rotate_left
    ·simp only [Act.put,z5,z6,z7,i64_w,i32_w]
     rfl
    refine pure_ (i:=13) (N:=some 19) (v:=?_) (a':=?_) #[t',t',t',t',t',t',t',t',t',t',t',t',t',t',f',f',f',f',f',f',f',f',f',f'] rfl rfl (any_of HT_.out (by kernel_rfl)) (fun _ _ _ h=>h) (Or.inl ⟨by rfl,?_⟩) ?_ ?_
    rotate_left
    ·intro w'
     go_simp
     with_reducible rfl
    rotate_left
    ·simp only [Act.put,z5,z6,z7,i64_w,i32_w]
     rfl
    refine pure_ (i:=14) (N:=some 20) (v:=undef) (a':=?_) #[t',t',t',t',t',t',t',t',t',t',t',t',t',t',t',f',f',f',f',f',f',f',f',f'] rfl rfl (any_of HT_.out (by kernel_rfl)) (fun _ _ _ h=>h) (Or.inr ⟨by rfl,rfl⟩) ?_ ?_
    rotate_left
    ·simp only [Act.put,z5,z6,z7,i64_w,i32_w]
     rfl
    refine pure_ (i:=15) (N:=some 21) (v:=undef) (a':=?_) #[t',t',t',t',t',t',t',t',t',t',t',t',t',t',t',t',f',f',f',f',f',f',f',f'] rfl rfl (any_of HT_.out (by kernel_rfl)) (fun _ _ _ h=>h) (Or.inr ⟨by rfl,rfl⟩) ?_ ?_
    rotate_left
    ·simp only [Act.put,z5,z6,z7,i64_w,i32_w]
     rfl
    refine pure_ (i:=16) (N:=some 22) (v:=undef) (a':=?_) #[t',t',t',t',t',t',t',t',t',t',t',t',t',t',t',t',t',f',f',f',f',f',f',f'] rfl rfl (any_of HT_.out (by kernel_rfl)) (fun _ _ _ h=>h) (Or.inr ⟨by rfl,rfl⟩) ?_ ?_
    rotate_left
    ·simp only [Act.put,z5,z6,z7,i64_w,i32_w]
     rfl
    refine pure_ (i:=17) (N:=some 23) (v:=undef) (a':=?_) #[t',t',t',t',t',t',t',t',t',t',t',t',t',t',t',t',t',t',f',f',f',f',f',f'] rfl rfl (any_of HT_.out (by kernel_rfl)) (fun _ _ _ h=>h) (Or.inr ⟨by rfl,rfl⟩) ?_ ?_
    rotate_left
    ·simp only [Act.put,z5,z6,z7,i64_w,i32_w]
     rfl
    refine pure_ (i:=18) (N:=some 24) (v:=undef) (a':=?_) #[t',t',t',t',t',t',t',t',t',t',t',t',t',t',t',t',t',t',t',f',f',f',f',f'] rfl rfl (any_of HT_.out (by kernel_rfl)) (fun _ _ _ h=>h) (Or.inr ⟨by rfl,rfl⟩) ?_ ?_
    rotate_left
    ·simp only [Act.put,z5,z6,z7,i64_w,i32_w]
     rfl
    refine pure_ (i:=19) (N:=some 25) (v:=undef) (a':=?_) #[t',t',t',t',t',t',t',t',t',t',t',t',t',t',t',t',t',t',t',t',f',f',f',f'] rfl rfl (any_of HT_.out (by kernel_rfl)) (fun _ _ _ h=>h) (Or.inr ⟨by rfl,rfl⟩) ?_ ?_
    rotate_left
    ·simp only [Act.put,z5,z6,z7,i64_w,i32_w]
     rfl
    refine pure_ (i:=20) (N:=some 26) (v:=undef) (a':=?_) #[t',t',t',t',t',t',t',t',t',t',t',t',t',t',t',t',t',t',t',t',t',f',f',f'] rfl rfl (any_of HT_.out (by kernel_rfl)) (fun _ _ _ h=>h) (Or.inr ⟨by rfl,rfl⟩) ?_ ?_
    rotate_left
    ·simp only [Act.put,z5,z6,z7,i64_w,i32_w]
     rfl
    refine pure_ (i:=21) (N:=some 27) (v:=undef) (a':=?_) #[t',t',t',t',t',t',t',t',t',t',t',t',t',t',t',t',t',t',t',t',t',t',f',f'] rfl rfl (any_of HT_.out (by kernel_rfl)) (fun _ _ _ h=>h) (Or.inr ⟨by rfl,rfl⟩) ?_ ?_
    rotate_left
    ·simp only [Act.put,z5,z6,z7,i64_w,i32_w]
     rfl
    refine pure_ (i:=22) (N:=some 28) (v:=?_) (a':=?_) #[t',t',t',t',t',t',t',t',t',t',t',t',t',t',t',t',t',t',t',t',t',t',t',f'] rfl rfl (any_of HT_.out (by kernel_rfl)) (fun _ _ _ h=>h) (Or.inl ⟨by rfl,?_⟩) ?_ ?_
    rotate_left
    ·intro w'
     go_simp
     with_reducible rfl
    rotate_left
    ·simp only [Act.put,z5,z6,z7,i64_w,i32_w]
     rfl
    refine pure_ (i:=23) (N:=some 29) (v:=?_) (a':=?_) #[t',t',t',t',t',t',t',t',t',t',t',t',t',t',t',t',t',t',t',t',t',t',t',t'] rfl rfl (any_of HT_.out (by kernel_rfl)) (fun _ _ _ h=>h) (Or.inl ⟨by rfl,?_⟩) ?_ ?_
    rotate_left
    ·intro w'
     go_simp
     with_reducible rfl
    rotate_left
    ·simp only [Act.put,z5,z6,z7,i64_w,i32_w]
     rfl
    refine done_ (done_of HT_.out (by kernel_rfl)) ?_
    have hnb41:=NB551_552.out
    have hnc41:=NB552_551.out
    have hnb42:=NB551_553.out
    have hnc42:=NB553_551.out
    have hcz43_0:w40.cell? ⟨gb551,0,none⟩=some (.int .i64 a0_0):=(blk_cell BK551.out 0).trans rfl
    have hcz43_1:w40.cell? ⟨gb551,1,none⟩=some (.slice A0_1 l0_1.length c0_1):=(blk_cell BK551.out 1).trans rfl
    have hfz43_0:=blk_frozen BK551.out 0
    have hfz43_1:=blk_frozen BK551.out 1
    have hnb44:=NB552_553.out
    have hnc44:=NB553_552.out
    have hcz45_0:w40.cell? ⟨gb552,0,none⟩=some (.int .i64 a1_0):=(blk_cell BK552.out 0).trans rfl
    have hcz45_1:w40.cell? ⟨gb552,1,none⟩=some (.int .i64 a1_1):=(blk_cell BK552.out 1).trans rfl
    have hcz45_2:w40.cell? ⟨gb552,2,none⟩=some (.int .i64 a1_2):=(blk_cell BK552.out 2).trans rfl
    have hfz45_0:=blk_frozen BK552.out 0
    have hfz45_1:=blk_frozen BK552.out 1
    have hfz45_2:=blk_frozen BK552.out 2
    try go_wp2_with (first|((with_reducible refine gate_callee (f:=55) rfl ?_);refine goesL_ (some 33) rfl rfl Try.func55 (by kernel_rfl) rfl #[.agg #[.int .i64 a0_0,.slice A0_1 l0_1.length c0_1],.agg #[.int .i64 a1_0,.int .i64 a1_1,.int .i64 a1_2]] rfl z2 ?_;(with_reducible refine(impl_Table_learn.calls k a0_0 _ _ l0_1 a1_0 a1_1 a1_2 t561 t562 _ ?side1 ?side2 A34.out).mono ?_);(case side1=>repeat(first|exact(Kd.C_below HR0_1.out HB.out)|(with_reducible refine Kd.C_alloc ?_ _)|(with_reducible refine Kd.C_drewN ?_ _)|(with_reducible refine Kd.C_drew ?_)));(case side2=>exact HC0_1.out);rintro e w46 ⟨v563,rfl,ho0,hb⟩;refine⟨_,rfl,?_⟩;have n0_:=Aside0.mk (Kd.R_lower (Kd.R_newB ho0 (g:=gb552) (o:= .cells #[.int .i64 a1_0,.int .i64 a1_1,.int .i64 a1_2] 53 (0,0)) (z3 BK552)) (below_size (zb3 HB GE551 GE552 GE553)));have n1_:=Aside0.mk (blk_below (g:=gb551) (o:= .cells #[.int .i64 a0_0,.slice A0_1 l0_1.length c0_1] 24 (0,0)) (z3 BK551) hb);have n2_:=Aside0.mk (blk_below (g:=gb552) (o:= .cells #[.int .i64 a1_0,.int .i64 a1_1,.int .i64 a1_2] 53 (0,0)) (z3 BK552) hb);have n3_:=Aside0.mk (blk_below (g:=gb553) (o:= .cells #[.int .i64 0,.slice none 0 0] 24 (0,0)) (z3 BK553) hb);have n4_:=Aside0.mk (below_step (zb3 HB GE551 GE552 GE553) hb);clear BK551;clear BK552;clear BK553;clear HB;have HO564:=n0_;have BK551:=n1_;have BK552:=n2_;have BK553:=n3_;have HB:=n4_;clear n0_ n1_ n2_ n3_ n4_;(try clear hb);(try clear hb2);(try clear hk);(try clear hi);(try clear ho0);have hcz47_0:w46.cell? ⟨gb553,0,none⟩=some (.int .i64 0):=(blk_cell BK553.out 0).trans rfl;have hcz47_1:w46.cell? ⟨gb553,1,none⟩=some (.slice none 0 0):=(blk_cell BK553.out 1).trans rfl;have hfz47_0:=blk_frozen BK553.out 0;have hfz47_1:=blk_frozen BK553.out 1;obtain⟨Ao48,co48,eo48⟩:=Kd.R_slice HO564.out;subst eo48))
    refine bodyPost_ret (results_ct rfl _ _ gb553 24 #[.int .i64 t561,.slice Ao48 t562.length co48] (0,0) _ rfl (by(with_reducible repeat(first|refine blk_drewN ?_ _|refine blk_drew ?_ |refine blk_alloc ?_ _));refine blk_put (cs:= #[.int .i64 t561,.slice none 0 0]) ?_ 1 _ rfl;(with_reducible repeat(first|refine blk_drewN ?_ _|refine blk_drew ?_ |refine blk_alloc ?_ _));refine blk_put (cs:= #[.int .i64 0,.slice none 0 0]) ?_ 0 _ rfl;(with_reducible repeat(first|refine blk_drewN ?_ _|refine blk_drew ?_ |refine blk_alloc ?_ _));exact BK553.out) Try.underlying24 rfl (by kernel_rfl)) rfl ?_
    exact⟨_,by first|rfl|(simp [errW_none,errW_some]<;>rfl)|(simp [*,errW_none,errW_some]<;>rfl),by(with_reducible repeat(first|apply Kd.R_alloc|apply Kd.R_drewN|apply Kd.R_drew));exact Kd.R_mono (Kd.R_far (p:=⟨gb553,1,none⟩) (Kd.R_far (p:=⟨gb553,0,none⟩) (Kd.R_types HO564.out BK553.out (by decide)) (fun _ hk=>hk.2) (.int .i64 t561)) (fun _ hk=>hk.2) (.slice Ao48 t562.length co48)) (fun _ hk=>trivial),by repeat(first|(with_reducible first|exact HB.out|apply below_alloc|apply pw_below_drewN|apply below_drew1|refine below_set ?_ GE551.out|refine below_set ?_ GE552.out|refine below_set ?_ GE553.out)|exact HB.out)⟩
  ·replace c6:=Bool.eq_false_iff.mpr c6
   subst c6
   have H1:(some (0,([] :List (S53)),false))=some (r1,r2,r3):=by rw [if_neg (show ¬ (false=true) by decide)] at H;exact H
   clear H
   have H:=H1
   clear H1
   simp only [Option.some.injEq,Prod.mk.injEq] at H
   obtain⟨rfl,rfl,rfl⟩:=H
   go_enter Try.func37,Try.ntmps37
   try go_wp2_with (first|((with_reducible refine gate_dst (N:=2) rfl ?_);(try(refine gate_guard (by rfl) ?_;dsimp only));refine box_event ?hg (N:=2) ?hd (cs:= #[.int .i64 a0_0,.slice A0_1 l0_1.length c0_1]) (t:=24) ?hr ?_;(case hd=>rfl);(case hg=>rfl);(case hr=>first|(go_simp;done)|(go_simp;rfl));intro gb551 hg w49 hbox hb;have n0_:=Aside0.mk (below_step (zb0 HB) hb);have n1_:=Aside0.mk (hbox);have n2_:=Aside0.mk ((by rw [hg];exact(below_size (zb0 HB)):w.heap.size≤gb551));have n3_:=Aside0.mk ((by rw [hg];exact(below_size (zb0 HB)):w.heap.size≤gb551));clear HB;have HB:=n0_;have BK551:=n1_;have GW551:=n2_;have GE551:=n3_;clear n0_ n1_ n2_ n3_;clear hb hbox hg)|((with_reducible refine gate_dst (N:=3) rfl ?_);(try(refine gate_guard (by rfl) ?_;dsimp only));refine box_event ?hg (N:=3) ?hd (cs:= #[.int .i64 a1_0,.int .i64 a1_1,.int .i64 a1_2]) (t:=53) ?hr ?_;(case hd=>rfl);(case hg=>rfl);(case hr=>first|(go_simp;done)|(go_simp;rfl));intro gb552 hg w50 hbox hb;have n0_:=Aside0.mk (blk_below (g:=gb551) (o:= .cells #[.int .i64 a0_0,.slice A0_1 l0_1.length c0_1] 24 (0,0)) (z3 BK551) hb);have n1_:=Aside0.mk (below_step (zb1 HB GE551) hb);have n2_:=Aside0.mk (hbox);have n3_:=Aside0.mk ((by rw [hg];exact(below_size (zb1 HB GE551)):w.heap.size≤gb552));have n4_:=Aside0.mk ((by rw [hg];exact(below_size (zb1 HB GE551)):w.heap.size≤gb552));have n5_:=Aside0.mk ((by rw [hg];exact Nat.ne_of_lt (blk_lt (g:=gb551) (o:= .cells #[.int .i64 a0_0,.slice A0_1 l0_1.length c0_1] 24 (0,0)) (z3 BK551)):gb551≠gb552));have n6_:=Aside0.mk ((by rw [hg];exact Nat.ne_of_gt (blk_lt (g:=gb551) (o:= .cells #[.int .i64 a0_0,.slice A0_1 l0_1.length c0_1] 24 (0,0)) (z3 BK551)):gb552≠gb551));clear BK551;clear HB;have BK551:=n0_;have HB:=n1_;have BK552:=n2_;have GW552:=n3_;have GE552:=n4_;have NB551_552:=n5_;have NB552_551:=n6_;clear n0_ n1_ n2_ n3_ n4_ n5_ n6_;clear hb hbox hg)|((with_reducible refine gate_dst (N:=4) rfl ?_);(try(refine gate_guard (by rfl) ?_;dsimp only));refine box_event ?hg (N:=4) ?hd (cs:= #[.int .i64 0,.slice none 0 0]) (t:=24) ?hr ?_;(case hd=>rfl);(case hg=>rfl);(case hr=>first|(go_simp;done)|(go_simp;rfl));intro gb553 hg w51 hbox hb;have n0_:=Aside0.mk (blk_below (g:=gb551) (o:= .cells #[.int .i64 a0_0,.slice A0_1 l0_1.length c0_1] 24 (0,0)) (z3 BK551) hb);have n1_:=Aside0.mk (blk_below (g:=gb552) (o:= .cells #[.int .i64 a1_0,.int .i64 a1_1,.int .i64 a1_2] 53 (0,0)) (z3 BK552) hb);have n2_:=Aside0.mk (below_step (zb2 HB GE551 GE552) hb);have n3_:=Aside0.mk (hbox);have n4_:=Aside0.mk ((by rw [hg];exact(below_size (zb2 HB GE551 GE552)):w.heap.size≤gb553));have n5_:=Aside0.mk ((by rw [hg];exact(below_size (zb2 HB GE551 GE552)):w.heap.size≤gb553));have n6_:=Aside0.mk ((by rw [hg];exact Nat.ne_of_lt (blk_lt (g:=gb551) (o:= .cells #[.int .i64 a0_0,.slice A0_1 l0_1.length c0_1] 24 (0,0)) (z3 BK551)):gb551≠gb553));have n7_:=Aside0.mk ((by rw [hg];exact Nat.ne_of_gt (blk_lt (g:=gb551) (o:= .cells #[.int .i64 a0_0,.slice A0_1 l0_1.length c0_1] 24 (0,0)) (z3 BK551)):gb553≠gb551));have n8_:=Aside0.mk ((by rw [hg];exact Nat.ne_of_lt (blk_lt (g:=gb552) (o:= .cells #[.int .i64 a1_0,.int .i64 a1_1,.int .i64 a1_2] 53 (0,0)) (z3 BK552)):gb552≠gb553));have n9_:=Aside0.mk ((by rw [hg];exact Nat.ne_of_gt (blk_lt (g:=gb552) (o:= .cells #[.int .i64 a1_0,.int .i64 a1_1,.int .i64 a1_2] 53 (0,0)) (z3 BK552)):gb553≠gb552));clear BK551;clear BK552;clear HB;have BK551:=n0_;have BK552:=n1_;have HB:=n2_;have BK553:=n3_;have GW553:=n4_;have GE553:=n5_;have NB551_553:=n6_;have NB553_551:=n7_;have NB552_553:=n8_;have NB553_552:=n9_;clear n0_ n1_ n2_ n3_ n4_ n5_ n6_ n7_ n8_ n9_;clear hb hbox hg))
   have n0_:=Aside0.mk (blk_drew BK551.out)
   have n1_:=Aside0.mk (blk_drew BK552.out)
   have n2_:=Aside0.mk (blk_drew BK553.out)
   have n3_:=Aside0.mk (below_drew1 HB.out)
   clear BK551
   clear BK552
   clear BK553
   clear HB
   have BK551:=n0_
   have BK552:=n1_
   have BK553:=n2_
   have HB:=n3_
   clear n0_ n1_ n2_ n3_
   refine start_ (n:=24) (S:=fun w'=>w'.cell? ⟨gb551,0,none⟩=some (.int .i64 a0_0)∧w'.cell? ⟨gb551,1,none⟩=some (.slice A0_1 l0_1.length c0_1)∧w'.cell? ⟨gb552,0,none⟩=some (.int .i64 a1_0)∧w'.cell? ⟨gb552,1,none⟩=some (.int .i64 a1_1)∧w'.cell? ⟨gb552,2,none⟩=some (.int .i64 a1_2)) (ds:= []) #[f',f',f',f',f',f',f',f',f',f',f',f',f',f',f',f',f',f',f',f',f',f',f',f'] (by kernel_rfl) rfl rfl ⟨(blk_cell BK551.out 0).trans rfl,(blk_cell BK551.out 1).trans rfl,(blk_cell BK552.out 0).trans rfl,(blk_cell BK552.out 1).trans rfl,(blk_cell BK552.out 2).trans rfl⟩ (fun hHeld=>?_);refine with_tabW impl_Learn.tab1 impl_Learn.bits1 (fun HT_ HW_=>?_)
   generalize w51.drew=w52 at BK551 BK552 BK553 HB hHeld ⊢
   refine take_ (i:=0) (N:=some 6) (v:=?_) (a':=?_) #[t',f',f',f',f',f',f',f',f',f',f',f',f',f',f',f',f',f',f',f',f',f',f',f'] rfl rfl (take_ofW HT_.out HW_.out (by kernel_rfl)) (fun _ _ _ h=>h) (Or.inl ⟨by rfl,?_⟩) hHeld ?_ ?_
   rotate_left
   ·rintro w' ⟨s0,s1,s2,s3,s4⟩
    go_simp
    with_reducible rfl
   rotate_left
   ·simp only [Act.put,z5,z6,z7,i64_w,i32_w]
    rfl
   refine one_ (i:=1) (N:=some 7) #[t',t',f',f',f',f',f',f',f',f',f',f',f',f',f',f',f',f',f',f',f',f',f',f'] rfl rfl (one_of HT_.out (by kernel_rfl)) (by decide) (fun K hK=>?_)
   refine goes_ Try.func20 (by kernel_rfl) rfl #[.agg #[.int .i64 a0_0,.slice A0_1 l0_1.length c0_1]] (by rfl) rfl rfl z2 ?_
   with_reducible refine(impl_GoodTable.calls k a0_0 _ _ l0_1 true _ ?side1 ?side2 A3.out).mono ?_
   (case side1=>repeat(first|exact(Kd.C_below HR0_1.out HB.out)|(with_reducible refine Kd.C_alloc ?_ _)|(with_reducible refine Kd.C_drewN ?_ _)|(with_reducible refine Kd.C_drew ?_)))
   (case side2=>exact HC0_1.out)
   rintro e w53 ⟨rfl,hb⟩
   refine⟨_,rfl,?_⟩
   have n0_:=Aside0.mk (blk_below (g:=gb551) (o:= .cells #[.int .i64 a0_0,.slice A0_1 l0_1.length c0_1] 24 (0,0)) (z3 BK551) hb)
   have n1_:=Aside0.mk (blk_below (g:=gb552) (o:= .cells #[.int .i64 a1_0,.int .i64 a1_1,.int .i64 a1_2] 53 (0,0)) (z3 BK552) hb)
   have n2_:=Aside0.mk (blk_below (g:=gb553) (o:= .cells #[.int .i64 0,.slice none 0 0] 24 (0,0)) (z3 BK553) hb)
   have n3_:=Aside0.mk (below_step (zb3 HB GE551 GE552 GE553) hb)
   clear BK551
   clear BK552
   clear BK553
   clear HB
   have BK551:=n0_
   have BK552:=n1_
   have BK553:=n2_
   have HB:=n3_
   clear n0_ n1_ n2_ n3_
   (try clear hb)
   (try clear hb2)
   (try clear hk)
   (try clear hi)
   refine hK.out _ _ ⟨(blk_cell BK551.out 0).trans rfl,(blk_cell BK551.out 1).trans rfl,(blk_cell BK552.out 0).trans rfl,(blk_cell BK552.out 1).trans rfl,(blk_cell BK552.out 2).trans rfl⟩ (fun hHeld=>?_)
   clear hK K
   refine norm_ (a':=?_) ?_ ?_
   rotate_left
   ·show Act.put _ (some 7) _=_
    simp only [Act.put,z5,z6,z7,i64_w,i32_w]
    rfl
   refine pure_ (i:=2) (N:=some 8) (v:=?_) (a':=?_) #[t',t',t',f',f',f',f',f',f',f',f',f',f',f',f',f',f',f',f',f',f',f',f',f'] rfl rfl (any_of HT_.out (by kernel_rfl)) (fun _ _ _ h=>h) (Or.inl ⟨by rfl,?_⟩) ?_ ?_
   rotate_left
   ·intro w'
    go_simp
    with_reducible rfl
   rotate_left
   ·simp only [Act.put,z5,z6,z7,i64_w,i32_w]
    rfl
   refine pure_ (i:=3) (N:=some 9) (v:=?_) (a':=?_) #[t',t',t',t',f',f',f',f',f',f',f',f',f',f',f',f',f',f',f',f',f',f',f',f'] rfl rfl (any_of HT_.out (by kernel_rfl)) (fun _ _ _ h=>h) (Or.inl ⟨by rfl,?_⟩) ?_ ?_
   rotate_left
   ·intro w'
    go_simp
    with_reducible rfl
   rotate_left
   ·simp only [Act.put,z5,z6,z7,i64_w,i32_w]
    rfl
   refine take_ (i:=4) (N:=some 10) (v:=?_) (a':=?_) #[t',t',t',t',t',f',f',f',f',f',f',f',f',f',f',f',f',f',f',f',f',f',f',f'] rfl rfl (take_ofW HT_.out HW_.out (by kernel_rfl)) (fun _ _ _ h=>h) (Or.inl ⟨by rfl,?_⟩) hHeld ?_ ?_
   rotate_left
   ·rintro w' ⟨s0,s1,s2,s3,s4⟩
    go_simp
    with_reducible rfl
   rotate_left
   ·simp only [Act.put,z5,z6,z7,i64_w,i32_w]
    rfl
   refine one_ (i:=5) (N:=some 11) #[t',t',t',t',t',t',f',f',f',f',f',f',f',f',f',f',f',f',f',f',f',f',f',f'] rfl rfl (one_of HT_.out (by kernel_rfl)) (by decide) (fun K hK=>?_)
   refine goes_ Try.func45 (by kernel_rfl) rfl #[.agg #[.int .i64 a1_0,.int .i64 a1_1,.int .i64 a1_2]] (by rfl) rfl rfl z2 ?_
   with_reducible refine(impl_isSeen.calls a1_0 a1_1 a1_2 false _ A5.out).mono ?_
   rintro e w54 ⟨rfl,hb⟩
   refine⟨_,rfl,?_⟩
   have n0_:=Aside0.mk (blk_below (g:=gb551) (o:= .cells #[.int .i64 a0_0,.slice A0_1 l0_1.length c0_1] 24 (0,0)) (z3 BK551) hb)
   have n1_:=Aside0.mk (blk_below (g:=gb552) (o:= .cells #[.int .i64 a1_0,.int .i64 a1_1,.int .i64 a1_2] 53 (0,0)) (z3 BK552) hb)
   have n2_:=Aside0.mk (blk_below (g:=gb553) (o:= .cells #[.int .i64 0,.slice none 0 0] 24 (0,0)) (z3 BK553) hb)
   have n3_:=Aside0.mk (below_step (zb3 HB GE551 GE552 GE553) hb)
   clear BK551
   clear BK552
   clear BK553
   clear HB
   have BK551:=n0_
   have BK552:=n1_
   have BK553:=n2_
   have HB:=n3_
   clear n0_ n1_ n2_ n3_
   (try clear hb)
   (try clear hb2)
   (try clear hk)
   (try clear hi)
   refine hK.out _ _ ⟨(blk_cell BK551.out 0).trans rfl,(blk_cell BK551.out 1).trans rfl,(blk_cell BK552.out 0).trans rfl,(blk_cell BK552.out 1).trans rfl,(blk_cell BK552.out 2).trans rfl⟩ (fun hHeld=>?_)
   clear hK K
   refine norm_ (a':=?_) ?_ ?_
   rotate_left
   ·show Act.put _ (some 11) _=_
    simp only [Act.put,z5,z6,z7,i64_w,i32_w]
    rfl
   refine pure_ (i:=6) (N:=some 12) (v:=?_) (a':=?_) #[t',t',t',t',t',t',t',f',f',f',f',f',f',f',f',f',f',f',f',f',f',f',f',f'] rfl rfl (any_of HT_.out (by kernel_rfl)) (fun _ _ _ h=>h) (Or.inl ⟨by rfl,?_⟩) ?_ ?_
   rotate_left
   ·intro w'
    go_simp
    with_reducible rfl
   rotate_left
   ·simp only [Act.put,z5,z6,z7,i64_w,i32_w]
    rfl
   refine pure_ (i:=7) (N:=some 13) (v:=?_) (a':=?_) #[t',t',t',t',t',t',t',t',f',f',f',f',f',f',f',f',f',f',f',f',f',f',f',f'] rfl rfl (any_of HT_.out (by kernel_rfl)) (fun _ _ _ h=>h) (Or.inl ⟨by rfl,?_⟩) ?_ ?_
   rotate_left
   ·intro w'
    go_simp
    with_reducible rfl
   rotate_left
   ·simp only [Act.put,z5,z6,z7,i64_w,i32_w]
    rfl
   refine pure_ (i:=8) (N:=some 14) (v:=?_) (a':=?_) #[t',t',t',t',t',t',t',t',t',f',f',f',f',f',f',f',f',f',f',f',f',f',f',f'] rfl rfl (any_of HT_.out (by kernel_rfl)) (fun _ _ _ h=>h) (Or.inl ⟨by rfl,?_⟩) ?_ ?_
   rotate_left
   ·intro w'
    go_simp
    with_reducible rfl
   rotate_left
   ·simp only [Act.put,z5,z6,z7,i64_w,i32_w]
    rfl
   refine pure_ (i:=9) (N:=some 15) (v:=undef) (a':=?_) #[t',t',t',t',t',t',t',t',t',t',f',f',f',f',f',f',f',f',f',f',f',f',f',f'] rfl rfl (any_of HT_.out (by kernel_rfl)) (fun _ _ _ h=>h) (Or.inr ⟨by rfl,rfl⟩) ?_ ?_
   rotate_left
   ·simp only [Act.put,z5,z6,z7,i64_w,i32_w]
    rfl
   refine pure_ (i:=10) (N:=some 16) (v:=undef) (a':=?_) #[t',t',t',t',t',t',t',t',t',t',t',f',f',f',f',f',f',f',f',f',f',f',f',f'] rfl rfl (any_of HT_.out (by kernel_rfl)) (fun _ _ _ h=>h) (Or.inr ⟨by rfl,rfl⟩) ?_ ?_
   rotate_left
   ·simp only [Act.put,z5,z6,z7,i64_w,i32_w]
    rfl
   refine pure_ (i:=11) (N:=some 17) (v:=undef) (a':=?_) #[t',t',t',t',t',t',t',t',t',t',t',t',f',f',f',f',f',f',f',f',f',f',f',f'] rfl rfl (any_of HT_.out (by kernel_rfl)) (fun _ _ _ h=>h) (Or.inr ⟨by rfl,rfl⟩) ?_ ?_
   rotate_left
   ·simp only [Act.put,z5,z6,z7,i64_w,i32_w]
    rfl
   refine pure_ (i:=12) (N:=some 18) (v:=undef) (a':=?_) #[t',t',t',t',t',t',t',t',t',t',t',t',t',f',f',f',f',f',f',f',f',f',f',f'] rfl rfl (any_of HT_.out (by kernel_rfl)) (fun _ _ _ h=>h) (Or.inr ⟨by rfl,rfl⟩) ?_ ?_
   rotate_left
   ·simp only [Act.put,z5,z6,z7,i64_w,i32_w]
    rfl
   refine pure_ (i:=13) (N:=some 19) (v:=undef) (a':=?_) #[t',t',t',t',t',t',t',t',t',t',t',t',t',t',f',f',f',f',f',f',f',f',f',f'] rfl rfl (any_of HT_.out (by kernel_rfl)) (fun _ _ _ h=>h) (Or.inr ⟨by rfl,rfl⟩) ?_ ?_
   rotate_left
   ·simp only [Act.put,z5,z6,z7,i64_w,i32_w]
    rfl
   refine pure_ (i:=14) (N:=some 20) (v:=undef) (a':=?_) #[t',t',t',t',t',t',t',t',t',t',t',t',t',t',t',f',f',f',f',f',f',f',f',f'] rfl rfl (any_of HT_.out (by kernel_rfl)) (fun _ _ _ h=>h) (Or.inr ⟨by rfl,rfl⟩) ?_ ?_
   rotate_left
   ·simp only [Act.put,z5,z6,z7,i64_w,i32_w]
    rfl
   refine pure_ (i:=15) (N:=some 21) (v:=undef) (a':=?_) #[t',t',t',t',t',t',t',t',t',t',t',t',t',t',t',t',f',f',f',f',f',f',f',f'] rfl rfl (any_of HT_.out (by kernel_rfl)) (fun _ _ _ h=>h) (Or.inr ⟨by rfl,rfl⟩) ?_ ?_
   rotate_left
   ·simp only [Act.put,z5,z6,z7,i64_w,i32_w]
    rfl
   refine pure_ (i:=16) (N:=some 22) (v:=undef) (a':=?_) #[t',t',t',t',t',t',t',t',t',t',t',t',t',t',t',t',t',f',f',f',f',f',f',f'] rfl rfl (any_of HT_.out (by kernel_rfl)) (fun _ _ _ h=>h) (Or.inr ⟨by rfl,rfl⟩) ?_ ?_
   rotate_left
   ·simp only [Act.put,z5,z6,z7,i64_w,i32_w]
    rfl
   refine pure_ (i:=17) (N:=some 23) (v:=undef) (a':=?_) #[t',t',t',t',t',t',t',t',t',t',t',t',t',t',t',t',t',t',f',f',f',f',f',f'] rfl rfl (any_of HT_.out (by kernel_rfl)) (fun _ _ _ h=>h) (Or.inr ⟨by rfl,rfl⟩) ?_ ?_
   rotate_left
   ·simp only [Act.put,z5,z6,z7,i64_w,i32_w]
    rfl
   refine pure_ (i:=18) (N:=some 24) (v:=undef) (a':=?_) #[t',t',t',t',t',t',t',t',t',t',t',t',t',t',t',t',t',t',t',f',f',f',f',f'] rfl rfl (any_of HT_.out (by kernel_rfl)) (fun _ _ _ h=>h) (Or.inr ⟨by rfl,rfl⟩) ?_ ?_
   rotate_left
   ·simp only [Act.put,z5,z6,z7,i64_w,i32_w]
    rfl
   refine pure_ (i:=19) (N:=some 25) (v:=undef) (a':=?_) #[t',t',t',t',t',t',t',t',t',t',t',t',t',t',t',t',t',t',t',t',f',f',f',f'] rfl rfl (any_of HT_.out (by kernel_rfl)) (fun _ _ _ h=>h) (Or.inr ⟨by rfl,rfl⟩) ?_ ?_
   rotate_left
   ·simp only [Act.put,z5,z6,z7,i64_w,i32_w]
    rfl
   refine pure_ (i:=20) (N:=some 26) (v:=undef) (a':=?_) #[t',t',t',t',t',t',t',t',t',t',t',t',t',t',t',t',t',t',t',t',t',f',f',f'] rfl rfl (any_of HT_.out (by kernel_rfl)) (fun _ _ _ h=>h) (Or.inr ⟨by rfl,rfl⟩) ?_ ?_
   rotate_left
   ·simp only [Act.put,z5,z6,z7,i64_w,i32_w]
    rfl
   refine pure_ (i:=21) (N:=some 27) (v:=undef) (a':=?_) #[t',t',t',t',t',t',t',t',t',t',t',t',t',t',t',t',t',t',t',t',t',t',f',f'] rfl rfl (any_of HT_.out (by kernel_rfl)) (fun _ _ _ h=>h) (Or.inr ⟨by rfl,rfl⟩) ?_ ?_
   rotate_left
   ·simp only [Act.put,z5,z6,z7,i64_w,i32_w]
    rfl
   refine pure_ (i:=22) (N:=some 28) (v:=undef) (a':=?_) #[t',t',t',t',t',t',t',t',t',t',t',t',t',t',t',t',t',t',t',t',t',t',t',f'] rfl rfl (any_of HT_.out (by kernel_rfl)) (fun _ _ _ h=>h) (Or.inr ⟨by rfl,rfl⟩) ?_ ?_
   rotate_left
   ·simp only [Act.put,z5,z6,z7,i64_w,i32_w]
    rfl
   refine pure_ (i:=23) (N:=some 29) (v:=?_) (a':=?_) #[t',t',t',t',t',t',t',t',t',t',t',t',t',t',t',t',t',t',t',t',t',t',t',t'] rfl rfl (any_of HT_.out (by kernel_rfl)) (fun _ _ _ h=>h) (Or.inl ⟨by rfl,?_⟩) ?_ ?_
   rotate_left
   ·intro w'
    go_simp
    with_reducible rfl
   rotate_left
   ·simp only [Act.put,z5,z6,z7,i64_w,i32_w]
    rfl
   refine done_ (done_of HT_.out (by kernel_rfl)) ?_
   have hnb55:=NB553_551.out
   have hnc55:=NB551_553.out
   have hnb56:=NB553_552.out
   have hnc56:=NB552_553.out
   have hcz57_0:w54.cell? ⟨gb553,0,none⟩=some (.int .i64 0):=(blk_cell BK553.out 0).trans rfl
   have hcz57_1:w54.cell? ⟨gb553,1,none⟩=some (.slice none 0 0):=(blk_cell BK553.out 1).trans rfl
   have hfz57_0:=blk_frozen BK553.out 0
   have hfz57_1:=blk_frozen BK553.out 1
   try go_wp2
   refine bodyPost_ret (results_ct rfl _ _ gb553 24 #[.int .i64 0,.slice none 0 0] (0,0) _ rfl (by(with_reducible repeat(first|refine blk_drewN ?_ _|refine blk_drew ?_ |refine blk_alloc ?_ _));refine blk_put (cs:= #[.int .i64 0,.slice none 0 0]) ?_ 1 _ rfl;(with_reducible repeat(first|refine blk_drewN ?_ _|refine blk_drew ?_ |refine blk_alloc ?_ _));refine blk_put (cs:= #[.int .i64 0,.slice none 0 0]) ?_ 0 _ rfl;(with_reducible repeat(first|refine blk_drewN ?_ _|refine blk_drew ?_ |refine blk_alloc ?_ _));exact BK553.out) Try.underlying24 rfl (by kernel_rfl)) rfl ?_
   exact⟨_,by first|rfl|(simp [errW_none,errW_some]<;>rfl)|(simp [*,errW_none,errW_some]<;>rfl),by first|exact Kd.R_nil _ _ _ _ _|exact Kd.N_nil _ _ _ _ _|exact Kd.V_nil _ _ _ _ _|exact Kd.Q_nil _ _ _ _ _|exact Kd.S_nil _ _ _ _ _,by repeat(first|(with_reducible first|exact HB.out|apply below_alloc|apply pw_below_drewN|apply below_drew1|refine below_set ?_ GE551.out|refine below_set ?_ GE552.out|refine below_set ?_ GE553.out)|exact HB.out)⟩
 ·replace c4:=Bool.eq_false_iff.mpr c4
  subst c4
  have H1:(some (0,([] :List (S53)),false))=some (r1,r2,r3):=by rw [if_neg (show ¬ (false=true) by decide)] at H;exact H
  clear H
  have H:=H1
  clear H1
  simp only [Option.some.injEq,Prod.mk.injEq] at H
  obtain⟨rfl,rfl,rfl⟩:=H
  go_enter Try.func37,Try.ntmps37
  try go_wp2_with (first|((with_reducible refine gate_dst (N:=2) rfl ?_);(try(refine gate_guard (by rfl) ?_;dsimp only));refine box_event ?hg (N:=2) ?hd (cs:= #[.int .i64 a0_0,.slice A0_1 l0_1.length c0_1]) (t:=24) ?hr ?_;(case hd=>rfl);(case hg=>rfl);(case hr=>first|(go_simp;done)|(go_simp;rfl));intro gb551 hg w58 hbox hb;have n0_:=Aside0.mk (below_step (zb0 HB) hb);have n1_:=Aside0.mk (hbox);have n2_:=Aside0.mk ((by rw [hg];exact(below_size (zb0 HB)):w.heap.size≤gb551));have n3_:=Aside0.mk ((by rw [hg];exact(below_size (zb0 HB)):w.heap.size≤gb551));clear HB;have HB:=n0_;have BK551:=n1_;have GW551:=n2_;have GE551:=n3_;clear n0_ n1_ n2_ n3_;clear hb hbox hg)|((with_reducible refine gate_dst (N:=3) rfl ?_);(try(refine gate_guard (by rfl) ?_;dsimp only));refine box_event ?hg (N:=3) ?hd (cs:= #[.int .i64 a1_0,.int .i64 a1_1,.int .i64 a1_2]) (t:=53) ?hr ?_;(case hd=>rfl);(case hg=>rfl);(case hr=>first|(go_simp;done)|(go_simp;rfl));intro gb552 hg w59 hbox hb;have n0_:=Aside0.mk (blk_below (g:=gb551) (o:= .cells #[.int .i64 a0_0,.slice A0_1 l0_1.length c0_1] 24 (0,0)) (z3 BK551) hb);have n1_:=Aside0.mk (below_step (zb1 HB GE551) hb);have n2_:=Aside0.mk (hbox);have n3_:=Aside0.mk ((by rw [hg];exact(below_size (zb1 HB GE551)):w.heap.size≤gb552));have n4_:=Aside0.mk ((by rw [hg];exact(below_size (zb1 HB GE551)):w.heap.size≤gb552));have n5_:=Aside0.mk ((by rw [hg];exact Nat.ne_of_lt (blk_lt (g:=gb551) (o:= .cells #[.int .i64 a0_0,.slice A0_1 l0_1.length c0_1] 24 (0,0)) (z3 BK551)):gb551≠gb552));have n6_:=Aside0.mk ((by rw [hg];exact Nat.ne_of_gt (blk_lt (g:=gb551) (o:= .cells #[.int .i64 a0_0,.slice A0_1 l0_1.length c0_1] 24 (0,0)) (z3 BK551)):gb552≠gb551));clear BK551;clear HB;have BK551:=n0_;have HB:=n1_;have BK552:=n2_;have GW552:=n3_;have GE552:=n4_;have NB551_552:=n5_;have NB552_551:=n6_;clear n0_ n1_ n2_ n3_ n4_ n5_ n6_;clear hb hbox hg)|((with_reducible refine gate_dst (N:=4) rfl ?_);(try(refine gate_guard (by rfl) ?_;dsimp only));refine box_event ?hg (N:=4) ?hd (cs:= #[.int .i64 0,.slice none 0 0]) (t:=24) ?hr ?_;(case hd=>rfl);(case hg=>rfl);(case hr=>first|(go_simp;done)|(go_simp;rfl));intro gb553 hg w60 hbox hb;have n0_:=Aside0.mk (blk_below (g:=gb551) (o:= .cells #[.int .i64 a0_0,.slice A0_1 l0_1.length c0_1] 24 (0,0)) (z3 BK551) hb);have n1_:=Aside0.mk (blk_below (g:=gb552) (o:= .cells #[.int .i64 a1_0,.int .i64 a1_1,.int .i64 a1_2] 53 (0,0)) (z3 BK552) hb);have n2_:=Aside0.mk (below_step (zb2 HB GE551 GE552) hb);have n3_:=Aside0.mk (hbox);have n4_:=Aside0.mk ((by rw [hg];exact(below_size (zb2 HB GE551 GE552)):w.heap.size≤gb553));have n5_:=Aside0.mk ((by rw [hg];exact(below_size (zb2 HB GE551 GE552)):w.heap.size≤gb553));have n6_:=Aside0.mk ((by rw [hg];exact Nat.ne_of_lt (blk_lt (g:=gb551) (o:= .cells #[.int .i64 a0_0,.slice A0_1 l0_1.length c0_1] 24 (0,0)) (z3 BK551)):gb551≠gb553));have n7_:=Aside0.mk ((by rw [hg];exact Nat.ne_of_gt (blk_lt (g:=gb551) (o:= .cells #[.int .i64 a0_0,.slice A0_1 l0_1.length c0_1] 24 (0,0)) (z3 BK551)):gb553≠gb551));have n8_:=Aside0.mk ((by rw [hg];exact Nat.ne_of_lt (blk_lt (g:=gb552) (o:= .cells #[.int .i64 a1_0,.int .i64 a1_1,.int .i64 a1_2] 53 (0,0)) (z3 BK552)):gb552≠gb553));have n9_:=Aside0.mk ((by rw [hg];exact Nat.ne_of_gt (blk_lt (g:=gb552) (o:= .cells #[.int .i64 a1_0,.int .i64 a1_1,.int .i64 a1_2] 53 (0,0)) (z3 BK552)):gb553≠gb552));clear BK551;clear BK552;clear HB;have BK551:=n0_;have BK552:=n1_;have HB:=n2_;have BK553:=n3_;have GW553:=n4_;have GE553:=n5_;have NB551_553:=n6_;have NB553_551:=n7_;have NB552_553:=n8_;have NB553_552:=n9_;clear n0_ n1_ n2_ n3_ n4_ n5_ n6_ n7_ n8_ n9_;clear hb hbox hg))
  have n0_:=Aside0.mk (blk_drew BK551.out)
  have n1_:=Aside0.mk (blk_drew BK552.out)
  have n2_:=Aside0.mk (blk_drew BK553.out)
  have n3_:=Aside0.mk (below_drew1 HB.out)
  clear BK551
  clear BK552
  clear BK553
  clear HB
  have BK551:=n0_
  have BK552:=n1_
  have BK553:=n2_
  have HB:=n3_
  clear n0_ n1_ n2_ n3_
  refine start_ (n:=24) (S:=fun w'=>w'.cell? ⟨gb551,0,none⟩=some (.int .i64 a0_0)∧w'.cell? ⟨gb551,1,none⟩=some (.slice A0_1 l0_1.length c0_1)) (ds:= []) #[f',f',f',f',f',f',f',f',f',f',f',f',f',f',f',f',f',f',f',f',f',f',f',f'] (by kernel_rfl) rfl rfl ⟨(blk_cell BK551.out 0).trans rfl,(blk_cell BK551.out 1).trans rfl⟩ (fun hHeld=>?_);refine with_tabW impl_Learn.tab1 impl_Learn.bits1 (fun HT_ HW_=>?_)
  generalize w60.drew=w61 at BK551 BK552 BK553 HB hHeld ⊢
  refine take_ (i:=0) (N:=some 6) (v:=?_) (a':=?_) #[t',f',f',f',f',f',f',f',f',f',f',f',f',f',f',f',f',f',f',f',f',f',f',f'] rfl rfl (take_ofW HT_.out HW_.out (by kernel_rfl)) (fun _ _ _ h=>h) (Or.inl ⟨by rfl,?_⟩) hHeld ?_ ?_
  rotate_left
  ·rintro w' ⟨s0,s1⟩
   go_simp
   with_reducible rfl
  rotate_left
  ·simp only [Act.put,z5,z6,z7,i64_w,i32_w]
   rfl
  refine one_ (i:=1) (N:=some 7) #[t',t',f',f',f',f',f',f',f',f',f',f',f',f',f',f',f',f',f',f',f',f',f',f'] rfl rfl (one_of HT_.out (by kernel_rfl)) (by decide) (fun K hK=>?_)
  refine goes_ Try.func20 (by kernel_rfl) rfl #[.agg #[.int .i64 a0_0,.slice A0_1 l0_1.length c0_1]] (by rfl) rfl rfl z2 ?_
  with_reducible refine(impl_GoodTable.calls k a0_0 _ _ l0_1 false _ ?side1 ?side2 A3.out).mono ?_
  (case side1=>repeat(first|exact(Kd.C_below HR0_1.out HB.out)|(with_reducible refine Kd.C_alloc ?_ _)|(with_reducible refine Kd.C_drewN ?_ _)|(with_reducible refine Kd.C_drew ?_)))
  (case side2=>exact HC0_1.out)
  rintro e w62 ⟨rfl,hb⟩
  refine⟨_,rfl,?_⟩
  have n0_:=Aside0.mk (blk_below (g:=gb551) (o:= .cells #[.int .i64 a0_0,.slice A0_1 l0_1.length c0_1] 24 (0,0)) (z3 BK551) hb)
  have n1_:=Aside0.mk (blk_below (g:=gb552) (o:= .cells #[.int .i64 a1_0,.int .i64 a1_1,.int .i64 a1_2] 53 (0,0)) (z3 BK552) hb)
  have n2_:=Aside0.mk (blk_below (g:=gb553) (o:= .cells #[.int .i64 0,.slice none 0 0] 24 (0,0)) (z3 BK553) hb)
  have n3_:=Aside0.mk (below_step (zb3 HB GE551 GE552 GE553) hb)
  clear BK551
  clear BK552
  clear BK553
  clear HB
  have BK551:=n0_
  have BK552:=n1_
  have BK553:=n2_
  have HB:=n3_
  clear n0_ n1_ n2_ n3_
  (try clear hb)
  (try clear hb2)
  (try clear hk)
  (try clear hi)
  refine hK.out _ _ ⟨(blk_cell BK551.out 0).trans rfl,(blk_cell BK551.out 1).trans rfl⟩ (fun hHeld=>?_)
  clear hK K
  refine norm_ (a':=?_) ?_ ?_
  rotate_left
  ·show Act.put _ (some 7) _=_
   simp only [Act.put,z5,z6,z7,i64_w,i32_w]
   rfl
  refine pure_ (i:=2) (N:=some 8) (v:=?_) (a':=?_) #[t',t',t',f',f',f',f',f',f',f',f',f',f',f',f',f',f',f',f',f',f',f',f',f'] rfl rfl (any_of HT_.out (by kernel_rfl)) (fun _ _ _ h=>h) (Or.inl ⟨by rfl,?_⟩) ?_ ?_
  rotate_left
  ·intro w'
   go_simp
   with_reducible rfl
  rotate_left
  ·simp only [Act.put,z5,z6,z7,i64_w,i32_w]
   rfl
  refine pure_ (i:=3) (N:=some 9) (v:=?_) (a':=?_) #[t',t',t',t',f',f',f',f',f',f',f',f',f',f',f',f',f',f',f',f',f',f',f',f'] rfl rfl (any_of HT_.out (by kernel_rfl)) (fun _ _ _ h=>h) (Or.inl ⟨by rfl,?_⟩) ?_ ?_
  rotate_left
  ·intro w'
   go_simp
   with_reducible rfl
  rotate_left
  ·simp only [Act.put,z5,z6,z7,i64_w,i32_w]
   rfl
  refine pure_ (i:=4) (N:=some 10) (v:=undef) (a':=?_) #[t',t',t',t',t',f',f',f',f',f',f',f',f',f',f',f',f',f',f',f',f',f',f',f'] rfl rfl (any_of HT_.out (by kernel_rfl)) (fun _ _ _ h=>h) (Or.inr ⟨by rfl,rfl⟩) ?_ ?_
  rotate_left
  ·simp only [Act.put,z5,z6,z7,i64_w,i32_w]
   rfl
  refine pure_ (i:=5) (N:=some 11) (v:=undef) (a':=?_) #[t',t',t',t',t',t',f',f',f',f',f',f',f',f',f',f',f',f',f',f',f',f',f',f'] rfl rfl (any_of HT_.out (by kernel_rfl)) (fun _ _ _ h=>h) (Or.inr ⟨by rfl,rfl⟩) ?_ ?_
  rotate_left
  ·simp only [Act.put,z5,z6,z7,i64_w,i32_w]
   rfl
  refine pure_ (i:=6) (N:=some 12) (v:=undef) (a':=?_) #[t',t',t',t',t',t',t',f',f',f',f',f',f',f',f',f',f',f',f',f',f',f',f',f'] rfl rfl (any_of HT_.out (by kernel_rfl)) (fun _ _ _ h=>h) (Or.inr ⟨by rfl,rfl⟩) ?_ ?_
  rotate_left
  ·simp only [Act.put,z5,z6,z7,i64_w,i32_w]
   rfl
  refine pure_ (i:=7) (N:=some 13) (v:=?_) (a':=?_) #[t',t',t',t',t',t',t',t',f',f',f',f',f',f',f',f',f',f',f',f',f',f',f',f'] rfl rfl (any_of HT_.out (by kernel_rfl)) (fun _ _ _ h=>h) (Or.inl ⟨by rfl,?_⟩) ?_ ?_
  rotate_left
  ·intro w'
   go_simp
   with_reducible rfl
  rotate_left
  ·simp only [Act.put,z5,z6,z7,i64_w,i32_w]
   rfl
  refine pure_ (i:=8) (N:=some 14) (v:=?_) (a':=?_) #[t',t',t',t',t',t',t',t',t',f',f',f',f',f',f',f',f',f',f',f',f',f',f',f'] rfl rfl (any_of HT_.out (by kernel_rfl)) (fun _ _ _ h=>h) (Or.inl ⟨by rfl,?_⟩) ?_ ?_
  rotate_left
  ·intro w'
   go_simp
   with_reducible rfl
  rotate_left
  ·simp only [Act.put,z5,z6,z7,i64_w,i32_w]
   rfl
  refine pure_ (i:=9) (N:=some 15) (v:=undef) (a':=?_) #[t',t',t',t',t',t',t',t',t',t',f',f',f',f',f',f',f',f',f',f',f',f',f',f'] rfl rfl (any_of HT_.out (by kernel_rfl)) (fun _ _ _ h=>h) (Or.inr ⟨by rfl,rfl⟩) ?_ ?_
  rotate_left
  ·simp only [Act.put,z5,z6,z7,i64_w,i32_w]
   rfl
  refine pure_ (i:=10) (N:=some 16) (v:=undef) (a':=?_) #[t',t',t',t',t',t',t',t',t',t',t',f',f',f',f',f',f',f',f',f',f',f',f',f'] rfl rfl (any_of HT_.out (by kernel_rfl)) (fun _ _ _ h=>h) (Or.inr ⟨by rfl,rfl⟩) ?_ ?_
  rotate_left
  ·simp only [Act.put,z5,z6,z7,i64_w,i32_w]
   rfl
  refine pure_ (i:=11) (N:=some 17) (v:=undef) (a':=?_) #[t',t',t',t',t',t',t',t',t',t',t',t',f',f',f',f',f',f',f',f',f',f',f',f'] rfl rfl (any_of HT_.out (by kernel_rfl)) (fun _ _ _ h=>h) (Or.inr ⟨by rfl,rfl⟩) ?_ ?_
  rotate_left
  ·simp only [Act.put,z5,z6,z7,i64_w,i32_w]
   rfl
  refine pure_ (i:=12) (N:=some 18) (v:=undef) (a':=?_) #[t',t',t',t',t',t',t',t',t',t',t',t',t',f',f',f',f',f',f',f',f',f',f',f'] rfl rfl (any_of HT_.out (by kernel_rfl)) (fun _ _ _ h=>h) (Or.inr ⟨by rfl,rfl⟩) ?_ ?_
  rotate_left
  ·simp only [Act.put,z5,z6,z7,i64_w,i32_w]
   rfl
  refine pure_ (i:=13) (N:=some 19) (v:=undef) (a':=?_) #[t',t',t',t',t',t',t',t',t',t',t',t',t',t',f',f',f',f',f',f',f',f',f',f'] rfl rfl (any_of HT_.out (by kernel_rfl)) (fun _ _ _ h=>h) (Or.inr ⟨by rfl,rfl⟩) ?_ ?_
  rotate_left
  ·simp only [Act.put,z5,z6,z7,i64_w,i32_w]
   rfl
  refine pure_ (i:=14) (N:=some 20) (v:=undef) (a':=?_) #[t',t',t',t',t',t',t',t',t',t',t',t',t',t',t',f',f',f',f',f',f',f',f',f'] rfl rfl (any_of HT_.out (by kernel_rfl)) (fun _ _ _ h=>h) (Or.inr ⟨by rfl,rfl⟩) ?_ ?_
  rotate_left
  ·simp only [Act.put,z5,z6,z7,i64_w,i32_w]
   rfl
  refine pure_ (i:=15) (N:=some 21) (v:=undef) (a':=?_) #[t',t',t',t',t',t',t',t',t',t',t',t',t',t',t',t',f',f',f',f',f',f',f',f'] rfl rfl (any_of HT_.out (by kernel_rfl)) (fun _ _ _ h=>h) (Or.inr ⟨by rfl,rfl⟩) ?_ ?_
  rotate_left
  ·simp only [Act.put,z5,z6,z7,i64_w,i32_w]
   rfl
  refine pure_ (i:=16) (N:=some 22) (v:=undef) (a':=?_) #[t',t',t',t',t',t',t',t',t',t',t',t',t',t',t',t',t',f',f',f',f',f',f',f'] rfl rfl (any_of HT_.out (by kernel_rfl)) (fun _ _ _ h=>h) (Or.inr ⟨by rfl,rfl⟩) ?_ ?_
  rotate_left
  ·simp only [Act.put,z5,z6,z7,i64_w,i32_w]
   rfl
  refine pure_ (i:=17) (N:=some 23) (v:=undef) (a':=?_) #[t',t',t',t',t',t',t',t',t',t',t',t',t',t',t',t',t',t',f',f',f',f',f',f'] rfl rfl (any_of HT_.out (by kernel_rfl)) (fun _ _ _ h=>h) (Or.inr ⟨by rfl,rfl⟩) ?_ ?_
  rotate_left
  ·simp only [Act.put,z5,z6,z7,i64_w,i32_w]
   rfl
  refine pure_ (i:=18) (N:=some 24) (v:=undef) (a':=?_) #[t',t',t',t',t',t',t',t',t',t',t',t',t',t',t',t',t',t',t',f',f',f',f',f'] rfl rfl (any_of HT_.out (by kernel_rfl)) (fun _ _ _ h=>h) (Or.inr ⟨by rfl,rfl⟩) ?_ ?_
  rotate_left
  ·simp only [Act.put,z5,z6,z7,i64_w,i32_w]
   rfl
  refine pure_ (i:=19) (N:=some 25) (v:=undef) (a':=?_) #[t',t',t',t',t',t',t',t',t',t',t',t',t',t',t',t',t',t',t',t',f',f',f',f'] rfl rfl (any_of HT_.out (by kernel_rfl)) (fun _ _ _ h=>h) (Or.inr ⟨by rfl,rfl⟩) ?_ ?_
  rotate_left
  ·simp only [Act.put,z5,z6,z7,i64_w,i32_w]
   rfl
  refine pure_ (i:=20) (N:=some 26) (v:=undef) (a':=?_) #[t',t',t',t',t',t',t',t',t',t',t',t',t',t',t',t',t',t',t',t',t',f',f',f'] rfl rfl (any_of HT_.out (by kernel_rfl)) (fun _ _ _ h=>h) (Or.inr ⟨by rfl,rfl⟩) ?_ ?_
  rotate_left
  ·simp only [Act.put,z5,z6,z7,i64_w,i32_w]
   rfl
  refine pure_ (i:=21) (N:=some 27) (v:=undef) (a':=?_) #[t',t',t',t',t',t',t',t',t',t',t',t',t',t',t',t',t',t',t',t',t',t',f',f'] rfl rfl (any_of HT_.out (by kernel_rfl)) (fun _ _ _ h=>h) (Or.inr ⟨by rfl,rfl⟩) ?_ ?_
  rotate_left
  ·simp only [Act.put,z5,z6,z7,i64_w,i32_w]
   rfl
  refine pure_ (i:=22) (N:=some 28) (v:=undef) (a':=?_) #[t',t',t',t',t',t',t',t',t',t',t',t',t',t',t',t',t',t',t',t',t',t',t',f'] rfl rfl (any_of HT_.out (by kernel_rfl)) (fun _ _ _ h=>h) (Or.inr ⟨by rfl,rfl⟩) ?_ ?_
  rotate_left
  ·simp only [Act.put,z5,z6,z7,i64_w,i32_w]
   rfl
  refine pure_ (i:=23) (N:=some 29) (v:=?_) (a':=?_) #[t',t',t',t',t',t',t',t',t',t',t',t',t',t',t',t',t',t',t',t',t',t',t',t'] rfl rfl (any_of HT_.out (by kernel_rfl)) (fun _ _ _ h=>h) (Or.inl ⟨by rfl,?_⟩) ?_ ?_
  rotate_left
  ·intro w'
   go_simp
   with_reducible rfl
  rotate_left
  ·simp only [Act.put,z5,z6,z7,i64_w,i32_w]
   rfl
  refine done_ (done_of HT_.out (by kernel_rfl)) ?_
  have hnb63:=NB553_551.out
  have hnc63:=NB551_553.out
  have hnb64:=NB553_552.out
  have hnc64:=NB552_553.out
  have hcz65_0:w62.cell? ⟨gb553,0,none⟩=some (.int .i64 0):=(blk_cell BK553.out 0).trans rfl
  have hcz65_1:w62.cell? ⟨gb553,1,none⟩=some (.slice none 0 0):=(blk_cell BK553.out 1).trans rfl
  have hfz65_0:=blk_frozen BK553.out 0
  have hfz65_1:=blk_frozen BK553.out 1
  try go_wp2
  refine bodyPost_ret (results_ct rfl _ _ gb553 24 #[.int .i64 0,.slice none 0 0] (0,0) _ rfl (by(with_reducible repeat(first|refine blk_drewN ?_ _|refine blk_drew ?_ |refine blk_alloc ?_ _));refine blk_put (cs:= #[.int .i64 0,.slice none 0 0]) ?_ 1 _ rfl;(with_reducible repeat(first|refine blk_drewN ?_ _|refine blk_drew ?_ |refine blk_alloc ?_ _));refine blk_put (cs:= #[.int .i64 0,.slice none 0 0]) ?_ 0 _ rfl;(with_reducible repeat(first|refine blk_drewN ?_ _|refine blk_drew ?_ |refine blk_alloc ?_ _));exact BK553.out) Try.underlying24 rfl (by kernel_rfl)) rfl ?_
  exact⟨_,by first|rfl|(simp [errW_none,errW_some]<;>rfl)|(simp [*,errW_none,errW_some]<;>rfl),by first|exact Kd.R_nil _ _ _ _ _|exact Kd.N_nil _ _ _ _ _|exact Kd.V_nil _ _ _ _ _|exact Kd.Q_nil _ _ _ _ _|exact Kd.S_nil _ _ _ _ _,by repeat(first|(with_reducible first|exact HB.out|apply below_alloc|apply pw_below_drewN|apply below_drew1|refine below_set ?_ GE551.out|refine below_set ?_ GE552.out|refine below_set ?_ GE553.out)|exact HB.out)⟩
end Go.Proofs.Ytcbofebikbbknaa.P
