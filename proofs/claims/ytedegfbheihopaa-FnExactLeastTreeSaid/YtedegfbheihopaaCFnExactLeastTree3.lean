/- Functions, walks and plain lemmas that the law FnExactLeastTree reaches, part 3. -/
import Derived.Test.YtedegfbheihopaaCFnExactLeastTree2
import Derived.WalkKit
import Derived.ProofKit
import Derived.OpenShut
import Derived.ChangeOld
import Derived.Below
import Derived.SizedLaws
import Derived.ChangeArms
import Derived.DataElems
import Derived.Deep.Draws
import Derived.Deep.AppendLies
import Derived.Maps.AppendAt
import Derived.OwnWalk
import Derived.Laws.BytesArg
import Derived.Laws.MakeOwn
import Derived.Laws.OwnMore
import Derived.Deep.OwnRows
import Derived.Tactics
import Derived.Lib.ConvBytes
import Derived.Laws.Slices
import Derived.KernelRfl
import Derived.RowKit3
import Derived.Deep.LoopGhost
import Derived.Deep.QuietTactic
import Derived.BigQuiet
import Derived.WideLaws
import Derived.Deep.DeepCutAuto
import Derived.Deep.CutBlock
import Derived.Deep.RegionHeld3
import Derived.Laws.Rows
import Derived.Lib.AppendStr
import Derived.ArgAppend
import Derived.Laws.IdiomCopy
import Derived.OrdersHeld
import Derived.Laws.BitsLemmas
import Derived.RowKit
import Derived.WalkSpells
import Derived.Lib.SliceRun
import Derived.Shelf.Abstract
import Derived.ShutString
namespace Go.Proofs.Ytedegfbheihopaa.P
open Go.RowKit Go.Proofs.YtedegfbheihopaaW.PrintWords Go.Proofs.YtedegfbheihopaaW.PrintLast Go.Proofs.YtedegfbheihopaaW.PrintMore
attribute [local go_sem] max2_int min2_int max_two min_two max_three min_three max_four min_four   -- for this text's walks alone
set_option linter.unusedVariables false
set_option linter.unusedSimpArgs false
def laws_eqEdge.f (a0_0:Int) (a0_1:Int) (a0_2:Int) (a1_0:Int) (a1_1:Int) (a1_2:Int):Option (Bool):=if a0_0=a1_0 then(if a0_1=a1_1 then(if a0_2=a1_2 then(some true) else(some false)) else(some false)) else(some false)
set_option maxHeartbeats 8000000 in
set_option maxRecDepth 100000 in
theorem laws_eqEdge.calls (a0_0:Int) (a0_1:Int) (a0_2:Int) (a1_0:Int) (a1_1:Int) (a1_2:Int) (r:Bool) (w:World) (h:laws_eqEdge.f a0_0 a0_1 a0_2 a1_0 a1_1 a1_2=some r):
  Calls Try.prog 71 #[.agg #[.int .i64 a0_0,.int .i64 a0_1,.int .i64 a0_2],.agg #[.int .i64 a1_0,.int .i64 a1_1,.int .i64 a1_2]] w fun e w'=>e= .returned (.bool r)∧Below w.heap.size w w':=by
 have hu79:=Try.underlying79
 have HB:=Aside0.mk (Below.refl w.heap.size w)
 have H:(if a0_0=a1_0 then(if a0_1=a1_1 then(if a0_2=a1_2 then(some true) else(some false)) else(some false)) else(some false))=some r:=h
 clear h
 by_cases c3:a0_0=a1_0
 ·rw [if_pos c3] at H
  have c3b0:(a0_0==a1_0)=true:=beq_iff_eq.mpr c3
  have c3b1:(a0_0 !=a1_0)=false:=bne_eq_false_iff_eq.mpr c3
  clear c3
  by_cases c4:a0_1=a1_1
  ·rw [if_pos c4] at H
   have c4b0:(a0_1==a1_1)=true:=beq_iff_eq.mpr c4
   have c4b1:(a0_1 !=a1_1)=false:=bne_eq_false_iff_eq.mpr c4
   clear c4
   by_cases c5:a0_2=a1_2
   ·rw [if_pos c5] at H
    have c5b0:(a0_2==a1_2)=true:=beq_iff_eq.mpr c5
    have c5b1:(a0_2 !=a1_2)=false:=bne_eq_false_iff_eq.mpr c5
    clear c5
    obtain rfl:=Option.some.inj H
    go_enter Try.func71,Try.ntmps71
    go_wp2_with (first|((with_reducible refine gate_dst (N:=2) rfl ?_);refine box_event ?hg (N:=2) ?hd (cs:= #[.int .i64 a0_0,.int .i64 a0_1,.int .i64 a0_2]) (t:=79) ?hr ?_;(case hd=>rfl);(case hg=>rfl);(case hr=>first|(go_simp;done)|(go_simp;rfl));intro gb322 hg w6 hbox hb;have BK322:=Aside0.mk (hbox);have GW322:=Aside0.mk ((by rw [hg];exact(below_size (by exact zk1 HB)):w.heap.size≤gb322));have GE322:=Aside0.mk ((by rw [hg];exact(below_size (by exact zk1 HB)):w.heap.size≤gb322));replace HB:=Aside0.mk (below_step (by exact zk1 HB) hb);clear hb hbox hg)|((with_reducible refine gate_dst (N:=3) rfl ?_);refine box_event ?hg (N:=3) ?hd (cs:= #[.int .i64 a1_0,.int .i64 a1_1,.int .i64 a1_2]) (t:=79) ?hr ?_;(case hd=>rfl);(case hg=>rfl);(case hr=>first|(go_simp;done)|(go_simp;rfl));intro gb323 hg w7 hbox hb;have BK323:=Aside0.mk (hbox);have GW323:=Aside0.mk ((by rw [hg];exact(below_size (by exact zk2 HB GE322.out)):w.heap.size≤gb323));have GE323:=Aside0.mk ((by rw [hg];exact(below_size (by exact zk2 HB GE322.out)):w.heap.size≤gb323));have NB322_323:=Aside0.mk ((by rw [hg];exact Nat.ne_of_lt (blk_lt (g:=gb322) (o:= .cells #[.int .i64 a0_0,.int .i64 a0_1,.int .i64 a0_2] 79 (0,0)) (zq3 BK322)):gb322≠gb323));have NB323_322:=Aside0.mk ((by rw [hg];exact Nat.ne_of_gt (blk_lt (g:=gb322) (o:= .cells #[.int .i64 a0_0,.int .i64 a0_1,.int .i64 a0_2] 79 (0,0)) (zq3 BK322)):gb323≠gb322));replace BK322:=Aside0.mk (blk_below (g:=gb322) (o:= .cells #[.int .i64 a0_0,.int .i64 a0_1,.int .i64 a0_2] 79 (0,0)) (zq3 BK322) hb);replace HB:=Aside0.mk (below_step (by exact zk2 HB GE322.out) hb);clear hb hbox hg;have hnb8:=NB322_323.out;have hnc8:=NB323_322.out;have hcz9_0:w7.cell? ⟨gb322,0,none⟩=some (.int .i64 a0_0):=(blk_cell BK322.out 0).trans rfl;have hcz9_1:w7.cell? ⟨gb322,1,none⟩=some (.int .i64 a0_1):=(blk_cell BK322.out 1).trans rfl;have hcz9_2:w7.cell? ⟨gb322,2,none⟩=some (.int .i64 a0_2):=(blk_cell BK322.out 2).trans rfl;have hfz9_0:=blk_frozen BK322.out 0;have hfz9_1:=blk_frozen BK322.out 1;have hfz9_2:=blk_frozen BK322.out 2;have hcz10_0:w7.cell? ⟨gb323,0,none⟩=some (.int .i64 a1_0):=(blk_cell BK323.out 0).trans rfl;have hcz10_1:w7.cell? ⟨gb323,1,none⟩=some (.int .i64 a1_1):=(blk_cell BK323.out 1).trans rfl;have hcz10_2:w7.cell? ⟨gb323,2,none⟩=some (.int .i64 a1_2):=(blk_cell BK323.out 2).trans rfl;have hfz10_0:=blk_frozen BK323.out 0;have hfz10_1:=blk_frozen BK323.out 1;have hfz10_2:=blk_frozen BK323.out 2))
    go_ret
    exact⟨by first|rfl|(simp [errW_none,errW_some]<;>rfl)|(simp [*,errW_none,errW_some]<;>rfl),by exact zk3 HB GE322.out GE323.out⟩
   ·rw [if_neg c5] at H
    have c5b0:(a0_2==a1_2)=false:=beq_eq_false_iff_ne.mpr c5
    have c5b1:(a0_2 !=a1_2)=true:=bne_iff_ne.mpr c5
    obtain rfl:=Option.some.inj H
    go_enter Try.func71,Try.ntmps71
    go_wp2_with (first|((with_reducible refine gate_dst (N:=2) rfl ?_);refine box_event ?hg (N:=2) ?hd (cs:= #[.int .i64 a0_0,.int .i64 a0_1,.int .i64 a0_2]) (t:=79) ?hr ?_;(case hd=>rfl);(case hg=>rfl);(case hr=>first|(go_simp;done)|(go_simp;rfl));intro gb322 hg w11 hbox hb;have BK322:=Aside0.mk (hbox);have GW322:=Aside0.mk ((by rw [hg];exact(below_size (by exact zk1 HB)):w.heap.size≤gb322));have GE322:=Aside0.mk ((by rw [hg];exact(below_size (by exact zk1 HB)):w.heap.size≤gb322));replace HB:=Aside0.mk (below_step (by exact zk1 HB) hb);clear hb hbox hg)|((with_reducible refine gate_dst (N:=3) rfl ?_);refine box_event ?hg (N:=3) ?hd (cs:= #[.int .i64 a1_0,.int .i64 a1_1,.int .i64 a1_2]) (t:=79) ?hr ?_;(case hd=>rfl);(case hg=>rfl);(case hr=>first|(go_simp;done)|(go_simp;rfl));intro gb323 hg w12 hbox hb;have BK323:=Aside0.mk (hbox);have GW323:=Aside0.mk ((by rw [hg];exact(below_size (by exact zk2 HB GE322.out)):w.heap.size≤gb323));have GE323:=Aside0.mk ((by rw [hg];exact(below_size (by exact zk2 HB GE322.out)):w.heap.size≤gb323));have NB322_323:=Aside0.mk ((by rw [hg];exact Nat.ne_of_lt (blk_lt (g:=gb322) (o:= .cells #[.int .i64 a0_0,.int .i64 a0_1,.int .i64 a0_2] 79 (0,0)) (zq3 BK322)):gb322≠gb323));have NB323_322:=Aside0.mk ((by rw [hg];exact Nat.ne_of_gt (blk_lt (g:=gb322) (o:= .cells #[.int .i64 a0_0,.int .i64 a0_1,.int .i64 a0_2] 79 (0,0)) (zq3 BK322)):gb323≠gb322));replace BK322:=Aside0.mk (blk_below (g:=gb322) (o:= .cells #[.int .i64 a0_0,.int .i64 a0_1,.int .i64 a0_2] 79 (0,0)) (zq3 BK322) hb);replace HB:=Aside0.mk (below_step (by exact zk2 HB GE322.out) hb);clear hb hbox hg;have hnb13:=NB322_323.out;have hnc13:=NB323_322.out;have hcz14_0:w12.cell? ⟨gb322,0,none⟩=some (.int .i64 a0_0):=(blk_cell BK322.out 0).trans rfl;have hcz14_1:w12.cell? ⟨gb322,1,none⟩=some (.int .i64 a0_1):=(blk_cell BK322.out 1).trans rfl;have hcz14_2:w12.cell? ⟨gb322,2,none⟩=some (.int .i64 a0_2):=(blk_cell BK322.out 2).trans rfl;have hfz14_0:=blk_frozen BK322.out 0;have hfz14_1:=blk_frozen BK322.out 1;have hfz14_2:=blk_frozen BK322.out 2;have hcz15_0:w12.cell? ⟨gb323,0,none⟩=some (.int .i64 a1_0):=(blk_cell BK323.out 0).trans rfl;have hcz15_1:w12.cell? ⟨gb323,1,none⟩=some (.int .i64 a1_1):=(blk_cell BK323.out 1).trans rfl;have hcz15_2:w12.cell? ⟨gb323,2,none⟩=some (.int .i64 a1_2):=(blk_cell BK323.out 2).trans rfl;have hfz15_0:=blk_frozen BK323.out 0;have hfz15_1:=blk_frozen BK323.out 1;have hfz15_2:=blk_frozen BK323.out 2))
    go_ret
    exact⟨by first|rfl|(simp [errW_none,errW_some]<;>rfl)|(simp [*,errW_none,errW_some]<;>rfl),by exact zk3 HB GE322.out GE323.out⟩
  ·rw [if_neg c4] at H
   have c4b0:(a0_1==a1_1)=false:=beq_eq_false_iff_ne.mpr c4
   have c4b1:(a0_1 !=a1_1)=true:=bne_iff_ne.mpr c4
   obtain rfl:=Option.some.inj H
   go_enter Try.func71,Try.ntmps71
   go_wp2_with (first|((with_reducible refine gate_dst (N:=2) rfl ?_);refine box_event ?hg (N:=2) ?hd (cs:= #[.int .i64 a0_0,.int .i64 a0_1,.int .i64 a0_2]) (t:=79) ?hr ?_;(case hd=>rfl);(case hg=>rfl);(case hr=>first|(go_simp;done)|(go_simp;rfl));intro gb322 hg w16 hbox hb;have BK322:=Aside0.mk (hbox);have GW322:=Aside0.mk ((by rw [hg];exact(below_size (by exact zk1 HB)):w.heap.size≤gb322));have GE322:=Aside0.mk ((by rw [hg];exact(below_size (by exact zk1 HB)):w.heap.size≤gb322));replace HB:=Aside0.mk (below_step (by exact zk1 HB) hb);clear hb hbox hg)|((with_reducible refine gate_dst (N:=3) rfl ?_);refine box_event ?hg (N:=3) ?hd (cs:= #[.int .i64 a1_0,.int .i64 a1_1,.int .i64 a1_2]) (t:=79) ?hr ?_;(case hd=>rfl);(case hg=>rfl);(case hr=>first|(go_simp;done)|(go_simp;rfl));intro gb323 hg w17 hbox hb;have BK323:=Aside0.mk (hbox);have GW323:=Aside0.mk ((by rw [hg];exact(below_size (by exact zk2 HB GE322.out)):w.heap.size≤gb323));have GE323:=Aside0.mk ((by rw [hg];exact(below_size (by exact zk2 HB GE322.out)):w.heap.size≤gb323));have NB322_323:=Aside0.mk ((by rw [hg];exact Nat.ne_of_lt (blk_lt (g:=gb322) (o:= .cells #[.int .i64 a0_0,.int .i64 a0_1,.int .i64 a0_2] 79 (0,0)) (zq3 BK322)):gb322≠gb323));have NB323_322:=Aside0.mk ((by rw [hg];exact Nat.ne_of_gt (blk_lt (g:=gb322) (o:= .cells #[.int .i64 a0_0,.int .i64 a0_1,.int .i64 a0_2] 79 (0,0)) (zq3 BK322)):gb323≠gb322));replace BK322:=Aside0.mk (blk_below (g:=gb322) (o:= .cells #[.int .i64 a0_0,.int .i64 a0_1,.int .i64 a0_2] 79 (0,0)) (zq3 BK322) hb);replace HB:=Aside0.mk (below_step (by exact zk2 HB GE322.out) hb);clear hb hbox hg;have hnb18:=NB322_323.out;have hnc18:=NB323_322.out;have hcz19_0:w17.cell? ⟨gb322,0,none⟩=some (.int .i64 a0_0):=(blk_cell BK322.out 0).trans rfl;have hcz19_1:w17.cell? ⟨gb322,1,none⟩=some (.int .i64 a0_1):=(blk_cell BK322.out 1).trans rfl;have hcz19_2:w17.cell? ⟨gb322,2,none⟩=some (.int .i64 a0_2):=(blk_cell BK322.out 2).trans rfl;have hfz19_0:=blk_frozen BK322.out 0;have hfz19_1:=blk_frozen BK322.out 1;have hfz19_2:=blk_frozen BK322.out 2;have hcz20_0:w17.cell? ⟨gb323,0,none⟩=some (.int .i64 a1_0):=(blk_cell BK323.out 0).trans rfl;have hcz20_1:w17.cell? ⟨gb323,1,none⟩=some (.int .i64 a1_1):=(blk_cell BK323.out 1).trans rfl;have hcz20_2:w17.cell? ⟨gb323,2,none⟩=some (.int .i64 a1_2):=(blk_cell BK323.out 2).trans rfl;have hfz20_0:=blk_frozen BK323.out 0;have hfz20_1:=blk_frozen BK323.out 1;have hfz20_2:=blk_frozen BK323.out 2))
   go_ret
   exact⟨by first|rfl|(simp [errW_none,errW_some]<;>rfl)|(simp [*,errW_none,errW_some]<;>rfl),by exact zk3 HB GE322.out GE323.out⟩
 ·rw [if_neg c3] at H
  have c3b0:(a0_0==a1_0)=false:=beq_eq_false_iff_ne.mpr c3
  have c3b1:(a0_0 !=a1_0)=true:=bne_iff_ne.mpr c3
  obtain rfl:=Option.some.inj H
  go_enter Try.func71,Try.ntmps71
  go_wp2_with (first|((with_reducible refine gate_dst (N:=2) rfl ?_);refine box_event ?hg (N:=2) ?hd (cs:= #[.int .i64 a0_0,.int .i64 a0_1,.int .i64 a0_2]) (t:=79) ?hr ?_;(case hd=>rfl);(case hg=>rfl);(case hr=>first|(go_simp;done)|(go_simp;rfl));intro gb322 hg w21 hbox hb;have BK322:=Aside0.mk (hbox);have GW322:=Aside0.mk ((by rw [hg];exact(below_size (by exact zk1 HB)):w.heap.size≤gb322));have GE322:=Aside0.mk ((by rw [hg];exact(below_size (by exact zk1 HB)):w.heap.size≤gb322));replace HB:=Aside0.mk (below_step (by exact zk1 HB) hb);clear hb hbox hg)|((with_reducible refine gate_dst (N:=3) rfl ?_);refine box_event ?hg (N:=3) ?hd (cs:= #[.int .i64 a1_0,.int .i64 a1_1,.int .i64 a1_2]) (t:=79) ?hr ?_;(case hd=>rfl);(case hg=>rfl);(case hr=>first|(go_simp;done)|(go_simp;rfl));intro gb323 hg w22 hbox hb;have BK323:=Aside0.mk (hbox);have GW323:=Aside0.mk ((by rw [hg];exact(below_size (by exact zk2 HB GE322.out)):w.heap.size≤gb323));have GE323:=Aside0.mk ((by rw [hg];exact(below_size (by exact zk2 HB GE322.out)):w.heap.size≤gb323));have NB322_323:=Aside0.mk ((by rw [hg];exact Nat.ne_of_lt (blk_lt (g:=gb322) (o:= .cells #[.int .i64 a0_0,.int .i64 a0_1,.int .i64 a0_2] 79 (0,0)) (zq3 BK322)):gb322≠gb323));have NB323_322:=Aside0.mk ((by rw [hg];exact Nat.ne_of_gt (blk_lt (g:=gb322) (o:= .cells #[.int .i64 a0_0,.int .i64 a0_1,.int .i64 a0_2] 79 (0,0)) (zq3 BK322)):gb323≠gb322));replace BK322:=Aside0.mk (blk_below (g:=gb322) (o:= .cells #[.int .i64 a0_0,.int .i64 a0_1,.int .i64 a0_2] 79 (0,0)) (zq3 BK322) hb);replace HB:=Aside0.mk (below_step (by exact zk2 HB GE322.out) hb);clear hb hbox hg;have hnb23:=NB322_323.out;have hnc23:=NB323_322.out;have hcz24_0:w22.cell? ⟨gb322,0,none⟩=some (.int .i64 a0_0):=(blk_cell BK322.out 0).trans rfl;have hcz24_1:w22.cell? ⟨gb322,1,none⟩=some (.int .i64 a0_1):=(blk_cell BK322.out 1).trans rfl;have hcz24_2:w22.cell? ⟨gb322,2,none⟩=some (.int .i64 a0_2):=(blk_cell BK322.out 2).trans rfl;have hfz24_0:=blk_frozen BK322.out 0;have hfz24_1:=blk_frozen BK322.out 1;have hfz24_2:=blk_frozen BK322.out 2;have hcz25_0:w22.cell? ⟨gb323,0,none⟩=some (.int .i64 a1_0):=(blk_cell BK323.out 0).trans rfl;have hcz25_1:w22.cell? ⟨gb323,1,none⟩=some (.int .i64 a1_1):=(blk_cell BK323.out 1).trans rfl;have hcz25_2:w22.cell? ⟨gb323,2,none⟩=some (.int .i64 a1_2):=(blk_cell BK323.out 2).trans rfl;have hfz25_0:=blk_frozen BK323.out 0;have hfz25_1:=blk_frozen BK323.out 1;have hfz25_2:=blk_frozen BK323.out 2))
  go_ret
  exact⟨by first|rfl|(simp [errW_none,errW_some]<;>rfl)|(simp [*,errW_none,errW_some]<;>rfl),by exact zk3 HB GE322.out GE323.out⟩
def laws_eqEdgeS.l0:Nat→List (S79)→List (S79)→Int→Option (Bool)
 | 0,_,_,_=>none
 |k+1,x0,x1,x5=>if x5< (x0.length:Int) then(if 0≤x5 then(if x5< (x1.length:Int) then((laws_eqEdge.f ((rd_T79 x0 x5).f0) ((rd_T79 x0 x5).f1) ((rd_T79 x0 x5).f2) ((rd_T79 x1 x5).f0) ((rd_T79 x1 x5).f1) ((rd_T79 x1 x5).f2)).bind fun t326=>(if t326=true then(laws_eqEdgeS.l0 k x0 x1 (wrap64 (x5+1))) else(some false))) else(none)) else(none)) else(some true)
def laws_eqEdgeS.f (k:Nat) (l0:List (S79)) (l1:List (S79)):Option (Bool):=if (l0.length:Int)= (l1.length:Int) then(laws_eqEdgeS.l0 k l0 l1 0) else(some false)
def laws_eqEdgeS.T6:Bool × List (List Nat × List Nat):=(true,[([],[]),([],[]),([0,1],[0,1]),([2],[2]),([],[]),([],[]),([4,5],[4,5]),([6],[6]),([3,7],[3,7]),([8],[8])])
def laws_eqEdgeS.B6:List Nat:= [0,0,3,7,0,0,48,112,255,511]
theorem laws_eqEdgeS.tab6:rtab .any (opsOf Try.f27 6)=laws_eqEdgeS.T6:=by kernel_rfl
theorem laws_eqEdgeS.bits6:waitsOk laws_eqEdgeS.T6.2 laws_eqEdgeS.B6=true:=by kernel_rfl
set_option maxHeartbeats 8000000 in
set_option maxRecDepth 100000 in
theorem laws_eqEdgeS.calls (k:Nat) (A0:Option Addr) (c0:Nat) (l0:List (S79)) (A1:Option Addr) (c1:Nat) (l1:List (S79)) (r:Bool) (w:World) (hr0:Kd.C k79 w A0 l0.length l0) (hc0:l0.length≤c0) (hr1:Kd.C k79 w A1 l1.length l1) (hc1:l1.length≤c1) (h:laws_eqEdgeS.f k l0 l1=some r):
  Calls Try.prog 27 #[.slice A0 l0.length c0,.slice A1 l1.length c1] w fun e w'=>e= .returned (.bool r)∧Below w.heap.size w w':=by
 have hu79:=Try.underlying79
 have HR0:=Aside0.mk hr0
 have HC0:=Aside0.mk hc0
 clear hr0 hc0
 have HR1:=Aside0.mk hr1
 have HC1:=Aside0.mk hc1
 clear hr1 hc1
 have HB:=Aside0.mk (Below.refl w.heap.size w)
 have H:(if (l0.length:Int)= (l1.length:Int) then(laws_eqEdgeS.l0 k l0 l1 0) else(some false))=some r:=h
 clear h
 by_cases c3:(l0.length:Int)= (l1.length:Int)
 ·rw [if_pos c3] at H
  have c3b0:((l0.length:Int)== (l1.length:Int))=true:=beq_iff_eq.mpr c3
  have c3b1:((l0.length:Int) != (l1.length:Int))=false:=bne_eq_false_iff_eq.mpr c3
  have c3b2:(l0.length==l1.length)=true:=by first|simpa using c3|(simp at c3 ⊢;omega)
  clear c3
  have H':=Aside0.mk H
  clear H
  go_enter Try.func27,Try.ntmps27
  go_wp2
  go_loopg [5] k (fun kq v5 w'=> ∃ (x5_1:Int),v5= .int .i64 x5_1∧Aside0 (laws_eqEdgeS.l0 kq l0 l1 x5_1=some r)∧Aside0 (kq≤k)∧Aside0 (Below w.heap.size w w'))
  case atStart=>exact⟨(0),(by first|rfl|(simp;done)|(simp [*];done)),H',⟨Nat.le_refl _⟩,⟨by exact zk1 HB⟩⟩
  case round=>
   clear H'
   try clear c1
   try clear c2
   try clear p2
   try clear c3
   try clear c3b0
   try clear c3b1
   try clear c3b2
   obtain⟨x5_1,rfl,HA,HK1,HB⟩:=hrel
   cases gk with
   |zero=>exact absurd HA.out (by simp [laws_eqEdgeS.l0])
   |succ k1=>
    have H:=HA.out
    clear HA
    simp only [laws_eqEdgeS.l0] at H
    by_cases c4:x5_1< (l0.length:Int)
    ·rw [if_pos c4] at H
     have c4b0:decide (x5_1< (l0.length:Int))=true:=decide_eq_true c4
     clear c4
     by_cases c5: 0≤x5_1
     case neg=>rw [if_neg c5] at H;exact absurd H (by simp)
     rw [if_pos c5] at H
     have c5b0:decide (0≤x5_1)=true:=decide_eq_true c5
     clear c5
     by_cases c6:x5_1< (l1.length:Int)
     case neg=>rw [if_neg c6] at H;exact absurd H (by simp)
     rw [if_pos c6] at H
     have c6b0:decide (x5_1< (l1.length:Int))=true:=decide_eq_true c6
     clear c6
     replace H:=Option.bind_eq_some_iff.mp H
     obtain⟨t326,A70,H⟩:=H
     replace H:(if t326=true then(laws_eqEdgeS.l0 k1 l0 l1 (wrap64 (x5_1+1))) else(some false))=some r:=H
     have A7:=Aside0.mk A70
     clear A70
     by_cases c8:t326=true
     ·subst c8
      have H1:(laws_eqEdgeS.l0 k1 l0 l1 (wrap64 (x5_1+1)))=some r:=by rw [if_pos rfl] at H;exact H
      clear H
      have H:=H1
      clear H1
      have H':=Aside0.mk H
      clear H
      try go_wp2
      replace HB:=Aside0.mk (below_drew1 HB.out)
      have p324: 0≤ (x5_1:Int):=of_decide_eq_true zq1
      have q324:x5_1< (l0.length:Int):=of_decide_eq_true zq1
      obtain⟨ad324,e324,hx324_0,hx324_1,hx324_2⟩:=at_T79 HR0.out x5_1 p324 q324
      have hw324_2:=hx324_2
      have hw324_1:=hx324_1
      have hw324_0:=hx324_0
      cases e324
      replace hx324_0:=zhx HB hx324_0
      replace hx324_1:=zhx HB hx324_1
      replace hx324_2:=zhx HB hx324_2
      replace p324:=eq_true p324
      replace q324:=eq_true q324
      have p325: 0≤ (x5_1:Int):=of_decide_eq_true zq1
      have q325:x5_1< (l1.length:Int):=of_decide_eq_true zq1
      obtain⟨ad325,e325,hx325_0,hx325_1,hx325_2⟩:=at_T79 HR1.out x5_1 p325 q325
      have hw325_2:=hx325_2
      have hw325_1:=hx325_1
      have hw325_0:=hx325_0
      cases e325
      replace hx325_0:=zhx HB hx325_0
      replace hx325_1:=zhx HB hx325_1
      replace hx325_2:=zhx HB hx325_2
      replace p325:=eq_true p325
      replace q325:=eq_true q325
      refine start_ (n:=10) (S:=fun w'=>w'.cell? (ad324.add ((x5_1).toNat * 3))=some (.int .i64 ((rd_T79 l0 x5_1).f0))∧w'.cell? ⟨(ad324.add ((x5_1).toNat * 3)).block,(ad324.add ((x5_1).toNat * 3)).off+1,none⟩=some (.int .i64 ((rd_T79 l0 x5_1).f1))∧w'.cell? ⟨(ad324.add ((x5_1).toNat * 3)).block,(ad324.add ((x5_1).toNat * 3)).off+2,none⟩=some (.int .i64 ((rd_T79 l0 x5_1).f2))∧w'.cell? (ad325.add ((x5_1).toNat * 3))=some (.int .i64 ((rd_T79 l1 x5_1).f0))∧w'.cell? ⟨(ad325.add ((x5_1).toNat * 3)).block,(ad325.add ((x5_1).toNat * 3)).off+1,none⟩=some (.int .i64 ((rd_T79 l1 x5_1).f1))∧w'.cell? ⟨(ad325.add ((x5_1).toNat * 3)).block,(ad325.add ((x5_1).toNat * 3)).off+2,none⟩=some (.int .i64 ((rd_T79 l1 x5_1).f2))) (ds:= []) (mb' 10 0) (by kernel_rfl) rfl rfl ⟨((zhx HB hw324_0).trans rfl),((zhx HB hw324_1).trans rfl),((zhx HB hw324_2).trans rfl),((zhx HB hw325_0).trans rfl),((zhx HB hw325_1).trans rfl),((zhx HB hw325_2).trans rfl)⟩ (fun hHeld=>?_);refine with_tabW laws_eqEdgeS.tab6 laws_eqEdgeS.bits6 (fun HT_ HW_=>?_)
      generalize wr.drew=w9 at HB hx324_0 hx324_1 hx324_2 hx325_0 hx325_1 hx325_2 hHeld ⊢
      refine zp1 HT_ (v:=?_) (a':=?_) 0 17 (mb' 10 1) rfl ?_ ?_ ?_;rotate_left;exact zr1;rotate_left;exact zpa
      refine zp1 HT_ (v:=?_) (a':=?_) 1 18 (mb' 10 3) rfl ?_ ?_ ?_;rotate_left;exact zr1;rotate_left;exact zpa
      refine zp1 HT_ (v:=?_) (a':=?_) 2 19 (mb' 10 7) rfl ?_ ?_ ?_;rotate_left;exact zr1;rotate_left;exact zpa
      refine zp1 HT_ (v:=?_) (a':=?_) 4 21 (mb' 10 23) rfl ?_ ?_ ?_;rotate_left;exact zr1;rotate_left;exact zpa
      refine zp1 HT_ (v:=?_) (a':=?_) 5 22 (mb' 10 55) rfl ?_ ?_ ?_;rotate_left;exact zr1;rotate_left;exact zpa
      refine zp1 HT_ (v:=?_) (a':=?_) 6 23 (mb' 10 119) rfl ?_ ?_ ?_;rotate_left;exact zr1;rotate_left;exact zpa
      refine zt1 HT_ HW_ (v:=?_) (a':=?_) 3 20 (mb' 10 127) rfl ?_ hHeld ?_ ?_;rotate_left;(rintro w' ⟨s0,s1,s2,s3,s4,s5⟩;go_simp;with_reducible rfl);rotate_left;exact zpa
      refine zt1 HT_ HW_ (v:=?_) (a':=?_) 7 24 (mb' 10 255) rfl ?_ hHeld ?_ ?_;rotate_left;(rintro w' ⟨s0,s1,s2,s3,s4,s5⟩;go_simp;with_reducible rfl);rotate_left;exact zpa
      refine one_ (i:=8) (N:=some 25) (mb' 10 511) rfl rfl (one_of HT_.out (by kernel_rfl)) (by decide) (fun K hK=>?_)
      refine goes_ Try.func71 (by kernel_rfl) rfl #[.agg #[.int .i64 ((rd_T79 l0 x5_1).f0),.int .i64 ((rd_T79 l0 x5_1).f1),.int .i64 ((rd_T79 l0 x5_1).f2)],.agg #[.int .i64 ((rd_T79 l1 x5_1).f0),.int .i64 ((rd_T79 l1 x5_1).f1),.int .i64 ((rd_T79 l1 x5_1).f2)]] (by rfl) rfl rfl zq2 ?_
      with_reducible refine(laws_eqEdge.calls ((rd_T79 l0 x5_1).f0) ((rd_T79 l0 x5_1).f1) ((rd_T79 l0 x5_1).f2) ((rd_T79 l1 x5_1).f0) ((rd_T79 l1 x5_1).f1) ((rd_T79 l1 x5_1).f2) true _ A7.out).mono ?_
      rintro e w10 ⟨rfl,hb⟩
      refine⟨_,rfl,?_⟩
      replace HB:=Aside0.mk (below_step (by exact zk1 HB) hb)
      (try clear hb)
      (try clear hb2)
      (try clear hk)
      (try clear hi)
      refine hK.out _ _ ⟨((zhx HB hw324_0).trans rfl),((zhx HB hw324_1).trans rfl),((zhx HB hw324_2).trans rfl),((zhx HB hw325_0).trans rfl),((zhx HB hw325_1).trans rfl),((zhx HB hw325_2).trans rfl)⟩ (fun hHeld=>?_)
      clear hK K
      refine norm_ (a':=?_) ?_ ?_
      rotate_left
      ·show Act.put _ (some 25) _=_
       simp only [Act.put,List.setIfInBounds_toArray,List.set_cons_zero,List.set_cons_succ,i64_w,i32_w]
       rfl
      refine zp1 HT_ (v:=?_) (a':=?_) 9 26 (mb' 10 1023) rfl ?_ ?_ ?_;rotate_left;exact zr1;rotate_left;exact zpa
      refine done_ (done_of HT_.out (by kernel_rfl)) ?_
      try go_wp2
      go_roundg k1
      case measure=>have:=HK1.out;omega
      case rel=>exact⟨(wrap64 (x5_1+1)),(by first|rfl|(simp;done)|(simp [*];done)),H',⟨by have:=HK1.out;omega⟩,⟨by exact zk1 HB⟩⟩
     ·replace c8:=Bool.eq_false_iff.mpr c8
      subst c8
      have H1:(some false)=some r:=by rw [if_neg (show ¬ (false=true) by decide)] at H;exact H
      clear H
      have H:=H1
      clear H1
      obtain rfl:=Option.some.inj H
      try go_wp2
      replace HB:=Aside0.mk (below_drew1 HB.out)
      have p324: 0≤ (x5_1:Int):=of_decide_eq_true zq1
      have q324:x5_1< (l0.length:Int):=of_decide_eq_true zq1
      obtain⟨ad324,e324,hx324_0,hx324_1,hx324_2⟩:=at_T79 HR0.out x5_1 p324 q324
      have hw324_2:=hx324_2
      have hw324_1:=hx324_1
      have hw324_0:=hx324_0
      cases e324
      replace hx324_0:=zhx HB hx324_0
      replace hx324_1:=zhx HB hx324_1
      replace hx324_2:=zhx HB hx324_2
      replace p324:=eq_true p324
      replace q324:=eq_true q324
      have p325: 0≤ (x5_1:Int):=of_decide_eq_true zq1
      have q325:x5_1< (l1.length:Int):=of_decide_eq_true zq1
      obtain⟨ad325,e325,hx325_0,hx325_1,hx325_2⟩:=at_T79 HR1.out x5_1 p325 q325
      have hw325_2:=hx325_2
      have hw325_1:=hx325_1
      have hw325_0:=hx325_0
      cases e325
      replace hx325_0:=zhx HB hx325_0
      replace hx325_1:=zhx HB hx325_1
      replace hx325_2:=zhx HB hx325_2
      replace p325:=eq_true p325
      replace q325:=eq_true q325
      refine start_ (n:=10) (S:=fun w'=>w'.cell? (ad324.add ((x5_1).toNat * 3))=some (.int .i64 ((rd_T79 l0 x5_1).f0))∧w'.cell? ⟨(ad324.add ((x5_1).toNat * 3)).block,(ad324.add ((x5_1).toNat * 3)).off+1,none⟩=some (.int .i64 ((rd_T79 l0 x5_1).f1))∧w'.cell? ⟨(ad324.add ((x5_1).toNat * 3)).block,(ad324.add ((x5_1).toNat * 3)).off+2,none⟩=some (.int .i64 ((rd_T79 l0 x5_1).f2))∧w'.cell? (ad325.add ((x5_1).toNat * 3))=some (.int .i64 ((rd_T79 l1 x5_1).f0))∧w'.cell? ⟨(ad325.add ((x5_1).toNat * 3)).block,(ad325.add ((x5_1).toNat * 3)).off+1,none⟩=some (.int .i64 ((rd_T79 l1 x5_1).f1))∧w'.cell? ⟨(ad325.add ((x5_1).toNat * 3)).block,(ad325.add ((x5_1).toNat * 3)).off+2,none⟩=some (.int .i64 ((rd_T79 l1 x5_1).f2))) (ds:= []) (mb' 10 0) (by kernel_rfl) rfl rfl ⟨((zhx HB hw324_0).trans rfl),((zhx HB hw324_1).trans rfl),((zhx HB hw324_2).trans rfl),((zhx HB hw325_0).trans rfl),((zhx HB hw325_1).trans rfl),((zhx HB hw325_2).trans rfl)⟩ (fun hHeld=>?_);refine with_tabW laws_eqEdgeS.tab6 laws_eqEdgeS.bits6 (fun HT_ HW_=>?_)
      generalize wr.drew=w11 at HB hx324_0 hx324_1 hx324_2 hx325_0 hx325_1 hx325_2 hHeld ⊢
      refine zp1 HT_ (v:=?_) (a':=?_) 0 17 (mb' 10 1) rfl ?_ ?_ ?_;rotate_left;exact zr1;rotate_left;exact zpa
      refine zp1 HT_ (v:=?_) (a':=?_) 1 18 (mb' 10 3) rfl ?_ ?_ ?_;rotate_left;exact zr1;rotate_left;exact zpa
      refine zp1 HT_ (v:=?_) (a':=?_) 2 19 (mb' 10 7) rfl ?_ ?_ ?_;rotate_left;exact zr1;rotate_left;exact zpa
      refine zp1 HT_ (v:=?_) (a':=?_) 4 21 (mb' 10 23) rfl ?_ ?_ ?_;rotate_left;exact zr1;rotate_left;exact zpa
      refine zp1 HT_ (v:=?_) (a':=?_) 5 22 (mb' 10 55) rfl ?_ ?_ ?_;rotate_left;exact zr1;rotate_left;exact zpa
      refine zp1 HT_ (v:=?_) (a':=?_) 6 23 (mb' 10 119) rfl ?_ ?_ ?_;rotate_left;exact zr1;rotate_left;exact zpa
      refine zt1 HT_ HW_ (v:=?_) (a':=?_) 3 20 (mb' 10 127) rfl ?_ hHeld ?_ ?_;rotate_left;(rintro w' ⟨s0,s1,s2,s3,s4,s5⟩;go_simp;with_reducible rfl);rotate_left;exact zpa
      refine zt1 HT_ HW_ (v:=?_) (a':=?_) 7 24 (mb' 10 255) rfl ?_ hHeld ?_ ?_;rotate_left;(rintro w' ⟨s0,s1,s2,s3,s4,s5⟩;go_simp;with_reducible rfl);rotate_left;exact zpa
      refine one_ (i:=8) (N:=some 25) (mb' 10 511) rfl rfl (one_of HT_.out (by kernel_rfl)) (by decide) (fun K hK=>?_)
      refine goes_ Try.func71 (by kernel_rfl) rfl #[.agg #[.int .i64 ((rd_T79 l0 x5_1).f0),.int .i64 ((rd_T79 l0 x5_1).f1),.int .i64 ((rd_T79 l0 x5_1).f2)],.agg #[.int .i64 ((rd_T79 l1 x5_1).f0),.int .i64 ((rd_T79 l1 x5_1).f1),.int .i64 ((rd_T79 l1 x5_1).f2)]] (by rfl) rfl rfl zq2 ?_
      with_reducible refine(laws_eqEdge.calls ((rd_T79 l0 x5_1).f0) ((rd_T79 l0 x5_1).f1) ((rd_T79 l0 x5_1).f2) ((rd_T79 l1 x5_1).f0) ((rd_T79 l1 x5_1).f1) ((rd_T79 l1 x5_1).f2) false _ A7.out).mono ?_
      rintro e w12 ⟨rfl,hb⟩
      refine⟨_,rfl,?_⟩
      replace HB:=Aside0.mk (below_step (by exact zk1 HB) hb)
      (try clear hb)
      (try clear hb2)
      (try clear hk)
      (try clear hi)
      refine hK.out _ _ ⟨((zhx HB hw324_0).trans rfl),((zhx HB hw324_1).trans rfl),((zhx HB hw324_2).trans rfl),((zhx HB hw325_0).trans rfl),((zhx HB hw325_1).trans rfl),((zhx HB hw325_2).trans rfl)⟩ (fun hHeld=>?_)
      clear hK K
      refine norm_ (a':=?_) ?_ ?_
      rotate_left
      ·show Act.put _ (some 25) _=_
       simp only [Act.put,List.setIfInBounds_toArray,List.set_cons_zero,List.set_cons_succ,i64_w,i32_w]
       rfl
      refine zp1 HT_ (v:=?_) (a':=?_) 9 26 (mb' 10 1023) rfl ?_ ?_ ?_;rotate_left;exact zr1;rotate_left;exact zpa
      refine done_ (done_of HT_.out (by kernel_rfl)) ?_
      try go_wp2
      go_ret
      exact⟨by first|rfl|(simp [errW_none,errW_some]<;>rfl)|(simp [*,errW_none,errW_some]<;>rfl),by exact zk1 HB⟩
    ·rw [if_neg c4] at H
     have c4b0:decide (x5_1< (l0.length:Int))=false:=decide_eq_false c4
     clear c4
     obtain rfl:=Option.some.inj H
     go_wp2
     go_ret
     exact⟨by first|rfl|(simp [errW_none,errW_some]<;>rfl)|(simp [*,errW_none,errW_some]<;>rfl),by exact zk1 HB⟩
 ·rw [if_neg c3] at H
  have c3b0:((l0.length:Int)== (l1.length:Int))=false:=beq_eq_false_iff_ne.mpr c3
  have c3b1:((l0.length:Int) != (l1.length:Int))=true:=bne_iff_ne.mpr c3
  have c3b2:(l0.length==l1.length)=false:=by first|simpa using c3|(simp at c3 ⊢;omega)
  obtain rfl:=Option.some.inj H
  go_enter Try.func27,Try.ntmps27
  go_wp2
  go_ret
  exact⟨by first|rfl|(simp [errW_none,errW_some]<;>rfl)|(simp [*,errW_none,errW_some]<;>rfl),by exact zk1 HB⟩
def spec_l1Least.f (a0:Int) (a1:Int):Option (Int):=if a0<a1 then(some a0) else(some a1)
set_option maxHeartbeats 8000000 in
set_option maxRecDepth 100000 in
theorem spec_l1Least.calls (a0:Int) (a1:Int) (r:Int) (w:World) (h:spec_l1Least.f a0 a1=some r):
  Calls Try.prog 99 #[.int .i64 a0,.int .i64 a1] w fun e w'=>e= .returned (.int .i64 r)∧Drawn0 w w':=by
 have H:(if a0<a1 then(some a0) else(some a1))=some r:=h
 clear h
 by_cases c3:a0<a1
 ·rw [if_pos c3] at H
  have c3b0:decide (a0<a1)=true:=decide_eq_true c3
  clear c3
  obtain rfl:=Option.some.inj H
  go_enter Try.func99,Try.ntmps99
  go_wp2
  go_ret
  exact⟨by first|rfl|(simp;done)|(simp [*];done),by repeat(first|exact Drawn0.refl _|apply Drawn0.step)⟩
 ·rw [if_neg c3] at H
  have c3b0:decide (a0<a1)=false:=decide_eq_false c3
  clear c3
  obtain rfl:=Option.some.inj H
  go_enter Try.func99,Try.ntmps99
  go_wp2
  go_ret
  exact⟨by first|rfl|(simp;done)|(simp [*];done),by repeat(first|exact Drawn0.refl _|apply Drawn0.step)⟩
def laws_markEdgeS.l0:Nat→List (S79)→Int→Int→Option (Int × (List (S79)))
 | 0,_,_,_=>none
 |k+1,x0,x1,x5=>if x5< (x0.length:Int) then(if 0≤x5 then((some (x0.set (x5:Int).toNat (⟨x1,(rd_T79 x0 x5).f1,(rd_T79 x0 x5).f2⟩ :S79):List (S79))).bind fun y586=>((some (y586.set (x5:Int).toNat (⟨(rd_T79 y586 x5).f0,wrap64 (x1+1),(rd_T79 y586 x5).f2⟩ :S79):List (S79))).bind fun y587=>(laws_markEdgeS.l0 k (y587.set (x5:Int).toNat (⟨(rd_T79 y587 x5).f0,(rd_T79 y587 x5).f1,wrap64 ((wrap64 (x1+1))+1)⟩ :S79)) (wrap64 ((wrap64 ((wrap64 (x1+1))+1))+1)) (wrap64 (x5+1))))) else(none)) else(some (x1,x0))
def laws_markEdgeS.f (k:Nat) (l0:List (S79)) (a1:Int):Option (Int × (List (S79))):=laws_markEdgeS.l0 k l0 a1 0
theorem zk5 {q p:Prop} (b:Aside0 q) (h:q→p:=by intro z;repeat(first|(with_reducible first|exact z|apply Kept.alloc|apply Kept.drewN|apply Kept.drew)|exact z)):p:=h b.out
set_option maxHeartbeats 8000000 in
set_option maxRecDepth 100000 in
theorem laws_markEdgeS.calls (k:Nat) (P0_:Nat→Prop) (u9000_:Value) (l0:List (S79)) (a1:Int) (r1:Int) (r2:List (S79)) (w0 w:World) (hB:Below w0.heap.size w0 w) (ho0:Kd.R k79 79 w w0.heap.size P0_ u9000_ l0) (h:laws_markEdgeS.f k l0 a1=some (r1,r2)):
  Calls Try.prog 35 #[u9000_,.int .i64 a1] w fun e w'=>e= .returned (.int .i64 r1)∧Kd.R k79 79 w' w0.heap.size (fun k_=>(P0_ k_∨w.heap.size≤k_)) u9000_ r2∧Below w0.heap.size w0 w'∧Kept w w' (fun k_=>P0_ k_):=by
 have HO0:=Aside0.mk (show Kd.R k79 79 w w0.heap.size (fun k_=>(P0_ k_∨w.heap.size≤k_)) u9000_ l0 from Kd.R_mono ho0 (fun k_ hk=>(.inl hk)))
 have HK:=Aside0.mk (Kept.refl w (fun k_=>P0_ k_))
 have HW0:=Aside0.mk hB.size
 have HB:=Aside0.mk hB
 clear hB
 have H:(laws_markEdgeS.l0 k l0 a1 0)=some (r1,r2):=h
 clear h
 have H':=Aside0.mk H
 clear H
 go_enter Try.func35,Try.ntmps35
 go_wp2
 go_loopg [1,5] k (fun kq v1 v5 w'=> ∃ (x0_1:List (S79)) (x1_1:Int) (x5_1:Int),v1= .int .i64 x1_1∧v5= .int .i64 x5_1∧Aside0 (laws_markEdgeS.l0 kq x0_1 x1_1 x5_1=some (r1,r2))∧Aside0 (kq≤k)∧Aside0 (Kd.R k79 79 w' w0.heap.size (fun k_=>(P0_ k_∨w.heap.size≤k_)) u9000_ x0_1)∧Aside0 (Kept w w' (fun k_=>P0_ k_))∧Aside0 (Below w0.heap.size w0 w'))
 case atStart=>exact⟨(l0),(a1),(0),(by first|rfl|(simp;done)|(simp [*];done)),(by first|rfl|(simp;done)|(simp [*];done)),H',⟨Nat.le_refl _⟩,⟨by(with_reducible repeat(first|apply Kd.R_alloc|apply Kd.R_drewN|apply Kd.R_drew));exact HO0.out⟩,⟨by exact zk5 HK⟩,⟨by exact zk1 HB⟩⟩
 case round=>
  clear H'
  try clear p2
  obtain⟨x0_1,x1_1,x5_1,rfl,rfl,HA,HK1,HO_0,HK,HB⟩:=hrel
  cases gk with
  |zero=>exact absurd HA.out (by simp [laws_markEdgeS.l0])
  |succ k1=>
   have H:=HA.out
   clear HA
   simp only [laws_markEdgeS.l0] at H
   by_cases c3:x5_1< (x0_1.length:Int)
   ·rw [if_pos c3] at H
    have c3b0:decide (x5_1< (x0_1.length:Int))=true:=decide_eq_true c3
    clear c3
    by_cases c4: 0≤x5_1
    case neg=>rw [if_neg c4] at H;exact absurd H (by simp)
    rw [if_pos c4] at H
    have c4b0:decide (0≤x5_1)=true:=decide_eq_true c4
    clear c4
    obtain⟨y586,hy586⟩ :∃ y_:List (S79),y_= (x0_1.set (x5_1:Int).toNat (⟨x1_1,(rd_T79 x0_1 x5_1).f1,(rd_T79 x0_1 x5_1).f2⟩ :S79)):=⟨_,rfl⟩
    replace H:((some (y586.set (x5_1:Int).toNat (⟨(rd_T79 y586 x5_1).f0,wrap64 (x1_1+1),(rd_T79 y586 x5_1).f2⟩ :S79):List (S79))).bind fun y587=>(laws_markEdgeS.l0 k1 (y587.set (x5_1:Int).toNat (⟨(rd_T79 y587 x5_1).f0,(rd_T79 y587 x5_1).f1,wrap64 ((wrap64 (x1_1+1))+1)⟩ :S79)) (wrap64 ((wrap64 ((wrap64 (x1_1+1))+1))+1)) (wrap64 (x5_1+1))))=some (r1,r2):=zfh hy586 H
    have Ny586:=Aside0.mk hy586
    clear hy586
    obtain⟨y587,hy587⟩ :∃ y_:List (S79),y_= (y586.set (x5_1:Int).toNat (⟨(rd_T79 y586 x5_1).f0,wrap64 (x1_1+1),(rd_T79 y586 x5_1).f2⟩ :S79)):=⟨_,rfl⟩
    replace H:(laws_markEdgeS.l0 k1 (y587.set (x5_1:Int).toNat (⟨(rd_T79 y587 x5_1).f0,(rd_T79 y587 x5_1).f1,wrap64 ((wrap64 (x1_1+1))+1)⟩ :S79)) (wrap64 ((wrap64 ((wrap64 (x1_1+1))+1))+1)) (wrap64 (x5_1+1)))=some (r1,r2):=zfh hy587 H
    have Ny587:=Aside0.mk hy587
    clear hy587
    obtain⟨y588,hy588⟩ :∃ y_:List (S79),y_= (y587.set (x5_1:Int).toNat (⟨(rd_T79 y587 x5_1).f0,(rd_T79 y587 x5_1).f1,wrap64 ((wrap64 (x1_1+1))+1)⟩ :S79)):=⟨_,rfl⟩
    replace H:(laws_markEdgeS.l0 k1 y588 (wrap64 ((wrap64 ((wrap64 (x1_1+1))+1))+1)) (wrap64 (x5_1+1)))=some (r1,r2):=zfh hy588 H
    have Ny588:=Aside0.mk hy588
    clear hy588
    have H':=Aside0.mk H
    clear H
    obtain⟨Ao8,co8,eo8⟩:=Kd.R_slice HO_0.out
    subst eo8
    have p5: 0≤ (x5_1:Int):=of_decide_eq_true zq1
    have q5:(x5_1:Int)< ((x0_1.length:Int):Int):=of_decide_eq_true zq1
    obtain⟨go5,co5,eo5,gb5,gl5,cl5,HG5⟩:=Kd.R_form HO_0.out (by omega)
    (first|cases eo5|(injection eo5 with ea_ en_ ec_;(first|subst ea_|(injection ea_ with ea_;subst ea_));subst ec_;clear en_))
    have GB5:=Aside0.mk gb5
    have GG5:=Aside0.mk HG5
    clear gb5 gl5 HG5
    have HMgo5:=Aside0.mk (show (P0_ go5∨w.heap.size≤go5) from (HO_0.out.1 _ rfl))
    obtain⟨ce5,hcl5,hM5,hcc5,hfr5⟩:=Kd.R_elem HO_0.out z79 (x5_1:Int) p5 q5
    obtain rfl:=k79_openM hM5
    have hx5_0:wr.cell? ⟨go5,(x5_1:Int).toNat * 3,none⟩=some (.int .i64 ((rd_T79 x0_1 x5_1).f0)):=hcc5 0 _ rfl
    have hx5_1:wr.cell? ⟨go5,(x5_1:Int).toNat * 3+1,none⟩=some (.int .i64 ((rd_T79 x0_1 x5_1).f1)):=hcc5 1 _ rfl
    have hx5_2:wr.cell? ⟨go5,(x5_1:Int).toNat * 3+2,none⟩=some (.int .i64 ((rd_T79 x0_1 x5_1).f2)):=hcc5 2 _ rfl
    have hf5_0:wr.frozen? ⟨go5,(x5_1:Int).toNat * 3,none⟩=false:=hfr5 0
    have hf5_1:wr.frozen? ⟨go5,(x5_1:Int).toNat * 3+1,none⟩=false:=hfr5 1
    have hf5_2:wr.frozen? ⟨go5,(x5_1:Int).toNat * 3+2,none⟩=false:=hfr5 2
    clear hcl5 hcc5 hfr5 hM5
    replace p5:=eq_true p5
    replace q5:=eq_true q5
    have HX9:=Aside0.mk (show Kd.R k79 79 wr w0.heap.size (fun k_=>(P0_ k_∨w.heap.size≤k_)) (.slice (some ⟨go5,0,none⟩) x0_1.length co8) x0_1 from (zq4 HO_0))
    obtain⟨ce9,hcl9,hM9,hcc9,hfr9⟩:=Kd.R_elem HX9.out z79 (x5_1:Int) (of_decide_eq_true zq1) (by have h_:(x5_1:Int)< ((x0_1.length:Int):Int):=of_decide_eq_true zq1;first|exact h_|(have e_:=(Kd.R_reads' HO_0.out).1;omega)|simpa using h_)
    obtain rfl:=k79_openM hM9
    have HP9:=Kd.R_seg HX9.out (x5_1:Int) (of_decide_eq_true zq1) (by have h_:(x5_1:Int)< ((x0_1.length:Int):Int):=of_decide_eq_true zq1;first|exact h_|(have e_:=(Kd.R_reads' HO_0.out).1;omega)|simpa using h_) (seg:= [.int .i64 x1_1]) (j:=0) hcl9 hcc9 (show 1≤3 from by decide) (x':=(⟨x1_1,(rd_T79 x0_1 x5_1).f1,(rd_T79 x0_1 x5_1).f2⟩ :S79)) (k79_mkM _ _ _ (⟨x1_1,(rd_T79 x0_1 x5_1).f1,(rd_T79 x0_1 x5_1).f2⟩ :S79) ) (fun _ hk=>hk)
    have hx9_0:=hcc9 0 _ rfl
    (try simp only [show (k79).sz=3 from rfl,Nat.mul_one,Nat.add_zero] at hx9_0)
    have hf9_0:=hfr9 0
    (try simp only [show (k79).sz=3 from rfl,Nat.mul_one,Nat.add_zero] at hf9_0)
    clear hcl9 hcc9 hfr9 hM9
    go_wp2_with (first|((with_reducible refine gate_store (t:=3) (p:=16) rfl ?_);refine store_event (t:=3) (p:=16) (v:=?vo_w10) (w1:=(wr.setCell ⟨go5,(x5_1:Int).toNat * 3,none⟩ (.int .i64 x1_1))) ?hg ?ho ?hn ?hr ?_;(case ho=>rfl);(case hg=>rfl);(case hn=>rfl);(case hr=>first|(go_simp;done)|(go_simp;rfl));intro w10 hw;have hg:wr.grownBy w10 (some go5):=(by rw [hw];exact HP9.2);have hp_:Kd.R k79 79 w10 w0.heap.size (fun k_=>(P0_ k_∨w.heap.size≤k_)) (.slice (some ⟨go5,0,none⟩) x0_1.length co8) y586:=(by rw [hw,Ny586.out];exact HP9.1);clear HP9;replace HB:=Aside0.mk ((by rw [hw];exact below_set (HB.out) GB5.out:Below w0.heap.size w0 w10));replace HK:=Aside0.mk (Kept.of_grown (S:=(fun k_=>P0_ k_)) hg (by exact zk5 HK) (fun k_ e_=>(HO_0.out.1 k_ e_)));replace HO_0:=Aside0.mk (hp_);clear hg hw hp_;have p6: 0≤ (x5_1:Int):=of_decide_eq_true zq1;have q6:(x5_1:Int)< ((x0_1.length:Int):Int):=of_decide_eq_true zq1;obtain⟨ce6,hcl6,hM6,hcc6,hfr6⟩:=Kd.R_elem HO_0.out z79 (x5_1:Int) p6 q6;obtain rfl:=k79_openM hM6;have hx6_0:w10.cell? ⟨go5,(x5_1:Int).toNat * 3,none⟩=some (.int .i64 ((rd_T79 y586 x5_1).f0)):=hcc6 0 _ rfl;have hx6_1:w10.cell? ⟨go5,(x5_1:Int).toNat * 3+1,none⟩=some (.int .i64 ((rd_T79 y586 x5_1).f1)):=hcc6 1 _ rfl;have hx6_2:w10.cell? ⟨go5,(x5_1:Int).toNat * 3+2,none⟩=some (.int .i64 ((rd_T79 y586 x5_1).f2)):=hcc6 2 _ rfl;have hf6_0:w10.frozen? ⟨go5,(x5_1:Int).toNat * 3,none⟩=false:=hfr6 0;have hf6_1:w10.frozen? ⟨go5,(x5_1:Int).toNat * 3+1,none⟩=false:=hfr6 1;have hf6_2:w10.frozen? ⟨go5,(x5_1:Int).toNat * 3+2,none⟩=false:=hfr6 2;clear hcl6 hcc6 hfr6 hM6;replace p6:=eq_true p6;replace q6:=eq_true q6;have HX11:=Aside0.mk (show Kd.R k79 79 w10 w0.heap.size (fun k_=>(P0_ k_∨w.heap.size≤k_)) (.slice (some ⟨go5,0,none⟩) x0_1.length co8) y586 from (zq4 HO_0));obtain⟨ce11,hcl11,hM11,hcc11,hfr11⟩:=Kd.R_elem HX11.out z79 (x5_1:Int) (of_decide_eq_true zq1) (by have h_:(x5_1:Int)< ((x0_1.length:Int):Int):=of_decide_eq_true zq1;first|exact h_|(have e_:=(Kd.R_reads' HO_0.out).1;omega)|simpa using h_);obtain rfl:=k79_openM hM11;have HP11:=Kd.R_seg HX11.out (x5_1:Int) (of_decide_eq_true zq1) (by have h_:(x5_1:Int)< ((x0_1.length:Int):Int):=of_decide_eq_true zq1;first|exact h_|(have e_:=(Kd.R_reads' HO_0.out).1;omega)|simpa using h_) (seg:= [.int .i64 (wrap64 (x1_1+1))]) (j:=1) hcl11 hcc11 (show 2≤3 from by decide) (x':=(⟨(rd_T79 y586 x5_1).f0,wrap64 (x1_1+1),(rd_T79 y586 x5_1).f2⟩ :S79)) (k79_mkM _ _ _ (⟨(rd_T79 y586 x5_1).f0,wrap64 (x1_1+1),(rd_T79 y586 x5_1).f2⟩ :S79) ) (fun _ hk=>hk);have hx11_1:=hcc11 1 _ rfl;(try simp only [show (k79).sz=3 from rfl,Nat.mul_one,Nat.add_zero] at hx11_1);have hf11_1:=hfr11 1;(try simp only [show (k79).sz=3 from rfl,Nat.mul_one,Nat.add_zero] at hf11_1);clear hcl11 hcc11 hfr11 hM11)|((with_reducible refine gate_store (t:=3) (p:=23) rfl ?_);refine store_event (t:=3) (p:=23) (v:=?vo_w12) (w1:=(w10.setCell ⟨go5,(x5_1:Int).toNat * 3+1,none⟩ (.int .i64 (wrap64 (x1_1+1))))) ?hg ?ho ?hn ?hr ?_;(case ho=>rfl);(case hg=>rfl);(case hn=>rfl);(case hr=>first|(go_simp;done)|(go_simp;rfl));intro w12 hw;have hg:w10.grownBy w12 (some go5):=(by rw [hw];exact HP11.2);have hp_:Kd.R k79 79 w12 w0.heap.size (fun k_=>(P0_ k_∨w.heap.size≤k_)) (.slice (some ⟨go5,0,none⟩) x0_1.length co8) y587:=(by rw [hw,Ny587.out];exact HP11.1);clear HP11;replace HB:=Aside0.mk ((by rw [hw];exact below_set (HB.out) GB5.out:Below w0.heap.size w0 w12));replace HK:=Aside0.mk (Kept.of_grown (S:=(fun k_=>P0_ k_)) hg (by exact zk5 HK) (fun k_ e_=>(HO_0.out.1 k_ e_)));replace HO_0:=Aside0.mk (hp_);clear hg hw hp_;have p7: 0≤ (x5_1:Int):=of_decide_eq_true zq1;have q7:(x5_1:Int)< ((x0_1.length:Int):Int):=of_decide_eq_true zq1;obtain⟨ce7,hcl7,hM7,hcc7,hfr7⟩:=Kd.R_elem HO_0.out z79 (x5_1:Int) p7 q7;obtain rfl:=k79_openM hM7;have hx7_0:w12.cell? ⟨go5,(x5_1:Int).toNat * 3,none⟩=some (.int .i64 ((rd_T79 y587 x5_1).f0)):=hcc7 0 _ rfl;have hx7_1:w12.cell? ⟨go5,(x5_1:Int).toNat * 3+1,none⟩=some (.int .i64 ((rd_T79 y587 x5_1).f1)):=hcc7 1 _ rfl;have hx7_2:w12.cell? ⟨go5,(x5_1:Int).toNat * 3+2,none⟩=some (.int .i64 ((rd_T79 y587 x5_1).f2)):=hcc7 2 _ rfl;have hf7_0:w12.frozen? ⟨go5,(x5_1:Int).toNat * 3,none⟩=false:=hfr7 0;have hf7_1:w12.frozen? ⟨go5,(x5_1:Int).toNat * 3+1,none⟩=false:=hfr7 1;have hf7_2:w12.frozen? ⟨go5,(x5_1:Int).toNat * 3+2,none⟩=false:=hfr7 2;clear hcl7 hcc7 hfr7 hM7;replace p7:=eq_true p7;replace q7:=eq_true q7;have HX13:=Aside0.mk (show Kd.R k79 79 w12 w0.heap.size (fun k_=>(P0_ k_∨w.heap.size≤k_)) (.slice (some ⟨go5,0,none⟩) x0_1.length co8) y587 from (zq4 HO_0));obtain⟨ce13,hcl13,hM13,hcc13,hfr13⟩:=Kd.R_elem HX13.out z79 (x5_1:Int) (of_decide_eq_true zq1) (by have h_:(x5_1:Int)< ((x0_1.length:Int):Int):=of_decide_eq_true zq1;first|exact h_|(have e_:=(Kd.R_reads' HO_0.out).1;omega)|simpa using h_);obtain rfl:=k79_openM hM13;have HP13:=Kd.R_seg HX13.out (x5_1:Int) (of_decide_eq_true zq1) (by have h_:(x5_1:Int)< ((x0_1.length:Int):Int):=of_decide_eq_true zq1;first|exact h_|(have e_:=(Kd.R_reads' HO_0.out).1;omega)|simpa using h_) (seg:= [.int .i64 (wrap64 ((wrap64 (x1_1+1))+1))]) (j:=2) hcl13 hcc13 (show 3≤3 from by decide) (x':=(⟨(rd_T79 y587 x5_1).f0,(rd_T79 y587 x5_1).f1,wrap64 ((wrap64 (x1_1+1))+1)⟩ :S79)) (k79_mkM _ _ _ (⟨(rd_T79 y587 x5_1).f0,(rd_T79 y587 x5_1).f1,wrap64 ((wrap64 (x1_1+1))+1)⟩ :S79) ) (fun _ hk=>hk);have hx13_2:=hcc13 2 _ rfl;(try simp only [show (k79).sz=3 from rfl,Nat.mul_one,Nat.add_zero] at hx13_2);have hf13_2:=hfr13 2;(try simp only [show (k79).sz=3 from rfl,Nat.mul_one,Nat.add_zero] at hf13_2);clear hcl13 hcc13 hfr13 hM13)|((with_reducible refine gate_store (t:=3) (p:=30) rfl ?_);refine store_event (t:=3) (p:=30) (v:=?vo_w14) (w1:=(w12.setCell ⟨go5,(x5_1:Int).toNat * 3+2,none⟩ (.int .i64 (wrap64 ((wrap64 (x1_1+1))+1))))) ?hg ?ho ?hn ?hr ?_;(case ho=>rfl);(case hg=>rfl);(case hn=>rfl);(case hr=>first|(go_simp;done)|(go_simp;rfl));intro w14 hw;have hg:w12.grownBy w14 (some go5):=(by rw [hw];exact HP13.2);have hp_:Kd.R k79 79 w14 w0.heap.size (fun k_=>(P0_ k_∨w.heap.size≤k_)) (.slice (some ⟨go5,0,none⟩) x0_1.length co8) y588:=(by rw [hw,Ny588.out];exact HP13.1);clear HP13;replace HB:=Aside0.mk ((by rw [hw];exact below_set (HB.out) GB5.out:Below w0.heap.size w0 w14));replace HK:=Aside0.mk (Kept.of_grown (S:=(fun k_=>P0_ k_)) hg (by exact zk5 HK) (fun k_ e_=>(HO_0.out.1 k_ e_)));replace HO_0:=Aside0.mk (hp_);clear hg hw hp_))
    go_roundg k1
    case measure=>have:=HK1.out;omega
    case rel=>exact⟨(y588),(wrap64 ((wrap64 ((wrap64 (x1_1+1))+1))+1)),(wrap64 (x5_1+1)),(by first|rfl|(simp;done)|(simp [*];done)),(by first|rfl|(simp;done)|(simp [*];done)),H',⟨by have:=HK1.out;omega⟩,⟨by(with_reducible repeat(first|apply Kd.R_alloc|apply Kd.R_drewN|apply Kd.R_drew));exact HO_0.out⟩,⟨by exact zk5 HK⟩,⟨by exact zk1 HB⟩⟩
   ·rw [if_neg c3] at H
    have c3b0:decide (x5_1< (x0_1.length:Int))=false:=decide_eq_false c3
    clear c3
    simp only [Option.some.injEq,Prod.mk.injEq] at H
    obtain⟨rfl,rfl⟩:=H
    obtain⟨Ao15,co15,eo15⟩:=Kd.R_slice HO_0.out
    subst eo15
    go_wp2
    go_ret
    exact⟨by first|rfl|(simp [errW_none,errW_some]<;>rfl)|(simp [*,errW_none,errW_some]<;>rfl),by(with_reducible repeat(first|apply Kd.R_alloc|apply Kd.R_drewN|apply Kd.R_drew));exact HO_0.out,by exact zk1 HB,by exact zk5 HK⟩
mutual
def spec_l8Groups.l0:Nat→Int→List (S79)→List Int→Int→Option (List Int)
 | 0,_,_,_,_=>none
 |k+1,x0,x1,x5,x6=>if x6<x0 then(if x5.length< 17592186044416 then(spec_l8Groups.l0 k x0 x1 (x5++ [x6]) (wrap64 (x6+1))) else(none)) else(spec_l8Groups.l1 k x1 x5 (x5.length:Int) 0)
def spec_l8Groups.l1:Nat→List (S79)→List Int→Int→Int→Option (List Int)
 | 0,_,_,_,_=>none
 |k+1,x1,x5,x20,x21=>if x21<x20 then(spec_l8Groups.l2 k x1 x5 x20 x21 x1 (x1.length:Int) 0) else(some x5)
def spec_l8Groups.l2:Nat→List (S79)→List Int→Int→Int→List (S79)→Int→Int→Option (List Int)
 | 0,_,_,_,_,_,_,_=>none
 |k+1,x1,x5,x20,x21,x23,x24,x25=>if x25<x24 then(if 0≤x25 then(if x25< (x23.length:Int) then(if 0≤ ((rd_T79 x23 x25).f0) then(if ((rd_T79 x23 x25).f0)< (x5.length:Int) then(if 0≤ ((rd_T79 x23 x25).f1) then(if ((rd_T79 x23 x25).f1)< (x5.length:Int) then((spec_l1Least.f (rd x5 ((rd_T79 x23 x25).f0)) (rd x5 ((rd_T79 x23 x25).f1))).bind fun t686=>(spec_l8Groups.l2 k x1 ((x5.set (((rd_T79 x23 x25).f0):Int).toNat t686).set (((rd_T79 x23 x25).f1):Int).toNat t686) x20 x21 x23 x24 (wrap64 (x25+1)))) else(none)) else(none)) else(none)) else(none)) else(none)) else(none)) else(spec_l8Groups.l1 k x1 x5 x20 (wrap64 (x21+1)))
end
def spec_l8Groups.f (k:Nat) (a0:Int) (l1:List (S79)):Option (List Int):=spec_l8Groups.l0 k a0 l1 ([] :List Int) 0
set_option maxHeartbeats 8000000 in
set_option maxRecDepth 100000 in
theorem spec_l8Groups.calls (k:Nat) (a0:Int) (A1:Option Addr) (c1:Nat) (l1:List (S79)) (r:List Int) (w:World) (hr1:Kd.C k79 w A1 l1.length l1) (hc1:l1.length≤c1) (h:spec_l8Groups.f k a0 l1=some r):
  Calls Try.prog 79 #[.int .i64 a0,.slice A1 l1.length c1] w fun e w'=> ∃ v0_:Value,e= .returned (v0_)∧Kd.R (Kd.int .i64) 3 w' w.heap.size (fun _=>True) v0_ r∧Below w.heap.size w w':=by
 have hu79:=Try.underlying79
 have HR1:=Aside0.mk hr1
 have HC1:=Aside0.mk hc1
 clear hr1 hc1
 have HB:=Aside0.mk (Below.refl w.heap.size w)
 have H:(spec_l8Groups.l0 k a0 l1 ([] :List Int) 0)=some r:=h
 clear h
 have H':=Aside0.mk H
 clear H
 go_enter Try.func79,Try.ntmps79
 go_wp2
 repeat(go_quiet (fail);try go_wp2)
 go_loopg [5,6] k (fun kq v5 v6 w'=> ∃ (x5_1:List Int) (x6_1:Int),v6= .int .i64 x6_1∧Aside0 (spec_l8Groups.l0 kq a0 l1 x5_1 x6_1=some r)∧Aside0 (kq≤k)∧Aside0 (Kd.R (Kd.int .i64) 3 w' w.heap.size (fun _=>True) v5 x5_1)∧Aside0 (Below w.heap.size w w'))
 case atStart=>exact⟨(([] :List Int)),(0),(by first|rfl|(simp;done)|(simp [*];done)),H',⟨Nat.le_refl _⟩,⟨by first|exact Kd.R_nil _ _ _ _ _|exact Kd.N_nil _ _ _ _ _|exact Kd.V_nil _ _ _ _ _|exact Kd.Q_nil _ _ _ _ _|exact Kd.S_nil _ _ _ _ _⟩,⟨by exact zk1 HB⟩⟩
 case round=>
  clear H'
  try clear c1
  try clear p2
  obtain⟨x5_1,x6_1,rfl,HA,HK1,HO_5,HB⟩:=hrel
  cases gk with
  |zero=>exact absurd HA.out (by simp [spec_l8Groups.l0])
  |succ k1=>
   have H:=HA.out
   clear HA
   simp only [spec_l8Groups.l0] at H
   by_cases c3:x6_1<a0
   ·rw [if_pos c3] at H
    have c3b0:decide (x6_1<a0)=true:=decide_eq_true c3
    clear c3
    by_cases c4:x5_1.length< 17592186044416
    case neg=>rw [if_neg c4] at H;exact absurd H (by simp)
    rw [if_pos c4] at H
    have LMc4:=Aside0.mk c4
    clear c4
    obtain⟨y679,hy679⟩ :∃ y_:List Int,y_= (x5_1++ [x6_1]):=⟨_,rfl⟩
    replace H:(spec_l8Groups.l0 k1 a0 l1 y679 (wrap64 (x6_1+1)))=some r:=zfh hy679 H
    have Ny679:=Aside0.mk hy679
    clear hy679
    have H':=Aside0.mk H
    clear H
    go_wp2_with (first|((with_reducible refine gate_builtin (b:= .append) (xs:= #[.tmp 15,.tmp 17]) rfl ?_);at_builtin;refine Kd.R_append (Kd.int .i64) (w0:=w) w.heap.size rfl (.tmp 15) (.tmp 17) 22 3 (.int .i64 0) 8 rfl Try.underlying22 info3 rfl (by decide) (by omega) u5 x5_1 x6_1 [.int .i64 x6_1] (fun _=>True) (fun _=>False) rfl rfl ?aP (fun _ hk=>hk.elim) ?aF ?aO ?aB ?aS ?aL ?_;(case aP=>exact rfl);(case aB=>exact(by exact zk1 HB));(case aF=>exact(fun _ _=>trivial));(case aO=>exact(zq4 HO_5));(case aS=>exact(below_size (by exact zk1 HB)));(case aL=>have:=LMc4.out;omega);intro v680 w5 ho hb hg hat;rw [← Ny679.out] at ho;have HO681:=Aside0.mk (ho);replace HB:=Aside0.mk (hb);clear HO_5;clear ho hb hg hat))
    repeat(go_quiet (first|((with_reducible refine gate_builtin (b:= .append) (xs:= #[.tmp 15,.tmp 17]) rfl ?_);at_builtin;refine Kd.R_append (Kd.int .i64) (w0:=w) w.heap.size rfl (.tmp 15) (.tmp 17) 22 3 (.int .i64 0) 8 rfl Try.underlying22 info3 rfl (by decide) (by omega) u5 x5_1 x6_1 [.int .i64 x6_1] (fun _=>True) (fun _=>False) rfl rfl ?aP (fun _ hk=>hk.elim) ?aF ?aO ?aB ?aS ?aL ?_;(case aP=>exact rfl);(case aB=>exact(by exact zk1 HB));(case aF=>exact(fun _ _=>trivial));(case aO=>exact(zq4 HO_5));(case aS=>exact(below_size (by exact zk1 HB)));(case aL=>have:=LMc4.out;omega);intro v680 w5 ho hb hg hat;rw [← Ny679.out] at ho;have HO681:=Aside0.mk (ho);replace HB:=Aside0.mk (hb);clear HO_5;clear ho hb hg hat));try go_wp2_with (first|((with_reducible refine gate_builtin (b:= .append) (xs:= #[.tmp 15,.tmp 17]) rfl ?_);at_builtin;refine Kd.R_append (Kd.int .i64) (w0:=w) w.heap.size rfl (.tmp 15) (.tmp 17) 22 3 (.int .i64 0) 8 rfl Try.underlying22 info3 rfl (by decide) (by omega) u5 x5_1 x6_1 [.int .i64 x6_1] (fun _=>True) (fun _=>False) rfl rfl ?aP (fun _ hk=>hk.elim) ?aF ?aO ?aB ?aS ?aL ?_;(case aP=>exact rfl);(case aB=>exact(by exact zk1 HB));(case aF=>exact(fun _ _=>trivial));(case aO=>exact(zq4 HO_5));(case aS=>exact(below_size (by exact zk1 HB)));(case aL=>have:=LMc4.out;omega);intro v680 w5 ho hb hg hat;rw [← Ny679.out] at ho;have HO681:=Aside0.mk (ho);replace HB:=Aside0.mk (hb);clear HO_5;clear ho hb hg hat)))
    go_roundg k1
    case measure=>have:=HK1.out;omega
    case rel=>exact⟨(y679),(wrap64 (x6_1+1)),(by first|rfl|(simp;done)|(simp [*];done)),H',⟨by have:=HK1.out;omega⟩,⟨by(with_reducible repeat(first|apply Kd.R_alloc|apply Kd.R_drewN|apply Kd.R_drew));exact HO681.out⟩,⟨by exact zk1 HB⟩⟩
   ·rw [if_neg c3] at H
    have c3b0:decide (x6_1<a0)=false:=decide_eq_false c3
    clear c3
    have H':=Aside0.mk H
    clear H
    obtain⟨Ao6,co6,eo6⟩:=Kd.R_slice HO_5.out
    subst eo6
    go_wp2
    repeat(go_quiet (fail);try go_wp2)
    go_loopg [21] k1 (fun kq v21 w'=> ∃ (x5_2:List Int) (x21_2:Int),v21= .int .i64 x21_2∧Aside0 (spec_l8Groups.l1 kq l1 x5_2 (x5_1.length:Int) x21_2=some r)∧Aside0 (kq≤k1)∧Aside0 (Kd.R (Kd.int .i64) 3 w' w.heap.size (fun _=>True) (.slice Ao6 x5_1.length co6) x5_2)∧Aside0 (Below w.heap.size w w'))
    case atStart=>exact⟨(x5_1),(0),(by first|rfl|(simp;done)|(simp [*];done)),H',⟨Nat.le_refl _⟩,⟨by(with_reducible repeat(first|apply Kd.R_alloc|apply Kd.R_drewN|apply Kd.R_drew));exact HO_5.out⟩,⟨by exact zk1 HB⟩⟩
    case round=>
     clear H'
     try clear c1
     try clear p2
     try clear c3
     try clear c3b0
     try clear c4
     try clear p6
     try clear p2
     obtain⟨x5_2,x21_2,rfl,HA,HK2,HO_5,HB⟩:=hrel
     have hl5_2:=(Kd.R_reads' HO_5.out).1
     rw [hl5_2] at HO_5
     (try simp only [hl5_2])
     cases gk with
     |zero=>exact absurd HA.out (by simp [spec_l8Groups.l1])
     |succ k2=>
      have H:=HA.out
      clear HA
      simp only [spec_l8Groups.l1] at H
      by_cases c7:x21_2< (x5_1.length:Int)
      ·rw [if_pos c7] at H
       have c7b0:decide (x21_2< (x5_1.length:Int))=true:=decide_eq_true c7
       (try(have c7b0L:=c7b0;simp only [hl5_2] at c7b0L))
       clear c7
       have H':=Aside0.mk H
       clear H
       go_wp2
       repeat(go_quiet (fail);try go_wp2)
       go_loopg [25] k2 (fun kq v25 w'=> ∃ (x5_3:List Int) (x25_3:Int),v25= .int .i64 x25_3∧Aside0 (spec_l8Groups.l2 kq l1 x5_3 (x5_1.length:Int) x21_2 l1 (l1.length:Int) x25_3=some r)∧Aside0 (kq≤k2)∧Aside0 (Kd.R (Kd.int .i64) 3 w' w.heap.size (fun _=>True) (.slice Ao6 x5_2.length co6) x5_3)∧Aside0 (Below w.heap.size w w'))
       case atStart=>exact⟨(x5_2),(0),(by first|rfl|(simp;done)|(simp [*];done)),H',⟨Nat.le_refl _⟩,⟨by(try simp only [hl5_2]);(with_reducible repeat(first|apply Kd.R_alloc|apply Kd.R_drewN|apply Kd.R_drew));exact HO_5.out⟩,⟨by exact zk1 HB⟩⟩
       case round=>
        clear H'
        try clear c1
        try clear p2
        try clear c3
        try clear c3b0
        try clear c4
        try clear p6
        try clear c7
        try clear c7b0
        try clear p2
        try clear p6
        obtain⟨x5_3,x25_3,rfl,HA,HK3,HO_5,HB⟩:=hrel
        have hl5_3:=(Kd.R_reads' HO_5.out).1
        rw [hl5_3] at HO_5
        (try simp only [hl5_3])
        cases gk with
        |zero=>exact absurd HA.out (by simp [spec_l8Groups.l2])
        |succ k3=>
         have H:=HA.out
         clear HA
         simp only [spec_l8Groups.l2] at H
         by_cases c8:x25_3< (l1.length:Int)
         ·rw [if_pos c8] at H
          have c8b0:decide (x25_3< (l1.length:Int))=true:=decide_eq_true c8
          (try(have c8b0L:=c8b0;simp only [hl5_2] at c8b0L))
          (try(have c8b0L:=c8b0;simp only [hl5_3] at c8b0L))
          clear c8
          by_cases c9: 0≤x25_3
          case neg=>rw [if_neg c9] at H;exact absurd H (by simp)
          rw [if_pos c9] at H
          have c9b0:decide (0≤x25_3)=true:=decide_eq_true c9
          clear c9
          by_cases c10:x25_3< (l1.length:Int)
          case neg=>rw [if_neg c10] at H;exact absurd H (by simp)
          rw [if_pos c10] at H
          have c10b0:decide (x25_3< (l1.length:Int))=true:=decide_eq_true c10
          (try(have c10b0L:=c10b0;simp only [hl5_2] at c10b0L))
          (try(have c10b0L:=c10b0;simp only [hl5_3] at c10b0L))
          clear c10
          by_cases c11: 0≤ ((rd_T79 l1 x25_3).f0)
          case neg=>rw [if_neg c11] at H;exact absurd H (by simp)
          rw [if_pos c11] at H
          have c11b0:decide (0≤ ((rd_T79 l1 x25_3).f0))=true:=decide_eq_true c11
          clear c11
          by_cases c12:((rd_T79 l1 x25_3).f0)< (x5_3.length:Int)
          case neg=>rw [if_neg c12] at H;exact absurd H (by simp)
          rw [if_pos c12] at H
          have c12b0:decide (((rd_T79 l1 x25_3).f0)< (x5_3.length:Int))=true:=decide_eq_true c12
          (try(have c12b0L:=c12b0;simp only [hl5_2] at c12b0L))
          (try(have c12b0L:=c12b0;simp only [hl5_3] at c12b0L))
          clear c12
          by_cases c13: 0≤ ((rd_T79 l1 x25_3).f1)
          case neg=>rw [if_neg c13] at H;exact absurd H (by simp)
          rw [if_pos c13] at H
          have c13b0:decide (0≤ ((rd_T79 l1 x25_3).f1))=true:=decide_eq_true c13
          clear c13
          by_cases c14:((rd_T79 l1 x25_3).f1)< (x5_3.length:Int)
          case neg=>rw [if_neg c14] at H;exact absurd H (by simp)
          rw [if_pos c14] at H
          have c14b0:decide (((rd_T79 l1 x25_3).f1)< (x5_3.length:Int))=true:=decide_eq_true c14
          (try(have c14b0L:=c14b0;simp only [hl5_2] at c14b0L))
          (try(have c14b0L:=c14b0;simp only [hl5_3] at c14b0L))
          clear c14
          replace H:=Option.bind_eq_some_iff.mp H
          obtain⟨t686,A150,H⟩:=H
          replace H:(spec_l8Groups.l2 k3 l1 ((x5_3.set (((rd_T79 l1 x25_3).f0):Int).toNat t686).set (((rd_T79 l1 x25_3).f1):Int).toNat t686) (x5_1.length:Int) x21_2 l1 (l1.length:Int) (wrap64 (x25_3+1)))=some r:=H
          have A15:=Aside0.mk A150
          clear A150
          obtain⟨y687,hy687⟩ :∃ y_:List Int,y_= (x5_3.set (((rd_T79 l1 x25_3).f0):Int).toNat t686):=⟨_,rfl⟩
          replace H:(spec_l8Groups.l2 k3 l1 (y687.set (((rd_T79 l1 x25_3).f1):Int).toNat t686) (x5_1.length:Int) x21_2 l1 (l1.length:Int) (wrap64 (x25_3+1)))=some r:=zfh hy687 H
          have Ny687:=Aside0.mk hy687
          clear hy687
          obtain⟨y688,hy688⟩ :∃ y_:List Int,y_= (y687.set (((rd_T79 l1 x25_3).f1):Int).toNat t686):=⟨_,rfl⟩
          replace H:(spec_l8Groups.l2 k3 l1 y688 (x5_1.length:Int) x21_2 l1 (l1.length:Int) (wrap64 (x25_3+1)))=some r:=zfh hy688 H
          have Ny688:=Aside0.mk hy688
          clear hy688
          have H':=Aside0.mk H
          clear H
          have p682: 0≤ (x25_3:Int):=of_decide_eq_true zq1
          have q682:x25_3< (l1.length:Int):=of_decide_eq_true zq1
          obtain⟨ad682,e682,hx682_0,hx682_1,hx682_2⟩:=at_T79 HR1.out x25_3 p682 q682
          cases e682
          replace hx682_0:=zhx HB hx682_0
          replace hx682_1:=zhx HB hx682_1
          replace hx682_2:=zhx HB hx682_2
          replace p682:=eq_true p682
          replace q682:=eq_true q682
          go_wp2_with (first|((with_reducible refine gate_dst (N:=8) rfl ?_);refine box_event ?hg (N:=8) ?hd (cs:= #[.int .i64 0,.int .i64 0,.int .i64 0]) (t:=79) ?hr ?_;(case hd=>rfl);(case hg=>rfl);(case hr=>first|(go_simp;done)|(go_simp;rfl));intro gb683 hg w18 hbox hb;have BK683:=Aside0.mk (hbox);have GW683:=Aside0.mk ((by rw [hg];exact(below_size (by exact zk1 HB)):w.heap.size≤gb683));have GE683:=Aside0.mk ((by rw [hg];exact(below_size (by exact zk1 HB)):w.heap.size≤gb683));replace HO_5:=Aside0.mk (Kd.R_below (zq4 HO_5) hb);replace HB:=Aside0.mk (below_step (by exact zk1 HB) hb);clear hb hbox hg;have hcz19_0:w18.cell? ⟨gb683,0,none⟩=some (.int .i64 0):=(blk_cell BK683.out 0).trans rfl;have hcz19_1:w18.cell? ⟨gb683,1,none⟩=some (.int .i64 0):=(blk_cell BK683.out 1).trans rfl;have hcz19_2:w18.cell? ⟨gb683,2,none⟩=some (.int .i64 0):=(blk_cell BK683.out 2).trans rfl;have hfz19_0:=blk_frozen BK683.out 0;have hfz19_1:=blk_frozen BK683.out 1;have hfz19_2:=blk_frozen BK683.out 2)|((with_reducible refine gate_store (t:=79) (p:=8) rfl ?_);(try(rw [drewN_self w18];generalize hq_:World.drewN w18 _=w18;have n0_:=Aside0.mk (Kd.R_at hq_ HO_5.out);have n1_:=Aside0.mk (blk_at hq_ BK683.out);have n2_:=Aside0.mk (below_at hq_ HB.out);clear hq_ HO_5 BK683 HB;have HO_5:=n0_;have BK683:=n1_;have HB:=n2_;clear n0_ n1_ n2_));refine store_event (t:=79) (p:=8) (v:=?vo_w20) (w1:=(((w18.setCell ⟨gb683,0,none⟩ (.int .i64 ((rd_T79 l1 x25_3).f0))).setCell ⟨gb683,1,none⟩ (.int .i64 ((rd_T79 l1 x25_3).f1))).setCell ⟨gb683,2,none⟩ (.int .i64 ((rd_T79 l1 x25_3).f2)))) ?hg ?ho ?hn ?hr ?_;(case ho=>rfl);(case hg=>rfl);(case hn=>rfl);(case hr=>first|(go_simp;done)|(go_simp;rfl));intro w20 hw;have n0_:Aside0 (Kd.R (Kd.int .i64) 3 w20 w.heap.size (fun _=>True) (.slice Ao6 x5_3.length co6) x5_3):=⟨(by rw [hw];exact(by(with_reducible repeat(first|apply Kd.R_alloc|apply Kd.R_drewN|apply Kd.R_drew));exact Kd.R_mono (Kd.R_far (p:=⟨gb683,2,none⟩) (Kd.R_far (p:=⟨gb683,1,none⟩) (Kd.R_far (p:=⟨gb683,0,none⟩) (Kd.R_types HO_5.out BK683.out (by decide)) (fun _ hk=>hk.2) (.int .i64 ((rd_T79 l1 x25_3).f0))) (fun _ hk=>hk.2) (.int .i64 ((rd_T79 l1 x25_3).f1))) (fun _ hk=>hk.2) (.int .i64 ((rd_T79 l1 x25_3).f2))) (fun _ hk=>trivial)))⟩;have n1_:Aside0 (w20.heap[gb683]?=some (.cells #[.int .i64 ((rd_T79 l1 x25_3).f0),.int .i64 ((rd_T79 l1 x25_3).f1),.int .i64 ((rd_T79 l1 x25_3).f2)] 79 (0,0))):=⟨(by rw [hw];exact(by(with_reducible repeat(first|refine blk_drewN ?_ _|refine blk_drew ?_ |refine blk_alloc ?_ _));refine blk_put (cs:= #[.int .i64 ((rd_T79 l1 x25_3).f0),.int .i64 ((rd_T79 l1 x25_3).f1),.int .i64 0]) ?_ 2 _ rfl;(with_reducible repeat(first|refine blk_drewN ?_ _|refine blk_drew ?_ |refine blk_alloc ?_ _));refine blk_put (cs:= #[.int .i64 ((rd_T79 l1 x25_3).f0),.int .i64 0,.int .i64 0]) ?_ 1 _ rfl;(with_reducible repeat(first|refine blk_drewN ?_ _|refine blk_drew ?_ |refine blk_alloc ?_ _));refine blk_put (cs:= #[.int .i64 0,.int .i64 0,.int .i64 0]) ?_ 0 _ rfl;(with_reducible repeat(first|refine blk_drewN ?_ _|refine blk_drew ?_ |refine blk_alloc ?_ _));exact BK683.out))⟩;have n2_:Aside0 (Below w.heap.size w w20):=⟨(by rw [hw];exact(by exact zk2 HB GE683.out))⟩;clear hw;clear HO_5;clear BK683;clear HB;have HO_5:=n0_;have BK683:=n1_;have HB:=n2_;clear n0_ n1_ n2_;have hcz21_0:w20.cell? ⟨gb683,0,none⟩=some (.int .i64 ((rd_T79 l1 x25_3).f0)):=(blk_cell BK683.out 0).trans rfl;have hcz21_1:w20.cell? ⟨gb683,1,none⟩=some (.int .i64 ((rd_T79 l1 x25_3).f1)):=(blk_cell BK683.out 1).trans rfl;have hcz21_2:w20.cell? ⟨gb683,2,none⟩=some (.int .i64 ((rd_T79 l1 x25_3).f2)):=(blk_cell BK683.out 2).trans rfl;have hfz21_0:=blk_frozen BK683.out 0;have hfz21_1:=blk_frozen BK683.out 1;have hfz21_2:=blk_frozen BK683.out 2;have p684: 0≤ (((rd_T79 l1 x25_3).f0):Int):=of_decide_eq_true zq1;have q684:((rd_T79 l1 x25_3).f0)< (x5_3.length:Int):=of_decide_eq_true zq1;obtain⟨ad684,e684,hx684_0⟩:=Kd.at_int (Kd.R_reads' HO_5.out).2.2 ((rd_T79 l1 x25_3).f0) p684 q684;cases e684;replace p684:=eq_true p684;replace q684:=eq_true q684;have p685: 0≤ (((rd_T79 l1 x25_3).f1):Int):=of_decide_eq_true zq1;have q685:((rd_T79 l1 x25_3).f1)< (x5_3.length:Int):=of_decide_eq_true zq1;obtain⟨ad685,e685,hx685_0⟩:=Kd.at_int (Kd.R_reads' HO_5.out).2.2 ((rd_T79 l1 x25_3).f1) p685 q685;obtain rfl:ad684=ad685:=(by injection e685);replace p685:=eq_true p685;replace q685:=eq_true q685)|(go_at_call 99;(with_reducible refine(spec_l1Least.calls (rd x5_3 ((rd_T79 l1 x25_3).f0)) (rd x5_3 ((rd_T79 l1 x25_3).f1)) t686 _ A15.out).mono ?_);rintro e w' ⟨rfl,⟨nd,rfl⟩⟩;(try first|exact⟨rfl,_,World.drewN_drewN _ _ _⟩|exact⟨rfl,_,Eq.trans (World.drewN_drewN _ _ _) (congrArg (World.drewN _) (Nat.add_assoc _ _ _))⟩);have p16: 0≤ (((rd_T79 l1 x25_3).f0):Int):=of_decide_eq_true zq1;have q16:(((rd_T79 l1 x25_3).f0):Int)< ((x5_3.length:Int):Int):=of_decide_eq_true zq1;obtain⟨go16,co16,eo16,gb16,gl16,cl16,HG16⟩:=Kd.R_form HO_5.out (by omega);(first|cases eo16|(injection eo16 with ea_ en_ ec_;(first|subst ea_|(injection ea_ with ea_;subst ea_));subst ec_;clear en_));have GB16:=Aside0.mk gb16;have GG16:=Aside0.mk HG16;clear gb16 gl16 HG16;(first|simp only [add_plain] at hx684_0|skip);(first|simp only [add_plain] at hx685_0|skip);obtain⟨hx16_0,hf16_0⟩:=Kd.R_celln 0 HO_5.out (((rd_T79 l1 x25_3).f0):Int) p16 q16;replace p16:=eq_true p16;replace q16:=eq_true q16;obtain⟨hy22_,hz22_⟩:=Kd.R_celln 0 HO_5.out (((rd_T79 l1 x25_3).f0):Int) (of_decide_eq_true zq1) (of_decide_eq_true zq1);have HP22:=Kd.R_putg HO_5.out (((rd_T79 l1 x25_3).f0):Int) t686)|((with_reducible refine gate_store (t:=3) (p:=44) rfl ?_);(try(rw [drewN_self w20];generalize hq_:World.drewN w20 _=w20;have n0_:=Aside0.mk (Kd.R_at hq_ HO_5.out);have n1_:=Aside0.mk (blk_at hq_ BK683.out);have n2_:=Aside0.mk (below_at hq_ HB.out);clear hq_ HO_5 BK683 HB;have HO_5:=n0_;have BK683:=n1_;have HB:=n2_;clear n0_ n1_ n2_;(try(obtain⟨hy22_,hz22_⟩:=Kd.R_celln 0 HO_5.out (((rd_T79 l1 x25_3).f0):Int) (of_decide_eq_true zq1) (of_decide_eq_true zq1)));(try(have HP22:=Kd.R_putg HO_5.out (((rd_T79 l1 x25_3).f0):Int) t686))));refine store_event (t:=3) (p:=44) (v:=?vo_w23) (w1:=(w20.setCell ⟨go16,(((rd_T79 l1 x25_3).f0):Int).toNat,none⟩ (.int .i64 t686))) ?hg ?ho ?hn ?hr ?_;(case ho=>rfl);(case hg=>rfl);(case hn=>rfl);(case hr=>first|(go_simp;done)|(go_simp;rfl));intro w23 hw;have hg:w20.grownBy w23 (some go16):=(by rw [hw];exact HP22.2);have hp_:Kd.R (Kd.int .i64) 3 w23 w.heap.size (fun _=>True) (.slice (some ⟨go16,0,none⟩) x5_3.length co6) y687:=(by rw [hw,Ny687.out];exact HP22.1);clear HP22;replace BK683:=Aside0.mk (blk_grown (g:=gb683) (o:= .cells #[.int .i64 ((rd_T79 l1 x25_3).f0),.int .i64 ((rd_T79 l1 x25_3).f1),.int .i64 ((rd_T79 l1 x25_3).f2)] 79 (0,0)) (zq3 BK683) hg (Kd.R_ne HO_5.out BK683.out (by decide)));replace HO_5:=Aside0.mk (hp_);replace HB:=Aside0.mk ((by rw [hw];exact below_set (HB.out) GB16.out:Below w.heap.size w w23));clear hg hw hp_;have hcz24_0:w23.cell? ⟨gb683,0,none⟩=some (.int .i64 ((rd_T79 l1 x25_3).f0)):=(blk_cell BK683.out 0).trans rfl;have hcz24_1:w23.cell? ⟨gb683,1,none⟩=some (.int .i64 ((rd_T79 l1 x25_3).f1)):=(blk_cell BK683.out 1).trans rfl;have hcz24_2:w23.cell? ⟨gb683,2,none⟩=some (.int .i64 ((rd_T79 l1 x25_3).f2)):=(blk_cell BK683.out 2).trans rfl;have hfz24_0:=blk_frozen BK683.out 0;have hfz24_1:=blk_frozen BK683.out 1;have hfz24_2:=blk_frozen BK683.out 2;have p17: 0≤ (((rd_T79 l1 x25_3).f1):Int):=of_decide_eq_true zq1;have q17:(((rd_T79 l1 x25_3).f1):Int)< ((x5_3.length:Int):Int):=of_decide_eq_true zq1;obtain⟨hx17_0,hf17_0⟩:=Kd.R_celln 0 HO_5.out (((rd_T79 l1 x25_3).f1):Int) p17 q17;replace p17:=eq_true p17;replace q17:=eq_true q17;obtain⟨hy25_,hz25_⟩:=Kd.R_celln 0 HO_5.out (((rd_T79 l1 x25_3).f1):Int) (of_decide_eq_true zq1) (of_decide_eq_true zq1);have HP25:=Kd.R_putg HO_5.out (((rd_T79 l1 x25_3).f1):Int) t686)|((with_reducible refine gate_store (t:=3) (p:=49) rfl ?_);(try(rw [drewN_self w23];generalize hq_:World.drewN w23 _=w23;have n0_:=Aside0.mk (Kd.R_at hq_ HO_5.out);have n1_:=Aside0.mk (blk_at hq_ BK683.out);have n2_:=Aside0.mk (below_at hq_ HB.out);clear hq_ HO_5 BK683 HB;have HO_5:=n0_;have BK683:=n1_;have HB:=n2_;clear n0_ n1_ n2_;(try(obtain⟨hy25_,hz25_⟩:=Kd.R_celln 0 HO_5.out (((rd_T79 l1 x25_3).f1):Int) (of_decide_eq_true zq1) (of_decide_eq_true zq1)));(try(have HP25:=Kd.R_putg HO_5.out (((rd_T79 l1 x25_3).f1):Int) t686))));refine store_event (t:=3) (p:=49) (v:=?vo_w26) (w1:=(w23.setCell ⟨go16,(((rd_T79 l1 x25_3).f1):Int).toNat,none⟩ (.int .i64 t686))) ?hg ?ho ?hn ?hr ?_;(case ho=>rfl);(case hg=>rfl);(case hn=>rfl);(case hr=>first|(go_simp;done)|(go_simp;rfl));intro w26 hw;have hg:w23.grownBy w26 (some go16):=(by rw [hw];exact HP25.2);have hp_:Kd.R (Kd.int .i64) 3 w26 w.heap.size (fun _=>True) (.slice (some ⟨go16,0,none⟩) x5_3.length co6) y688:=(by rw [hw,Ny688.out];exact HP25.1);clear HP25;replace BK683:=Aside0.mk (blk_grown (g:=gb683) (o:= .cells #[.int .i64 ((rd_T79 l1 x25_3).f0),.int .i64 ((rd_T79 l1 x25_3).f1),.int .i64 ((rd_T79 l1 x25_3).f2)] 79 (0,0)) (zq3 BK683) hg (Kd.R_ne HO_5.out BK683.out (by decide)));replace HO_5:=Aside0.mk (hp_);replace HB:=Aside0.mk ((by rw [hw];exact below_set (HB.out) GB16.out:Below w.heap.size w w26));clear hg hw hp_))
          repeat(go_quiet (first|((with_reducible refine gate_dst (N:=8) rfl ?_);refine box_event ?hg (N:=8) ?hd (cs:= #[.int .i64 0,.int .i64 0,.int .i64 0]) (t:=79) ?hr ?_;(case hd=>rfl);(case hg=>rfl);(case hr=>first|(go_simp;done)|(go_simp;rfl));intro gb683 hg w18 hbox hb;have BK683:=Aside0.mk (hbox);have GW683:=Aside0.mk ((by rw [hg];exact(below_size (by exact zk1 HB)):w.heap.size≤gb683));have GE683:=Aside0.mk ((by rw [hg];exact(below_size (by exact zk1 HB)):w.heap.size≤gb683));replace HO_5:=Aside0.mk (Kd.R_below (zq4 HO_5) hb);replace HB:=Aside0.mk (below_step (by exact zk1 HB) hb);clear hb hbox hg;have hcz19_0:w18.cell? ⟨gb683,0,none⟩=some (.int .i64 0):=(blk_cell BK683.out 0).trans rfl;have hcz19_1:w18.cell? ⟨gb683,1,none⟩=some (.int .i64 0):=(blk_cell BK683.out 1).trans rfl;have hcz19_2:w18.cell? ⟨gb683,2,none⟩=some (.int .i64 0):=(blk_cell BK683.out 2).trans rfl;have hfz19_0:=blk_frozen BK683.out 0;have hfz19_1:=blk_frozen BK683.out 1;have hfz19_2:=blk_frozen BK683.out 2)|((with_reducible refine gate_store (t:=79) (p:=8) rfl ?_);(try(rw [drewN_self w18];generalize hq_:World.drewN w18 _=w18;have n0_:=Aside0.mk (Kd.R_at hq_ HO_5.out);have n1_:=Aside0.mk (blk_at hq_ BK683.out);have n2_:=Aside0.mk (below_at hq_ HB.out);clear hq_ HO_5 BK683 HB;have HO_5:=n0_;have BK683:=n1_;have HB:=n2_;clear n0_ n1_ n2_));refine store_event (t:=79) (p:=8) (v:=?vo_w20) (w1:=(((w18.setCell ⟨gb683,0,none⟩ (.int .i64 ((rd_T79 l1 x25_3).f0))).setCell ⟨gb683,1,none⟩ (.int .i64 ((rd_T79 l1 x25_3).f1))).setCell ⟨gb683,2,none⟩ (.int .i64 ((rd_T79 l1 x25_3).f2)))) ?hg ?ho ?hn ?hr ?_;(case ho=>rfl);(case hg=>rfl);(case hn=>rfl);(case hr=>first|(go_simp;done)|(go_simp;rfl));intro w20 hw;have n0_:Aside0 (Kd.R (Kd.int .i64) 3 w20 w.heap.size (fun _=>True) (.slice Ao6 x5_3.length co6) x5_3):=⟨(by rw [hw];exact(by(with_reducible repeat(first|apply Kd.R_alloc|apply Kd.R_drewN|apply Kd.R_drew));exact Kd.R_mono (Kd.R_far (p:=⟨gb683,2,none⟩) (Kd.R_far (p:=⟨gb683,1,none⟩) (Kd.R_far (p:=⟨gb683,0,none⟩) (Kd.R_types HO_5.out BK683.out (by decide)) (fun _ hk=>hk.2) (.int .i64 ((rd_T79 l1 x25_3).f0))) (fun _ hk=>hk.2) (.int .i64 ((rd_T79 l1 x25_3).f1))) (fun _ hk=>hk.2) (.int .i64 ((rd_T79 l1 x25_3).f2))) (fun _ hk=>trivial)))⟩;have n1_:Aside0 (w20.heap[gb683]?=some (.cells #[.int .i64 ((rd_T79 l1 x25_3).f0),.int .i64 ((rd_T79 l1 x25_3).f1),.int .i64 ((rd_T79 l1 x25_3).f2)] 79 (0,0))):=⟨(by rw [hw];exact(by(with_reducible repeat(first|refine blk_drewN ?_ _|refine blk_drew ?_ |refine blk_alloc ?_ _));refine blk_put (cs:= #[.int .i64 ((rd_T79 l1 x25_3).f0),.int .i64 ((rd_T79 l1 x25_3).f1),.int .i64 0]) ?_ 2 _ rfl;(with_reducible repeat(first|refine blk_drewN ?_ _|refine blk_drew ?_ |refine blk_alloc ?_ _));refine blk_put (cs:= #[.int .i64 ((rd_T79 l1 x25_3).f0),.int .i64 0,.int .i64 0]) ?_ 1 _ rfl;(with_reducible repeat(first|refine blk_drewN ?_ _|refine blk_drew ?_ |refine blk_alloc ?_ _));refine blk_put (cs:= #[.int .i64 0,.int .i64 0,.int .i64 0]) ?_ 0 _ rfl;(with_reducible repeat(first|refine blk_drewN ?_ _|refine blk_drew ?_ |refine blk_alloc ?_ _));exact BK683.out))⟩;have n2_:Aside0 (Below w.heap.size w w20):=⟨(by rw [hw];exact(by exact zk2 HB GE683.out))⟩;clear hw;clear HO_5;clear BK683;clear HB;have HO_5:=n0_;have BK683:=n1_;have HB:=n2_;clear n0_ n1_ n2_;have hcz21_0:w20.cell? ⟨gb683,0,none⟩=some (.int .i64 ((rd_T79 l1 x25_3).f0)):=(blk_cell BK683.out 0).trans rfl;have hcz21_1:w20.cell? ⟨gb683,1,none⟩=some (.int .i64 ((rd_T79 l1 x25_3).f1)):=(blk_cell BK683.out 1).trans rfl;have hcz21_2:w20.cell? ⟨gb683,2,none⟩=some (.int .i64 ((rd_T79 l1 x25_3).f2)):=(blk_cell BK683.out 2).trans rfl;have hfz21_0:=blk_frozen BK683.out 0;have hfz21_1:=blk_frozen BK683.out 1;have hfz21_2:=blk_frozen BK683.out 2;have p684: 0≤ (((rd_T79 l1 x25_3).f0):Int):=of_decide_eq_true zq1;have q684:((rd_T79 l1 x25_3).f0)< (x5_3.length:Int):=of_decide_eq_true zq1;obtain⟨ad684,e684,hx684_0⟩:=Kd.at_int (Kd.R_reads' HO_5.out).2.2 ((rd_T79 l1 x25_3).f0) p684 q684;cases e684;replace p684:=eq_true p684;replace q684:=eq_true q684;have p685: 0≤ (((rd_T79 l1 x25_3).f1):Int):=of_decide_eq_true zq1;have q685:((rd_T79 l1 x25_3).f1)< (x5_3.length:Int):=of_decide_eq_true zq1;obtain⟨ad685,e685,hx685_0⟩:=Kd.at_int (Kd.R_reads' HO_5.out).2.2 ((rd_T79 l1 x25_3).f1) p685 q685;obtain rfl:ad684=ad685:=(by injection e685);replace p685:=eq_true p685;replace q685:=eq_true q685)|(go_at_call 99;(with_reducible refine(spec_l1Least.calls (rd x5_3 ((rd_T79 l1 x25_3).f0)) (rd x5_3 ((rd_T79 l1 x25_3).f1)) t686 _ A15.out).mono ?_);rintro e w' ⟨rfl,⟨nd,rfl⟩⟩;(try first|exact⟨rfl,_,World.drewN_drewN _ _ _⟩|exact⟨rfl,_,Eq.trans (World.drewN_drewN _ _ _) (congrArg (World.drewN _) (Nat.add_assoc _ _ _))⟩);have p16: 0≤ (((rd_T79 l1 x25_3).f0):Int):=of_decide_eq_true zq1;have q16:(((rd_T79 l1 x25_3).f0):Int)< ((x5_3.length:Int):Int):=of_decide_eq_true zq1;obtain⟨go16,co16,eo16,gb16,gl16,cl16,HG16⟩:=Kd.R_form HO_5.out (by omega);(first|cases eo16|(injection eo16 with ea_ en_ ec_;(first|subst ea_|(injection ea_ with ea_;subst ea_));subst ec_;clear en_));have GB16:=Aside0.mk gb16;have GG16:=Aside0.mk HG16;clear gb16 gl16 HG16;(first|simp only [add_plain] at hx684_0|skip);(first|simp only [add_plain] at hx685_0|skip);obtain⟨hx16_0,hf16_0⟩:=Kd.R_celln 0 HO_5.out (((rd_T79 l1 x25_3).f0):Int) p16 q16;replace p16:=eq_true p16;replace q16:=eq_true q16;obtain⟨hy22_,hz22_⟩:=Kd.R_celln 0 HO_5.out (((rd_T79 l1 x25_3).f0):Int) (of_decide_eq_true zq1) (of_decide_eq_true zq1);have HP22:=Kd.R_putg HO_5.out (((rd_T79 l1 x25_3).f0):Int) t686)|((with_reducible refine gate_store (t:=3) (p:=44) rfl ?_);(try(rw [drewN_self w20];generalize hq_:World.drewN w20 _=w20;have n0_:=Aside0.mk (Kd.R_at hq_ HO_5.out);have n1_:=Aside0.mk (blk_at hq_ BK683.out);have n2_:=Aside0.mk (below_at hq_ HB.out);clear hq_ HO_5 BK683 HB;have HO_5:=n0_;have BK683:=n1_;have HB:=n2_;clear n0_ n1_ n2_;(try(obtain⟨hy22_,hz22_⟩:=Kd.R_celln 0 HO_5.out (((rd_T79 l1 x25_3).f0):Int) (of_decide_eq_true zq1) (of_decide_eq_true zq1)));(try(have HP22:=Kd.R_putg HO_5.out (((rd_T79 l1 x25_3).f0):Int) t686))));refine store_event (t:=3) (p:=44) (v:=?vo_w23) (w1:=(w20.setCell ⟨go16,(((rd_T79 l1 x25_3).f0):Int).toNat,none⟩ (.int .i64 t686))) ?hg ?ho ?hn ?hr ?_;(case ho=>rfl);(case hg=>rfl);(case hn=>rfl);(case hr=>first|(go_simp;done)|(go_simp;rfl));intro w23 hw;have hg:w20.grownBy w23 (some go16):=(by rw [hw];exact HP22.2);have hp_:Kd.R (Kd.int .i64) 3 w23 w.heap.size (fun _=>True) (.slice (some ⟨go16,0,none⟩) x5_3.length co6) y687:=(by rw [hw,Ny687.out];exact HP22.1);clear HP22;replace BK683:=Aside0.mk (blk_grown (g:=gb683) (o:= .cells #[.int .i64 ((rd_T79 l1 x25_3).f0),.int .i64 ((rd_T79 l1 x25_3).f1),.int .i64 ((rd_T79 l1 x25_3).f2)] 79 (0,0)) (zq3 BK683) hg (Kd.R_ne HO_5.out BK683.out (by decide)));replace HO_5:=Aside0.mk (hp_);replace HB:=Aside0.mk ((by rw [hw];exact below_set (HB.out) GB16.out:Below w.heap.size w w23));clear hg hw hp_;have hcz24_0:w23.cell? ⟨gb683,0,none⟩=some (.int .i64 ((rd_T79 l1 x25_3).f0)):=(blk_cell BK683.out 0).trans rfl;have hcz24_1:w23.cell? ⟨gb683,1,none⟩=some (.int .i64 ((rd_T79 l1 x25_3).f1)):=(blk_cell BK683.out 1).trans rfl;have hcz24_2:w23.cell? ⟨gb683,2,none⟩=some (.int .i64 ((rd_T79 l1 x25_3).f2)):=(blk_cell BK683.out 2).trans rfl;have hfz24_0:=blk_frozen BK683.out 0;have hfz24_1:=blk_frozen BK683.out 1;have hfz24_2:=blk_frozen BK683.out 2;have p17: 0≤ (((rd_T79 l1 x25_3).f1):Int):=of_decide_eq_true zq1;have q17:(((rd_T79 l1 x25_3).f1):Int)< ((x5_3.length:Int):Int):=of_decide_eq_true zq1;obtain⟨hx17_0,hf17_0⟩:=Kd.R_celln 0 HO_5.out (((rd_T79 l1 x25_3).f1):Int) p17 q17;replace p17:=eq_true p17;replace q17:=eq_true q17;obtain⟨hy25_,hz25_⟩:=Kd.R_celln 0 HO_5.out (((rd_T79 l1 x25_3).f1):Int) (of_decide_eq_true zq1) (of_decide_eq_true zq1);have HP25:=Kd.R_putg HO_5.out (((rd_T79 l1 x25_3).f1):Int) t686)|((with_reducible refine gate_store (t:=3) (p:=49) rfl ?_);(try(rw [drewN_self w23];generalize hq_:World.drewN w23 _=w23;have n0_:=Aside0.mk (Kd.R_at hq_ HO_5.out);have n1_:=Aside0.mk (blk_at hq_ BK683.out);have n2_:=Aside0.mk (below_at hq_ HB.out);clear hq_ HO_5 BK683 HB;have HO_5:=n0_;have BK683:=n1_;have HB:=n2_;clear n0_ n1_ n2_;(try(obtain⟨hy25_,hz25_⟩:=Kd.R_celln 0 HO_5.out (((rd_T79 l1 x25_3).f1):Int) (of_decide_eq_true zq1) (of_decide_eq_true zq1)));(try(have HP25:=Kd.R_putg HO_5.out (((rd_T79 l1 x25_3).f1):Int) t686))));refine store_event (t:=3) (p:=49) (v:=?vo_w26) (w1:=(w23.setCell ⟨go16,(((rd_T79 l1 x25_3).f1):Int).toNat,none⟩ (.int .i64 t686))) ?hg ?ho ?hn ?hr ?_;(case ho=>rfl);(case hg=>rfl);(case hn=>rfl);(case hr=>first|(go_simp;done)|(go_simp;rfl));intro w26 hw;have hg:w23.grownBy w26 (some go16):=(by rw [hw];exact HP25.2);have hp_:Kd.R (Kd.int .i64) 3 w26 w.heap.size (fun _=>True) (.slice (some ⟨go16,0,none⟩) x5_3.length co6) y688:=(by rw [hw,Ny688.out];exact HP25.1);clear HP25;replace BK683:=Aside0.mk (blk_grown (g:=gb683) (o:= .cells #[.int .i64 ((rd_T79 l1 x25_3).f0),.int .i64 ((rd_T79 l1 x25_3).f1),.int .i64 ((rd_T79 l1 x25_3).f2)] 79 (0,0)) (zq3 BK683) hg (Kd.R_ne HO_5.out BK683.out (by decide)));replace HO_5:=Aside0.mk (hp_);replace HB:=Aside0.mk ((by rw [hw];exact below_set (HB.out) GB16.out:Below w.heap.size w w26));clear hg hw hp_));try go_wp2_with (first|((with_reducible refine gate_dst (N:=8) rfl ?_);refine box_event ?hg (N:=8) ?hd (cs:= #[.int .i64 0,.int .i64 0,.int .i64 0]) (t:=79) ?hr ?_;(case hd=>rfl);(case hg=>rfl);(case hr=>first|(go_simp;done)|(go_simp;rfl));intro gb683 hg w18 hbox hb;have BK683:=Aside0.mk (hbox);have GW683:=Aside0.mk ((by rw [hg];exact(below_size (by exact zk1 HB)):w.heap.size≤gb683));have GE683:=Aside0.mk ((by rw [hg];exact(below_size (by exact zk1 HB)):w.heap.size≤gb683));replace HO_5:=Aside0.mk (Kd.R_below (zq4 HO_5) hb);replace HB:=Aside0.mk (below_step (by exact zk1 HB) hb);clear hb hbox hg;have hcz19_0:w18.cell? ⟨gb683,0,none⟩=some (.int .i64 0):=(blk_cell BK683.out 0).trans rfl;have hcz19_1:w18.cell? ⟨gb683,1,none⟩=some (.int .i64 0):=(blk_cell BK683.out 1).trans rfl;have hcz19_2:w18.cell? ⟨gb683,2,none⟩=some (.int .i64 0):=(blk_cell BK683.out 2).trans rfl;have hfz19_0:=blk_frozen BK683.out 0;have hfz19_1:=blk_frozen BK683.out 1;have hfz19_2:=blk_frozen BK683.out 2)|((with_reducible refine gate_store (t:=79) (p:=8) rfl ?_);(try(rw [drewN_self w18];generalize hq_:World.drewN w18 _=w18;have n0_:=Aside0.mk (Kd.R_at hq_ HO_5.out);have n1_:=Aside0.mk (blk_at hq_ BK683.out);have n2_:=Aside0.mk (below_at hq_ HB.out);clear hq_ HO_5 BK683 HB;have HO_5:=n0_;have BK683:=n1_;have HB:=n2_;clear n0_ n1_ n2_));refine store_event (t:=79) (p:=8) (v:=?vo_w20) (w1:=(((w18.setCell ⟨gb683,0,none⟩ (.int .i64 ((rd_T79 l1 x25_3).f0))).setCell ⟨gb683,1,none⟩ (.int .i64 ((rd_T79 l1 x25_3).f1))).setCell ⟨gb683,2,none⟩ (.int .i64 ((rd_T79 l1 x25_3).f2)))) ?hg ?ho ?hn ?hr ?_;(case ho=>rfl);(case hg=>rfl);(case hn=>rfl);(case hr=>first|(go_simp;done)|(go_simp;rfl));intro w20 hw;have n0_:Aside0 (Kd.R (Kd.int .i64) 3 w20 w.heap.size (fun _=>True) (.slice Ao6 x5_3.length co6) x5_3):=⟨(by rw [hw];exact(by(with_reducible repeat(first|apply Kd.R_alloc|apply Kd.R_drewN|apply Kd.R_drew));exact Kd.R_mono (Kd.R_far (p:=⟨gb683,2,none⟩) (Kd.R_far (p:=⟨gb683,1,none⟩) (Kd.R_far (p:=⟨gb683,0,none⟩) (Kd.R_types HO_5.out BK683.out (by decide)) (fun _ hk=>hk.2) (.int .i64 ((rd_T79 l1 x25_3).f0))) (fun _ hk=>hk.2) (.int .i64 ((rd_T79 l1 x25_3).f1))) (fun _ hk=>hk.2) (.int .i64 ((rd_T79 l1 x25_3).f2))) (fun _ hk=>trivial)))⟩;have n1_:Aside0 (w20.heap[gb683]?=some (.cells #[.int .i64 ((rd_T79 l1 x25_3).f0),.int .i64 ((rd_T79 l1 x25_3).f1),.int .i64 ((rd_T79 l1 x25_3).f2)] 79 (0,0))):=⟨(by rw [hw];exact(by(with_reducible repeat(first|refine blk_drewN ?_ _|refine blk_drew ?_ |refine blk_alloc ?_ _));refine blk_put (cs:= #[.int .i64 ((rd_T79 l1 x25_3).f0),.int .i64 ((rd_T79 l1 x25_3).f1),.int .i64 0]) ?_ 2 _ rfl;(with_reducible repeat(first|refine blk_drewN ?_ _|refine blk_drew ?_ |refine blk_alloc ?_ _));refine blk_put (cs:= #[.int .i64 ((rd_T79 l1 x25_3).f0),.int .i64 0,.int .i64 0]) ?_ 1 _ rfl;(with_reducible repeat(first|refine blk_drewN ?_ _|refine blk_drew ?_ |refine blk_alloc ?_ _));refine blk_put (cs:= #[.int .i64 0,.int .i64 0,.int .i64 0]) ?_ 0 _ rfl;(with_reducible repeat(first|refine blk_drewN ?_ _|refine blk_drew ?_ |refine blk_alloc ?_ _));exact BK683.out))⟩;have n2_:Aside0 (Below w.heap.size w w20):=⟨(by rw [hw];exact(by exact zk2 HB GE683.out))⟩;clear hw;clear HO_5;clear BK683;clear HB;have HO_5:=n0_;have BK683:=n1_;have HB:=n2_;clear n0_ n1_ n2_;have hcz21_0:w20.cell? ⟨gb683,0,none⟩=some (.int .i64 ((rd_T79 l1 x25_3).f0)):=(blk_cell BK683.out 0).trans rfl;have hcz21_1:w20.cell? ⟨gb683,1,none⟩=some (.int .i64 ((rd_T79 l1 x25_3).f1)):=(blk_cell BK683.out 1).trans rfl;have hcz21_2:w20.cell? ⟨gb683,2,none⟩=some (.int .i64 ((rd_T79 l1 x25_3).f2)):=(blk_cell BK683.out 2).trans rfl;have hfz21_0:=blk_frozen BK683.out 0;have hfz21_1:=blk_frozen BK683.out 1;have hfz21_2:=blk_frozen BK683.out 2;have p684: 0≤ (((rd_T79 l1 x25_3).f0):Int):=of_decide_eq_true zq1;have q684:((rd_T79 l1 x25_3).f0)< (x5_3.length:Int):=of_decide_eq_true zq1;obtain⟨ad684,e684,hx684_0⟩:=Kd.at_int (Kd.R_reads' HO_5.out).2.2 ((rd_T79 l1 x25_3).f0) p684 q684;cases e684;replace p684:=eq_true p684;replace q684:=eq_true q684;have p685: 0≤ (((rd_T79 l1 x25_3).f1):Int):=of_decide_eq_true zq1;have q685:((rd_T79 l1 x25_3).f1)< (x5_3.length:Int):=of_decide_eq_true zq1;obtain⟨ad685,e685,hx685_0⟩:=Kd.at_int (Kd.R_reads' HO_5.out).2.2 ((rd_T79 l1 x25_3).f1) p685 q685;obtain rfl:ad684=ad685:=(by injection e685);replace p685:=eq_true p685;replace q685:=eq_true q685)|(go_at_call 99;(with_reducible refine(spec_l1Least.calls (rd x5_3 ((rd_T79 l1 x25_3).f0)) (rd x5_3 ((rd_T79 l1 x25_3).f1)) t686 _ A15.out).mono ?_);rintro e w' ⟨rfl,⟨nd,rfl⟩⟩;(try first|exact⟨rfl,_,World.drewN_drewN _ _ _⟩|exact⟨rfl,_,Eq.trans (World.drewN_drewN _ _ _) (congrArg (World.drewN _) (Nat.add_assoc _ _ _))⟩);have p16: 0≤ (((rd_T79 l1 x25_3).f0):Int):=of_decide_eq_true zq1;have q16:(((rd_T79 l1 x25_3).f0):Int)< ((x5_3.length:Int):Int):=of_decide_eq_true zq1;obtain⟨go16,co16,eo16,gb16,gl16,cl16,HG16⟩:=Kd.R_form HO_5.out (by omega);(first|cases eo16|(injection eo16 with ea_ en_ ec_;(first|subst ea_|(injection ea_ with ea_;subst ea_));subst ec_;clear en_));have GB16:=Aside0.mk gb16;have GG16:=Aside0.mk HG16;clear gb16 gl16 HG16;(first|simp only [add_plain] at hx684_0|skip);(first|simp only [add_plain] at hx685_0|skip);obtain⟨hx16_0,hf16_0⟩:=Kd.R_celln 0 HO_5.out (((rd_T79 l1 x25_3).f0):Int) p16 q16;replace p16:=eq_true p16;replace q16:=eq_true q16;obtain⟨hy22_,hz22_⟩:=Kd.R_celln 0 HO_5.out (((rd_T79 l1 x25_3).f0):Int) (of_decide_eq_true zq1) (of_decide_eq_true zq1);have HP22:=Kd.R_putg HO_5.out (((rd_T79 l1 x25_3).f0):Int) t686)|((with_reducible refine gate_store (t:=3) (p:=44) rfl ?_);(try(rw [drewN_self w20];generalize hq_:World.drewN w20 _=w20;have n0_:=Aside0.mk (Kd.R_at hq_ HO_5.out);have n1_:=Aside0.mk (blk_at hq_ BK683.out);have n2_:=Aside0.mk (below_at hq_ HB.out);clear hq_ HO_5 BK683 HB;have HO_5:=n0_;have BK683:=n1_;have HB:=n2_;clear n0_ n1_ n2_;(try(obtain⟨hy22_,hz22_⟩:=Kd.R_celln 0 HO_5.out (((rd_T79 l1 x25_3).f0):Int) (of_decide_eq_true zq1) (of_decide_eq_true zq1)));(try(have HP22:=Kd.R_putg HO_5.out (((rd_T79 l1 x25_3).f0):Int) t686))));refine store_event (t:=3) (p:=44) (v:=?vo_w23) (w1:=(w20.setCell ⟨go16,(((rd_T79 l1 x25_3).f0):Int).toNat,none⟩ (.int .i64 t686))) ?hg ?ho ?hn ?hr ?_;(case ho=>rfl);(case hg=>rfl);(case hn=>rfl);(case hr=>first|(go_simp;done)|(go_simp;rfl));intro w23 hw;have hg:w20.grownBy w23 (some go16):=(by rw [hw];exact HP22.2);have hp_:Kd.R (Kd.int .i64) 3 w23 w.heap.size (fun _=>True) (.slice (some ⟨go16,0,none⟩) x5_3.length co6) y687:=(by rw [hw,Ny687.out];exact HP22.1);clear HP22;replace BK683:=Aside0.mk (blk_grown (g:=gb683) (o:= .cells #[.int .i64 ((rd_T79 l1 x25_3).f0),.int .i64 ((rd_T79 l1 x25_3).f1),.int .i64 ((rd_T79 l1 x25_3).f2)] 79 (0,0)) (zq3 BK683) hg (Kd.R_ne HO_5.out BK683.out (by decide)));replace HO_5:=Aside0.mk (hp_);replace HB:=Aside0.mk ((by rw [hw];exact below_set (HB.out) GB16.out:Below w.heap.size w w23));clear hg hw hp_;have hcz24_0:w23.cell? ⟨gb683,0,none⟩=some (.int .i64 ((rd_T79 l1 x25_3).f0)):=(blk_cell BK683.out 0).trans rfl;have hcz24_1:w23.cell? ⟨gb683,1,none⟩=some (.int .i64 ((rd_T79 l1 x25_3).f1)):=(blk_cell BK683.out 1).trans rfl;have hcz24_2:w23.cell? ⟨gb683,2,none⟩=some (.int .i64 ((rd_T79 l1 x25_3).f2)):=(blk_cell BK683.out 2).trans rfl;have hfz24_0:=blk_frozen BK683.out 0;have hfz24_1:=blk_frozen BK683.out 1;have hfz24_2:=blk_frozen BK683.out 2;have p17: 0≤ (((rd_T79 l1 x25_3).f1):Int):=of_decide_eq_true zq1;have q17:(((rd_T79 l1 x25_3).f1):Int)< ((x5_3.length:Int):Int):=of_decide_eq_true zq1;obtain⟨hx17_0,hf17_0⟩:=Kd.R_celln 0 HO_5.out (((rd_T79 l1 x25_3).f1):Int) p17 q17;replace p17:=eq_true p17;replace q17:=eq_true q17;obtain⟨hy25_,hz25_⟩:=Kd.R_celln 0 HO_5.out (((rd_T79 l1 x25_3).f1):Int) (of_decide_eq_true zq1) (of_decide_eq_true zq1);have HP25:=Kd.R_putg HO_5.out (((rd_T79 l1 x25_3).f1):Int) t686)|((with_reducible refine gate_store (t:=3) (p:=49) rfl ?_);(try(rw [drewN_self w23];generalize hq_:World.drewN w23 _=w23;have n0_:=Aside0.mk (Kd.R_at hq_ HO_5.out);have n1_:=Aside0.mk (blk_at hq_ BK683.out);have n2_:=Aside0.mk (below_at hq_ HB.out);clear hq_ HO_5 BK683 HB;have HO_5:=n0_;have BK683:=n1_;have HB:=n2_;clear n0_ n1_ n2_;(try(obtain⟨hy25_,hz25_⟩:=Kd.R_celln 0 HO_5.out (((rd_T79 l1 x25_3).f1):Int) (of_decide_eq_true zq1) (of_decide_eq_true zq1)));(try(have HP25:=Kd.R_putg HO_5.out (((rd_T79 l1 x25_3).f1):Int) t686))));refine store_event (t:=3) (p:=49) (v:=?vo_w26) (w1:=(w23.setCell ⟨go16,(((rd_T79 l1 x25_3).f1):Int).toNat,none⟩ (.int .i64 t686))) ?hg ?ho ?hn ?hr ?_;(case ho=>rfl);(case hg=>rfl);(case hn=>rfl);(case hr=>first|(go_simp;done)|(go_simp;rfl));intro w26 hw;have hg:w23.grownBy w26 (some go16):=(by rw [hw];exact HP25.2);have hp_:Kd.R (Kd.int .i64) 3 w26 w.heap.size (fun _=>True) (.slice (some ⟨go16,0,none⟩) x5_3.length co6) y688:=(by rw [hw,Ny688.out];exact HP25.1);clear HP25;replace BK683:=Aside0.mk (blk_grown (g:=gb683) (o:= .cells #[.int .i64 ((rd_T79 l1 x25_3).f0),.int .i64 ((rd_T79 l1 x25_3).f1),.int .i64 ((rd_T79 l1 x25_3).f2)] 79 (0,0)) (zq3 BK683) hg (Kd.R_ne HO_5.out BK683.out (by decide)));replace HO_5:=Aside0.mk (hp_);replace HB:=Aside0.mk ((by rw [hw];exact below_set (HB.out) GB16.out:Below w.heap.size w w26));clear hg hw hp_)))
          (try simp only [← hl5_3])
          go_roundg k3
          case measure=>have:=HK1.out;have:=HK2.out;have:=HK3.out;omega
          case rel=>exact⟨(y688),(wrap64 (x25_3+1)),(by first|rfl|(simp;done)|(simp [*];done)),H',⟨by have:=HK1.out;have:=HK2.out;have:=HK3.out;omega⟩,⟨by(try simp only [hl5_2]);(try simp only [hl5_3]);(with_reducible repeat(first|apply Kd.R_alloc|apply Kd.R_drewN|apply Kd.R_drew));exact HO_5.out⟩,⟨by exact zk2 HB GE683.out⟩⟩
         ·rw [if_neg c8] at H
          have c8b0:decide (x25_3< (l1.length:Int))=false:=decide_eq_false c8
          (try(have c8b0L:=c8b0;simp only [hl5_2] at c8b0L))
          (try(have c8b0L:=c8b0;simp only [hl5_3] at c8b0L))
          clear c8
          have H':=Aside0.mk H
          clear H
          go_wp2
          repeat(go_quiet (fail);try go_wp2)
          (try simp only [← hl5_2,← hl5_3])
          go_roundg k3
          case measure=>have:=HK1.out;have:=HK2.out;have:=HK3.out;omega
          case rel=>exact⟨(x5_3),(wrap64 (x21_2+1)),(by first|rfl|(simp;done)|(simp [*];done)),H',⟨by have:=HK1.out;have:=HK2.out;have:=HK3.out;omega⟩,⟨by(try simp only [hl5_2]);(try simp only [hl5_3]);(with_reducible repeat(first|apply Kd.R_alloc|apply Kd.R_drewN|apply Kd.R_drew));exact HO_5.out⟩,⟨by exact zk1 HB⟩⟩
      ·rw [if_neg c7] at H
       have c7b0:decide (x21_2< (x5_1.length:Int))=false:=decide_eq_false c7
       (try(have c7b0L:=c7b0;simp only [hl5_2] at c7b0L))
       (try(have c7b0L:=c7b0;simp only [hl5_3] at c7b0L))
       clear c7
       obtain rfl:=Option.some.inj H
       go_wp2
       repeat(go_quiet (fail);try go_wp2)
       go_ret
       exact⟨_,by first|rfl|(simp [errW_none,errW_some]<;>rfl)|(simp [*,errW_none,errW_some]<;>rfl),by(with_reducible repeat(first|apply Kd.R_alloc|apply Kd.R_drewN|apply Kd.R_drew));exact HO_5.out,by exact zk1 HB⟩
mutual
def spec_LeastTree.l0:Nat→Int→List (S79)→List (S79)→Int→Int→Option ((List (S79)) × Int × Bool)
 | 0,_,_,_,_,_=>none
 |k+1,x0,x1,x7,x8,x9=>if x9≤100 then(spec_LeastTree.l1 k x0 x1 x7 x8 x9 x1 (x1.length:Int) 0) else(some (x7,x8,true))
def spec_LeastTree.l1:Nat→Int→List (S79)→List (S79)→Int→Int→List (S79)→Int→Int→Option ((List (S79)) × Int × Bool)
 | 0,_,_,_,_,_,_,_,_=>none
 |k+1,x0,x1,x7,x8,x9,x21,x22,x23=>if x23<x22 then(if 0≤x23 then(if x23< (x21.length:Int) then((spec_l8Groups.f k x0 x7).bind fun t692=>(if ((rd_T79 x21 x23).f2)=x9 then(if 0≤ ((rd_T79 x21 x23).f0) then(if ((rd_T79 x21 x23).f0)< (t692.length:Int) then(if 0≤ ((rd_T79 x21 x23).f1) then(if ((rd_T79 x21 x23).f1)< (t692.length:Int) then(if (rd t692 ((rd_T79 x21 x23).f0))= (rd t692 ((rd_T79 x21 x23).f1)) then(spec_LeastTree.l1 k x0 x1 x7 x8 x9 x21 x22 (wrap64 (x23+1))) else(if x7.length< 5864062014805 then(spec_LeastTree.l1 k x0 x1 (x7++ [(⟨(rd_T79 x21 x23).f0,(rd_T79 x21 x23).f1,(rd_T79 x21 x23).f2⟩ :S79)]) (wrap64 (x8+x9)) x9 x21 x22 (wrap64 (x23+1))) else(none))) else(none)) else(none)) else(none)) else(none)) else(spec_LeastTree.l1 k x0 x1 x7 x8 x9 x21 x22 (wrap64 (x23+1))))) else(none)) else(none)) else(spec_LeastTree.l0 k x0 x1 x7 x8 (wrap64 (x9+1)))
end
def spec_LeastTree.f (k:Nat) (a0:Int) (l1:List (S79)):Option ((List (S79)) × Int × Bool):=(spec_GoodEdges.f k a0 l1).bind fun t689=>(if t689=true then(spec_LeastTree.l0 k a0 l1 ([] :List (S79)) 0 1) else(some (([] :List (S79)),0,false)))
theorem zcc {q p:Prop} (b:q) (h:q→p:=by intro z;repeat(first|exact z|(with_reducible refine Kd.C_alloc ?_ _)|(with_reducible refine Kd.C_drewN ?_ _)|(with_reducible refine Kd.C_drew ?_))):p:=h b
set_option maxHeartbeats 8000000 in
set_option maxRecDepth 100000 in
theorem spec_LeastTree.calls (k:Nat) (a0:Int) (A1:Option Addr) (c1:Nat) (l1:List (S79)) (r1:List (S79)) (r2:Int) (r3:Bool) (w:World) (hr1:Kd.C k79 w A1 l1.length l1) (hc1:l1.length≤c1) (h:spec_LeastTree.f k a0 l1=some (r1,r2,r3)):
  Calls Try.prog 41 #[.int .i64 a0,.slice A1 l1.length c1] w fun e w'=> ∃ v0_:Value,e= .returned (.tuple #[v0_,.int .i64 r2,.bool r3])∧Kd.R k79 79 w' w.heap.size (fun _=>True) v0_ r1∧Below w.heap.size w w':=by
 have hu79:=Try.underlying79
 have HR1:=Aside0.mk hr1
 have HC1:=Aside0.mk hc1
 clear hr1 hc1
 have HB:=Aside0.mk (Below.refl w.heap.size w)
 have H:((spec_GoodEdges.f k a0 l1).bind fun t689=>(if t689=true then(spec_LeastTree.l0 k a0 l1 ([] :List (S79)) 0 1) else(some (([] :List (S79)),0,false))))=some (r1,r2,r3):=h
 clear h
 replace H:=Option.bind_eq_some_iff.mp H
 obtain⟨t689,A30,H⟩:=H
 replace H:(if t689=true then(spec_LeastTree.l0 k a0 l1 ([] :List (S79)) 0 1) else(some (([] :List (S79)),0,false)))=some (r1,r2,r3):=H
 have A3:=Aside0.mk A30
 clear A30
 by_cases c4:t689=true
 ·subst c4
  have H1:(spec_LeastTree.l0 k a0 l1 ([] :List (S79)) 0 1)=some (r1,r2,r3):=by rw [if_pos rfl] at H;exact H
  clear H
  have H:=H1
  clear H1
  have H':=Aside0.mk H
  clear H
  go_enter Try.func41,Try.ntmps41
  go_wp2_with (first|(go_at_call 66;(with_reducible refine(spec_GoodEdges.calls k a0 _ _ l1 true _ ?side1 ?side2 A3.out).mono ?_);(case side1=>exact zcc (HR1.out));(case side2=>exact HC1.out);rintro e w5 ⟨rfl,hb⟩;replace HB:=Aside0.mk (below_step (by exact zk1 HB) hb);(try clear hb);(try clear hb2);(try clear hk);(try clear hi)))
  repeat(go_quiet (first|(go_at_call 66;(with_reducible refine(spec_GoodEdges.calls k a0 _ _ l1 true _ ?side1 ?side2 A3.out).mono ?_);(case side1=>exact zcc (HR1.out));(case side2=>exact HC1.out);rintro e w5 ⟨rfl,hb⟩;replace HB:=Aside0.mk (below_step (by exact zk1 HB) hb);(try clear hb);(try clear hb2);(try clear hk);(try clear hi)));try go_wp2_with (first|(go_at_call 66;(with_reducible refine(spec_GoodEdges.calls k a0 _ _ l1 true _ ?side1 ?side2 A3.out).mono ?_);(case side1=>exact zcc (HR1.out));(case side2=>exact HC1.out);rintro e w5 ⟨rfl,hb⟩;replace HB:=Aside0.mk (below_step (by exact zk1 HB) hb);(try clear hb);(try clear hb2);(try clear hk);(try clear hi))))
  go_loopg [7,8,9] k (fun kq v7 v8 v9 w'=> ∃ (x7_1:List (S79)) (x8_1:Int) (x9_1:Int),v8= .int .i64 x8_1∧v9= .int .i64 x9_1∧Aside0 (spec_LeastTree.l0 kq a0 l1 x7_1 x8_1 x9_1=some (r1,r2,r3))∧Aside0 (kq≤k)∧Aside0 (Kd.R k79 79 w' w.heap.size (fun _=>True) v7 x7_1)∧Aside0 (Below w.heap.size w w'))
  case atStart=>exact⟨(([] :List (S79))),(0),(1),(by first|rfl|(simp;done)|(simp [*];done)),(by first|rfl|(simp;done)|(simp [*];done)),H',⟨Nat.le_refl _⟩,⟨by first|exact Kd.R_nil _ _ _ _ _|exact Kd.N_nil _ _ _ _ _|exact Kd.V_nil _ _ _ _ _|exact Kd.Q_nil _ _ _ _ _|exact Kd.S_nil _ _ _ _ _⟩,⟨by exact zk1 HB⟩⟩
  case round=>
   clear H'
   try clear c1
   try clear p2
   try clear c4
   obtain⟨x7_1,x8_1,x9_1,rfl,rfl,HA,HK1,HO_7,HB⟩:=hrel
   cases gk with
   |zero=>exact absurd HA.out (by simp [spec_LeastTree.l0])
   |succ k1=>
    have H:=HA.out
    clear HA
    simp only [spec_LeastTree.l0] at H
    by_cases c6:x9_1≤100
    ·rw [if_pos c6] at H
     have c6b0:decide (x9_1≤100)=true:=decide_eq_true c6
     clear c6
     have H':=Aside0.mk H
     clear H
     go_wp2
     repeat(go_quiet (fail);try go_wp2)
     go_loopg [7,8,23] k1 (fun kq v7 v8 v23 w'=> ∃ (x7_2:List (S79)) (x8_2:Int) (x23_2:Int),v8= .int .i64 x8_2∧v23= .int .i64 x23_2∧Aside0 (spec_LeastTree.l1 kq a0 l1 x7_2 x8_2 x9_1 l1 (l1.length:Int) x23_2=some (r1,r2,r3))∧Aside0 (kq≤k1)∧Aside0 (Kd.R k79 79 w' w.heap.size (fun _=>True) v7 x7_2)∧Aside0 (Below w.heap.size w w'))
     case atStart=>exact⟨(x7_1),(x8_1),(0),(by first|rfl|(simp;done)|(simp [*];done)),(by first|rfl|(simp;done)|(simp [*];done)),H',⟨Nat.le_refl _⟩,⟨by(with_reducible repeat(first|apply Kd.R_alloc|apply Kd.R_drewN|apply Kd.R_drew));exact HO_7.out⟩,⟨by exact zk1 HB⟩⟩
     case round=>
      clear H'
      try clear c1
      try clear p2
      try clear c4
      try clear c6
      try clear c6b0
      try clear p2
      obtain⟨x7_2,x8_2,x23_2,rfl,rfl,HA,HK2,HO_7,HB⟩:=hrel
      cases gk with
      |zero=>exact absurd HA.out (by simp [spec_LeastTree.l1])
      |succ k2=>
       have H:=HA.out
       clear HA
       simp only [spec_LeastTree.l1] at H
       by_cases c7:x23_2< (l1.length:Int)
       ·rw [if_pos c7] at H
        have c7b0:decide (x23_2< (l1.length:Int))=true:=decide_eq_true c7
        clear c7
        by_cases c8: 0≤x23_2
        case neg=>rw [if_neg c8] at H;exact absurd H (by simp)
        rw [if_pos c8] at H
        have c8b0:decide (0≤x23_2)=true:=decide_eq_true c8
        clear c8
        by_cases c9:x23_2< (l1.length:Int)
        case neg=>rw [if_neg c9] at H;exact absurd H (by simp)
        rw [if_pos c9] at H
        have c9b0:decide (x23_2< (l1.length:Int))=true:=decide_eq_true c9
        clear c9
        replace H:=Option.bind_eq_some_iff.mp H
        obtain⟨t692,A100,H⟩:=H
        replace H:(if ((rd_T79 l1 x23_2).f2)=x9_1 then(if 0≤ ((rd_T79 l1 x23_2).f0) then(if ((rd_T79 l1 x23_2).f0)< (t692.length:Int) then(if 0≤ ((rd_T79 l1 x23_2).f1) then(if ((rd_T79 l1 x23_2).f1)< (t692.length:Int) then(if (rd t692 ((rd_T79 l1 x23_2).f0))= (rd t692 ((rd_T79 l1 x23_2).f1)) then(spec_LeastTree.l1 k2 a0 l1 x7_2 x8_2 x9_1 l1 (l1.length:Int) (wrap64 (x23_2+1))) else(if x7_2.length< 5864062014805 then(spec_LeastTree.l1 k2 a0 l1 (x7_2++ [(⟨(rd_T79 l1 x23_2).f0,(rd_T79 l1 x23_2).f1,(rd_T79 l1 x23_2).f2⟩ :S79)]) (wrap64 (x8_2+x9_1)) x9_1 l1 (l1.length:Int) (wrap64 (x23_2+1))) else(none))) else(none)) else(none)) else(none)) else(none)) else(spec_LeastTree.l1 k2 a0 l1 x7_2 x8_2 x9_1 l1 (l1.length:Int) (wrap64 (x23_2+1))))=some (r1,r2,r3):=H
        have A10:=Aside0.mk A100
        clear A100
        by_cases c11:((rd_T79 l1 x23_2).f2)=x9_1
        ·rw [if_pos c11] at H
         have c11b0:(((rd_T79 l1 x23_2).f2)==x9_1)=true:=beq_iff_eq.mpr c11
         have c11b1:(((rd_T79 l1 x23_2).f2) !=x9_1)=false:=bne_eq_false_iff_eq.mpr c11
         clear c11
         by_cases c12: 0≤ ((rd_T79 l1 x23_2).f0)
         case neg=>rw [if_neg c12] at H;exact absurd H (by simp)
         rw [if_pos c12] at H
         have c12b0:decide (0≤ ((rd_T79 l1 x23_2).f0))=true:=decide_eq_true c12
         clear c12
         by_cases c13:((rd_T79 l1 x23_2).f0)< (t692.length:Int)
         case neg=>rw [if_neg c13] at H;exact absurd H (by simp)
         rw [if_pos c13] at H
         have c13b0:decide (((rd_T79 l1 x23_2).f0)< (t692.length:Int))=true:=decide_eq_true c13
         clear c13
         by_cases c14: 0≤ ((rd_T79 l1 x23_2).f1)
         case neg=>rw [if_neg c14] at H;exact absurd H (by simp)
         rw [if_pos c14] at H
         have c14b0:decide (0≤ ((rd_T79 l1 x23_2).f1))=true:=decide_eq_true c14
         clear c14
         by_cases c15:((rd_T79 l1 x23_2).f1)< (t692.length:Int)
         case neg=>rw [if_neg c15] at H;exact absurd H (by simp)
         rw [if_pos c15] at H
         have c15b0:decide (((rd_T79 l1 x23_2).f1)< (t692.length:Int))=true:=decide_eq_true c15
         clear c15
         by_cases c16:(rd t692 ((rd_T79 l1 x23_2).f0))= (rd t692 ((rd_T79 l1 x23_2).f1))
         ·rw [if_pos c16] at H
          have c16b0:((rd t692 ((rd_T79 l1 x23_2).f0))== (rd t692 ((rd_T79 l1 x23_2).f1)))=true:=beq_iff_eq.mpr c16
          have c16b1:((rd t692 ((rd_T79 l1 x23_2).f0)) != (rd t692 ((rd_T79 l1 x23_2).f1)))=false:=bne_eq_false_iff_eq.mpr c16
          clear c16
          have H':=Aside0.mk H
          clear H
          have p690: 0≤ (x23_2:Int):=of_decide_eq_true zq1
          have q690:x23_2< (l1.length:Int):=of_decide_eq_true zq1
          obtain⟨ad690,e690,hx690_0,hx690_1,hx690_2⟩:=at_T79 HR1.out x23_2 p690 q690
          cases e690
          replace hx690_0:=zhx HB hx690_0
          replace hx690_1:=zhx HB hx690_1
          replace hx690_2:=zhx HB hx690_2
          replace p690:=eq_true p690
          replace q690:=eq_true q690
          go_wp2_with (first|((with_reducible refine gate_dst (N:=11) rfl ?_);refine box_event ?hg (N:=11) ?hd (cs:= #[.int .i64 0,.int .i64 0,.int .i64 0]) (t:=79) ?hr ?_;(case hd=>rfl);(case hg=>rfl);(case hr=>first|(go_simp;done)|(go_simp;rfl));intro gb691 hg w17 hbox hb;have BK691:=Aside0.mk (hbox);have GW691:=Aside0.mk ((by rw [hg];exact(below_size (by exact zk1 HB)):w.heap.size≤gb691));have GE691:=Aside0.mk ((by rw [hg];exact(below_size (by exact zk1 HB)):w.heap.size≤gb691));replace HO_7:=Aside0.mk (Kd.R_below (Kd.R_elderB (zq4 HO_7) gb691 (Nat.le_of_eq hg.symm)) hb);replace HB:=Aside0.mk (below_step (by exact zk1 HB) hb);clear hb hbox hg;have hcz18_0:w17.cell? ⟨gb691,0,none⟩=some (.int .i64 0):=(blk_cell BK691.out 0).trans rfl;have hcz18_1:w17.cell? ⟨gb691,1,none⟩=some (.int .i64 0):=(blk_cell BK691.out 1).trans rfl;have hcz18_2:w17.cell? ⟨gb691,2,none⟩=some (.int .i64 0):=(blk_cell BK691.out 2).trans rfl;have hfz18_0:=blk_frozen BK691.out 0;have hfz18_1:=blk_frozen BK691.out 1;have hfz18_2:=blk_frozen BK691.out 2;obtain⟨Ao19,co19,eo19⟩:=Kd.R_slice HO_7.out;subst eo19)|(go_at_call 79;(with_reducible refine(spec_l8Groups.calls k2 a0 _ _ x7_2 t692 _ ?side1 ?side2 A10.out).mono ?_);(case side1=>refine(Kd.R_reads' (e:=79) (base:=w.heap.size) (ok:=fun k_=>(True∧k_≠gb691)) (n:=x7_2.length) (c:=co19) ?_).2.2;exact(by(with_reducible repeat(first|apply Kd.R_alloc|apply Kd.R_drewN|apply Kd.R_drew));exact(Kd.R_mono (Kd.R_far (p:=⟨gb691,2,none⟩) (Kd.R_far (p:=⟨gb691,1,none⟩) (Kd.R_far (p:=⟨gb691,0,none⟩) (Kd.R_mono HO_7.out (fun k_ hk=>(⟨hk,hk.2⟩ :_∧k_≠gb691))) (fun _ hk=>hk.2) (.int .i64 ((rd_T79 l1 x23_2).f0))) (fun _ hk=>hk.2) (.int .i64 ((rd_T79 l1 x23_2).f1))) (fun _ hk=>hk.2) (.int .i64 ((rd_T79 l1 x23_2).f2))) (fun _ h_=>h_.1))));(case side2=>exact(Kd.R_reads' HO_7.out).2.1);rintro e w20 ⟨v693,rfl,ho0,hb⟩;have HO694:=Aside0.mk (Kd.R_lower ho0 (below_size (by exact zk2 HB GE691.out)));replace HO_7:=Aside0.mk (Kd.R_below (by(with_reducible repeat(first|apply Kd.R_alloc|apply Kd.R_drewN|apply Kd.R_drew));exact(Kd.R_mono (Kd.R_far (p:=⟨gb691,2,none⟩) (Kd.R_far (p:=⟨gb691,1,none⟩) (Kd.R_far (p:=⟨gb691,0,none⟩) (Kd.R_mono HO_7.out (fun k_ hk=>(⟨hk,hk.2⟩ :_∧k_≠gb691))) (fun _ hk=>hk.2) (.int .i64 ((rd_T79 l1 x23_2).f0))) (fun _ hk=>hk.2) (.int .i64 ((rd_T79 l1 x23_2).f1))) (fun _ hk=>hk.2) (.int .i64 ((rd_T79 l1 x23_2).f2))) (fun _ h_=>h_.1))) hb);replace BK691:=Aside0.mk (blk_below (g:=gb691) (o:= .cells #[.int .i64 ((rd_T79 l1 x23_2).f0),.int .i64 ((rd_T79 l1 x23_2).f1),.int .i64 ((rd_T79 l1 x23_2).f2)] 79 (0,0)) (by(with_reducible repeat(first|refine blk_drewN ?_ _|refine blk_drew ?_ |refine blk_alloc ?_ _));refine blk_put (cs:= #[.int .i64 ((rd_T79 l1 x23_2).f0),.int .i64 ((rd_T79 l1 x23_2).f1),.int .i64 0]) ?_ 2 _ rfl;(with_reducible repeat(first|refine blk_drewN ?_ _|refine blk_drew ?_ |refine blk_alloc ?_ _));refine blk_put (cs:= #[.int .i64 ((rd_T79 l1 x23_2).f0),.int .i64 0,.int .i64 0]) ?_ 1 _ rfl;(with_reducible repeat(first|refine blk_drewN ?_ _|refine blk_drew ?_ |refine blk_alloc ?_ _));refine blk_put (cs:= #[.int .i64 0,.int .i64 0,.int .i64 0]) ?_ 0 _ rfl;(with_reducible repeat(first|refine blk_drewN ?_ _|refine blk_drew ?_ |refine blk_alloc ?_ _));exact BK691.out) hb);replace HB:=Aside0.mk (below_step (by exact zk2 HB GE691.out) hb);(try clear hb);(try clear hb2);(try clear hk);(try clear hi);(try clear ho0);have hcz21_0:w20.cell? ⟨gb691,0,none⟩=some (.int .i64 ((rd_T79 l1 x23_2).f0)):=(blk_cell BK691.out 0).trans rfl;have hcz21_1:w20.cell? ⟨gb691,1,none⟩=some (.int .i64 ((rd_T79 l1 x23_2).f1)):=(blk_cell BK691.out 1).trans rfl;have hcz21_2:w20.cell? ⟨gb691,2,none⟩=some (.int .i64 ((rd_T79 l1 x23_2).f2)):=(blk_cell BK691.out 2).trans rfl;have hfz21_0:=blk_frozen BK691.out 0;have hfz21_1:=blk_frozen BK691.out 1;have hfz21_2:=blk_frozen BK691.out 2;obtain⟨Ao22,co22,eo22⟩:=Kd.R_slice HO694.out;subst eo22;have p695: 0≤ (((rd_T79 l1 x23_2).f0):Int):=of_decide_eq_true zq1;have q695:((rd_T79 l1 x23_2).f0)< (t692.length:Int):=of_decide_eq_true zq1;obtain⟨ad695,e695,hx695_0⟩:=Kd.at_int (Kd.R_reads' HO694.out).2.2 ((rd_T79 l1 x23_2).f0) p695 q695;cases e695;replace p695:=eq_true p695;replace q695:=eq_true q695;have p696: 0≤ (((rd_T79 l1 x23_2).f1):Int):=of_decide_eq_true zq1;have q696:((rd_T79 l1 x23_2).f1)< (t692.length:Int):=of_decide_eq_true zq1;obtain⟨ad696,e696,hx696_0⟩:=Kd.at_int (Kd.R_reads' HO694.out).2.2 ((rd_T79 l1 x23_2).f1) p696 q696;obtain rfl:ad695=ad696:=(by injection e696);replace p696:=eq_true p696;replace q696:=eq_true q696))
          repeat(go_quiet (first|((with_reducible refine gate_dst (N:=11) rfl ?_);refine box_event ?hg (N:=11) ?hd (cs:= #[.int .i64 0,.int .i64 0,.int .i64 0]) (t:=79) ?hr ?_;(case hd=>rfl);(case hg=>rfl);(case hr=>first|(go_simp;done)|(go_simp;rfl));intro gb691 hg w17 hbox hb;have BK691:=Aside0.mk (hbox);have GW691:=Aside0.mk ((by rw [hg];exact(below_size (by exact zk1 HB)):w.heap.size≤gb691));have GE691:=Aside0.mk ((by rw [hg];exact(below_size (by exact zk1 HB)):w.heap.size≤gb691));replace HO_7:=Aside0.mk (Kd.R_below (Kd.R_elderB (zq4 HO_7) gb691 (Nat.le_of_eq hg.symm)) hb);replace HB:=Aside0.mk (below_step (by exact zk1 HB) hb);clear hb hbox hg;have hcz18_0:w17.cell? ⟨gb691,0,none⟩=some (.int .i64 0):=(blk_cell BK691.out 0).trans rfl;have hcz18_1:w17.cell? ⟨gb691,1,none⟩=some (.int .i64 0):=(blk_cell BK691.out 1).trans rfl;have hcz18_2:w17.cell? ⟨gb691,2,none⟩=some (.int .i64 0):=(blk_cell BK691.out 2).trans rfl;have hfz18_0:=blk_frozen BK691.out 0;have hfz18_1:=blk_frozen BK691.out 1;have hfz18_2:=blk_frozen BK691.out 2;obtain⟨Ao19,co19,eo19⟩:=Kd.R_slice HO_7.out;subst eo19)|(go_at_call 79;(with_reducible refine(spec_l8Groups.calls k2 a0 _ _ x7_2 t692 _ ?side1 ?side2 A10.out).mono ?_);(case side1=>refine(Kd.R_reads' (e:=79) (base:=w.heap.size) (ok:=fun k_=>(True∧k_≠gb691)) (n:=x7_2.length) (c:=co19) ?_).2.2;exact(by(with_reducible repeat(first|apply Kd.R_alloc|apply Kd.R_drewN|apply Kd.R_drew));exact(Kd.R_mono (Kd.R_far (p:=⟨gb691,2,none⟩) (Kd.R_far (p:=⟨gb691,1,none⟩) (Kd.R_far (p:=⟨gb691,0,none⟩) (Kd.R_mono HO_7.out (fun k_ hk=>(⟨hk,hk.2⟩ :_∧k_≠gb691))) (fun _ hk=>hk.2) (.int .i64 ((rd_T79 l1 x23_2).f0))) (fun _ hk=>hk.2) (.int .i64 ((rd_T79 l1 x23_2).f1))) (fun _ hk=>hk.2) (.int .i64 ((rd_T79 l1 x23_2).f2))) (fun _ h_=>h_.1))));(case side2=>exact(Kd.R_reads' HO_7.out).2.1);rintro e w20 ⟨v693,rfl,ho0,hb⟩;have HO694:=Aside0.mk (Kd.R_lower ho0 (below_size (by exact zk2 HB GE691.out)));replace HO_7:=Aside0.mk (Kd.R_below (by(with_reducible repeat(first|apply Kd.R_alloc|apply Kd.R_drewN|apply Kd.R_drew));exact(Kd.R_mono (Kd.R_far (p:=⟨gb691,2,none⟩) (Kd.R_far (p:=⟨gb691,1,none⟩) (Kd.R_far (p:=⟨gb691,0,none⟩) (Kd.R_mono HO_7.out (fun k_ hk=>(⟨hk,hk.2⟩ :_∧k_≠gb691))) (fun _ hk=>hk.2) (.int .i64 ((rd_T79 l1 x23_2).f0))) (fun _ hk=>hk.2) (.int .i64 ((rd_T79 l1 x23_2).f1))) (fun _ hk=>hk.2) (.int .i64 ((rd_T79 l1 x23_2).f2))) (fun _ h_=>h_.1))) hb);replace BK691:=Aside0.mk (blk_below (g:=gb691) (o:= .cells #[.int .i64 ((rd_T79 l1 x23_2).f0),.int .i64 ((rd_T79 l1 x23_2).f1),.int .i64 ((rd_T79 l1 x23_2).f2)] 79 (0,0)) (by(with_reducible repeat(first|refine blk_drewN ?_ _|refine blk_drew ?_ |refine blk_alloc ?_ _));refine blk_put (cs:= #[.int .i64 ((rd_T79 l1 x23_2).f0),.int .i64 ((rd_T79 l1 x23_2).f1),.int .i64 0]) ?_ 2 _ rfl;(with_reducible repeat(first|refine blk_drewN ?_ _|refine blk_drew ?_ |refine blk_alloc ?_ _));refine blk_put (cs:= #[.int .i64 ((rd_T79 l1 x23_2).f0),.int .i64 0,.int .i64 0]) ?_ 1 _ rfl;(with_reducible repeat(first|refine blk_drewN ?_ _|refine blk_drew ?_ |refine blk_alloc ?_ _));refine blk_put (cs:= #[.int .i64 0,.int .i64 0,.int .i64 0]) ?_ 0 _ rfl;(with_reducible repeat(first|refine blk_drewN ?_ _|refine blk_drew ?_ |refine blk_alloc ?_ _));exact BK691.out) hb);replace HB:=Aside0.mk (below_step (by exact zk2 HB GE691.out) hb);(try clear hb);(try clear hb2);(try clear hk);(try clear hi);(try clear ho0);have hcz21_0:w20.cell? ⟨gb691,0,none⟩=some (.int .i64 ((rd_T79 l1 x23_2).f0)):=(blk_cell BK691.out 0).trans rfl;have hcz21_1:w20.cell? ⟨gb691,1,none⟩=some (.int .i64 ((rd_T79 l1 x23_2).f1)):=(blk_cell BK691.out 1).trans rfl;have hcz21_2:w20.cell? ⟨gb691,2,none⟩=some (.int .i64 ((rd_T79 l1 x23_2).f2)):=(blk_cell BK691.out 2).trans rfl;have hfz21_0:=blk_frozen BK691.out 0;have hfz21_1:=blk_frozen BK691.out 1;have hfz21_2:=blk_frozen BK691.out 2;obtain⟨Ao22,co22,eo22⟩:=Kd.R_slice HO694.out;subst eo22;have p695: 0≤ (((rd_T79 l1 x23_2).f0):Int):=of_decide_eq_true zq1;have q695:((rd_T79 l1 x23_2).f0)< (t692.length:Int):=of_decide_eq_true zq1;obtain⟨ad695,e695,hx695_0⟩:=Kd.at_int (Kd.R_reads' HO694.out).2.2 ((rd_T79 l1 x23_2).f0) p695 q695;cases e695;replace p695:=eq_true p695;replace q695:=eq_true q695;have p696: 0≤ (((rd_T79 l1 x23_2).f1):Int):=of_decide_eq_true zq1;have q696:((rd_T79 l1 x23_2).f1)< (t692.length:Int):=of_decide_eq_true zq1;obtain⟨ad696,e696,hx696_0⟩:=Kd.at_int (Kd.R_reads' HO694.out).2.2 ((rd_T79 l1 x23_2).f1) p696 q696;obtain rfl:ad695=ad696:=(by injection e696);replace p696:=eq_true p696;replace q696:=eq_true q696));try go_wp2_with (first|((with_reducible refine gate_dst (N:=11) rfl ?_);refine box_event ?hg (N:=11) ?hd (cs:= #[.int .i64 0,.int .i64 0,.int .i64 0]) (t:=79) ?hr ?_;(case hd=>rfl);(case hg=>rfl);(case hr=>first|(go_simp;done)|(go_simp;rfl));intro gb691 hg w17 hbox hb;have BK691:=Aside0.mk (hbox);have GW691:=Aside0.mk ((by rw [hg];exact(below_size (by exact zk1 HB)):w.heap.size≤gb691));have GE691:=Aside0.mk ((by rw [hg];exact(below_size (by exact zk1 HB)):w.heap.size≤gb691));replace HO_7:=Aside0.mk (Kd.R_below (Kd.R_elderB (zq4 HO_7) gb691 (Nat.le_of_eq hg.symm)) hb);replace HB:=Aside0.mk (below_step (by exact zk1 HB) hb);clear hb hbox hg;have hcz18_0:w17.cell? ⟨gb691,0,none⟩=some (.int .i64 0):=(blk_cell BK691.out 0).trans rfl;have hcz18_1:w17.cell? ⟨gb691,1,none⟩=some (.int .i64 0):=(blk_cell BK691.out 1).trans rfl;have hcz18_2:w17.cell? ⟨gb691,2,none⟩=some (.int .i64 0):=(blk_cell BK691.out 2).trans rfl;have hfz18_0:=blk_frozen BK691.out 0;have hfz18_1:=blk_frozen BK691.out 1;have hfz18_2:=blk_frozen BK691.out 2;obtain⟨Ao19,co19,eo19⟩:=Kd.R_slice HO_7.out;subst eo19)|(go_at_call 79;(with_reducible refine(spec_l8Groups.calls k2 a0 _ _ x7_2 t692 _ ?side1 ?side2 A10.out).mono ?_);(case side1=>refine(Kd.R_reads' (e:=79) (base:=w.heap.size) (ok:=fun k_=>(True∧k_≠gb691)) (n:=x7_2.length) (c:=co19) ?_).2.2;exact(by(with_reducible repeat(first|apply Kd.R_alloc|apply Kd.R_drewN|apply Kd.R_drew));exact(Kd.R_mono (Kd.R_far (p:=⟨gb691,2,none⟩) (Kd.R_far (p:=⟨gb691,1,none⟩) (Kd.R_far (p:=⟨gb691,0,none⟩) (Kd.R_mono HO_7.out (fun k_ hk=>(⟨hk,hk.2⟩ :_∧k_≠gb691))) (fun _ hk=>hk.2) (.int .i64 ((rd_T79 l1 x23_2).f0))) (fun _ hk=>hk.2) (.int .i64 ((rd_T79 l1 x23_2).f1))) (fun _ hk=>hk.2) (.int .i64 ((rd_T79 l1 x23_2).f2))) (fun _ h_=>h_.1))));(case side2=>exact(Kd.R_reads' HO_7.out).2.1);rintro e w20 ⟨v693,rfl,ho0,hb⟩;have HO694:=Aside0.mk (Kd.R_lower ho0 (below_size (by exact zk2 HB GE691.out)));replace HO_7:=Aside0.mk (Kd.R_below (by(with_reducible repeat(first|apply Kd.R_alloc|apply Kd.R_drewN|apply Kd.R_drew));exact(Kd.R_mono (Kd.R_far (p:=⟨gb691,2,none⟩) (Kd.R_far (p:=⟨gb691,1,none⟩) (Kd.R_far (p:=⟨gb691,0,none⟩) (Kd.R_mono HO_7.out (fun k_ hk=>(⟨hk,hk.2⟩ :_∧k_≠gb691))) (fun _ hk=>hk.2) (.int .i64 ((rd_T79 l1 x23_2).f0))) (fun _ hk=>hk.2) (.int .i64 ((rd_T79 l1 x23_2).f1))) (fun _ hk=>hk.2) (.int .i64 ((rd_T79 l1 x23_2).f2))) (fun _ h_=>h_.1))) hb);replace BK691:=Aside0.mk (blk_below (g:=gb691) (o:= .cells #[.int .i64 ((rd_T79 l1 x23_2).f0),.int .i64 ((rd_T79 l1 x23_2).f1),.int .i64 ((rd_T79 l1 x23_2).f2)] 79 (0,0)) (by(with_reducible repeat(first|refine blk_drewN ?_ _|refine blk_drew ?_ |refine blk_alloc ?_ _));refine blk_put (cs:= #[.int .i64 ((rd_T79 l1 x23_2).f0),.int .i64 ((rd_T79 l1 x23_2).f1),.int .i64 0]) ?_ 2 _ rfl;(with_reducible repeat(first|refine blk_drewN ?_ _|refine blk_drew ?_ |refine blk_alloc ?_ _));refine blk_put (cs:= #[.int .i64 ((rd_T79 l1 x23_2).f0),.int .i64 0,.int .i64 0]) ?_ 1 _ rfl;(with_reducible repeat(first|refine blk_drewN ?_ _|refine blk_drew ?_ |refine blk_alloc ?_ _));refine blk_put (cs:= #[.int .i64 0,.int .i64 0,.int .i64 0]) ?_ 0 _ rfl;(with_reducible repeat(first|refine blk_drewN ?_ _|refine blk_drew ?_ |refine blk_alloc ?_ _));exact BK691.out) hb);replace HB:=Aside0.mk (below_step (by exact zk2 HB GE691.out) hb);(try clear hb);(try clear hb2);(try clear hk);(try clear hi);(try clear ho0);have hcz21_0:w20.cell? ⟨gb691,0,none⟩=some (.int .i64 ((rd_T79 l1 x23_2).f0)):=(blk_cell BK691.out 0).trans rfl;have hcz21_1:w20.cell? ⟨gb691,1,none⟩=some (.int .i64 ((rd_T79 l1 x23_2).f1)):=(blk_cell BK691.out 1).trans rfl;have hcz21_2:w20.cell? ⟨gb691,2,none⟩=some (.int .i64 ((rd_T79 l1 x23_2).f2)):=(blk_cell BK691.out 2).trans rfl;have hfz21_0:=blk_frozen BK691.out 0;have hfz21_1:=blk_frozen BK691.out 1;have hfz21_2:=blk_frozen BK691.out 2;obtain⟨Ao22,co22,eo22⟩:=Kd.R_slice HO694.out;subst eo22;have p695: 0≤ (((rd_T79 l1 x23_2).f0):Int):=of_decide_eq_true zq1;have q695:((rd_T79 l1 x23_2).f0)< (t692.length:Int):=of_decide_eq_true zq1;obtain⟨ad695,e695,hx695_0⟩:=Kd.at_int (Kd.R_reads' HO694.out).2.2 ((rd_T79 l1 x23_2).f0) p695 q695;cases e695;replace p695:=eq_true p695;replace q695:=eq_true q695;have p696: 0≤ (((rd_T79 l1 x23_2).f1):Int):=of_decide_eq_true zq1;have q696:((rd_T79 l1 x23_2).f1)< (t692.length:Int):=of_decide_eq_true zq1;obtain⟨ad696,e696,hx696_0⟩:=Kd.at_int (Kd.R_reads' HO694.out).2.2 ((rd_T79 l1 x23_2).f1) p696 q696;obtain rfl:ad695=ad696:=(by injection e696);replace p696:=eq_true p696;replace q696:=eq_true q696)))
          go_roundg k2
          case measure=>have:=HK1.out;have:=HK2.out;omega
          case rel=>exact⟨(x7_2),(x8_2),(wrap64 (x23_2+1)),(by first|rfl|(simp;done)|(simp [*];done)),(by first|rfl|(simp;done)|(simp [*];done)),H',⟨by have:=HK1.out;have:=HK2.out;omega⟩,⟨by(with_reducible repeat(first|apply Kd.R_alloc|apply Kd.R_drewN|apply Kd.R_drew));exact Kd.R_mono HO_7.out (fun _ hk=>trivial)⟩,⟨by exact zk2 HB GE691.out⟩⟩
         ·rw [if_neg c16] at H
          have c16b0:((rd t692 ((rd_T79 l1 x23_2).f0))== (rd t692 ((rd_T79 l1 x23_2).f1)))=false:=beq_eq_false_iff_ne.mpr c16
          have c16b1:((rd t692 ((rd_T79 l1 x23_2).f0)) != (rd t692 ((rd_T79 l1 x23_2).f1)))=true:=bne_iff_ne.mpr c16
          by_cases c23:x7_2.length< 5864062014805
          case neg=>rw [if_neg c23] at H;exact absurd H (by simp)
          rw [if_pos c23] at H
          have LMc23:=Aside0.mk c23
          clear c23
          obtain⟨y697,hy697⟩ :∃ y_:List (S79),y_= (x7_2++ [(⟨(rd_T79 l1 x23_2).f0,(rd_T79 l1 x23_2).f1,(rd_T79 l1 x23_2).f2⟩ :S79)]):=⟨_,rfl⟩
          replace H:(spec_LeastTree.l1 k2 a0 l1 y697 (wrap64 (x8_2+x9_1)) x9_1 l1 (l1.length:Int) (wrap64 (x23_2+1)))=some (r1,r2,r3):=zfh hy697 H
          have Ny697:=Aside0.mk hy697
          clear hy697
          have H':=Aside0.mk H
          clear H
          have p690: 0≤ (x23_2:Int):=of_decide_eq_true zq1
          have q690:x23_2< (l1.length:Int):=of_decide_eq_true zq1
          obtain⟨ad690,e690,hx690_0,hx690_1,hx690_2⟩:=at_T79 HR1.out x23_2 p690 q690
          cases e690
          replace hx690_0:=zhx HB hx690_0
          replace hx690_1:=zhx HB hx690_1
          replace hx690_2:=zhx HB hx690_2
          replace p690:=eq_true p690
          replace q690:=eq_true q690
          go_wp2_with (first|((with_reducible refine gate_dst (N:=11) rfl ?_);refine box_event ?hg (N:=11) ?hd (cs:= #[.int .i64 0,.int .i64 0,.int .i64 0]) (t:=79) ?hr ?_;(case hd=>rfl);(case hg=>rfl);(case hr=>first|(go_simp;done)|(go_simp;rfl));intro gb691 hg w24 hbox hb;have BK691:=Aside0.mk (hbox);have GW691:=Aside0.mk ((by rw [hg];exact(below_size (by exact zk1 HB)):w.heap.size≤gb691));have GE691:=Aside0.mk ((by rw [hg];exact(below_size (by exact zk1 HB)):w.heap.size≤gb691));replace HO_7:=Aside0.mk (Kd.R_below (Kd.R_elderB (zq4 HO_7) gb691 (Nat.le_of_eq hg.symm)) hb);replace HB:=Aside0.mk (below_step (by exact zk1 HB) hb);clear hb hbox hg;have hcz25_0:w24.cell? ⟨gb691,0,none⟩=some (.int .i64 0):=(blk_cell BK691.out 0).trans rfl;have hcz25_1:w24.cell? ⟨gb691,1,none⟩=some (.int .i64 0):=(blk_cell BK691.out 1).trans rfl;have hcz25_2:w24.cell? ⟨gb691,2,none⟩=some (.int .i64 0):=(blk_cell BK691.out 2).trans rfl;have hfz25_0:=blk_frozen BK691.out 0;have hfz25_1:=blk_frozen BK691.out 1;have hfz25_2:=blk_frozen BK691.out 2;obtain⟨Ao26,co26,eo26⟩:=Kd.R_slice HO_7.out;subst eo26)|(go_at_call 79;(with_reducible refine(spec_l8Groups.calls k2 a0 _ _ x7_2 t692 _ ?side1 ?side2 A10.out).mono ?_);(case side1=>refine(Kd.R_reads' (e:=79) (base:=w.heap.size) (ok:=fun k_=>(True∧k_≠gb691)) (n:=x7_2.length) (c:=co26) ?_).2.2;exact(by(with_reducible repeat(first|apply Kd.R_alloc|apply Kd.R_drewN|apply Kd.R_drew));exact(Kd.R_mono (Kd.R_far (p:=⟨gb691,2,none⟩) (Kd.R_far (p:=⟨gb691,1,none⟩) (Kd.R_far (p:=⟨gb691,0,none⟩) (Kd.R_mono HO_7.out (fun k_ hk=>(⟨hk,hk.2⟩ :_∧k_≠gb691))) (fun _ hk=>hk.2) (.int .i64 ((rd_T79 l1 x23_2).f0))) (fun _ hk=>hk.2) (.int .i64 ((rd_T79 l1 x23_2).f1))) (fun _ hk=>hk.2) (.int .i64 ((rd_T79 l1 x23_2).f2))) (fun _ h_=>h_.1))));(case side2=>exact(Kd.R_reads' HO_7.out).2.1);rintro e w27 ⟨v693,rfl,ho0,hb⟩;have HO694:=Aside0.mk (Kd.R_lower ho0 (below_size (by exact zk2 HB GE691.out)));replace HO_7:=Aside0.mk (Kd.R_below (by(with_reducible repeat(first|apply Kd.R_alloc|apply Kd.R_drewN|apply Kd.R_drew));exact(Kd.R_mono (Kd.R_far (p:=⟨gb691,2,none⟩) (Kd.R_far (p:=⟨gb691,1,none⟩) (Kd.R_far (p:=⟨gb691,0,none⟩) (Kd.R_mono HO_7.out (fun k_ hk=>(⟨hk,hk.2⟩ :_∧k_≠gb691))) (fun _ hk=>hk.2) (.int .i64 ((rd_T79 l1 x23_2).f0))) (fun _ hk=>hk.2) (.int .i64 ((rd_T79 l1 x23_2).f1))) (fun _ hk=>hk.2) (.int .i64 ((rd_T79 l1 x23_2).f2))) (fun _ h_=>h_.1))) hb);replace BK691:=Aside0.mk (blk_below (g:=gb691) (o:= .cells #[.int .i64 ((rd_T79 l1 x23_2).f0),.int .i64 ((rd_T79 l1 x23_2).f1),.int .i64 ((rd_T79 l1 x23_2).f2)] 79 (0,0)) (by(with_reducible repeat(first|refine blk_drewN ?_ _|refine blk_drew ?_ |refine blk_alloc ?_ _));refine blk_put (cs:= #[.int .i64 ((rd_T79 l1 x23_2).f0),.int .i64 ((rd_T79 l1 x23_2).f1),.int .i64 0]) ?_ 2 _ rfl;(with_reducible repeat(first|refine blk_drewN ?_ _|refine blk_drew ?_ |refine blk_alloc ?_ _));refine blk_put (cs:= #[.int .i64 ((rd_T79 l1 x23_2).f0),.int .i64 0,.int .i64 0]) ?_ 1 _ rfl;(with_reducible repeat(first|refine blk_drewN ?_ _|refine blk_drew ?_ |refine blk_alloc ?_ _));refine blk_put (cs:= #[.int .i64 0,.int .i64 0,.int .i64 0]) ?_ 0 _ rfl;(with_reducible repeat(first|refine blk_drewN ?_ _|refine blk_drew ?_ |refine blk_alloc ?_ _));exact BK691.out) hb);replace HB:=Aside0.mk (below_step (by exact zk2 HB GE691.out) hb);(try clear hb);(try clear hb2);(try clear hk);(try clear hi);(try clear ho0);have hcz28_0:w27.cell? ⟨gb691,0,none⟩=some (.int .i64 ((rd_T79 l1 x23_2).f0)):=(blk_cell BK691.out 0).trans rfl;have hcz28_1:w27.cell? ⟨gb691,1,none⟩=some (.int .i64 ((rd_T79 l1 x23_2).f1)):=(blk_cell BK691.out 1).trans rfl;have hcz28_2:w27.cell? ⟨gb691,2,none⟩=some (.int .i64 ((rd_T79 l1 x23_2).f2)):=(blk_cell BK691.out 2).trans rfl;have hfz28_0:=blk_frozen BK691.out 0;have hfz28_1:=blk_frozen BK691.out 1;have hfz28_2:=blk_frozen BK691.out 2;obtain⟨Ao29,co29,eo29⟩:=Kd.R_slice HO694.out;subst eo29;have p695: 0≤ (((rd_T79 l1 x23_2).f0):Int):=of_decide_eq_true zq1;have q695:((rd_T79 l1 x23_2).f0)< (t692.length:Int):=of_decide_eq_true zq1;obtain⟨ad695,e695,hx695_0⟩:=Kd.at_int (Kd.R_reads' HO694.out).2.2 ((rd_T79 l1 x23_2).f0) p695 q695;cases e695;replace p695:=eq_true p695;replace q695:=eq_true q695;have p696: 0≤ (((rd_T79 l1 x23_2).f1):Int):=of_decide_eq_true zq1;have q696:((rd_T79 l1 x23_2).f1)< (t692.length:Int):=of_decide_eq_true zq1;obtain⟨ad696,e696,hx696_0⟩:=Kd.at_int (Kd.R_reads' HO694.out).2.2 ((rd_T79 l1 x23_2).f1) p696 q696;obtain rfl:ad695=ad696:=(by injection e696);replace p696:=eq_true p696;replace q696:=eq_true q696)|((with_reducible refine gate_builtin (b:= .append) (xs:= #[.tmp 47,.tmp 49]) rfl ?_);at_builtin;refine Kd.R_append k79 (w0:=w) w.heap.size rfl (.tmp 47) (.tmp 49) 35 79 (.agg #[(.int .i64 0),(.int .i64 0),(.int .i64 0)]) 24 rfl Try.underlying35 info79 rfl (by decide) (by omega) (.slice Ao26 x7_2.length co26) x7_2 (⟨(rd_T79 l1 x23_2).f0,(rd_T79 l1 x23_2).f1,(rd_T79 l1 x23_2).f2⟩ :S79) [.int .i64 ((rd_T79 l1 x23_2).f0),.int .i64 ((rd_T79 l1 x23_2).f1),.int .i64 ((rd_T79 l1 x23_2).f2)] (fun k_=>k_≠gb691) (fun _=>False) rfl rfl ?aP (fun _ hk=>hk.elim) ?aF ?aO ?aB ?aS ?aL ?_;(case aP=>exact k79_mkM _ _ _ (⟨(rd_T79 l1 x23_2).f0,(rd_T79 l1 x23_2).f1,(rd_T79 l1 x23_2).f2⟩ :S79));(case aB=>exact(by exact zk2 HB GE691.out));(case aF=>exact(fun k_ hk=>Kd.freshB (g:=gb691) (o:= .cells #[.int .i64 ((rd_T79 l1 x23_2).f0),.int .i64 ((rd_T79 l1 x23_2).f1),.int .i64 ((rd_T79 l1 x23_2).f2)] 79 (0,0)) (zq3 BK691) k_ hk));(case aO=>exact(by(with_reducible repeat(first|apply Kd.R_alloc|apply Kd.R_drewN|apply Kd.R_drew));exact Kd.R_mono HO_7.out (fun _ hk=>hk.2)));(case aS=>exact(below_size (by exact zk2 HB GE691.out)));(case aL=>have:=LMc23.out;omega);intro v698 w30 ho hb hg hat;rw [← Ny697.out] at ho;have HO699:=Aside0.mk (ho);replace BK691:=Aside0.mk (blk_grown (g:=gb691) (o:= .cells #[.int .i64 ((rd_T79 l1 x23_2).f0),.int .i64 ((rd_T79 l1 x23_2).f1),.int .i64 ((rd_T79 l1 x23_2).f2)] 79 (0,0)) (zq3 BK691) hg (Kd.R_away HO_7.out (fun _ hk=>hk.2)));replace HO694:=Aside0.mk (Kd.R_over' (zq4 HO694) (Kd.R_typed (zq4 HO_7)) (by decide) hg);replace HB:=Aside0.mk (hb);clear HO_7;clear ho hb hg hat))
          repeat(go_quiet (first|((with_reducible refine gate_dst (N:=11) rfl ?_);refine box_event ?hg (N:=11) ?hd (cs:= #[.int .i64 0,.int .i64 0,.int .i64 0]) (t:=79) ?hr ?_;(case hd=>rfl);(case hg=>rfl);(case hr=>first|(go_simp;done)|(go_simp;rfl));intro gb691 hg w24 hbox hb;have BK691:=Aside0.mk (hbox);have GW691:=Aside0.mk ((by rw [hg];exact(below_size (by exact zk1 HB)):w.heap.size≤gb691));have GE691:=Aside0.mk ((by rw [hg];exact(below_size (by exact zk1 HB)):w.heap.size≤gb691));replace HO_7:=Aside0.mk (Kd.R_below (Kd.R_elderB (zq4 HO_7) gb691 (Nat.le_of_eq hg.symm)) hb);replace HB:=Aside0.mk (below_step (by exact zk1 HB) hb);clear hb hbox hg;have hcz25_0:w24.cell? ⟨gb691,0,none⟩=some (.int .i64 0):=(blk_cell BK691.out 0).trans rfl;have hcz25_1:w24.cell? ⟨gb691,1,none⟩=some (.int .i64 0):=(blk_cell BK691.out 1).trans rfl;have hcz25_2:w24.cell? ⟨gb691,2,none⟩=some (.int .i64 0):=(blk_cell BK691.out 2).trans rfl;have hfz25_0:=blk_frozen BK691.out 0;have hfz25_1:=blk_frozen BK691.out 1;have hfz25_2:=blk_frozen BK691.out 2;obtain⟨Ao26,co26,eo26⟩:=Kd.R_slice HO_7.out;subst eo26)|(go_at_call 79;(with_reducible refine(spec_l8Groups.calls k2 a0 _ _ x7_2 t692 _ ?side1 ?side2 A10.out).mono ?_);(case side1=>refine(Kd.R_reads' (e:=79) (base:=w.heap.size) (ok:=fun k_=>(True∧k_≠gb691)) (n:=x7_2.length) (c:=co26) ?_).2.2;exact(by(with_reducible repeat(first|apply Kd.R_alloc|apply Kd.R_drewN|apply Kd.R_drew));exact(Kd.R_mono (Kd.R_far (p:=⟨gb691,2,none⟩) (Kd.R_far (p:=⟨gb691,1,none⟩) (Kd.R_far (p:=⟨gb691,0,none⟩) (Kd.R_mono HO_7.out (fun k_ hk=>(⟨hk,hk.2⟩ :_∧k_≠gb691))) (fun _ hk=>hk.2) (.int .i64 ((rd_T79 l1 x23_2).f0))) (fun _ hk=>hk.2) (.int .i64 ((rd_T79 l1 x23_2).f1))) (fun _ hk=>hk.2) (.int .i64 ((rd_T79 l1 x23_2).f2))) (fun _ h_=>h_.1))));(case side2=>exact(Kd.R_reads' HO_7.out).2.1);rintro e w27 ⟨v693,rfl,ho0,hb⟩;have HO694:=Aside0.mk (Kd.R_lower ho0 (below_size (by exact zk2 HB GE691.out)));replace HO_7:=Aside0.mk (Kd.R_below (by(with_reducible repeat(first|apply Kd.R_alloc|apply Kd.R_drewN|apply Kd.R_drew));exact(Kd.R_mono (Kd.R_far (p:=⟨gb691,2,none⟩) (Kd.R_far (p:=⟨gb691,1,none⟩) (Kd.R_far (p:=⟨gb691,0,none⟩) (Kd.R_mono HO_7.out (fun k_ hk=>(⟨hk,hk.2⟩ :_∧k_≠gb691))) (fun _ hk=>hk.2) (.int .i64 ((rd_T79 l1 x23_2).f0))) (fun _ hk=>hk.2) (.int .i64 ((rd_T79 l1 x23_2).f1))) (fun _ hk=>hk.2) (.int .i64 ((rd_T79 l1 x23_2).f2))) (fun _ h_=>h_.1))) hb);replace BK691:=Aside0.mk (blk_below (g:=gb691) (o:= .cells #[.int .i64 ((rd_T79 l1 x23_2).f0),.int .i64 ((rd_T79 l1 x23_2).f1),.int .i64 ((rd_T79 l1 x23_2).f2)] 79 (0,0)) (by(with_reducible repeat(first|refine blk_drewN ?_ _|refine blk_drew ?_ |refine blk_alloc ?_ _));refine blk_put (cs:= #[.int .i64 ((rd_T79 l1 x23_2).f0),.int .i64 ((rd_T79 l1 x23_2).f1),.int .i64 0]) ?_ 2 _ rfl;(with_reducible repeat(first|refine blk_drewN ?_ _|refine blk_drew ?_ |refine blk_alloc ?_ _));refine blk_put (cs:= #[.int .i64 ((rd_T79 l1 x23_2).f0),.int .i64 0,.int .i64 0]) ?_ 1 _ rfl;(with_reducible repeat(first|refine blk_drewN ?_ _|refine blk_drew ?_ |refine blk_alloc ?_ _));refine blk_put (cs:= #[.int .i64 0,.int .i64 0,.int .i64 0]) ?_ 0 _ rfl;(with_reducible repeat(first|refine blk_drewN ?_ _|refine blk_drew ?_ |refine blk_alloc ?_ _));exact BK691.out) hb);replace HB:=Aside0.mk (below_step (by exact zk2 HB GE691.out) hb);(try clear hb);(try clear hb2);(try clear hk);(try clear hi);(try clear ho0);have hcz28_0:w27.cell? ⟨gb691,0,none⟩=some (.int .i64 ((rd_T79 l1 x23_2).f0)):=(blk_cell BK691.out 0).trans rfl;have hcz28_1:w27.cell? ⟨gb691,1,none⟩=some (.int .i64 ((rd_T79 l1 x23_2).f1)):=(blk_cell BK691.out 1).trans rfl;have hcz28_2:w27.cell? ⟨gb691,2,none⟩=some (.int .i64 ((rd_T79 l1 x23_2).f2)):=(blk_cell BK691.out 2).trans rfl;have hfz28_0:=blk_frozen BK691.out 0;have hfz28_1:=blk_frozen BK691.out 1;have hfz28_2:=blk_frozen BK691.out 2;obtain⟨Ao29,co29,eo29⟩:=Kd.R_slice HO694.out;subst eo29;have p695: 0≤ (((rd_T79 l1 x23_2).f0):Int):=of_decide_eq_true zq1;have q695:((rd_T79 l1 x23_2).f0)< (t692.length:Int):=of_decide_eq_true zq1;obtain⟨ad695,e695,hx695_0⟩:=Kd.at_int (Kd.R_reads' HO694.out).2.2 ((rd_T79 l1 x23_2).f0) p695 q695;cases e695;replace p695:=eq_true p695;replace q695:=eq_true q695;have p696: 0≤ (((rd_T79 l1 x23_2).f1):Int):=of_decide_eq_true zq1;have q696:((rd_T79 l1 x23_2).f1)< (t692.length:Int):=of_decide_eq_true zq1;obtain⟨ad696,e696,hx696_0⟩:=Kd.at_int (Kd.R_reads' HO694.out).2.2 ((rd_T79 l1 x23_2).f1) p696 q696;obtain rfl:ad695=ad696:=(by injection e696);replace p696:=eq_true p696;replace q696:=eq_true q696)|((with_reducible refine gate_builtin (b:= .append) (xs:= #[.tmp 47,.tmp 49]) rfl ?_);at_builtin;refine Kd.R_append k79 (w0:=w) w.heap.size rfl (.tmp 47) (.tmp 49) 35 79 (.agg #[(.int .i64 0),(.int .i64 0),(.int .i64 0)]) 24 rfl Try.underlying35 info79 rfl (by decide) (by omega) (.slice Ao26 x7_2.length co26) x7_2 (⟨(rd_T79 l1 x23_2).f0,(rd_T79 l1 x23_2).f1,(rd_T79 l1 x23_2).f2⟩ :S79) [.int .i64 ((rd_T79 l1 x23_2).f0),.int .i64 ((rd_T79 l1 x23_2).f1),.int .i64 ((rd_T79 l1 x23_2).f2)] (fun k_=>k_≠gb691) (fun _=>False) rfl rfl ?aP (fun _ hk=>hk.elim) ?aF ?aO ?aB ?aS ?aL ?_;(case aP=>exact k79_mkM _ _ _ (⟨(rd_T79 l1 x23_2).f0,(rd_T79 l1 x23_2).f1,(rd_T79 l1 x23_2).f2⟩ :S79));(case aB=>exact(by exact zk2 HB GE691.out));(case aF=>exact(fun k_ hk=>Kd.freshB (g:=gb691) (o:= .cells #[.int .i64 ((rd_T79 l1 x23_2).f0),.int .i64 ((rd_T79 l1 x23_2).f1),.int .i64 ((rd_T79 l1 x23_2).f2)] 79 (0,0)) (zq3 BK691) k_ hk));(case aO=>exact(by(with_reducible repeat(first|apply Kd.R_alloc|apply Kd.R_drewN|apply Kd.R_drew));exact Kd.R_mono HO_7.out (fun _ hk=>hk.2)));(case aS=>exact(below_size (by exact zk2 HB GE691.out)));(case aL=>have:=LMc23.out;omega);intro v698 w30 ho hb hg hat;rw [← Ny697.out] at ho;have HO699:=Aside0.mk (ho);replace BK691:=Aside0.mk (blk_grown (g:=gb691) (o:= .cells #[.int .i64 ((rd_T79 l1 x23_2).f0),.int .i64 ((rd_T79 l1 x23_2).f1),.int .i64 ((rd_T79 l1 x23_2).f2)] 79 (0,0)) (zq3 BK691) hg (Kd.R_away HO_7.out (fun _ hk=>hk.2)));replace HO694:=Aside0.mk (Kd.R_over' (zq4 HO694) (Kd.R_typed (zq4 HO_7)) (by decide) hg);replace HB:=Aside0.mk (hb);clear HO_7;clear ho hb hg hat));try go_wp2_with (first|((with_reducible refine gate_dst (N:=11) rfl ?_);refine box_event ?hg (N:=11) ?hd (cs:= #[.int .i64 0,.int .i64 0,.int .i64 0]) (t:=79) ?hr ?_;(case hd=>rfl);(case hg=>rfl);(case hr=>first|(go_simp;done)|(go_simp;rfl));intro gb691 hg w24 hbox hb;have BK691:=Aside0.mk (hbox);have GW691:=Aside0.mk ((by rw [hg];exact(below_size (by exact zk1 HB)):w.heap.size≤gb691));have GE691:=Aside0.mk ((by rw [hg];exact(below_size (by exact zk1 HB)):w.heap.size≤gb691));replace HO_7:=Aside0.mk (Kd.R_below (Kd.R_elderB (zq4 HO_7) gb691 (Nat.le_of_eq hg.symm)) hb);replace HB:=Aside0.mk (below_step (by exact zk1 HB) hb);clear hb hbox hg;have hcz25_0:w24.cell? ⟨gb691,0,none⟩=some (.int .i64 0):=(blk_cell BK691.out 0).trans rfl;have hcz25_1:w24.cell? ⟨gb691,1,none⟩=some (.int .i64 0):=(blk_cell BK691.out 1).trans rfl;have hcz25_2:w24.cell? ⟨gb691,2,none⟩=some (.int .i64 0):=(blk_cell BK691.out 2).trans rfl;have hfz25_0:=blk_frozen BK691.out 0;have hfz25_1:=blk_frozen BK691.out 1;have hfz25_2:=blk_frozen BK691.out 2;obtain⟨Ao26,co26,eo26⟩:=Kd.R_slice HO_7.out;subst eo26)|(go_at_call 79;(with_reducible refine(spec_l8Groups.calls k2 a0 _ _ x7_2 t692 _ ?side1 ?side2 A10.out).mono ?_);(case side1=>refine(Kd.R_reads' (e:=79) (base:=w.heap.size) (ok:=fun k_=>(True∧k_≠gb691)) (n:=x7_2.length) (c:=co26) ?_).2.2;exact(by(with_reducible repeat(first|apply Kd.R_alloc|apply Kd.R_drewN|apply Kd.R_drew));exact(Kd.R_mono (Kd.R_far (p:=⟨gb691,2,none⟩) (Kd.R_far (p:=⟨gb691,1,none⟩) (Kd.R_far (p:=⟨gb691,0,none⟩) (Kd.R_mono HO_7.out (fun k_ hk=>(⟨hk,hk.2⟩ :_∧k_≠gb691))) (fun _ hk=>hk.2) (.int .i64 ((rd_T79 l1 x23_2).f0))) (fun _ hk=>hk.2) (.int .i64 ((rd_T79 l1 x23_2).f1))) (fun _ hk=>hk.2) (.int .i64 ((rd_T79 l1 x23_2).f2))) (fun _ h_=>h_.1))));(case side2=>exact(Kd.R_reads' HO_7.out).2.1);rintro e w27 ⟨v693,rfl,ho0,hb⟩;have HO694:=Aside0.mk (Kd.R_lower ho0 (below_size (by exact zk2 HB GE691.out)));replace HO_7:=Aside0.mk (Kd.R_below (by(with_reducible repeat(first|apply Kd.R_alloc|apply Kd.R_drewN|apply Kd.R_drew));exact(Kd.R_mono (Kd.R_far (p:=⟨gb691,2,none⟩) (Kd.R_far (p:=⟨gb691,1,none⟩) (Kd.R_far (p:=⟨gb691,0,none⟩) (Kd.R_mono HO_7.out (fun k_ hk=>(⟨hk,hk.2⟩ :_∧k_≠gb691))) (fun _ hk=>hk.2) (.int .i64 ((rd_T79 l1 x23_2).f0))) (fun _ hk=>hk.2) (.int .i64 ((rd_T79 l1 x23_2).f1))) (fun _ hk=>hk.2) (.int .i64 ((rd_T79 l1 x23_2).f2))) (fun _ h_=>h_.1))) hb);replace BK691:=Aside0.mk (blk_below (g:=gb691) (o:= .cells #[.int .i64 ((rd_T79 l1 x23_2).f0),.int .i64 ((rd_T79 l1 x23_2).f1),.int .i64 ((rd_T79 l1 x23_2).f2)] 79 (0,0)) (by(with_reducible repeat(first|refine blk_drewN ?_ _|refine blk_drew ?_ |refine blk_alloc ?_ _));refine blk_put (cs:= #[.int .i64 ((rd_T79 l1 x23_2).f0),.int .i64 ((rd_T79 l1 x23_2).f1),.int .i64 0]) ?_ 2 _ rfl;(with_reducible repeat(first|refine blk_drewN ?_ _|refine blk_drew ?_ |refine blk_alloc ?_ _));refine blk_put (cs:= #[.int .i64 ((rd_T79 l1 x23_2).f0),.int .i64 0,.int .i64 0]) ?_ 1 _ rfl;(with_reducible repeat(first|refine blk_drewN ?_ _|refine blk_drew ?_ |refine blk_alloc ?_ _));refine blk_put (cs:= #[.int .i64 0,.int .i64 0,.int .i64 0]) ?_ 0 _ rfl;(with_reducible repeat(first|refine blk_drewN ?_ _|refine blk_drew ?_ |refine blk_alloc ?_ _));exact BK691.out) hb);replace HB:=Aside0.mk (below_step (by exact zk2 HB GE691.out) hb);(try clear hb);(try clear hb2);(try clear hk);(try clear hi);(try clear ho0);have hcz28_0:w27.cell? ⟨gb691,0,none⟩=some (.int .i64 ((rd_T79 l1 x23_2).f0)):=(blk_cell BK691.out 0).trans rfl;have hcz28_1:w27.cell? ⟨gb691,1,none⟩=some (.int .i64 ((rd_T79 l1 x23_2).f1)):=(blk_cell BK691.out 1).trans rfl;have hcz28_2:w27.cell? ⟨gb691,2,none⟩=some (.int .i64 ((rd_T79 l1 x23_2).f2)):=(blk_cell BK691.out 2).trans rfl;have hfz28_0:=blk_frozen BK691.out 0;have hfz28_1:=blk_frozen BK691.out 1;have hfz28_2:=blk_frozen BK691.out 2;obtain⟨Ao29,co29,eo29⟩:=Kd.R_slice HO694.out;subst eo29;have p695: 0≤ (((rd_T79 l1 x23_2).f0):Int):=of_decide_eq_true zq1;have q695:((rd_T79 l1 x23_2).f0)< (t692.length:Int):=of_decide_eq_true zq1;obtain⟨ad695,e695,hx695_0⟩:=Kd.at_int (Kd.R_reads' HO694.out).2.2 ((rd_T79 l1 x23_2).f0) p695 q695;cases e695;replace p695:=eq_true p695;replace q695:=eq_true q695;have p696: 0≤ (((rd_T79 l1 x23_2).f1):Int):=of_decide_eq_true zq1;have q696:((rd_T79 l1 x23_2).f1)< (t692.length:Int):=of_decide_eq_true zq1;obtain⟨ad696,e696,hx696_0⟩:=Kd.at_int (Kd.R_reads' HO694.out).2.2 ((rd_T79 l1 x23_2).f1) p696 q696;obtain rfl:ad695=ad696:=(by injection e696);replace p696:=eq_true p696;replace q696:=eq_true q696)|((with_reducible refine gate_builtin (b:= .append) (xs:= #[.tmp 47,.tmp 49]) rfl ?_);at_builtin;refine Kd.R_append k79 (w0:=w) w.heap.size rfl (.tmp 47) (.tmp 49) 35 79 (.agg #[(.int .i64 0),(.int .i64 0),(.int .i64 0)]) 24 rfl Try.underlying35 info79 rfl (by decide) (by omega) (.slice Ao26 x7_2.length co26) x7_2 (⟨(rd_T79 l1 x23_2).f0,(rd_T79 l1 x23_2).f1,(rd_T79 l1 x23_2).f2⟩ :S79) [.int .i64 ((rd_T79 l1 x23_2).f0),.int .i64 ((rd_T79 l1 x23_2).f1),.int .i64 ((rd_T79 l1 x23_2).f2)] (fun k_=>k_≠gb691) (fun _=>False) rfl rfl ?aP (fun _ hk=>hk.elim) ?aF ?aO ?aB ?aS ?aL ?_;(case aP=>exact k79_mkM _ _ _ (⟨(rd_T79 l1 x23_2).f0,(rd_T79 l1 x23_2).f1,(rd_T79 l1 x23_2).f2⟩ :S79));(case aB=>exact(by exact zk2 HB GE691.out));(case aF=>exact(fun k_ hk=>Kd.freshB (g:=gb691) (o:= .cells #[.int .i64 ((rd_T79 l1 x23_2).f0),.int .i64 ((rd_T79 l1 x23_2).f1),.int .i64 ((rd_T79 l1 x23_2).f2)] 79 (0,0)) (zq3 BK691) k_ hk));(case aO=>exact(by(with_reducible repeat(first|apply Kd.R_alloc|apply Kd.R_drewN|apply Kd.R_drew));exact Kd.R_mono HO_7.out (fun _ hk=>hk.2)));(case aS=>exact(below_size (by exact zk2 HB GE691.out)));(case aL=>have:=LMc23.out;omega);intro v698 w30 ho hb hg hat;rw [← Ny697.out] at ho;have HO699:=Aside0.mk (ho);replace BK691:=Aside0.mk (blk_grown (g:=gb691) (o:= .cells #[.int .i64 ((rd_T79 l1 x23_2).f0),.int .i64 ((rd_T79 l1 x23_2).f1),.int .i64 ((rd_T79 l1 x23_2).f2)] 79 (0,0)) (zq3 BK691) hg (Kd.R_away HO_7.out (fun _ hk=>hk.2)));replace HO694:=Aside0.mk (Kd.R_over' (zq4 HO694) (Kd.R_typed (zq4 HO_7)) (by decide) hg);replace HB:=Aside0.mk (hb);clear HO_7;clear ho hb hg hat)))
          go_roundg k2
          case measure=>have:=HK1.out;have:=HK2.out;omega
          case rel=>exact⟨(y697),(wrap64 (x8_2+x9_1)),(wrap64 (x23_2+1)),(by first|rfl|(simp;done)|(simp [*];done)),(by first|rfl|(simp;done)|(simp [*];done)),H',⟨by have:=HK1.out;have:=HK2.out;omega⟩,⟨by(with_reducible repeat(first|apply Kd.R_alloc|apply Kd.R_drewN|apply Kd.R_drew));exact Kd.R_mono HO699.out (fun _ hk=>trivial)⟩,⟨by exact zk2 HB GE691.out⟩⟩
        ·rw [if_neg c11] at H
         have c11b0:(((rd_T79 l1 x23_2).f2)==x9_1)=false:=beq_eq_false_iff_ne.mpr c11
         have c11b1:(((rd_T79 l1 x23_2).f2) !=x9_1)=true:=bne_iff_ne.mpr c11
         have H':=Aside0.mk H
         clear H
         have p690: 0≤ (x23_2:Int):=of_decide_eq_true zq1
         have q690:x23_2< (l1.length:Int):=of_decide_eq_true zq1
         obtain⟨ad690,e690,hx690_0,hx690_1,hx690_2⟩:=at_T79 HR1.out x23_2 p690 q690
         cases e690
         replace hx690_0:=zhx HB hx690_0
         replace hx690_1:=zhx HB hx690_1
         replace hx690_2:=zhx HB hx690_2
         replace p690:=eq_true p690
         replace q690:=eq_true q690
         go_wp2_with (first|((with_reducible refine gate_dst (N:=11) rfl ?_);refine box_event ?hg (N:=11) ?hd (cs:= #[.int .i64 0,.int .i64 0,.int .i64 0]) (t:=79) ?hr ?_;(case hd=>rfl);(case hg=>rfl);(case hr=>first|(go_simp;done)|(go_simp;rfl));intro gb691 hg w31 hbox hb;have BK691:=Aside0.mk (hbox);have GW691:=Aside0.mk ((by rw [hg];exact(below_size (by exact zk1 HB)):w.heap.size≤gb691));have GE691:=Aside0.mk ((by rw [hg];exact(below_size (by exact zk1 HB)):w.heap.size≤gb691));replace HO_7:=Aside0.mk (Kd.R_below (Kd.R_elderB (zq4 HO_7) gb691 (Nat.le_of_eq hg.symm)) hb);replace HB:=Aside0.mk (below_step (by exact zk1 HB) hb);clear hb hbox hg;have hcz32_0:w31.cell? ⟨gb691,0,none⟩=some (.int .i64 0):=(blk_cell BK691.out 0).trans rfl;have hcz32_1:w31.cell? ⟨gb691,1,none⟩=some (.int .i64 0):=(blk_cell BK691.out 1).trans rfl;have hcz32_2:w31.cell? ⟨gb691,2,none⟩=some (.int .i64 0):=(blk_cell BK691.out 2).trans rfl;have hfz32_0:=blk_frozen BK691.out 0;have hfz32_1:=blk_frozen BK691.out 1;have hfz32_2:=blk_frozen BK691.out 2;obtain⟨Ao33,co33,eo33⟩:=Kd.R_slice HO_7.out;subst eo33)|(go_at_call 79;(with_reducible refine(spec_l8Groups.calls k2 a0 _ _ x7_2 t692 _ ?side1 ?side2 A10.out).mono ?_);(case side1=>refine(Kd.R_reads' (e:=79) (base:=w.heap.size) (ok:=fun k_=>(True∧k_≠gb691)) (n:=x7_2.length) (c:=co33) ?_).2.2;exact(by(with_reducible repeat(first|apply Kd.R_alloc|apply Kd.R_drewN|apply Kd.R_drew));exact(Kd.R_mono (Kd.R_far (p:=⟨gb691,2,none⟩) (Kd.R_far (p:=⟨gb691,1,none⟩) (Kd.R_far (p:=⟨gb691,0,none⟩) (Kd.R_mono HO_7.out (fun k_ hk=>(⟨hk,hk.2⟩ :_∧k_≠gb691))) (fun _ hk=>hk.2) (.int .i64 ((rd_T79 l1 x23_2).f0))) (fun _ hk=>hk.2) (.int .i64 ((rd_T79 l1 x23_2).f1))) (fun _ hk=>hk.2) (.int .i64 ((rd_T79 l1 x23_2).f2))) (fun _ h_=>h_.1))));(case side2=>exact(Kd.R_reads' HO_7.out).2.1);rintro e w34 ⟨v693,rfl,ho0,hb⟩;have HO694:=Aside0.mk (Kd.R_lower ho0 (below_size (by exact zk2 HB GE691.out)));replace HO_7:=Aside0.mk (Kd.R_below (by(with_reducible repeat(first|apply Kd.R_alloc|apply Kd.R_drewN|apply Kd.R_drew));exact(Kd.R_mono (Kd.R_far (p:=⟨gb691,2,none⟩) (Kd.R_far (p:=⟨gb691,1,none⟩) (Kd.R_far (p:=⟨gb691,0,none⟩) (Kd.R_mono HO_7.out (fun k_ hk=>(⟨hk,hk.2⟩ :_∧k_≠gb691))) (fun _ hk=>hk.2) (.int .i64 ((rd_T79 l1 x23_2).f0))) (fun _ hk=>hk.2) (.int .i64 ((rd_T79 l1 x23_2).f1))) (fun _ hk=>hk.2) (.int .i64 ((rd_T79 l1 x23_2).f2))) (fun _ h_=>h_.1))) hb);replace BK691:=Aside0.mk (blk_below (g:=gb691) (o:= .cells #[.int .i64 ((rd_T79 l1 x23_2).f0),.int .i64 ((rd_T79 l1 x23_2).f1),.int .i64 ((rd_T79 l1 x23_2).f2)] 79 (0,0)) (by(with_reducible repeat(first|refine blk_drewN ?_ _|refine blk_drew ?_ |refine blk_alloc ?_ _));refine blk_put (cs:= #[.int .i64 ((rd_T79 l1 x23_2).f0),.int .i64 ((rd_T79 l1 x23_2).f1),.int .i64 0]) ?_ 2 _ rfl;(with_reducible repeat(first|refine blk_drewN ?_ _|refine blk_drew ?_ |refine blk_alloc ?_ _));refine blk_put (cs:= #[.int .i64 ((rd_T79 l1 x23_2).f0),.int .i64 0,.int .i64 0]) ?_ 1 _ rfl;(with_reducible repeat(first|refine blk_drewN ?_ _|refine blk_drew ?_ |refine blk_alloc ?_ _));refine blk_put (cs:= #[.int .i64 0,.int .i64 0,.int .i64 0]) ?_ 0 _ rfl;(with_reducible repeat(first|refine blk_drewN ?_ _|refine blk_drew ?_ |refine blk_alloc ?_ _));exact BK691.out) hb);replace HB:=Aside0.mk (below_step (by exact zk2 HB GE691.out) hb);(try clear hb);(try clear hb2);(try clear hk);(try clear hi);(try clear ho0);have hcz35_0:w34.cell? ⟨gb691,0,none⟩=some (.int .i64 ((rd_T79 l1 x23_2).f0)):=(blk_cell BK691.out 0).trans rfl;have hcz35_1:w34.cell? ⟨gb691,1,none⟩=some (.int .i64 ((rd_T79 l1 x23_2).f1)):=(blk_cell BK691.out 1).trans rfl;have hcz35_2:w34.cell? ⟨gb691,2,none⟩=some (.int .i64 ((rd_T79 l1 x23_2).f2)):=(blk_cell BK691.out 2).trans rfl;have hfz35_0:=blk_frozen BK691.out 0;have hfz35_1:=blk_frozen BK691.out 1;have hfz35_2:=blk_frozen BK691.out 2))
         repeat(go_quiet (first|((with_reducible refine gate_dst (N:=11) rfl ?_);refine box_event ?hg (N:=11) ?hd (cs:= #[.int .i64 0,.int .i64 0,.int .i64 0]) (t:=79) ?hr ?_;(case hd=>rfl);(case hg=>rfl);(case hr=>first|(go_simp;done)|(go_simp;rfl));intro gb691 hg w31 hbox hb;have BK691:=Aside0.mk (hbox);have GW691:=Aside0.mk ((by rw [hg];exact(below_size (by exact zk1 HB)):w.heap.size≤gb691));have GE691:=Aside0.mk ((by rw [hg];exact(below_size (by exact zk1 HB)):w.heap.size≤gb691));replace HO_7:=Aside0.mk (Kd.R_below (Kd.R_elderB (zq4 HO_7) gb691 (Nat.le_of_eq hg.symm)) hb);replace HB:=Aside0.mk (below_step (by exact zk1 HB) hb);clear hb hbox hg;have hcz32_0:w31.cell? ⟨gb691,0,none⟩=some (.int .i64 0):=(blk_cell BK691.out 0).trans rfl;have hcz32_1:w31.cell? ⟨gb691,1,none⟩=some (.int .i64 0):=(blk_cell BK691.out 1).trans rfl;have hcz32_2:w31.cell? ⟨gb691,2,none⟩=some (.int .i64 0):=(blk_cell BK691.out 2).trans rfl;have hfz32_0:=blk_frozen BK691.out 0;have hfz32_1:=blk_frozen BK691.out 1;have hfz32_2:=blk_frozen BK691.out 2;obtain⟨Ao33,co33,eo33⟩:=Kd.R_slice HO_7.out;subst eo33)|(go_at_call 79;(with_reducible refine(spec_l8Groups.calls k2 a0 _ _ x7_2 t692 _ ?side1 ?side2 A10.out).mono ?_);(case side1=>refine(Kd.R_reads' (e:=79) (base:=w.heap.size) (ok:=fun k_=>(True∧k_≠gb691)) (n:=x7_2.length) (c:=co33) ?_).2.2;exact(by(with_reducible repeat(first|apply Kd.R_alloc|apply Kd.R_drewN|apply Kd.R_drew));exact(Kd.R_mono (Kd.R_far (p:=⟨gb691,2,none⟩) (Kd.R_far (p:=⟨gb691,1,none⟩) (Kd.R_far (p:=⟨gb691,0,none⟩) (Kd.R_mono HO_7.out (fun k_ hk=>(⟨hk,hk.2⟩ :_∧k_≠gb691))) (fun _ hk=>hk.2) (.int .i64 ((rd_T79 l1 x23_2).f0))) (fun _ hk=>hk.2) (.int .i64 ((rd_T79 l1 x23_2).f1))) (fun _ hk=>hk.2) (.int .i64 ((rd_T79 l1 x23_2).f2))) (fun _ h_=>h_.1))));(case side2=>exact(Kd.R_reads' HO_7.out).2.1);rintro e w34 ⟨v693,rfl,ho0,hb⟩;have HO694:=Aside0.mk (Kd.R_lower ho0 (below_size (by exact zk2 HB GE691.out)));replace HO_7:=Aside0.mk (Kd.R_below (by(with_reducible repeat(first|apply Kd.R_alloc|apply Kd.R_drewN|apply Kd.R_drew));exact(Kd.R_mono (Kd.R_far (p:=⟨gb691,2,none⟩) (Kd.R_far (p:=⟨gb691,1,none⟩) (Kd.R_far (p:=⟨gb691,0,none⟩) (Kd.R_mono HO_7.out (fun k_ hk=>(⟨hk,hk.2⟩ :_∧k_≠gb691))) (fun _ hk=>hk.2) (.int .i64 ((rd_T79 l1 x23_2).f0))) (fun _ hk=>hk.2) (.int .i64 ((rd_T79 l1 x23_2).f1))) (fun _ hk=>hk.2) (.int .i64 ((rd_T79 l1 x23_2).f2))) (fun _ h_=>h_.1))) hb);replace BK691:=Aside0.mk (blk_below (g:=gb691) (o:= .cells #[.int .i64 ((rd_T79 l1 x23_2).f0),.int .i64 ((rd_T79 l1 x23_2).f1),.int .i64 ((rd_T79 l1 x23_2).f2)] 79 (0,0)) (by(with_reducible repeat(first|refine blk_drewN ?_ _|refine blk_drew ?_ |refine blk_alloc ?_ _));refine blk_put (cs:= #[.int .i64 ((rd_T79 l1 x23_2).f0),.int .i64 ((rd_T79 l1 x23_2).f1),.int .i64 0]) ?_ 2 _ rfl;(with_reducible repeat(first|refine blk_drewN ?_ _|refine blk_drew ?_ |refine blk_alloc ?_ _));refine blk_put (cs:= #[.int .i64 ((rd_T79 l1 x23_2).f0),.int .i64 0,.int .i64 0]) ?_ 1 _ rfl;(with_reducible repeat(first|refine blk_drewN ?_ _|refine blk_drew ?_ |refine blk_alloc ?_ _));refine blk_put (cs:= #[.int .i64 0,.int .i64 0,.int .i64 0]) ?_ 0 _ rfl;(with_reducible repeat(first|refine blk_drewN ?_ _|refine blk_drew ?_ |refine blk_alloc ?_ _));exact BK691.out) hb);replace HB:=Aside0.mk (below_step (by exact zk2 HB GE691.out) hb);(try clear hb);(try clear hb2);(try clear hk);(try clear hi);(try clear ho0);have hcz35_0:w34.cell? ⟨gb691,0,none⟩=some (.int .i64 ((rd_T79 l1 x23_2).f0)):=(blk_cell BK691.out 0).trans rfl;have hcz35_1:w34.cell? ⟨gb691,1,none⟩=some (.int .i64 ((rd_T79 l1 x23_2).f1)):=(blk_cell BK691.out 1).trans rfl;have hcz35_2:w34.cell? ⟨gb691,2,none⟩=some (.int .i64 ((rd_T79 l1 x23_2).f2)):=(blk_cell BK691.out 2).trans rfl;have hfz35_0:=blk_frozen BK691.out 0;have hfz35_1:=blk_frozen BK691.out 1;have hfz35_2:=blk_frozen BK691.out 2));try go_wp2_with (first|((with_reducible refine gate_dst (N:=11) rfl ?_);refine box_event ?hg (N:=11) ?hd (cs:= #[.int .i64 0,.int .i64 0,.int .i64 0]) (t:=79) ?hr ?_;(case hd=>rfl);(case hg=>rfl);(case hr=>first|(go_simp;done)|(go_simp;rfl));intro gb691 hg w31 hbox hb;have BK691:=Aside0.mk (hbox);have GW691:=Aside0.mk ((by rw [hg];exact(below_size (by exact zk1 HB)):w.heap.size≤gb691));have GE691:=Aside0.mk ((by rw [hg];exact(below_size (by exact zk1 HB)):w.heap.size≤gb691));replace HO_7:=Aside0.mk (Kd.R_below (Kd.R_elderB (zq4 HO_7) gb691 (Nat.le_of_eq hg.symm)) hb);replace HB:=Aside0.mk (below_step (by exact zk1 HB) hb);clear hb hbox hg;have hcz32_0:w31.cell? ⟨gb691,0,none⟩=some (.int .i64 0):=(blk_cell BK691.out 0).trans rfl;have hcz32_1:w31.cell? ⟨gb691,1,none⟩=some (.int .i64 0):=(blk_cell BK691.out 1).trans rfl;have hcz32_2:w31.cell? ⟨gb691,2,none⟩=some (.int .i64 0):=(blk_cell BK691.out 2).trans rfl;have hfz32_0:=blk_frozen BK691.out 0;have hfz32_1:=blk_frozen BK691.out 1;have hfz32_2:=blk_frozen BK691.out 2;obtain⟨Ao33,co33,eo33⟩:=Kd.R_slice HO_7.out;subst eo33)|(go_at_call 79;(with_reducible refine(spec_l8Groups.calls k2 a0 _ _ x7_2 t692 _ ?side1 ?side2 A10.out).mono ?_);(case side1=>refine(Kd.R_reads' (e:=79) (base:=w.heap.size) (ok:=fun k_=>(True∧k_≠gb691)) (n:=x7_2.length) (c:=co33) ?_).2.2;exact(by(with_reducible repeat(first|apply Kd.R_alloc|apply Kd.R_drewN|apply Kd.R_drew));exact(Kd.R_mono (Kd.R_far (p:=⟨gb691,2,none⟩) (Kd.R_far (p:=⟨gb691,1,none⟩) (Kd.R_far (p:=⟨gb691,0,none⟩) (Kd.R_mono HO_7.out (fun k_ hk=>(⟨hk,hk.2⟩ :_∧k_≠gb691))) (fun _ hk=>hk.2) (.int .i64 ((rd_T79 l1 x23_2).f0))) (fun _ hk=>hk.2) (.int .i64 ((rd_T79 l1 x23_2).f1))) (fun _ hk=>hk.2) (.int .i64 ((rd_T79 l1 x23_2).f2))) (fun _ h_=>h_.1))));(case side2=>exact(Kd.R_reads' HO_7.out).2.1);rintro e w34 ⟨v693,rfl,ho0,hb⟩;have HO694:=Aside0.mk (Kd.R_lower ho0 (below_size (by exact zk2 HB GE691.out)));replace HO_7:=Aside0.mk (Kd.R_below (by(with_reducible repeat(first|apply Kd.R_alloc|apply Kd.R_drewN|apply Kd.R_drew));exact(Kd.R_mono (Kd.R_far (p:=⟨gb691,2,none⟩) (Kd.R_far (p:=⟨gb691,1,none⟩) (Kd.R_far (p:=⟨gb691,0,none⟩) (Kd.R_mono HO_7.out (fun k_ hk=>(⟨hk,hk.2⟩ :_∧k_≠gb691))) (fun _ hk=>hk.2) (.int .i64 ((rd_T79 l1 x23_2).f0))) (fun _ hk=>hk.2) (.int .i64 ((rd_T79 l1 x23_2).f1))) (fun _ hk=>hk.2) (.int .i64 ((rd_T79 l1 x23_2).f2))) (fun _ h_=>h_.1))) hb);replace BK691:=Aside0.mk (blk_below (g:=gb691) (o:= .cells #[.int .i64 ((rd_T79 l1 x23_2).f0),.int .i64 ((rd_T79 l1 x23_2).f1),.int .i64 ((rd_T79 l1 x23_2).f2)] 79 (0,0)) (by(with_reducible repeat(first|refine blk_drewN ?_ _|refine blk_drew ?_ |refine blk_alloc ?_ _));refine blk_put (cs:= #[.int .i64 ((rd_T79 l1 x23_2).f0),.int .i64 ((rd_T79 l1 x23_2).f1),.int .i64 0]) ?_ 2 _ rfl;(with_reducible repeat(first|refine blk_drewN ?_ _|refine blk_drew ?_ |refine blk_alloc ?_ _));refine blk_put (cs:= #[.int .i64 ((rd_T79 l1 x23_2).f0),.int .i64 0,.int .i64 0]) ?_ 1 _ rfl;(with_reducible repeat(first|refine blk_drewN ?_ _|refine blk_drew ?_ |refine blk_alloc ?_ _));refine blk_put (cs:= #[.int .i64 0,.int .i64 0,.int .i64 0]) ?_ 0 _ rfl;(with_reducible repeat(first|refine blk_drewN ?_ _|refine blk_drew ?_ |refine blk_alloc ?_ _));exact BK691.out) hb);replace HB:=Aside0.mk (below_step (by exact zk2 HB GE691.out) hb);(try clear hb);(try clear hb2);(try clear hk);(try clear hi);(try clear ho0);have hcz35_0:w34.cell? ⟨gb691,0,none⟩=some (.int .i64 ((rd_T79 l1 x23_2).f0)):=(blk_cell BK691.out 0).trans rfl;have hcz35_1:w34.cell? ⟨gb691,1,none⟩=some (.int .i64 ((rd_T79 l1 x23_2).f1)):=(blk_cell BK691.out 1).trans rfl;have hcz35_2:w34.cell? ⟨gb691,2,none⟩=some (.int .i64 ((rd_T79 l1 x23_2).f2)):=(blk_cell BK691.out 2).trans rfl;have hfz35_0:=blk_frozen BK691.out 0;have hfz35_1:=blk_frozen BK691.out 1;have hfz35_2:=blk_frozen BK691.out 2)))
         go_roundg k2
         case measure=>have:=HK1.out;have:=HK2.out;omega
         case rel=>exact⟨(x7_2),(x8_2),(wrap64 (x23_2+1)),(by first|rfl|(simp;done)|(simp [*];done)),(by first|rfl|(simp;done)|(simp [*];done)),H',⟨by have:=HK1.out;have:=HK2.out;omega⟩,⟨by(with_reducible repeat(first|apply Kd.R_alloc|apply Kd.R_drewN|apply Kd.R_drew));exact Kd.R_mono HO_7.out (fun _ hk=>trivial)⟩,⟨by exact zk2 HB GE691.out⟩⟩
       ·rw [if_neg c7] at H
        have c7b0:decide (x23_2< (l1.length:Int))=false:=decide_eq_false c7
        clear c7
        have H':=Aside0.mk H
        clear H
        go_wp2
        repeat(go_quiet (fail);try go_wp2)
        go_roundg k2
        case measure=>have:=HK1.out;have:=HK2.out;omega
        case rel=>exact⟨(x7_2),(x8_2),(wrap64 (x9_1+1)),(by first|rfl|(simp;done)|(simp [*];done)),(by first|rfl|(simp;done)|(simp [*];done)),H',⟨by have:=HK1.out;have:=HK2.out;omega⟩,⟨by(with_reducible repeat(first|apply Kd.R_alloc|apply Kd.R_drewN|apply Kd.R_drew));exact HO_7.out⟩,⟨by exact zk1 HB⟩⟩
    ·rw [if_neg c6] at H
     have c6b0:decide (x9_1≤100)=false:=decide_eq_false c6
     clear c6
     simp only [Option.some.injEq,Prod.mk.injEq] at H
     obtain⟨rfl,rfl,rfl⟩:=H
     go_wp2
     repeat(go_quiet (fail);try go_wp2)
     go_ret3
     exact⟨_,by first|rfl|(simp [errW_none,errW_some]<;>rfl)|(simp [*,errW_none,errW_some]<;>rfl),by(with_reducible repeat(first|apply Kd.R_alloc|apply Kd.R_drewN|apply Kd.R_drew));exact HO_7.out,by exact zk1 HB⟩
 ·replace c4:=Bool.eq_false_iff.mpr c4
  subst c4
  have H1:(some (([] :List (S79)),0,false))=some (r1,r2,r3):=by rw [if_neg (show ¬ (false=true) by decide)] at H;exact H
  clear H
  have H:=H1
  clear H1
  simp only [Option.some.injEq,Prod.mk.injEq] at H
  obtain⟨rfl,rfl,rfl⟩:=H
  go_enter Try.func41,Try.ntmps41
  go_wp2_with (first|(go_at_call 66;(with_reducible refine(spec_GoodEdges.calls k a0 _ _ l1 false _ ?side1 ?side2 A3.out).mono ?_);(case side1=>exact zcc (HR1.out));(case side2=>exact HC1.out);rintro e w36 ⟨rfl,hb⟩;replace HB:=Aside0.mk (below_step (by exact zk1 HB) hb);(try clear hb);(try clear hb2);(try clear hk);(try clear hi)))
  repeat(go_quiet (first|(go_at_call 66;(with_reducible refine(spec_GoodEdges.calls k a0 _ _ l1 false _ ?side1 ?side2 A3.out).mono ?_);(case side1=>exact zcc (HR1.out));(case side2=>exact HC1.out);rintro e w36 ⟨rfl,hb⟩;replace HB:=Aside0.mk (below_step (by exact zk1 HB) hb);(try clear hb);(try clear hb2);(try clear hk);(try clear hi)));try go_wp2_with (first|(go_at_call 66;(with_reducible refine(spec_GoodEdges.calls k a0 _ _ l1 false _ ?side1 ?side2 A3.out).mono ?_);(case side1=>exact zcc (HR1.out));(case side2=>exact HC1.out);rintro e w36 ⟨rfl,hb⟩;replace HB:=Aside0.mk (below_step (by exact zk1 HB) hb);(try clear hb);(try clear hb2);(try clear hk);(try clear hi))))
  go_ret3
  exact⟨_,by first|rfl|(simp [errW_none,errW_some]<;>rfl)|(simp [*,errW_none,errW_some]<;>rfl),by first|exact Kd.R_nil _ _ _ _ _|exact Kd.N_nil _ _ _ _ _|exact Kd.V_nil _ _ _ _ _|exact Kd.Q_nil _ _ _ _ _|exact Kd.S_nil _ _ _ _ _,by exact zk1 HB⟩
def slices_Clone_Edge.f (l0:List S79):Option (List S79):=if l0.length< 5864062014805 then some l0 else none
set_option maxHeartbeats 8000000 in
set_option maxRecDepth 100000 in
theorem slices_Clone_Edge.calls (A0:Option Addr) (c0:Nat) (l0:List (S79)) (r:List (S79)) (w:World) (hr0:Kd.C k79 w A0 l0.length l0) (hc0:l0.length≤c0) (h:slices_Clone_Edge.f l0=some r):
  Calls Try.prog 80 #[.slice A0 l0.length c0] w fun e w'=> ∃ v0_:Value,e= .returned (v0_)∧Kd.R k79 79 w' w.heap.size (fun _=>True) v0_ r∧Below w.heap.size w w':=by
 have HB:=Aside0.mk (Below.refl w.heap.size w)
 unfold slices_Clone_Edge.f at h
 by_cases c4:l0.length< 5864062014805
 ·rw [if_pos c4] at h
  obtain rfl:=Option.some.inj h
  clear h
  have hnil:=fun(W:World) (a:Option Addr) (n c:Nat)=>Lib.run_eql_slice_nil (P:=Try.prog) W 35 79 a n c 0 0 Try.underlying35
  cases A0 with
  |none=>
   have hz:l0= []:=by
    rcases Nat.eq_zero_or_pos l0.length with h0|h0
    ·exact List.eq_nil_of_length_eq_zero h0
    ·obtain⟨ad,he,_⟩:=hr0.2.2 h0
     cases he
   subst hz
   clear hr0
   go_enter Try.func80,Try.ntmps80
   go_wp2
   go_ret
   exact⟨_,rfl,Kd.R_nil _ _ _ _ _,by exact zk1 HB⟩
  |some ad=>
   have HR0:=Aside0.mk hr0
   have HC0:=Aside0.mk hc0
   have LMc4:=Aside0.mk c4
   clear hr0 hc0 c4
   obtain⟨y293,hy293⟩ :∃ y_:List (S79),y_= (([] :List (S79))):=⟨_,rfl⟩
   have Ny293:=Aside0.mk hy293
   obtain⟨y296,hy296⟩ :∃ y_:List (S79),y_= (y293++l0):=⟨_,rfl⟩
   have Ny296:=Aside0.mk hy296
   have Eq296:=Aside0.mk (show y296=l0 by rw [hy296,hy293];rfl)
   clear hy293 hy296
   go_enter Try.func80,Try.ntmps80
   go_wp2_with (first|((with_reducible refine gate_dst (N:=5) rfl ?_);refine Kd.R_lit k79 _ 79 ?hg (N:=5) ?hd (xs:=([] :List (S79))) (inner:= []) (ok:=fun _=>True) (okp:=fun _=>True) ?hr ?hp (fun _ hk=>hk) trivial (Below.refl _ _) (Nat.le_refl _) (by simp) ?_;(case hd=>rfl);(case hg=>rfl);(case hr=>first|(go_simp;done)|(go_simp;rfl));(case hp=>exact(Reps.none _ _));intro v294 w14 ho15 hb hg_ hnew_;clear hg_ hnew_;(first|rw [← Ny293.out] at ho15|(simp only [Int.reduceToNat] at ho15;rw [← Ny293.out] at ho15));have HO295:=Aside0.mk (Kd.R_lower ho15 (below_size (by exact zk1 HB)));replace HB:=Aside0.mk (below_step (by exact zk1 HB) hb);clear hb ho15)|((with_reducible refine gate_builtin (b:= .append) (xs:= #[.tmp 5,.tmp 6]) rfl ?_);at_builtin;refine Kd.R_append_rows k79 (w0:=w) w.heap.size rfl (.tmp 5) (.tmp 6) 35 79 (.agg #[(.int .i64 0),(.int .i64 0),(.int .i64 0)]) 24 rfl Try.underlying35 info79 rfl (by decide) (by omega) v294 y293 l0 _ _ _ (fun _=>True) (fun _=>False) rfl rfl ?aO ?aR (fun _ _ h=>h) (fun _ h=>h.elim) ?aF ?aB ?aS ?aL ?_;(case aR=>exact zcc ((Kd.C_below HR0.out HB.out)));(case aB=>exact(by exact zk1 HB));(case aF=>exact(fun _ _=>trivial));(case aO=>exact(zq4 HO295));(case aS=>exact(below_size (by exact zk1 HB)));(case aL=>have:=LMc4.out;have h293:=Ny293.out;subst h293;simp only [List.length_nil];omega);intro v297 w16 ho hb hg hat;rw [← Ny296.out,Eq296.out] at ho;have HO298:=Aside0.mk (ho);replace HB:=Aside0.mk (hb);clear HO295;clear ho hb hg hat))
   go_ret
   exact⟨_,rfl,by(with_reducible repeat(first|apply Kd.R_alloc|apply Kd.R_drewN|apply Kd.R_drew));exact HO298.out,by exact zk1 HB⟩
 ·rw [if_neg c4] at h
  cases h
end Go.Proofs.Ytedegfbheihopaa.P
