/- Functions, walks and plain lemmas that the law FnLeastTree reaches, part 3. -/
import Derived.Test.YtedegfbheihopaaCFnLeastTree2
import Derived.Below
import Derived.Deep.Draws
import Derived.Deep.AppendLies
import Derived.Maps.AppendAt
import Derived.OwnWalk
import Derived.Laws.BytesArg
import Derived.Laws.MakeOwn
import Derived.Laws.OwnMore
import Derived.Deep.OwnRows
import Derived.Tactics
import Derived.Lib.ConvBytes
import Derived.Laws.Slices
import Derived.WalkKit
import Derived.KernelRfl
import Derived.RowKit3
import Derived.Deep.LoopGhost
import Derived.Deep.QuietTactic
import Derived.BigQuiet
import Derived.WideLaws
import Derived.Deep.DeepCutAuto
import Derived.Deep.CutBlock
import Derived.Deep.RegionHeld3
import Derived.Laws.Rows
import Derived.Lib.AppendStr
import Derived.ArgAppend
import Derived.Laws.IdiomCopy
import Derived.OrdersHeld
import Derived.Laws.BitsLemmas
import Derived.RowKit
import Derived.WalkSpells
import Derived.Lib.SliceRun
import Derived.Shelf.Abstract
import Derived.Maps.OwnSet
import Derived.Maps.OwnOps
import Derived.ProofKit
import Derived.OpenShut
import Derived.ShutString
import Derived.ChangeOld
import Derived.SizedLaws
namespace Go.Proofs.Ytedegfbheihopaa.P
open Go.RowKit Go.Proofs.YtedegfbheihopaaW.PrintWords Go.Proofs.YtedegfbheihopaaW.PrintLast Go.Proofs.YtedegfbheihopaaW.PrintMore
attribute [local go_sem] max2_int min2_int max_two min_two max_three min_three max_four min_four   -- for this text's walks alone
set_option linter.unusedVariables false
set_option linter.unusedSimpArgs false
def impl_cost.l0:Nat→Int→Int→List (S79)→Int→Int→Option (Int)
 | 0,_,_,_,_,_=>none
 |k+1,x1,x2,x9,x10,x11=>if x11<x10 then(if 0≤x11 then(if x11< (x9.length:Int) then(if ((rd_T79 x9 x11).f0)= (mn x1 x2) then(if ((rd_T79 x9 x11).f1)= (mx x1 x2) then(some ((rd_T79 x9 x11).f2)) else(impl_cost.l0 k x1 x2 x9 x10 (wrap64 (x11+1)))) else(impl_cost.l0 k x1 x2 x9 x10 (wrap64 (x11+1)))) else(none)) else(none)) else(some 0)
def impl_cost.f (k:Nat) (l0:List (S79)) (a1:Int) (a2:Int):Option (Int):=impl_cost.l0 k a1 a2 l0 (l0.length:Int) 0
set_option maxHeartbeats 8000000 in
set_option maxRecDepth 100000 in
theorem impl_cost.calls (k:Nat) (A0:Option Addr) (c0:Nat) (l0:List (S79)) (a1:Int) (a2:Int) (r:Int) (w:World) (hr0:Kd.C k79 w A0 l0.length l0) (hc0:l0.length≤c0) (h:impl_cost.f k l0 a1 a2=some r):
  Calls Try.prog 70 #[.slice A0 l0.length c0,.int .i64 a1,.int .i64 a2] w fun e w'=>e= .returned (.int .i64 r)∧Below w.heap.size w w':=by
 have hu79:=Try.underlying79
 have HR0:=Aside0.mk hr0
 have HC0:=Aside0.mk hc0
 clear hr0 hc0
 have HB:=Aside0.mk (Below.refl w.heap.size w)
 have H:(impl_cost.l0 k a1 a2 l0 (l0.length:Int) 0)=some r:=h
 clear h
 have H':=Aside0.mk H
 clear H
 go_enter Try.func70,Try.ntmps70
 go_wp2
 go_loopg [11] k (fun kq v11 w'=> ∃ (x11_1:Int),v11= .int .i64 x11_1∧Aside0 (impl_cost.l0 kq a1 a2 l0 (l0.length:Int) x11_1=some r)∧Aside0 (kq≤k)∧Aside0 (Below w.heap.size w w'))
 case atStart=>exact⟨(0),zrs,H',⟨Nat.le_refl _⟩,⟨by exact zk1 HB⟩⟩
 case round=>
  clear H'
  try clear p2
  obtain⟨x11_1,rfl,HA,HK1,HB⟩:=hrel
  cases gk with
  |zero=>exact absurd HA.out (by simp [impl_cost.l0])
  |succ k1=>
   have H:=HA.out
   clear HA
   simp only [impl_cost.l0] at H
   by_cases c4:x11_1< (l0.length:Int)
   ·rw [if_pos c4] at H
    have c4b0:decide (x11_1< (l0.length:Int))=true:=decide_eq_true c4
    clear c4
    by_cases c5: 0≤x11_1
    case neg=>exact znn c5 H
    rw [if_pos c5] at H
    have c5b0:decide (0≤x11_1)=true:=decide_eq_true c5
    clear c5
    by_cases c6:x11_1< (l0.length:Int)
    case neg=>exact znn c6 H
    rw [if_pos c6] at H
    have c6b0:decide (x11_1< (l0.length:Int))=true:=decide_eq_true c6
    clear c6
    obtain⟨ji7,hji7⟩ :∃ j_:Int,(mn a1 a2)=j_:=⟨_,rfl⟩
    replace H:(if ((rd_T79 l0 x11_1).f0)= (ji7) then(if ((rd_T79 l0 x11_1).f1)= (mx a1 a2) then(some ((rd_T79 l0 x11_1).f2)) else(impl_cost.l0 k1 a1 a2 l0 (l0.length:Int) (wrap64 (x11_1+1)))) else(impl_cost.l0 k1 a1 a2 l0 (l0.length:Int) (wrap64 (x11_1+1))))=some r:=by first|(rw [hji7] at H;exact H)|(simp only [hji7] at H ⊢;exact H)
    have hji7_:(if a2<a1 then a2 else a1)=ji7:=hji7
    by_cases c8:((rd_T79 l0 x11_1).f0)= (ji7)
    ·rw [if_pos c8] at H
     have c8b0:(((rd_T79 l0 x11_1).f0)== (ji7))=true:=beq_iff_eq.mpr c8
     have c8b1:(((rd_T79 l0 x11_1).f0) != (ji7))=false:=bne_eq_false_iff_eq.mpr c8
     clear c8
     obtain⟨ji9,hji9⟩ :∃ j_:Int,(mx a1 a2)=j_:=⟨_,rfl⟩
     replace H:(if ((rd_T79 l0 x11_1).f1)= (ji9) then(some ((rd_T79 l0 x11_1).f2)) else(impl_cost.l0 k1 a1 a2 l0 (l0.length:Int) (wrap64 (x11_1+1))))=some r:=by first|(rw [hji9] at H;exact H)|(simp only [hji9] at H ⊢;exact H)
     have hji9_:(if a1<a2 then a2 else a1)=ji9:=hji9
     by_cases c10:((rd_T79 l0 x11_1).f1)= (ji9)
     ·rw [if_pos c10] at H
      have c10b0:(((rd_T79 l0 x11_1).f1)== (ji9))=true:=beq_iff_eq.mpr c10
      have c10b1:(((rd_T79 l0 x11_1).f1) != (ji9))=false:=bne_eq_false_iff_eq.mpr c10
      clear c10
      obtain rfl:=Option.some.inj H
      have p316: 0≤ (x11_1:Int):=of_decide_eq_true zq1
      have q316:x11_1< (l0.length:Int):=of_decide_eq_true zq1
      obtain⟨ad316,e316,hx316_0,hx316_1,hx316_2⟩:=at_T79 HR0.out x11_1 p316 q316
      cases e316
      replace hx316_0:=zhx HB hx316_0
      replace hx316_1:=zhx HB hx316_1
      replace hx316_2:=zhx HB hx316_2
      replace p316:=eq_true p316
      replace q316:=eq_true q316
      go_wp2_with (first|((with_reducible refine gate_dst (N:=8) rfl ?_);(try(refine gate_guard (by rfl) ?_;dsimp only));refine box_event ?hg (N:=8) ?hd (cs:= #[.int .i64 0,.int .i64 0,.int .i64 0]) (t:=79) ?hr ?_;(case hd=>rfl);(case hg=>rfl);(case hr=>first|(go_simp;done)|(go_simp;rfl));intro gb317 hg w11 hbox hb;have BK317:=Aside0.mk (hbox);have GW317:=Aside0.mk ((by rw [hg];exact(below_size (by exact zk1 HB)):w.heap.size≤gb317));have GE317:=GW317;replace HB:=Aside0.mk (below_step (by exact zk1 HB) hb);clear hb hbox hg;have hcz12_0:=zcz BK317 0 (.int .i64 0);have hcz12_1:=zcz BK317 1 (.int .i64 0);have hcz12_2:=zcz BK317 2 (.int .i64 0);have hfz12_0:=blk_frozen BK317.out 0;have hfz12_1:=blk_frozen BK317.out 1;have hfz12_2:=blk_frozen BK317.out 2))
      go_ret
      exact⟨by first|rfl|(simp [errW_none,errW_some]<;>rfl)|(simp only [← hji7,← hji9];first|rfl|(simp [errW_none,errW_some]<;>rfl))|(simp [*,errW_none,errW_some]<;>rfl),by exact zk2 HB GE317.out⟩
     ·rw [if_neg c10] at H
      have c10b0:(((rd_T79 l0 x11_1).f1)== (ji9))=false:=beq_eq_false_iff_ne.mpr c10
      have c10b1:(((rd_T79 l0 x11_1).f1) != (ji9))=true:=bne_iff_ne.mpr c10
      have H':=Aside0.mk H
      clear H
      have p316: 0≤ (x11_1:Int):=of_decide_eq_true zq1
      have q316:x11_1< (l0.length:Int):=of_decide_eq_true zq1
      obtain⟨ad316,e316,hx316_0,hx316_1,hx316_2⟩:=at_T79 HR0.out x11_1 p316 q316
      cases e316
      replace hx316_0:=zhx HB hx316_0
      replace hx316_1:=zhx HB hx316_1
      replace hx316_2:=zhx HB hx316_2
      replace p316:=eq_true p316
      replace q316:=eq_true q316
      go_wp2_with (first|((with_reducible refine gate_dst (N:=8) rfl ?_);(try(refine gate_guard (by rfl) ?_;dsimp only));refine box_event ?hg (N:=8) ?hd (cs:= #[.int .i64 0,.int .i64 0,.int .i64 0]) (t:=79) ?hr ?_;(case hd=>rfl);(case hg=>rfl);(case hr=>first|(go_simp;done)|(go_simp;rfl));intro gb317 hg w13 hbox hb;have BK317:=Aside0.mk (hbox);have GW317:=Aside0.mk ((by rw [hg];exact(below_size (by exact zk1 HB)):w.heap.size≤gb317));have GE317:=GW317;replace HB:=Aside0.mk (below_step (by exact zk1 HB) hb);clear hb hbox hg;have hcz14_0:=zcz BK317 0 (.int .i64 0);have hcz14_1:=zcz BK317 1 (.int .i64 0);have hcz14_2:=zcz BK317 2 (.int .i64 0);have hfz14_0:=blk_frozen BK317.out 0;have hfz14_1:=blk_frozen BK317.out 1;have hfz14_2:=blk_frozen BK317.out 2))
      go_roundg k1
      case measure=>have:=HK1.out;omega
      case rel=>exact⟨(wrap64 (x11_1+1)),zrs,H',⟨by have:=HK1.out;omega⟩,⟨by exact zk2 HB GE317.out⟩⟩
    ·rw [if_neg c8] at H
     have c8b0:(((rd_T79 l0 x11_1).f0)== (ji7))=false:=beq_eq_false_iff_ne.mpr c8
     have c8b1:(((rd_T79 l0 x11_1).f0) != (ji7))=true:=bne_iff_ne.mpr c8
     have H':=Aside0.mk H
     clear H
     have p316: 0≤ (x11_1:Int):=of_decide_eq_true zq1
     have q316:x11_1< (l0.length:Int):=of_decide_eq_true zq1
     obtain⟨ad316,e316,hx316_0,hx316_1,hx316_2⟩:=at_T79 HR0.out x11_1 p316 q316
     cases e316
     replace hx316_0:=zhx HB hx316_0
     replace hx316_1:=zhx HB hx316_1
     replace hx316_2:=zhx HB hx316_2
     replace p316:=eq_true p316
     replace q316:=eq_true q316
     go_wp2_with (first|((with_reducible refine gate_dst (N:=8) rfl ?_);(try(refine gate_guard (by rfl) ?_;dsimp only));refine box_event ?hg (N:=8) ?hd (cs:= #[.int .i64 0,.int .i64 0,.int .i64 0]) (t:=79) ?hr ?_;(case hd=>rfl);(case hg=>rfl);(case hr=>first|(go_simp;done)|(go_simp;rfl));intro gb317 hg w15 hbox hb;have BK317:=Aside0.mk (hbox);have GW317:=Aside0.mk ((by rw [hg];exact(below_size (by exact zk1 HB)):w.heap.size≤gb317));have GE317:=GW317;replace HB:=Aside0.mk (below_step (by exact zk1 HB) hb);clear hb hbox hg;have hcz16_0:=zcz BK317 0 (.int .i64 0);have hcz16_1:=zcz BK317 1 (.int .i64 0);have hcz16_2:=zcz BK317 2 (.int .i64 0);have hfz16_0:=blk_frozen BK317.out 0;have hfz16_1:=blk_frozen BK317.out 1;have hfz16_2:=blk_frozen BK317.out 2))
     go_roundg k1
     case measure=>have:=HK1.out;omega
     case rel=>exact⟨(wrap64 (x11_1+1)),zrs,H',⟨by have:=HK1.out;omega⟩,⟨by exact zk2 HB GE317.out⟩⟩
   ·rw [if_neg c4] at H
    have c4b0:decide (x11_1< (l0.length:Int))=false:=decide_eq_false c4
    clear c4
    obtain rfl:=Option.some.inj H
    go_wp2
    go_ret
    exact⟨zer,by exact zk1 HB⟩
mutual
def impl_TreeCost.j0:Nat→List (S79)→List Int→Bool→Option (Int × Bool)
 | 0,_,_,_=>none
 |k+1,x1,x2,x26=>if x26=true then(some (0,false)) else(impl_TreeCost.l0 k x1 0 x2 (x2.length:Int) 0)
def impl_TreeCost.l0:Nat→List (S79)→Int→List Int→Int→Int→Option (Int × Bool)
 | 0,_,_,_,_,_=>none
 |k+1,x1,x8,x27,x28,x29=>if x29<x28 then(if 0≤x29 then(if x29< (x27.length:Int) then(if (rd x27 x29)< 0 then(impl_TreeCost.l0 k x1 x8 x27 x28 (wrap64 (x29+1))) else((impl_cost.f k x1 x29 (rd x27 x29)).bind fun t321=>(if t321=0 then(some (0,false)) else(impl_TreeCost.l0 k x1 (wrap64 (x8+t321)) x27 x28 (wrap64 (x29+1)))))) else(none)) else(none)) else(some (x8,true))
end
def impl_TreeCost.f (k:Nat) (a0:Int) (l1:List (S79)) (l2:List Int):Option (Int × Bool):=(impl_GoodEdges.f k a0 l1).bind fun t318=>(if t318=true then((impl_GoodParents.f k l2).bind fun t319=>(if t319=true then(impl_TreeCost.j0 k l1 l2 ((l2.length:Int) !=a0)) else(impl_TreeCost.j0 k l1 l2 true))) else(impl_TreeCost.j0 k l1 l2 true))
set_option maxHeartbeats 8000000 in
set_option maxRecDepth 100000 in
theorem impl_TreeCost.calls (k:Nat) (a0:Int) (A1:Option Addr) (c1:Nat) (l1:List (S79)) (A2:Option Addr) (c2:Nat) (l2:List Int) (r1:Int) (r2:Bool) (w:World) (hr1:Kd.C k79 w A1 l1.length l1) (hc1:l1.length≤c1) (hr2:Kd.C (Kd.int .i64) w A2 l2.length l2) (hc2:l2.length≤c2) (h:impl_TreeCost.f k a0 l1 l2=some (r1,r2)):
  Calls Try.prog 26 #[.int .i64 a0,.slice A1 l1.length c1,.slice A2 l2.length c2] w fun e w'=>e= .returned (.tuple #[.int .i64 r1,.bool r2])∧Below w.heap.size w w':=by
 have HR1:=Aside0.mk hr1
 have HC1:=Aside0.mk hc1
 clear hr1 hc1
 have HR2:=Aside0.mk hr2
 have HC2:=Aside0.mk hc2
 clear hr2 hc2
 have HB:=Aside0.mk (Below.refl w.heap.size w)
 have H:((impl_GoodEdges.f k a0 l1).bind fun t318=>(if t318=true then((impl_GoodParents.f k l2).bind fun t319=>(if t319=true then(impl_TreeCost.j0 k l1 l2 ((l2.length:Int) !=a0)) else(impl_TreeCost.j0 k l1 l2 true))) else(impl_TreeCost.j0 k l1 l2 true)))=some (r1,r2):=h
 clear h
 have HC4:=Aside0.mk H
 clear H
 go_enter Try.func26,Try.ntmps26
 go_upto_region 1 with (fail)
 go_cut [26] (fun v26 wc=> ∃ (kq:Nat) (x26_3:Bool),v26= .bool x26_3∧Aside0 (impl_TreeCost.j0 kq l1 l2 x26_3=some (r1,r2))∧Aside0 (kq≤k)∧Aside0 (Below w.heap.size w wc))
 case first=>
  have H:=HC4.out
  clear HC4
  replace H:=Option.bind_eq_some_iff.mp H
  obtain⟨t318,A50,H⟩:=H
  replace H:(if t318=true then((impl_GoodParents.f k l2).bind fun t319=>(if t319=true then(impl_TreeCost.j0 k l1 l2 ((l2.length:Int) !=a0)) else(impl_TreeCost.j0 k l1 l2 true))) else(impl_TreeCost.j0 k l1 l2 true))=some (r1,r2):=H
  have A5:=Aside0.mk A50
  clear A50
  by_cases c6:t318=true
  ·subst c6
   have H1:((impl_GoodParents.f k l2).bind fun t319=>(if t319=true then(impl_TreeCost.j0 k l1 l2 ((l2.length:Int) !=a0)) else(impl_TreeCost.j0 k l1 l2 true)))=some (r1,r2):=by rw [if_pos rfl] at H;exact H
   clear H
   have H:=H1
   clear H1
   replace H:=Option.bind_eq_some_iff.mp H
   obtain⟨t319,A70,H⟩:=H
   replace H:(if t319=true then(impl_TreeCost.j0 k l1 l2 ((l2.length:Int) !=a0)) else(impl_TreeCost.j0 k l1 l2 true))=some (r1,r2):=H
   have A7:=Aside0.mk A70
   clear A70
   by_cases c8:t319=true
   ·subst c8
    have H1:(impl_TreeCost.j0 k l1 l2 ((l2.length:Int) !=a0))=some (r1,r2):=by rw [if_pos rfl] at H;exact H
    clear H
    have H:=H1
    clear H1
    have H':=Aside0.mk H
    clear H
    go_wp2_with (first|((with_reducible refine gate_callee (f:=69) rfl ?_);refine goesL_ (some 14) rfl rfl Try.func69 (by kernel_rfl) rfl #[.int .i64 a0,.slice A1 l1.length c1] rfl zq2 ?_;(with_reducible refine(impl_GoodEdges.calls k a0 _ _ l1 true _ ?side1 ?side2 A5.out).mono ?_);(case side1=>exact zcc ((Kd.C_below HR1.out HB.out)));(case side2=>exact HC1.out);rintro e w9 ⟨rfl,hb⟩;refine⟨_,rfl,?_⟩;replace HB:=Aside0.mk (below_step (by exact zk1 HB) hb);(try clear hb);(try clear hb2);(try clear hk);(try clear hi))|(go_at_call 15;(with_reducible refine(impl_GoodParents.calls k _ _ l2 true _ ?side1 ?side2 A7.out).mono ?_);(case side1=>exact zcc ((Kd.C_below HR2.out HB.out)));(case side2=>exact HC2.out);rintro e w' ⟨rfl,⟨nd,rfl⟩⟩))
    go_meet
    case rel=>exact⟨_,(((l2.length:Int) !=a0)),zrs,H',⟨by first|omega|exact Nat.le_refl _⟩,⟨by exact zk1 HB⟩⟩
   ·replace c8:=Bool.eq_false_iff.mpr c8
    subst c8
    have H1:(impl_TreeCost.j0 k l1 l2 true)=some (r1,r2):=by rw [if_neg (show ¬ (false=true) by decide)] at H;exact H
    clear H
    have H:=H1
    clear H1
    have H':=Aside0.mk H
    clear H
    go_wp2_with (first|((with_reducible refine gate_callee (f:=69) rfl ?_);refine goesL_ (some 14) rfl rfl Try.func69 (by kernel_rfl) rfl #[.int .i64 a0,.slice A1 l1.length c1] rfl zq2 ?_;(with_reducible refine(impl_GoodEdges.calls k a0 _ _ l1 true _ ?side1 ?side2 A5.out).mono ?_);(case side1=>exact zcc ((Kd.C_below HR1.out HB.out)));(case side2=>exact HC1.out);rintro e w10 ⟨rfl,hb⟩;refine⟨_,rfl,?_⟩;replace HB:=Aside0.mk (below_step (by exact zk1 HB) hb);(try clear hb);(try clear hb2);(try clear hk);(try clear hi))|(go_at_call 15;(with_reducible refine(impl_GoodParents.calls k _ _ l2 false _ ?side1 ?side2 A7.out).mono ?_);(case side1=>exact zcc ((Kd.C_below HR2.out HB.out)));(case side2=>exact HC2.out);rintro e w' ⟨rfl,⟨nd,rfl⟩⟩))
    go_meet
    case rel=>exact⟨_,(true),zrs,H',⟨by first|omega|exact Nat.le_refl _⟩,⟨by exact zk1 HB⟩⟩
  ·replace c6:=Bool.eq_false_iff.mpr c6
   subst c6
   have H1:(impl_TreeCost.j0 k l1 l2 true)=some (r1,r2):=by rw [if_neg (show ¬ (false=true) by decide)] at H;exact H
   clear H
   have H:=H1
   clear H1
   have H':=Aside0.mk H
   clear H
   go_wp2_with (first|((with_reducible refine gate_callee (f:=69) rfl ?_);refine goesL_ (some 14) rfl rfl Try.func69 (by kernel_rfl) rfl #[.int .i64 a0,.slice A1 l1.length c1] rfl zq2 ?_;(with_reducible refine(impl_GoodEdges.calls k a0 _ _ l1 false _ ?side1 ?side2 A5.out).mono ?_);(case side1=>exact zcc ((Kd.C_below HR1.out HB.out)));(case side2=>exact HC1.out);rintro e w11 ⟨rfl,hb⟩;refine⟨_,rfl,?_⟩;replace HB:=Aside0.mk (below_step (by exact zk1 HB) hb);(try clear hb);(try clear hb2);(try clear hk);(try clear hi)))
   go_meet
   case rel=>exact⟨_,(true),zrs,H',⟨by first|omega|exact Nat.le_refl _⟩,⟨by exact zk1 HB⟩⟩
 case rest=>
  clear HC4
  try clear c1
  try clear c2
  try clear p2
  try clear c6
  try clear c8
  obtain⟨kq,x26_3,rfl,HA,HJ3,HB⟩:=hcut
  cases kq with
  |zero=>exact absurd HA.out (by simp [impl_TreeCost.j0])
  |succ kj3=>
   have H:=HA.out
   clear HA
   simp only [impl_TreeCost.j0] at H
   by_cases c12:x26_3=true
   ·subst c12
    have H1:(some (0,false))=some (r1,r2):=by rw [if_pos rfl] at H;exact H
    clear H
    have H:=H1
    clear H1
    simp only [Option.some.injEq,Prod.mk.injEq] at H
    obtain⟨rfl,rfl⟩:=H
    go_wp2
    go_ret2
    exact⟨zer,by exact zk1 HB⟩
   ·replace c12:=Bool.eq_false_iff.mpr c12
    subst c12
    have H1:(impl_TreeCost.l0 kj3 l1 0 l2 (l2.length:Int) 0)=some (r1,r2):=by rw [if_neg (show ¬ (false=true) by decide)] at H;exact H
    clear H
    have H:=H1
    clear H1
    have H':=Aside0.mk H
    clear H
    go_wp2
    go_loopg [8,29] kj3 (fun kq v8 v29 w'=> ∃ (x8_2:Int) (x29_2:Int),v8= .int .i64 x8_2∧v29= .int .i64 x29_2∧Aside0 (impl_TreeCost.l0 kq l1 x8_2 l2 (l2.length:Int) x29_2=some (r1,r2))∧Aside0 (kq≤kj3)∧Aside0 (Below w.heap.size w w'))
    case atStart=>exact⟨(0),(0),zrs,zrs,H',⟨Nat.le_refl _⟩,⟨by exact zk1 HB⟩⟩
    case round=>
     clear H'
     try clear c1
     try clear c2
     try clear p2
     try clear c6
     try clear c8
     try clear c12
     try clear p2
     obtain⟨x8_2,x29_2,rfl,rfl,HA,HK2,HB⟩:=hrel
     cases gk with
     |zero=>exact absurd HA.out (by simp [impl_TreeCost.l0])
     |succ k2=>
      have H:=HA.out
      clear HA
      simp only [impl_TreeCost.l0] at H
      by_cases c13:x29_2< (l2.length:Int)
      ·rw [if_pos c13] at H
       have c13b0:decide (x29_2< (l2.length:Int))=true:=decide_eq_true c13
       clear c13
       by_cases c14: 0≤x29_2
       case neg=>exact znn c14 H
       rw [if_pos c14] at H
       have c14b0:decide (0≤x29_2)=true:=decide_eq_true c14
       clear c14
       by_cases c15:x29_2< (l2.length:Int)
       case neg=>exact znn c15 H
       rw [if_pos c15] at H
       have c15b0:decide (x29_2< (l2.length:Int))=true:=decide_eq_true c15
       clear c15
       by_cases c16:(rd l2 x29_2)< 0
       ·rw [if_pos c16] at H
        have c16b0:decide ((rd l2 x29_2)< 0)=true:=decide_eq_true c16
        clear c16
        have H':=Aside0.mk H
        clear H
        have p320: 0≤ (x29_2:Int):=of_decide_eq_true zq1
        have q320:x29_2< (l2.length:Int):=of_decide_eq_true zq1
        obtain⟨ad320,e320,hx320_0⟩:=Kd.at_int HR2.out x29_2 p320 q320
        cases e320
        replace hx320_0:=zhx HB hx320_0
        replace p320:=eq_true p320
        replace q320:=eq_true q320
        go_wp2
        go_roundg k2
        case measure=>have:=HJ3.out;have:=HK2.out;omega
        case rel=>exact⟨(x8_2),(wrap64 (x29_2+1)),zrs,zrs,H',⟨by have:=HJ3.out;have:=HK2.out;omega⟩,⟨by exact zk1 HB⟩⟩
       ·rw [if_neg c16] at H
        have c16b0:decide ((rd l2 x29_2)< 0)=false:=decide_eq_false c16
        clear c16
        replace H:=Option.bind_eq_some_iff.mp H
        obtain⟨t321,A170,H⟩:=H
        replace H:(if t321=0 then(some (0,false)) else(impl_TreeCost.l0 k2 l1 (wrap64 (x8_2+t321)) l2 (l2.length:Int) (wrap64 (x29_2+1))))=some (r1,r2):=H
        have A17:=Aside0.mk A170
        clear A170
        by_cases c18:t321=0
        ·rw [if_pos c18] at H
         have c18b0:(t321==0)=true:=beq_iff_eq.mpr c18
         have c18b1:(t321 !=0)=false:=bne_eq_false_iff_eq.mpr c18
         clear c18
         simp only [Option.some.injEq,Prod.mk.injEq] at H
         obtain⟨rfl,rfl⟩:=H
         have p320: 0≤ (x29_2:Int):=of_decide_eq_true zq1
         have q320:x29_2< (l2.length:Int):=of_decide_eq_true zq1
         obtain⟨ad320,e320,hx320_0⟩:=Kd.at_int HR2.out x29_2 p320 q320
         cases e320
         replace hx320_0:=zhx HB hx320_0
         replace p320:=eq_true p320
         replace q320:=eq_true q320
         go_wp2_with (first|((with_reducible refine gate_callee (f:=70) rfl ?_);refine goesL_ (some 39) rfl rfl Try.func70 (by kernel_rfl) rfl #[.slice A1 l1.length c1,.int .i64 x29_2,.int .i64 (rd l2 x29_2)] rfl zq2 ?_;(with_reducible refine(impl_cost.calls k2 _ _ l1 x29_2 (rd l2 x29_2) t321 _ ?side1 ?side2 A17.out).mono ?_);(case side1=>exact zcc ((Kd.C_below HR1.out HB.out)));(case side2=>exact HC1.out);rintro e w19 ⟨rfl,hb⟩;refine⟨_,rfl,?_⟩;replace HB:=Aside0.mk (below_step (by exact zk1 HB) hb);(try clear hb);(try clear hb2);(try clear hk);(try clear hi)))
         go_ret2
         exact⟨zer,by exact zk1 HB⟩
        ·rw [if_neg c18] at H
         have c18b0:(t321==0)=false:=beq_eq_false_iff_ne.mpr c18
         have c18b1:(t321 !=0)=true:=bne_iff_ne.mpr c18
         have H':=Aside0.mk H
         clear H
         have p320: 0≤ (x29_2:Int):=of_decide_eq_true zq1
         have q320:x29_2< (l2.length:Int):=of_decide_eq_true zq1
         obtain⟨ad320,e320,hx320_0⟩:=Kd.at_int HR2.out x29_2 p320 q320
         cases e320
         replace hx320_0:=zhx HB hx320_0
         replace p320:=eq_true p320
         replace q320:=eq_true q320
         go_wp2_with (first|((with_reducible refine gate_callee (f:=70) rfl ?_);refine goesL_ (some 39) rfl rfl Try.func70 (by kernel_rfl) rfl #[.slice A1 l1.length c1,.int .i64 x29_2,.int .i64 (rd l2 x29_2)] rfl zq2 ?_;(with_reducible refine(impl_cost.calls k2 _ _ l1 x29_2 (rd l2 x29_2) t321 _ ?side1 ?side2 A17.out).mono ?_);(case side1=>exact zcc ((Kd.C_below HR1.out HB.out)));(case side2=>exact HC1.out);rintro e w20 ⟨rfl,hb⟩;refine⟨_,rfl,?_⟩;replace HB:=Aside0.mk (below_step (by exact zk1 HB) hb);(try clear hb);(try clear hb2);(try clear hk);(try clear hi)))
         go_roundg k2
         case measure=>have:=HJ3.out;have:=HK2.out;omega
         case rel=>exact⟨(wrap64 (x8_2+t321)),(wrap64 (x29_2+1)),zrs,zrs,H',⟨by have:=HJ3.out;have:=HK2.out;omega⟩,⟨by exact zk1 HB⟩⟩
      ·rw [if_neg c13] at H
       have c13b0:decide (x29_2< (l2.length:Int))=false:=decide_eq_false c13
       clear c13
       simp only [Option.some.injEq,Prod.mk.injEq] at H
       obtain⟨rfl,rfl⟩:=H
       go_wp2
       go_ret2
       exact⟨zer,by exact zk1 HB⟩
def spec_l1Put.l0:Nat→List Int→Int→Int→Option (List Int)
 | 0,_,_,_=>none
 |k+1,x0,x1,x5=>if x5< (x0.length:Int) then(if 0≤x5 then(if (rd x0 x5)<x1 then(spec_l1Put.l0 k x0 x1 (wrap64 (x5+1))) else(if (rd x0 x5)=x1 then(some x0) else((some (([] :List Int):List Int)).bind fun y354=>(if x5≤ (x0.length:Int) then((some (x0.take (x5:Int).toNat:List Int)).bind fun y357=>(if y354.length+y357.length< 17592186044416 then((some (y354++y357:List Int)).bind fun y361=>(if y361.length< 17592186044416 then((some (y361++ [x1] :List Int)).bind fun y364=>((some (x0.drop (x5:Int).toNat:List Int)).bind fun y367=>(if y364.length+y367.length< 17592186044416 then(some (y364++y367)) else(none)))) else(none))) else(none))) else(none))))) else(none)) else((some (([] :List Int):List Int)).bind fun y374=>(if 0≤x5 then(if x5≤ (x0.length:Int) then((some (x0.take (x5:Int).toNat:List Int)).bind fun y377=>(if y374.length+y377.length< 17592186044416 then((some (y374++y377:List Int)).bind fun y381=>(if y381.length< 17592186044416 then((some (y381++ [x1] :List Int)).bind fun y384=>((some (x0.drop (x5:Int).toNat:List Int)).bind fun y387=>(if y384.length+y387.length< 17592186044416 then(some (y384++y387)) else(none)))) else(none))) else(none))) else(none)) else(none)))
def spec_l1Put.f (k:Nat) (l0:List Int) (a1:Int):Option (List Int):=spec_l1Put.l0 k l0 a1 0
theorem zdr {q p:Prop} (b:Aside0 q) (h:q→p:=by intro z;(with_reducible repeat(first|apply Kd.R_alloc|apply Kd.R_drewN|apply Kd.R_drew));exact z):p:=h b.out
theorem zfh {r q p:Prop} (a:r) (b:q) (h:r→q→p:=by intro z H;first|(rw [z];with_reducible exact H)|(have H2_:=(Option.bind_some _ _).symm.trans H;rw [z];with_reducible exact H2_)|(have H2_:=(Option.bind_some _ _).symm.trans H;with_reducible exact H2_)|with_reducible exact H|(rw [z];exact H)|exact H):p:=h a b
theorem zk4 {q p:Prop} (b:Aside0 q) (h:q→p:=by intro z;repeat(first|(with_reducible first|exact z|apply Kept.alloc|apply Kept.drewN|apply Kept.drew)|exact z)):p:=h b.out
theorem zq4 {q p:Prop} (b:Aside0 q) (h:q→p:=by intro z;(with_reducible repeat(first|apply Kd.R_alloc|apply Kd.R_drewN|apply Kd.R_drew));exact z):p:=h b.out
set_option maxHeartbeats 8000000 in
set_option maxRecDepth 100000 in
theorem spec_l1Put.calls (k:Nat) (P0_:Nat→Prop) (u9000_:Value) (l0:List Int) (a1:Int) (r:List Int) (w0 w:World) (hB:Below w0.heap.size w0 w) (ho0:Kd.R (Kd.int .i64) 3 w w0.heap.size P0_ u9000_ l0) (h:spec_l1Put.f k l0 a1=some r):
  Calls Try.prog 105 #[u9000_,.int .i64 a1] w fun e w'=> ∃ v0_:Value,e= .returned (v0_)∧Kd.R (Kd.int .i64) 3 w' w0.heap.size (fun k_=>(P0_ k_∨w.heap.size≤k_)) v0_ r∧Below w0.heap.size w0 w'∧Kept w w' (fun k_=>P0_ k_):=by
 have HO0:=Aside0.mk (show Kd.R (Kd.int .i64) 3 w w0.heap.size (fun k_=>(P0_ k_∨w.heap.size≤k_)) u9000_ l0 from Kd.R_mono ho0 (fun k_ hk=>(.inl hk)))
 have HK:=Aside0.mk (Kept.refl w (fun k_=>P0_ k_))
 have HW0:=Aside0.mk hB.size
 have HB:=Aside0.mk hB
 clear hB
 have H:(spec_l1Put.l0 k l0 a1 0)=some r:=h
 clear h
 have H':=Aside0.mk H
 clear H
 go_enter Try.func105,Try.ntmps105
 go_wp2
 go_loopg [5] k (fun kq v5 w'=> ∃ (x5_1:Int),v5= .int .i64 x5_1∧Aside0 (spec_l1Put.l0 kq l0 a1 x5_1=some r)∧Aside0 (kq≤k)∧Aside0 (Kd.R (Kd.int .i64) 3 w' w0.heap.size (fun k_=>(P0_ k_∨w.heap.size≤k_)) u9000_ l0)∧Aside0 (Kept w w' (fun k_=>P0_ k_))∧Aside0 (Below w0.heap.size w0 w'))
 case atStart=>exact⟨(0),zrs,H',⟨Nat.le_refl _⟩,⟨zdr HO0⟩,⟨by exact zk4 HK⟩,⟨by exact zk1 HB⟩⟩
 case round=>
  clear H'
  try clear c1
  try clear p2
  obtain⟨x5_1,rfl,HA,HK1,HO_0,HK,HB⟩:=hrel
  cases gk with
  |zero=>exact absurd HA.out (by simp [spec_l1Put.l0])
  |succ k1=>
   have H:=HA.out
   clear HA
   simp only [spec_l1Put.l0] at H
   by_cases c3:x5_1< (l0.length:Int)
   ·rw [if_pos c3] at H
    have c3b0:decide (x5_1< (l0.length:Int))=true:=decide_eq_true c3
    clear c3
    by_cases c4: 0≤x5_1
    case neg=>exact znn c4 H
    rw [if_pos c4] at H
    have c4b0:decide (0≤x5_1)=true:=decide_eq_true c4
    clear c4
    by_cases c5:(rd l0 x5_1)<a1
    ·rw [if_pos c5] at H
     have c5b0:decide ((rd l0 x5_1)<a1)=true:=decide_eq_true c5
     clear c5
     have H':=Aside0.mk H
     clear H
     obtain⟨Ao6,co6,eo6⟩:=Kd.R_slice HO_0.out
     subst eo6
     have p352: 0≤ (x5_1:Int):=of_decide_eq_true zq1
     have q352:x5_1< (l0.length:Int):=of_decide_eq_true zq1
     obtain⟨ad352,e352,hx352_0⟩:=Kd.at_int (Kd.R_reads' HO_0.out).2.2 x5_1 p352 q352
     cases e352
     replace p352:=eq_true p352
     replace q352:=eq_true q352
     go_wp2
     go_roundg k1
     case measure=>have:=HK1.out;omega
     case rel=>exact⟨(wrap64 (x5_1+1)),zrs,H',⟨by have:=HK1.out;omega⟩,⟨zdr HO_0⟩,⟨by exact zk4 HK⟩,⟨by exact zk1 HB⟩⟩
    ·rw [if_neg c5] at H
     have c5b0:decide ((rd l0 x5_1)<a1)=false:=decide_eq_false c5
     clear c5
     by_cases c7:(rd l0 x5_1)=a1
     ·rw [if_pos c7] at H
      have c7b0:((rd l0 x5_1)==a1)=true:=beq_iff_eq.mpr c7
      have c7b1:((rd l0 x5_1) !=a1)=false:=bne_eq_false_iff_eq.mpr c7
      clear c7
      obtain rfl:=Option.some.inj H
      obtain⟨Ao8,co8,eo8⟩:=Kd.R_slice HO_0.out
      subst eo8
      have p352: 0≤ (x5_1:Int):=of_decide_eq_true zq1
      have q352:x5_1< (l0.length:Int):=of_decide_eq_true zq1
      obtain⟨ad352,e352,hx352_0⟩:=Kd.at_int (Kd.R_reads' HO_0.out).2.2 x5_1 p352 q352
      cases e352
      replace p352:=eq_true p352
      replace q352:=eq_true q352
      have p353: 0≤ (x5_1:Int):=of_decide_eq_true zq1
      have q353:x5_1< (l0.length:Int):=of_decide_eq_true zq1
      obtain⟨ad353,e353,hx353_0⟩:=Kd.at_int (Kd.R_reads' HO_0.out).2.2 x5_1 p353 q353
      obtain rfl:ad352=ad353:=(by injection e353)
      replace p353:=eq_true p353
      replace q353:=eq_true q353
      go_wp2
      go_ret
      exact⟨_,zer,zdr HO_0,by exact zk1 HB,by exact zk4 HK⟩
     ·rw [if_neg c7] at H
      have c7b0:((rd l0 x5_1)==a1)=false:=beq_eq_false_iff_ne.mpr c7
      have c7b1:((rd l0 x5_1) !=a1)=true:=bne_iff_ne.mpr c7
      obtain⟨y354,hy354⟩ :∃ y_:List Int,y_= (([] :List Int)):=⟨_,rfl⟩
      replace H:(if x5_1≤ (l0.length:Int) then((some (l0.take (x5_1:Int).toNat:List Int)).bind fun y357=>(if y354.length+y357.length< 17592186044416 then((some (y354++y357:List Int)).bind fun y361=>(if y361.length< 17592186044416 then((some (y361++ [a1] :List Int)).bind fun y364=>((some (l0.drop (x5_1:Int).toNat:List Int)).bind fun y367=>(if y364.length+y367.length< 17592186044416 then(some (y364++y367)) else(none)))) else(none))) else(none))) else(none))=some r:=zfh hy354 H
      have Ny354:=Aside0.mk hy354
      clear hy354
      have c9b0:=eq_true (of_decide_eq_true zq1: 0≤x5_1)
      by_cases c10:x5_1≤ (l0.length:Int)
      case neg=>exact znn c10 H
      rw [if_pos c10] at H
      have c10b0:=eq_true c10
      have c10b1:decide (x5_1≤ (l0.length:Int))=true:=decide_eq_true c10
      clear c10
      obtain⟨y357,hy357⟩ :∃ y_:List Int,y_= (l0.take (x5_1:Int).toNat):=⟨_,rfl⟩
      replace H:(if y354.length+y357.length< 17592186044416 then((some (y354++y357:List Int)).bind fun y361=>(if y361.length< 17592186044416 then((some (y361++ [a1] :List Int)).bind fun y364=>((some (l0.drop (x5_1:Int).toNat:List Int)).bind fun y367=>(if y364.length+y367.length< 17592186044416 then(some (y364++y367)) else(none)))) else(none))) else(none))=some r:=zfh hy357 H
      have Ny357:=Aside0.mk hy357
      clear hy357
      by_cases c11:y354.length+y357.length< 17592186044416
      case neg=>exact znn c11 H
      rw [if_pos c11] at H
      have LMc11:=Aside0.mk c11
      clear c11
      obtain⟨y361,hy361⟩ :∃ y_:List Int,y_= (y354++y357):=⟨_,rfl⟩
      replace H:(if y361.length< 17592186044416 then((some (y361++ [a1] :List Int)).bind fun y364=>((some (l0.drop (x5_1:Int).toNat:List Int)).bind fun y367=>(if y364.length+y367.length< 17592186044416 then(some (y364++y367)) else(none)))) else(none))=some r:=zfh hy361 H
      have Ny361:=Aside0.mk hy361
      clear hy361
      by_cases c12:y361.length< 17592186044416
      case neg=>exact znn c12 H
      rw [if_pos c12] at H
      have LMc12:=Aside0.mk c12
      clear c12
      obtain⟨y364,hy364⟩ :∃ y_:List Int,y_= (y361++ [a1]):=⟨_,rfl⟩
      replace H:((some (l0.drop (x5_1:Int).toNat:List Int)).bind fun y367=>(if y364.length+y367.length< 17592186044416 then(some (y364++y367)) else(none)))=some r:=zfh hy364 H
      have Ny364:=Aside0.mk hy364
      clear hy364
      have c13b0:=eq_true (of_decide_eq_true zq1: 0≤x5_1)
      have c14b0:=eq_true (of_decide_eq_true zq1:x5_1≤ (l0.length:Int))
      obtain⟨y367,hy367⟩ :∃ y_:List Int,y_= (l0.drop (x5_1:Int).toNat):=⟨_,rfl⟩
      replace H:(if y364.length+y367.length< 17592186044416 then(some (y364++y367)) else(none))=some r:=zfh hy367 H
      have Ny367:=Aside0.mk hy367
      clear hy367
      by_cases c15:y364.length+y367.length< 17592186044416
      case neg=>exact znn c15 H
      rw [if_pos c15] at H
      have LMc15:=Aside0.mk c15
      clear c15
      obtain⟨y371,hy371⟩ :∃ y_:List Int,y_= (y364++y367):=⟨_,rfl⟩
      replace H:(some y371)=some r:=zfh hy371 H
      have Ny371:=Aside0.mk hy371
      clear hy371
      obtain rfl:=Option.some.inj H
      obtain⟨Ao16,co16,eo16⟩:=Kd.R_slice HO_0.out
      subst eo16
      have p352: 0≤ (x5_1:Int):=of_decide_eq_true zq1
      have q352:x5_1< (l0.length:Int):=of_decide_eq_true zq1
      obtain⟨ad352,e352,hx352_0⟩:=Kd.at_int (Kd.R_reads' HO_0.out).2.2 x5_1 p352 q352
      cases e352
      replace p352:=eq_true p352
      replace q352:=eq_true q352
      have p353: 0≤ (x5_1:Int):=of_decide_eq_true zq1
      have q353:x5_1< (l0.length:Int):=of_decide_eq_true zq1
      obtain⟨ad353,e353,hx353_0⟩:=Kd.at_int (Kd.R_reads' HO_0.out).2.2 x5_1 p353 q353
      obtain rfl:ad352=ad353:=(by injection e353)
      replace p353:=eq_true p353
      replace q353:=eq_true q353
      go_wp2_with (first|((with_reducible refine gate_dst (N:=34) rfl ?_);refine Kd.R_lit (Kd.int .i64) _ 3 ?hg (N:=34) ?hd (xs:=([] :List Int)) (inner:= []) (ok:=fun _=>True) (okp:=fun _=>True) ?hr ?hp (fun _ hk=>hk) trivial (Below.refl _ _) (Nat.le_refl _) (by simp) ?_;(case hd=>rfl);(case hg=>rfl);(case hr=>first|(go_simp;done)|(go_simp;rfl));(case hp=>exact(Reps.none _ _));intro v355 w17 ho18 hb hg_ hnew_;clear hg_ hnew_;(first|rw [← Ny354.out] at ho18|(simp only [Int.reduceToNat] at ho18;rw [← Ny354.out] at ho18));have HO356:=Aside0.mk (Kd.R_lower (Kd.R_new' (Kd.R_newM (M:=fun k_=>(P0_ k_∨w.heap.size≤k_)) ho18 (by first|exact HK.out.1|exact(show Kept w _ (fun k_=>P0_ k_) from by exact zk4 HK).1) (fun k_ h_=> .inr h_)) (Kd.R_lt (zq4 HO_0))) (below_size (by exact zk1 HB)));replace HO_0:=Aside0.mk (Kd.R_elder' (zq4 HO_0) (Kd.R_base ho18) hb);replace HK:=Aside0.mk (Kept.below (S:=(fun k_=>P0_ k_)) (by exact zk4 HK) hb);replace HB:=Aside0.mk (below_step (by exact zk1 HB) hb);clear hb ho18;have q19:(x5_1:Int)≤ ((l0.length:Int):Int):=of_decide_eq_true zq1;obtain⟨i019,hi019,_,hsz19,_⟩:=info_parts info3;have hroom19:l0.length≤co16:=(Kd.R_reads' HO_0.out).2.1;have hC19:Kd.C (Kd.int .i64) _ (some ad352) l0.length l0:=(Kd.R_reads' HO_0.out).2.2;have hcut19:=cut_to (P:=Try.prog) 22 3 .i64 Try.underlying22 hi019 (some ad352) l0.length co16 x5_1 (of_decide_eq_true zq1) q19 hroom19;have hr19:=Kd.C_take (m:=(x5_1:Int).toNat) hC19 (by omega);have hy19:y357.length= (x5_1:Int).toNat:=(by rw [Ny357.out,List.length_take];omega);rw [← Ny357.out] at hr19;rw [← hy19] at hcut19;have HR360:=Aside0.mk hr19;have HC360:=Aside0.mk (show y357.length≤co16 from by omega);clear hr19 hC19 hroom19 hi019 hsz19;have KY19:=Aside0.mk hy19;clear hy19;have KL19:=Aside0.mk (show (x5_1:Int).toNat≤l0.length from by omega);replace q19:=eq_true q19)|((with_reducible refine gate_builtin (b:= .append) (xs:= #[.tmp 34,.tmp 37]) rfl ?_);at_builtin;refine Kd.R_append_rows (Kd.int .i64) (w0:=w0) w0.heap.size rfl (.tmp 34) (.tmp 37) 22 3 (.int .i64 0) 8 rfl Try.underlying22 info3 rfl (by decide) (by omega) v355 y354 y357 _ _ _ (fun k_=>(P0_ k_∨w.heap.size≤k_)∧some k_≠ (.slice (some ad352) l0.length co16:Value).ownBlock) (fun _=>False) rfl rfl ?aO ?aR (fun _ _ h=>h) (fun _ h=>h.elim) ?aF ?aB ?aS ?aL ?_;(case aR=>repeat(first|exact(by repeat(first|(with_reducible exact HR360.out)|(with_reducible refine Kd.C_alloc ?_ _)|(with_reducible refine Kd.C_drewN ?_ _)|(with_reducible refine Kd.C_drew ?_)|exact HR360.out))|(with_reducible refine Kd.C_alloc ?_ _)|(with_reducible refine Kd.C_drewN ?_ _)|(with_reducible refine Kd.C_drew ?_)));(case aB=>exact(by exact zk1 HB));(case aF=>exact(fun k_ hk=>⟨(.inr (Nat.le_trans (by first|exact HK.out.1|exact(show Kept w _ (fun k_=>P0_ k_) from by exact zk4 HK).1) hk)),Kd.fresh' (Kd.R_lt (zq4 HO_0)) k_ hk⟩));(case aO=>exact(by(with_reducible repeat(first|apply Kd.R_alloc|apply Kd.R_drewN|apply Kd.R_drew));exact Kd.R_mono HO356.out (fun _ hk=>⟨hk.1.1,hk.2⟩)));(case aS=>exact(below_size (by exact zk1 HB)));(case aL=>have:=LMc11.out;omega);intro v362 w20 ho hb hg hat;rw [← Ny361.out] at ho;have HO363:=Aside0.mk (ho);replace HB:=Aside0.mk (hb);replace HK:=Aside0.mk (Kept.of_grown (S:=(fun k_=>P0_ k_)) hg (by exact zk4 HK) (fun k_ e_=>(HO356.out.1 k_ e_).1.1));replace HR360:=Aside0.mk ((show Kd.C (Kd.int .i64) w20 (some ad352) y357.length y357 from by rw [Ny357.out];exact Kd.C_take (m:=(x5_1:Int).toNat) ((Kd.R_reads' (Kd.R_after (ok:=(fun k_=>(P0_ k_∨w.heap.size≤k_))) (zq4 HO_0) hg hat)).2.2) KL19.out));replace HO_0:=Aside0.mk (Kd.R_after (ok:=(fun k_=>(P0_ k_∨w.heap.size≤k_))) (zq4 HO_0) hg hat);clear HO356;clear ho hb hg hat)|((with_reducible refine gate_builtin (b:= .append) (xs:= #[.tmp 39,.tmp 41]) rfl ?_);at_builtin;refine Kd.R_append (Kd.int .i64) (w0:=w0) w0.heap.size rfl (.tmp 39) (.tmp 41) 22 3 (.int .i64 0) 8 rfl Try.underlying22 info3 rfl (by decide) (by omega) v362 y361 a1 [.int .i64 a1] (fun k_=>(P0_ k_∨w.heap.size≤k_)∧some k_≠ (.slice (some ad352) l0.length co16:Value).ownBlock) (fun _=>False) rfl rfl ?aP (fun _ hk=>hk.elim) ?aF ?aO ?aB ?aS ?aL ?_;(case aP=>exact rfl);(case aB=>exact(by exact zk1 HB));(case aF=>exact(fun k_ hk=>⟨(.inr (Nat.le_trans (by first|exact HK.out.1|exact(show Kept w _ (fun k_=>P0_ k_) from by exact zk4 HK).1) hk)),Kd.fresh' (Kd.R_lt (zq4 HO_0)) k_ hk⟩));(case aO=>exact(zq4 HO363));(case aS=>exact(below_size (by exact zk1 HB)));(case aL=>have:=LMc12.out;omega);intro v365 w21 ho hb hg hat;rw [← Ny364.out] at ho;have HO366:=Aside0.mk (ho);replace HB:=Aside0.mk (hb);replace HK:=Aside0.mk (Kept.of_grown (S:=(fun k_=>P0_ k_)) hg (by exact zk4 HK) (fun k_ e_=>(HO363.out.1 k_ e_).1));replace HR360:=Aside0.mk ((show Kd.C (Kd.int .i64) w21 (some ad352) y357.length y357 from by rw [Ny357.out];exact Kd.C_take (m:=(x5_1:Int).toNat) ((Kd.R_reads' (Kd.R_after (ok:=(fun k_=>(P0_ k_∨w.heap.size≤k_))) (zq4 HO_0) hg hat)).2.2) KL19.out));replace HO_0:=Aside0.mk (Kd.R_after (ok:=(fun k_=>(P0_ k_∨w.heap.size≤k_))) (zq4 HO_0) hg hat);clear HO363;clear ho hb hg hat;have q22:(x5_1:Int)≤ ((l0.length:Int):Int):=of_decide_eq_true zq1;obtain⟨i022,hi022,_,hsz22,_⟩:=info_parts info3;have hroom22:l0.length≤co16:=(Kd.R_reads' HO_0.out).2.1;have hC22:Kd.C (Kd.int .i64) _ (some ad352) l0.length l0:=(Kd.R_reads' HO_0.out).2.2;have q022:(0:Int)≤ (x5_1:Int):=of_decide_eq_true zq1;have hcut22:=cut_from (P:=Try.prog) 22 3 .i64 Try.underlying22 hi022 1 hsz22 (some ad352) l0.length co16 x5_1 q022 q22;have hr22:=Kd.C_drop (m:=(x5_1:Int).toNat) (c:=co16) hC22 (by omega) hroom22;obtain⟨A22,hA22⟩ :∃ A1,A1= (if co16= (x5_1:Int).toNat then(some ad352) else((some ad352):Option Addr).map (·.add ((x5_1:Int).toNat * 1))):=⟨_,rfl⟩;obtain⟨c22,hc22⟩ :∃ c1,c1=co16 - (x5_1:Int).toNat:=⟨_,rfl⟩;have hy22:y367.length=l0.length - (x5_1:Int).toNat:=(by rw [Ny367.out,List.length_drop]<;>omega);rw [show (l0).drop (x5_1:Int).toNat=y367 from Ny367.out.symm] at hr22;replace hr22:Kd.C (Kd.int .i64) _ A22 y367.length y367:=(by rw [hA22];exact hr22);rw [← hy22,← hA22,← hc22] at hcut22;have HR370:=Aside0.mk hr22;have HC370:=Aside0.mk (show y367.length≤c22 from by rw [hy22,hc22];exact Nat.sub_le_sub_right hroom22 _);clear hr22 hC22 hroom22 hi022 hsz22 hc22;have KY22:=Aside0.mk hy22;have KA22:=Aside0.mk hA22;clear hy22 hA22;have KL22:=Aside0.mk (show (x5_1:Int).toNat≤l0.length from by omega);replace q22:=eq_true q22)|((with_reducible refine gate_builtin (b:= .append) (xs:= #[.tmp 43,.tmp 46]) rfl ?_);at_builtin;refine Kd.R_append_rows (Kd.int .i64) (w0:=w0) w0.heap.size rfl (.tmp 43) (.tmp 46) 22 3 (.int .i64 0) 8 rfl Try.underlying22 info3 rfl (by decide) (by omega) v365 y364 y367 _ _ _ (fun k_=>(P0_ k_∨w.heap.size≤k_)∧some k_≠ (.slice (some ad352) l0.length co16:Value).ownBlock) (fun _=>False) rfl rfl ?aO ?aR (fun _ _ h=>h) (fun _ h=>h.elim) ?aF ?aB ?aS ?aL ?_;(case aR=>repeat(first|exact(by repeat(first|(with_reducible exact HR370.out)|(with_reducible refine Kd.C_alloc ?_ _)|(with_reducible refine Kd.C_drewN ?_ _)|(with_reducible refine Kd.C_drew ?_)|exact HR370.out))|(with_reducible refine Kd.C_alloc ?_ _)|(with_reducible refine Kd.C_drewN ?_ _)|(with_reducible refine Kd.C_drew ?_)));(case aB=>exact(by exact zk1 HB));(case aF=>exact(fun k_ hk=>⟨(.inr (Nat.le_trans (by first|exact HK.out.1|exact(show Kept w _ (fun k_=>P0_ k_) from by exact zk4 HK).1) hk)),Kd.fresh' (Kd.R_lt (zq4 HO_0)) k_ hk⟩));(case aO=>exact(zq4 HO366));(case aS=>exact(below_size (by exact zk1 HB)));(case aL=>have:=LMc15.out;omega);intro v372 w23 ho hb hg hat;rw [← Ny371.out] at ho;have HO373:=Aside0.mk (ho);replace HB:=Aside0.mk (hb);replace HK:=Aside0.mk (Kept.of_grown (S:=(fun k_=>P0_ k_)) hg (by exact zk4 HK) (fun k_ e_=>(HO366.out.1 k_ e_).1));replace HR360:=Aside0.mk ((show Kd.C (Kd.int .i64) w23 (some ad352) y357.length y357 from by rw [Ny357.out];exact Kd.C_take (m:=(x5_1:Int).toNat) ((Kd.R_reads' (Kd.R_after (ok:=(fun k_=>(P0_ k_∨w.heap.size≤k_))) (zq4 HO_0) hg hat)).2.2) KL19.out));replace HR370:=Aside0.mk ((show Kd.C (Kd.int .i64) w23 A22 y367.length y367 from by rw [Ny367.out,KA22.out];exact Kd.C_drop (m:=(x5_1:Int).toNat) (c:=co16) ((Kd.R_reads' (Kd.R_after (ok:=(fun k_=>(P0_ k_∨w.heap.size≤k_))) (zq4 HO_0) hg hat)).2.2) KL22.out ((Kd.R_reads' (Kd.R_after (ok:=(fun k_=>(P0_ k_∨w.heap.size≤k_))) (zq4 HO_0) hg hat)).2.1)));replace HO_0:=Aside0.mk (Kd.R_after (ok:=(fun k_=>(P0_ k_∨w.heap.size≤k_))) (zq4 HO_0) hg hat);clear HO366;clear ho hb hg hat))
      go_ret
      exact⟨_,zer,by(with_reducible repeat(first|apply Kd.R_alloc|apply Kd.R_drewN|apply Kd.R_drew));exact Kd.R_mono HO373.out (fun _ hk=>hk.1),by exact zk1 HB,by exact zk4 HK⟩
   ·rw [if_neg c3] at H
    have c3b0:decide (x5_1< (l0.length:Int))=false:=decide_eq_false c3
    clear c3
    obtain⟨y374,hy374⟩ :∃ y_:List Int,y_= (([] :List Int)):=⟨_,rfl⟩
    replace H:(if 0≤x5_1 then(if x5_1≤ (l0.length:Int) then((some (l0.take (x5_1:Int).toNat:List Int)).bind fun y377=>(if y374.length+y377.length< 17592186044416 then((some (y374++y377:List Int)).bind fun y381=>(if y381.length< 17592186044416 then((some (y381++ [a1] :List Int)).bind fun y384=>((some (l0.drop (x5_1:Int).toNat:List Int)).bind fun y387=>(if y384.length+y387.length< 17592186044416 then(some (y384++y387)) else(none)))) else(none))) else(none))) else(none)) else(none))=some r:=zfh hy374 H
    have Ny374:=Aside0.mk hy374
    clear hy374
    by_cases c24: 0≤x5_1
    case neg=>exact znn c24 H
    rw [if_pos c24] at H
    have c24b0:=eq_true c24
    have c24b1:decide (0≤x5_1)=true:=decide_eq_true c24
    clear c24
    by_cases c25:x5_1≤ (l0.length:Int)
    case neg=>exact znn c25 H
    rw [if_pos c25] at H
    have c25b0:=eq_true c25
    have c25b1:decide (x5_1≤ (l0.length:Int))=true:=decide_eq_true c25
    clear c25
    obtain⟨y377,hy377⟩ :∃ y_:List Int,y_= (l0.take (x5_1:Int).toNat):=⟨_,rfl⟩
    replace H:(if y374.length+y377.length< 17592186044416 then((some (y374++y377:List Int)).bind fun y381=>(if y381.length< 17592186044416 then((some (y381++ [a1] :List Int)).bind fun y384=>((some (l0.drop (x5_1:Int).toNat:List Int)).bind fun y387=>(if y384.length+y387.length< 17592186044416 then(some (y384++y387)) else(none)))) else(none))) else(none))=some r:=zfh hy377 H
    have Ny377:=Aside0.mk hy377
    clear hy377
    by_cases c26:y374.length+y377.length< 17592186044416
    case neg=>exact znn c26 H
    rw [if_pos c26] at H
    have LMc26:=Aside0.mk c26
    clear c26
    obtain⟨y381,hy381⟩ :∃ y_:List Int,y_= (y374++y377):=⟨_,rfl⟩
    replace H:(if y381.length< 17592186044416 then((some (y381++ [a1] :List Int)).bind fun y384=>((some (l0.drop (x5_1:Int).toNat:List Int)).bind fun y387=>(if y384.length+y387.length< 17592186044416 then(some (y384++y387)) else(none)))) else(none))=some r:=zfh hy381 H
    have Ny381:=Aside0.mk hy381
    clear hy381
    by_cases c27:y381.length< 17592186044416
    case neg=>exact znn c27 H
    rw [if_pos c27] at H
    have LMc27:=Aside0.mk c27
    clear c27
    obtain⟨y384,hy384⟩ :∃ y_:List Int,y_= (y381++ [a1]):=⟨_,rfl⟩
    replace H:((some (l0.drop (x5_1:Int).toNat:List Int)).bind fun y387=>(if y384.length+y387.length< 17592186044416 then(some (y384++y387)) else(none)))=some r:=zfh hy384 H
    have Ny384:=Aside0.mk hy384
    clear hy384
    have c28b0:=eq_true (of_decide_eq_true zq1: 0≤x5_1)
    have c29b0:=eq_true (of_decide_eq_true zq1:x5_1≤ (l0.length:Int))
    obtain⟨y387,hy387⟩ :∃ y_:List Int,y_= (l0.drop (x5_1:Int).toNat):=⟨_,rfl⟩
    replace H:(if y384.length+y387.length< 17592186044416 then(some (y384++y387)) else(none))=some r:=zfh hy387 H
    have Ny387:=Aside0.mk hy387
    clear hy387
    by_cases c30:y384.length+y387.length< 17592186044416
    case neg=>exact znn c30 H
    rw [if_pos c30] at H
    have LMc30:=Aside0.mk c30
    clear c30
    obtain⟨y391,hy391⟩ :∃ y_:List Int,y_= (y384++y387):=⟨_,rfl⟩
    replace H:(some y391)=some r:=zfh hy391 H
    have Ny391:=Aside0.mk hy391
    clear hy391
    obtain rfl:=Option.some.inj H
    obtain⟨Ao31,co31,eo31⟩:=Kd.R_slice HO_0.out
    subst eo31
    go_wp2_with (first|((with_reducible refine gate_dst (N:=34) rfl ?_);refine Kd.R_lit (Kd.int .i64) _ 3 ?hg (N:=34) ?hd (xs:=([] :List Int)) (inner:= []) (ok:=fun _=>True) (okp:=fun _=>True) ?hr ?hp (fun _ hk=>hk) trivial (Below.refl _ _) (Nat.le_refl _) (by simp) ?_;(case hd=>rfl);(case hg=>rfl);(case hr=>first|(go_simp;done)|(go_simp;rfl));(case hp=>exact(Reps.none _ _));intro v375 w32 ho33 hb hg_ hnew_;clear hg_ hnew_;(first|rw [← Ny374.out] at ho33|(simp only [Int.reduceToNat] at ho33;rw [← Ny374.out] at ho33));have HO376:=Aside0.mk (Kd.R_lower (Kd.R_new' (Kd.R_newM (M:=fun k_=>(P0_ k_∨w.heap.size≤k_)) ho33 (by first|exact HK.out.1|exact(show Kept w _ (fun k_=>P0_ k_) from by exact zk4 HK).1) (fun k_ h_=> .inr h_)) (Kd.R_lt (zq4 HO_0))) (below_size (by exact zk1 HB)));replace HO_0:=Aside0.mk (Kd.R_elder' (zq4 HO_0) (Kd.R_base ho33) hb);replace HK:=Aside0.mk (Kept.below (S:=(fun k_=>P0_ k_)) (by exact zk4 HK) hb);replace HB:=Aside0.mk (below_step (by exact zk1 HB) hb);clear hb ho33;have q34:(x5_1:Int)≤ ((l0.length:Int):Int):=of_decide_eq_true zq1;obtain⟨i034,hi034,_,hsz34,_⟩:=info_parts info3;have hroom34:l0.length≤co31:=(Kd.R_reads' HO_0.out).2.1;have hC34:Kd.C (Kd.int .i64) _ Ao31 l0.length l0:=(Kd.R_reads' HO_0.out).2.2;have hcut34:=cut_to (P:=Try.prog) 22 3 .i64 Try.underlying22 hi034 Ao31 l0.length co31 x5_1 (of_decide_eq_true zq1) q34 hroom34;have hr34:=Kd.C_take (m:=(x5_1:Int).toNat) hC34 (by omega);have hy34:y377.length= (x5_1:Int).toNat:=(by rw [Ny377.out,List.length_take];omega);rw [← Ny377.out] at hr34;rw [← hy34] at hcut34;have HR380:=Aside0.mk hr34;have HC380:=Aside0.mk (show y377.length≤co31 from by omega);clear hr34 hC34 hroom34 hi034 hsz34;have KY34:=Aside0.mk hy34;clear hy34;have KL34:=Aside0.mk (show (x5_1:Int).toNat≤l0.length from by omega);replace q34:=eq_true q34)|((with_reducible refine gate_builtin (b:= .append) (xs:= #[.tmp 34,.tmp 37]) rfl ?_);at_builtin;refine Kd.R_append_rows (Kd.int .i64) (w0:=w0) w0.heap.size rfl (.tmp 34) (.tmp 37) 22 3 (.int .i64 0) 8 rfl Try.underlying22 info3 rfl (by decide) (by omega) v375 y374 y377 _ _ _ (fun k_=>(P0_ k_∨w.heap.size≤k_)∧some k_≠ (.slice Ao31 l0.length co31:Value).ownBlock) (fun _=>False) rfl rfl ?aO ?aR (fun _ _ h=>h) (fun _ h=>h.elim) ?aF ?aB ?aS ?aL ?_;(case aR=>repeat(first|exact(by repeat(first|(with_reducible exact HR380.out)|(with_reducible refine Kd.C_alloc ?_ _)|(with_reducible refine Kd.C_drewN ?_ _)|(with_reducible refine Kd.C_drew ?_)|exact HR380.out))|(with_reducible refine Kd.C_alloc ?_ _)|(with_reducible refine Kd.C_drewN ?_ _)|(with_reducible refine Kd.C_drew ?_)));(case aB=>exact(by exact zk1 HB));(case aF=>exact(fun k_ hk=>⟨(.inr (Nat.le_trans (by first|exact HK.out.1|exact(show Kept w _ (fun k_=>P0_ k_) from by exact zk4 HK).1) hk)),Kd.fresh' (Kd.R_lt (zq4 HO_0)) k_ hk⟩));(case aO=>exact(by(with_reducible repeat(first|apply Kd.R_alloc|apply Kd.R_drewN|apply Kd.R_drew));exact Kd.R_mono HO376.out (fun _ hk=>⟨hk.1.1,hk.2⟩)));(case aS=>exact(below_size (by exact zk1 HB)));(case aL=>have:=LMc26.out;omega);intro v382 w35 ho hb hg hat;rw [← Ny381.out] at ho;have HO383:=Aside0.mk (ho);replace HB:=Aside0.mk (hb);replace HK:=Aside0.mk (Kept.of_grown (S:=(fun k_=>P0_ k_)) hg (by exact zk4 HK) (fun k_ e_=>(HO376.out.1 k_ e_).1.1));replace HR380:=Aside0.mk ((show Kd.C (Kd.int .i64) w35 Ao31 y377.length y377 from by rw [Ny377.out];exact Kd.C_take (m:=(x5_1:Int).toNat) ((Kd.R_reads' (Kd.R_after (ok:=(fun k_=>(P0_ k_∨w.heap.size≤k_))) (zq4 HO_0) hg hat)).2.2) KL34.out));replace HO_0:=Aside0.mk (Kd.R_after (ok:=(fun k_=>(P0_ k_∨w.heap.size≤k_))) (zq4 HO_0) hg hat);clear HO376;clear ho hb hg hat)|((with_reducible refine gate_builtin (b:= .append) (xs:= #[.tmp 39,.tmp 41]) rfl ?_);at_builtin;refine Kd.R_append (Kd.int .i64) (w0:=w0) w0.heap.size rfl (.tmp 39) (.tmp 41) 22 3 (.int .i64 0) 8 rfl Try.underlying22 info3 rfl (by decide) (by omega) v382 y381 a1 [.int .i64 a1] (fun k_=>(P0_ k_∨w.heap.size≤k_)∧some k_≠ (.slice Ao31 l0.length co31:Value).ownBlock) (fun _=>False) rfl rfl ?aP (fun _ hk=>hk.elim) ?aF ?aO ?aB ?aS ?aL ?_;(case aP=>exact rfl);(case aB=>exact(by exact zk1 HB));(case aF=>exact(fun k_ hk=>⟨(.inr (Nat.le_trans (by first|exact HK.out.1|exact(show Kept w _ (fun k_=>P0_ k_) from by exact zk4 HK).1) hk)),Kd.fresh' (Kd.R_lt (zq4 HO_0)) k_ hk⟩));(case aO=>exact(zq4 HO383));(case aS=>exact(below_size (by exact zk1 HB)));(case aL=>have:=LMc27.out;omega);intro v385 w36 ho hb hg hat;rw [← Ny384.out] at ho;have HO386:=Aside0.mk (ho);replace HB:=Aside0.mk (hb);replace HK:=Aside0.mk (Kept.of_grown (S:=(fun k_=>P0_ k_)) hg (by exact zk4 HK) (fun k_ e_=>(HO383.out.1 k_ e_).1));replace HR380:=Aside0.mk ((show Kd.C (Kd.int .i64) w36 Ao31 y377.length y377 from by rw [Ny377.out];exact Kd.C_take (m:=(x5_1:Int).toNat) ((Kd.R_reads' (Kd.R_after (ok:=(fun k_=>(P0_ k_∨w.heap.size≤k_))) (zq4 HO_0) hg hat)).2.2) KL34.out));replace HO_0:=Aside0.mk (Kd.R_after (ok:=(fun k_=>(P0_ k_∨w.heap.size≤k_))) (zq4 HO_0) hg hat);clear HO383;clear ho hb hg hat;have q37:(x5_1:Int)≤ ((l0.length:Int):Int):=of_decide_eq_true zq1;obtain⟨i037,hi037,_,hsz37,_⟩:=info_parts info3;have hroom37:l0.length≤co31:=(Kd.R_reads' HO_0.out).2.1;have hC37:Kd.C (Kd.int .i64) _ Ao31 l0.length l0:=(Kd.R_reads' HO_0.out).2.2;have q037:(0:Int)≤ (x5_1:Int):=of_decide_eq_true zq1;have hcut37:=cut_from (P:=Try.prog) 22 3 .i64 Try.underlying22 hi037 1 hsz37 Ao31 l0.length co31 x5_1 q037 q37;have hr37:=Kd.C_drop (m:=(x5_1:Int).toNat) (c:=co31) hC37 (by omega) hroom37;obtain⟨A37,hA37⟩ :∃ A1,A1= (if co31= (x5_1:Int).toNat then Ao31 else(Ao31:Option Addr).map (·.add ((x5_1:Int).toNat * 1))):=⟨_,rfl⟩;obtain⟨c37,hc37⟩ :∃ c1,c1=co31 - (x5_1:Int).toNat:=⟨_,rfl⟩;have hy37:y387.length=l0.length - (x5_1:Int).toNat:=(by rw [Ny387.out,List.length_drop]<;>omega);rw [show (l0).drop (x5_1:Int).toNat=y387 from Ny387.out.symm] at hr37;replace hr37:Kd.C (Kd.int .i64) _ A37 y387.length y387:=(by rw [hA37];exact hr37);rw [← hy37,← hA37,← hc37] at hcut37;have HR390:=Aside0.mk hr37;have HC390:=Aside0.mk (show y387.length≤c37 from by rw [hy37,hc37];exact Nat.sub_le_sub_right hroom37 _);clear hr37 hC37 hroom37 hi037 hsz37 hc37;have KY37:=Aside0.mk hy37;have KA37:=Aside0.mk hA37;clear hy37 hA37;have KL37:=Aside0.mk (show (x5_1:Int).toNat≤l0.length from by omega);replace q37:=eq_true q37)|((with_reducible refine gate_builtin (b:= .append) (xs:= #[.tmp 43,.tmp 46]) rfl ?_);at_builtin;refine Kd.R_append_rows (Kd.int .i64) (w0:=w0) w0.heap.size rfl (.tmp 43) (.tmp 46) 22 3 (.int .i64 0) 8 rfl Try.underlying22 info3 rfl (by decide) (by omega) v385 y384 y387 _ _ _ (fun k_=>(P0_ k_∨w.heap.size≤k_)∧some k_≠ (.slice Ao31 l0.length co31:Value).ownBlock) (fun _=>False) rfl rfl ?aO ?aR (fun _ _ h=>h) (fun _ h=>h.elim) ?aF ?aB ?aS ?aL ?_;(case aR=>repeat(first|exact(by repeat(first|(with_reducible exact HR390.out)|(with_reducible refine Kd.C_alloc ?_ _)|(with_reducible refine Kd.C_drewN ?_ _)|(with_reducible refine Kd.C_drew ?_)|exact HR390.out))|(with_reducible refine Kd.C_alloc ?_ _)|(with_reducible refine Kd.C_drewN ?_ _)|(with_reducible refine Kd.C_drew ?_)));(case aB=>exact(by exact zk1 HB));(case aF=>exact(fun k_ hk=>⟨(.inr (Nat.le_trans (by first|exact HK.out.1|exact(show Kept w _ (fun k_=>P0_ k_) from by exact zk4 HK).1) hk)),Kd.fresh' (Kd.R_lt (zq4 HO_0)) k_ hk⟩));(case aO=>exact(zq4 HO386));(case aS=>exact(below_size (by exact zk1 HB)));(case aL=>have:=LMc30.out;omega);intro v392 w38 ho hb hg hat;rw [← Ny391.out] at ho;have HO393:=Aside0.mk (ho);replace HB:=Aside0.mk (hb);replace HK:=Aside0.mk (Kept.of_grown (S:=(fun k_=>P0_ k_)) hg (by exact zk4 HK) (fun k_ e_=>(HO386.out.1 k_ e_).1));replace HR380:=Aside0.mk ((show Kd.C (Kd.int .i64) w38 Ao31 y377.length y377 from by rw [Ny377.out];exact Kd.C_take (m:=(x5_1:Int).toNat) ((Kd.R_reads' (Kd.R_after (ok:=(fun k_=>(P0_ k_∨w.heap.size≤k_))) (zq4 HO_0) hg hat)).2.2) KL34.out));replace HR390:=Aside0.mk ((show Kd.C (Kd.int .i64) w38 A37 y387.length y387 from by rw [Ny387.out,KA37.out];exact Kd.C_drop (m:=(x5_1:Int).toNat) (c:=co31) ((Kd.R_reads' (Kd.R_after (ok:=(fun k_=>(P0_ k_∨w.heap.size≤k_))) (zq4 HO_0) hg hat)).2.2) KL37.out ((Kd.R_reads' (Kd.R_after (ok:=(fun k_=>(P0_ k_∨w.heap.size≤k_))) (zq4 HO_0) hg hat)).2.1)));replace HO_0:=Aside0.mk (Kd.R_after (ok:=(fun k_=>(P0_ k_∨w.heap.size≤k_))) (zq4 HO_0) hg hat);clear HO386;clear ho hb hg hat))
    go_ret
    exact⟨_,zer,by(with_reducible repeat(first|apply Kd.R_alloc|apply Kd.R_drewN|apply Kd.R_drew));exact Kd.R_mono HO393.out (fun _ hk=>hk.1),by exact zk1 HB,by exact zk4 HK⟩
def spec_l1Least.f (a0:Int) (a1:Int):Option (Int):=if a0<a1 then(some a0) else(some a1)
set_option maxHeartbeats 8000000 in
set_option maxRecDepth 100000 in
theorem spec_l1Least.calls (a0:Int) (a1:Int) (r:Int) (w:World) (h:spec_l1Least.f a0 a1=some r):
  Calls Try.prog 99 #[.int .i64 a0,.int .i64 a1] w fun e w'=>e= .returned (.int .i64 r)∧Drawn0 w w':=by
 have H:(if a0<a1 then(some a0) else(some a1))=some r:=h
 clear h
 by_cases c3:a0<a1
 ·rw [if_pos c3] at H
  have c3b0:decide (a0<a1)=true:=decide_eq_true c3
  clear c3
  obtain rfl:=Option.some.inj H
  go_enter Try.func99,Try.ntmps99
  go_wp2
  go_ret
  exact⟨by first|rfl|(simp;done)|(simp [*];done),by repeat(first|exact Drawn0.refl _|apply Drawn0.step)⟩
 ·rw [if_neg c3] at H
  have c3b0:decide (a0<a1)=false:=decide_eq_false c3
  clear c3
  obtain rfl:=Option.some.inj H
  go_enter Try.func99,Try.ntmps99
  go_wp2
  go_ret
  exact⟨by first|rfl|(simp;done)|(simp [*];done),by repeat(first|exact Drawn0.refl _|apply Drawn0.step)⟩
def spec_l9Relax.l0:Nat→List Int→List Int→List (S79)→Int→Int→Option (List Int)
 | 0,_,_,_,_,_=>none
 |k+1,x1,x5,x11,x12,x13=>if x13<x12 then(if 0≤x13 then(if x13< (x11.length:Int) then(if 0≤ ((rd_T79 x11 x13).f0) then(if ((rd_T79 x11 x13).f0)< (x5.length:Int) then(if 0≤ ((rd_T79 x11 x13).f1) then(if ((rd_T79 x11 x13).f1)< (x1.length:Int) then((spec_l1Least.f (rd x5 ((rd_T79 x11 x13).f0)) (wrap64 ((rd x1 ((rd_T79 x11 x13).f1))+ ((rd_T79 x11 x13).f2)))).bind fun t485=>((some (x5.set (((rd_T79 x11 x13).f0):Int).toNat t485:List Int)).bind fun y486=>(if ((rd_T79 x11 x13).f1)< (x5.length:Int) then(if ((rd_T79 x11 x13).f0)< (x1.length:Int) then((spec_l1Least.f (rd y486 ((rd_T79 x11 x13).f1)) (wrap64 ((rd x1 ((rd_T79 x11 x13).f0))+ ((rd_T79 x11 x13).f2)))).bind fun t489=>(spec_l9Relax.l0 k x1 (y486.set (((rd_T79 x11 x13).f1):Int).toNat t489) x11 x12 (wrap64 (x13+1)))) else(none)) else(none)))) else(none)) else(none)) else(none)) else(none)) else(none)) else(none)) else(some x5)
def spec_l9Relax.f (k:Nat) (l0:List (S79)) (l1:List Int):Option (List Int):=(some (([] :List Int):List Int)).bind fun y475=>(if y475.length+l1.length< 17592186044416 then(spec_l9Relax.l0 k l1 (y475++l1) l0 (l0.length:Int) 0) else(none))
def spec_l9Relax.T5:Bool × List (List Nat × List Nat):=(true,[([],[]),([],[]),([1],[1]),([],[]),([],[]),([4],[4]),([3,5],[3,5]),([6],[6]),([],[]),([],[]),([9],[9]),([8,10],[8,10]),([11],[11]),([],[]),([13],[13]),([12,14],[12,14]),([7,15],[7,15]),([0,2,0,1,2,3,4,5,6,7,8,9,10,11,12,13,14,15,16],[0,2]),([17,16,16,0,1,2,3,4,5,6,7,8,9,10,11,12,13,14,15,16],[16,17])])
def spec_l9Relax.B5:List Nat:= [0,0,2,0,0,16,56,120,0,0,512,1792,3840,0,8192,32512,65528,131071,262143]
theorem spec_l9Relax.tab5:rtab .any (opsOf Try.f106 5)=spec_l9Relax.T5:=by kernel_rfl
theorem spec_l9Relax.bits5:waitsOk spec_l9Relax.T5.2 spec_l9Relax.B5=true:=by kernel_rfl
def spec_l9Relax.T6:Bool × List (List Nat × List Nat):=(true,[([],[]),([],[]),([1],[1]),([],[]),([],[]),([4],[4]),([3,5],[3,5]),([6],[6]),([],[]),([],[]),([9],[9]),([8,10],[8,10]),([11],[11]),([],[]),([13],[13]),([12,14],[12,14]),([7,15],[7,15]),([0,2,0,1,2,3,4,5,6,7,8,9,10,11,12,13,14,15,16],[0,2]),([17,16,16,0,1,2,3,4,5,6,7,8,9,10,11,12,13,14,15,16],[16,17])])
def spec_l9Relax.B6:List Nat:= [0,0,2,0,0,16,56,120,0,0,512,1792,3840,0,8192,32512,65528,131071,262143]
theorem spec_l9Relax.tab6:rtab .any (opsOf Try.f106 6)=spec_l9Relax.T6:=by kernel_rfl
theorem spec_l9Relax.bits6:waitsOk spec_l9Relax.T6.2 spec_l9Relax.B6=true:=by kernel_rfl
set_option maxHeartbeats 8000000 in
set_option maxRecDepth 100000 in
theorem spec_l9Relax.calls (k:Nat) (A0:Option Addr) (c0:Nat) (l0:List (S79)) (A1:Option Addr) (c1:Nat) (l1:List Int) (r:List Int) (w:World) (hr0:Kd.C k79 w A0 l0.length l0) (hc0:l0.length≤c0) (hr1:Kd.C (Kd.int .i64) w A1 l1.length l1) (hc1:l1.length≤c1) (h:spec_l9Relax.f k l0 l1=some r):
  Calls Try.prog 106 #[.slice A0 l0.length c0,.slice A1 l1.length c1] w fun e w'=> ∃ v0_:Value,e= .returned (v0_)∧Kd.R (Kd.int .i64) 3 w' w.heap.size (fun _=>True) v0_ r∧Below w.heap.size w w':=by
 have hu79:=Try.underlying79
 have HR0:=Aside0.mk hr0
 have HC0:=Aside0.mk hc0
 clear hr0 hc0
 have HR1:=Aside0.mk hr1
 have HC1:=Aside0.mk hc1
 clear hr1 hc1
 have HB:=Aside0.mk (Below.refl w.heap.size w)
 have H:((some (([] :List Int):List Int)).bind fun y475=>(if y475.length+l1.length< 17592186044416 then(spec_l9Relax.l0 k l1 (y475++l1) l0 (l0.length:Int) 0) else(none)))=some r:=h
 clear h
 obtain⟨y475,hy475⟩ :∃ y_:List Int,y_= (([] :List Int)):=⟨_,rfl⟩
 replace H:(if y475.length+l1.length< 17592186044416 then(spec_l9Relax.l0 k l1 (y475++l1) l0 (l0.length:Int) 0) else(none))=some r:=zfh hy475 H
 have Ny475:=Aside0.mk hy475
 clear hy475
 by_cases c3:y475.length+l1.length< 17592186044416
 case neg=>exact znn c3 H
 rw [if_pos c3] at H
 have LMc3:=Aside0.mk c3
 clear c3
 obtain⟨y478,hy478⟩ :∃ y_:List Int,y_= (y475++l1):=⟨_,rfl⟩
 replace H:(spec_l9Relax.l0 k l1 y478 l0 (l0.length:Int) 0)=some r:=zfh hy478 H
 have Ny478:=Aside0.mk hy478
 clear hy478
 have H':=Aside0.mk H
 clear H
 go_enter Try.func106,Try.ntmps106
 go_wp2_with (first|((with_reducible refine gate_dst (N:=8) rfl ?_);refine Kd.R_lit (Kd.int .i64) _ 3 ?hg (N:=8) ?hd (xs:=([] :List Int)) (inner:= []) (ok:=fun _=>True) (okp:=fun _=>True) ?hr ?hp (fun _ hk=>hk) trivial (Below.refl _ _) (Nat.le_refl _) (by simp) ?_;(case hd=>rfl);(case hg=>rfl);(case hr=>first|(go_simp;done)|(go_simp;rfl));(case hp=>exact(Reps.none _ _));intro v476 w4 ho5 hb hg_ hnew_;clear hg_ hnew_;(first|rw [← Ny475.out] at ho5|(simp only [Int.reduceToNat] at ho5;rw [← Ny475.out] at ho5));have HO477:=Aside0.mk (Kd.R_lower ho5 (below_size (by exact zk1 HB)));replace HB:=Aside0.mk (below_step (by exact zk1 HB) hb);clear hb ho5)|((with_reducible refine gate_builtin (b:= .append) (xs:= #[.tmp 8,.tmp 9]) rfl ?_);at_builtin;refine Kd.R_append_rows (Kd.int .i64) (w0:=w) w.heap.size rfl (.tmp 8) (.tmp 9) 22 3 (.int .i64 0) 8 rfl Try.underlying22 info3 rfl (by decide) (by omega) v476 y475 l1 _ _ _ (fun _=>True) (fun _=>False) rfl rfl ?aO ?aR (fun _ _ h=>h) (fun _ h=>h.elim) ?aF ?aB ?aS ?aL ?_;(case aR=>exact zcc ((Kd.C_below HR1.out HB.out)));(case aB=>exact(by exact zk1 HB));(case aF=>exact(fun _ _=>trivial));(case aO=>exact(zq4 HO477));(case aS=>exact(below_size (by exact zk1 HB)));(case aL=>have:=LMc3.out;omega);intro v479 w6 ho hb hg hat;rw [← Ny478.out] at ho;have HO480:=Aside0.mk (ho);replace HB:=Aside0.mk (hb);clear HO477;clear ho hb hg hat))
 go_loopg [13] k (fun kq v13 w'=> ∃ (x5_1:List Int) (x13_1:Int),v13= .int .i64 x13_1∧Aside0 (spec_l9Relax.l0 kq l1 x5_1 l0 (l0.length:Int) x13_1=some r)∧Aside0 (kq≤k)∧Aside0 (Kd.R (Kd.int .i64) 3 w' w.heap.size (fun _=>True) v479 x5_1)∧Aside0 (Below w.heap.size w w'))
 case atStart=>exact⟨(y478),(0),zrs,H',⟨Nat.le_refl _⟩,⟨zdr HO480⟩,⟨by exact zk1 HB⟩⟩
 case round=>
  clear H'
  try clear c1
  try clear p2
  try clear c3
  obtain⟨x5_1,x13_1,rfl,HA,HK1,HO_5,HB⟩:=hrel
  cases gk with
  |zero=>exact absurd HA.out (by simp [spec_l9Relax.l0])
  |succ k1=>
   have H:=HA.out
   clear HA
   simp only [spec_l9Relax.l0] at H
   by_cases c7:x13_1< (l0.length:Int)
   ·rw [if_pos c7] at H
    have c7b0:decide (x13_1< (l0.length:Int))=true:=decide_eq_true c7
    clear c7
    by_cases c8: 0≤x13_1
    case neg=>exact znn c8 H
    rw [if_pos c8] at H
    have c8b0:decide (0≤x13_1)=true:=decide_eq_true c8
    clear c8
    by_cases c9:x13_1< (l0.length:Int)
    case neg=>exact znn c9 H
    rw [if_pos c9] at H
    have c9b0:decide (x13_1< (l0.length:Int))=true:=decide_eq_true c9
    clear c9
    by_cases c10: 0≤ ((rd_T79 l0 x13_1).f0)
    case neg=>exact znn c10 H
    rw [if_pos c10] at H
    have c10b0:decide (0≤ ((rd_T79 l0 x13_1).f0))=true:=decide_eq_true c10
    clear c10
    by_cases c11:((rd_T79 l0 x13_1).f0)< (x5_1.length:Int)
    case neg=>exact znn c11 H
    rw [if_pos c11] at H
    have c11b0:decide (((rd_T79 l0 x13_1).f0)< (x5_1.length:Int))=true:=decide_eq_true c11
    clear c11
    by_cases c12: 0≤ ((rd_T79 l0 x13_1).f1)
    case neg=>exact znn c12 H
    rw [if_pos c12] at H
    have c12b0:decide (0≤ ((rd_T79 l0 x13_1).f1))=true:=decide_eq_true c12
    clear c12
    by_cases c13:((rd_T79 l0 x13_1).f1)< (l1.length:Int)
    case neg=>exact znn c13 H
    rw [if_pos c13] at H
    have c13b0:decide (((rd_T79 l0 x13_1).f1)< (l1.length:Int))=true:=decide_eq_true c13
    clear c13
    replace H:=Option.bind_eq_some_iff.mp H
    obtain⟨t485,A140,H⟩:=H
    replace H:((some (x5_1.set (((rd_T79 l0 x13_1).f0):Int).toNat t485:List Int)).bind fun y486=>(if ((rd_T79 l0 x13_1).f1)< (x5_1.length:Int) then(if ((rd_T79 l0 x13_1).f0)< (l1.length:Int) then((spec_l1Least.f (rd y486 ((rd_T79 l0 x13_1).f1)) (wrap64 ((rd l1 ((rd_T79 l0 x13_1).f0))+ ((rd_T79 l0 x13_1).f2)))).bind fun t489=>(spec_l9Relax.l0 k1 l1 (y486.set (((rd_T79 l0 x13_1).f1):Int).toNat t489) l0 (l0.length:Int) (wrap64 (x13_1+1)))) else(none)) else(none)))=some r:=H
    have A14:=Aside0.mk A140
    clear A140
    obtain⟨y486,hy486⟩ :∃ y_:List Int,y_= (x5_1.set (((rd_T79 l0 x13_1).f0):Int).toNat t485):=⟨_,rfl⟩
    replace H:(if ((rd_T79 l0 x13_1).f1)< (x5_1.length:Int) then(if ((rd_T79 l0 x13_1).f0)< (l1.length:Int) then((spec_l1Least.f (rd y486 ((rd_T79 l0 x13_1).f1)) (wrap64 ((rd l1 ((rd_T79 l0 x13_1).f0))+ ((rd_T79 l0 x13_1).f2)))).bind fun t489=>(spec_l9Relax.l0 k1 l1 (y486.set (((rd_T79 l0 x13_1).f1):Int).toNat t489) l0 (l0.length:Int) (wrap64 (x13_1+1)))) else(none)) else(none))=some r:=zfh hy486 H
    have Ny486:=Aside0.mk hy486
    clear hy486
    by_cases c16:((rd_T79 l0 x13_1).f1)< (x5_1.length:Int)
    case neg=>exact znn c16 H
    rw [if_pos c16] at H
    have c16b0:decide (((rd_T79 l0 x13_1).f1)< (x5_1.length:Int))=true:=decide_eq_true c16
    clear c16
    by_cases c17:((rd_T79 l0 x13_1).f0)< (l1.length:Int)
    case neg=>exact znn c17 H
    rw [if_pos c17] at H
    have c17b0:decide (((rd_T79 l0 x13_1).f0)< (l1.length:Int))=true:=decide_eq_true c17
    clear c17
    replace H:=Option.bind_eq_some_iff.mp H
    obtain⟨t489,A180,H⟩:=H
    replace H:(spec_l9Relax.l0 k1 l1 (y486.set (((rd_T79 l0 x13_1).f1):Int).toNat t489) l0 (l0.length:Int) (wrap64 (x13_1+1)))=some r:=H
    have A18:=Aside0.mk A180
    clear A180
    obtain⟨y490,hy490⟩ :∃ y_:List Int,y_= (y486.set (((rd_T79 l0 x13_1).f1):Int).toNat t489):=⟨_,rfl⟩
    replace H:(spec_l9Relax.l0 k1 l1 y490 l0 (l0.length:Int) (wrap64 (x13_1+1)))=some r:=zfh hy490 H
    have Ny490:=Aside0.mk hy490
    clear hy490
    have H':=Aside0.mk H
    clear H
    have p481: 0≤ (x13_1:Int):=of_decide_eq_true zq1
    have q481:x13_1< (l0.length:Int):=of_decide_eq_true zq1
    obtain⟨ad481,e481,hx481_0,hx481_1,hx481_2⟩:=at_T79 HR0.out x13_1 p481 q481
    cases e481
    replace hx481_0:=zhx HB hx481_0
    replace hx481_1:=zhx HB hx481_1
    replace hx481_2:=zhx HB hx481_2
    replace p481:=eq_true p481
    replace q481:=eq_true q481
    try go_wp2_with (first|((with_reducible refine gate_dst (N:=7) rfl ?_);refine box_event ?hg (N:=7) ?hd (cs:= #[.int .i64 0,.int .i64 0,.int .i64 0]) (t:=79) ?hr ?_;(case hd=>rfl);(case hg=>rfl);(case hr=>first|(go_simp;done)|(go_simp;rfl));intro gb482 hg w20 hbox hb;have BK482:=Aside0.mk (hbox);have GW482:=Aside0.mk ((by rw [hg];exact(below_size (by exact zk1 HB)):w.heap.size≤gb482));have GE482:=GW482;replace HO_5:=Aside0.mk (Kd.R_below (zq4 HO_5) hb);replace HB:=Aside0.mk (below_step (by exact zk1 HB) hb);clear hb hbox hg;have hcz21_0:=zcz BK482 0 (.int .i64 0);have hcz21_1:=zcz BK482 1 (.int .i64 0);have hcz21_2:=zcz BK482 2 (.int .i64 0);have hfz21_0:=blk_frozen BK482.out 0;have hfz21_1:=blk_frozen BK482.out 1;have hfz21_2:=blk_frozen BK482.out 2))
    have n0_:Aside0 (Kd.R (Kd.int .i64) 3 (((w20.setCell ⟨gb482,0,none⟩ (.int .i64 ((rd_T79 l0 x13_1).f0))).setCell ⟨gb482,1,none⟩ (.int .i64 ((rd_T79 l0 x13_1).f1))).setCell ⟨gb482,2,none⟩ (.int .i64 ((rd_T79 l0 x13_1).f2))) w.heap.size (fun _=>True) v479 x5_1):=⟨by(with_reducible repeat(first|apply Kd.R_alloc|apply Kd.R_drewN|apply Kd.R_drew));exact Kd.R_mono (Kd.R_far (p:=⟨gb482,2,none⟩) (Kd.R_far (p:=⟨gb482,1,none⟩) (Kd.R_far (p:=⟨gb482,0,none⟩) (Kd.R_types HO_5.out BK482.out (by decide)) (fun _ hk=>hk.2) (.int .i64 ((rd_T79 l0 x13_1).f0))) (fun _ hk=>hk.2) (.int .i64 ((rd_T79 l0 x13_1).f1))) (fun _ hk=>hk.2) (.int .i64 ((rd_T79 l0 x13_1).f2))) (fun _ hk=>trivial)⟩
    have n1_:Aside0 ((((w20.setCell ⟨gb482,0,none⟩ (.int .i64 ((rd_T79 l0 x13_1).f0))).setCell ⟨gb482,1,none⟩ (.int .i64 ((rd_T79 l0 x13_1).f1))).setCell ⟨gb482,2,none⟩ (.int .i64 ((rd_T79 l0 x13_1).f2))).heap[gb482]?=some (.cells #[.int .i64 ((rd_T79 l0 x13_1).f0),.int .i64 ((rd_T79 l0 x13_1).f1),.int .i64 ((rd_T79 l0 x13_1).f2)] 79 (0,0))):=⟨by(with_reducible repeat(first|refine blk_drewN ?_ _|refine blk_drew ?_ |refine blk_alloc ?_ _));refine blk_put (cs:= #[.int .i64 ((rd_T79 l0 x13_1).f0),.int .i64 ((rd_T79 l0 x13_1).f1),.int .i64 0]) ?_ 2 _ rfl;(with_reducible repeat(first|refine blk_drewN ?_ _|refine blk_drew ?_ |refine blk_alloc ?_ _));refine blk_put (cs:= #[.int .i64 ((rd_T79 l0 x13_1).f0),.int .i64 0,.int .i64 0]) ?_ 1 _ rfl;(with_reducible repeat(first|refine blk_drewN ?_ _|refine blk_drew ?_ |refine blk_alloc ?_ _));refine blk_put (cs:= #[.int .i64 0,.int .i64 0,.int .i64 0]) ?_ 0 _ rfl;(with_reducible repeat(first|refine blk_drewN ?_ _|refine blk_drew ?_ |refine blk_alloc ?_ _));exact BK482.out⟩
    have n2_:Aside0 (Below w.heap.size w (((w20.setCell ⟨gb482,0,none⟩ (.int .i64 ((rd_T79 l0 x13_1).f0))).setCell ⟨gb482,1,none⟩ (.int .i64 ((rd_T79 l0 x13_1).f1))).setCell ⟨gb482,2,none⟩ (.int .i64 ((rd_T79 l0 x13_1).f2)))):=⟨by exact zk2 HB GE482.out⟩
    (try clear HO_5)
    (try clear BK482)
    (try clear HB)
    (try simp only [show ∀ (W_:World) (n_:Nat) (a_:Addr) (v_:Value),(World.drewN W_ n_).setCell a_ v_= (World.setCell W_ a_ v_).drewN n_ from fun _ _ _ _=>rfl])
    generalize (((w20.setCell ⟨gb482,0,none⟩ (.int .i64 ((rd_T79 l0 x13_1).f0))).setCell ⟨gb482,1,none⟩ (.int .i64 ((rd_T79 l0 x13_1).f1))).setCell ⟨gb482,2,none⟩ (.int .i64 ((rd_T79 l0 x13_1).f2)))=w22 at n0_ n1_ n2_ ⊢
    have HO_5:=n0_
    have BK482:=n1_
    have HB:=n2_
    clear n0_ n1_ n2_
    replace HO_5:=Aside0.mk (Kd.R_drew HO_5.out)
    replace BK482:=Aside0.mk (blk_drew BK482.out)
    replace HB:=Aside0.mk (below_drew1 HB.out)
    obtain⟨Ao24,co24,eo24⟩:=Kd.R_slice HO_5.out
    (first|subst eo24|(injection eo24 with f1_ f2_ f3_;have f4_:=f1_.symm;have f5_:=f3_.symm;clear f1_ f2_ f3_;subst f4_;subst f5_))
    have p483: 0≤ (((rd_T79 l0 x13_1).f0):Int):=of_decide_eq_true zq1
    have q483:((rd_T79 l0 x13_1).f0)< (x5_1.length:Int):=of_decide_eq_true zq1
    obtain⟨ad483,e483,hx483_0⟩:=Kd.at_int (Kd.R_reads' HO_5.out).2.2 ((rd_T79 l0 x13_1).f0) p483 q483
    cases e483
    replace p483:=eq_true p483
    replace q483:=eq_true q483
    have p484: 0≤ (((rd_T79 l0 x13_1).f1):Int):=of_decide_eq_true zq1
    have q484:((rd_T79 l0 x13_1).f1)< (l1.length:Int):=of_decide_eq_true zq1
    obtain⟨ad484,e484,hx484_0⟩:=Kd.at_int HR1.out ((rd_T79 l0 x13_1).f1) p484 q484
    have hw484_0:=hx484_0
    cases e484
    replace hx484_0:=zhx HB hx484_0
    replace p484:=eq_true p484
    replace q484:=eq_true q484
    refine start_ (n:=19) (S:=fun w'=>w'.cell? ⟨gb482,0,none⟩=some (.int .i64 ((rd_T79 l0 x13_1).f0))∧w'.cell? ⟨gb482,1,none⟩=some (.int .i64 ((rd_T79 l0 x13_1).f1))∧w'.cell? ⟨gb482,2,none⟩=some (.int .i64 ((rd_T79 l0 x13_1).f2))∧w'.cell? (ad483.add (((rd_T79 l0 x13_1).f0)).toNat)=some (.int .i64 (rd x5_1 ((rd_T79 l0 x13_1).f0)))∧w'.cell? (ad484.add (((rd_T79 l0 x13_1).f1)).toNat)=some (.int .i64 (rd l1 ((rd_T79 l0 x13_1).f1)))) (ds:= [18]) (mb' 19 0) (by kernel_rfl) rfl rfl ⟨(blk_cell BK482.out 0).trans rfl,(blk_cell BK482.out 1).trans rfl,(blk_cell BK482.out 2).trans rfl,hx483_0,((zhx HB hw484_0).trans rfl)⟩ (fun hHeld=>?_);refine with_tabW spec_l9Relax.tab5 spec_l9Relax.bits5 (fun HT_ HW_=>?_)
    generalize w22.drew=w23 at HO_5 BK482 HB hx483_0 hx484_0 hHeld ⊢
    refine zp1 HT_ 0 17 (mb' 19 1) rfl ?_
    refine zp1 HT_ 1 18 (mb' 19 3) rfl ?_
    refine zp1 HT_ 3 20 (mb' 19 11) rfl ?_
    refine zp1 HT_ 4 21 (mb' 19 27) rfl ?_
    refine zp1 HT_ 8 25 (mb' 19 283) rfl ?_
    refine zp1 HT_ 9 26 (mb' 19 795) rfl ?_
    refine zp1 HT_ 13 30 (mb' 19 8987) rfl ?_
    refine zt1 HT_ HW_ (v:=?_) (a':=?_) 2 19 (mb' 19 8991) rfl ?_ hHeld ?_ ?_;rotate_left;(rintro w' ⟨s0,s1,s2,s3,s4⟩;go_simp;with_reducible rfl);rotate_left;exact zpa
    refine zt1 HT_ HW_ (v:=?_) (a':=?_) 5 22 (mb' 19 9023) rfl ?_ hHeld ?_ ?_;rotate_left;(rintro w' ⟨s0,s1,s2,s3,s4⟩;go_simp;with_reducible rfl);rotate_left;exact zpa
    refine zp1 HT_ 6 23 (mb' 19 9087) rfl ?_
    refine zt1 HT_ HW_ (v:=?_) (a':=?_) 7 24 (mb' 19 9215) rfl ?_ hHeld ?_ ?_;rotate_left;(rintro w' ⟨s0,s1,s2,s3,s4⟩;go_simp;with_reducible rfl);rotate_left;exact zpa
    refine zt1 HT_ HW_ (v:=?_) (a':=?_) 10 27 (mb' 19 10239) rfl ?_ hHeld ?_ ?_;rotate_left;(rintro w' ⟨s0,s1,s2,s3,s4⟩;go_simp;with_reducible rfl);rotate_left;exact zpa
    refine zp1 HT_ 11 28 (mb' 19 12287) rfl ?_
    refine zt1 HT_ HW_ (v:=?_) (a':=?_) 12 29 (mb' 19 16383) rfl ?_ hHeld ?_ ?_;rotate_left;(rintro w' ⟨s0,s1,s2,s3,s4⟩;go_simp;with_reducible rfl);rotate_left;exact zpa
    refine zt1 HT_ HW_ (v:=?_) (a':=?_) 14 31 (mb' 19 32767) rfl ?_ hHeld ?_ ?_;rotate_left;(rintro w' ⟨s0,s1,s2,s3,s4⟩;go_simp;with_reducible rfl);rotate_left;exact zpa
    refine zp1 HT_ 15 32 (mb' 19 65535) rfl ?_
    refine one_ (i:=16) (N:=some 33) (mb' 19 131071) rfl rfl (one_of HT_.out (by kernel_rfl)) (by decide) (fun K hK=>?_)
    refine goes_ Try.func99 (by kernel_rfl) rfl #[.int .i64 (rd x5_1 ((rd_T79 l0 x13_1).f0)),.int .i64 (wrap64 ((rd l1 ((rd_T79 l0 x13_1).f1))+ ((rd_T79 l0 x13_1).f2)))] (by rfl) rfl rfl zq2 ?_
    with_reducible refine(spec_l1Least.calls (rd x5_1 ((rd_T79 l0 x13_1).f0)) (wrap64 ((rd l1 ((rd_T79 l0 x13_1).f1))+ ((rd_T79 l0 x13_1).f2))) t485 _ A14.out).mono ?_
    rintro e w' ⟨rfl,⟨nd,rfl⟩⟩
    refine⟨_,rfl,?_⟩
    have p15: 0≤ (((rd_T79 l0 x13_1).f0):Int):=of_decide_eq_true zq1
    have q15:(((rd_T79 l0 x13_1).f0):Int)< ((x5_1.length:Int):Int):=of_decide_eq_true zq1
    obtain⟨go15,co15,eo15,gb15,gl15,cl15,HG15⟩:=Kd.R_form HO_5.out (by omega)
    (first|cases eo15|(injection eo15 with ea_ en_ ec_;(first|subst ea_|(injection ea_ with ea_;subst ea_));subst ec_;clear en_))
    have GB15:=Aside0.mk gb15
    have GG15:=Aside0.mk HG15
    clear gb15 gl15 HG15
    (first|simp only [add_plain] at hx483_0|skip)
    obtain⟨hx15_0,hf15_0⟩:=Kd.R_celln 0 HO_5.out (((rd_T79 l0 x13_1).f0):Int) p15 q15
    replace p15:=eq_true p15
    replace q15:=eq_true q15
    have HP25:=Kd.R_putn HO_5.out (((rd_T79 l0 x13_1).f0):Int) t485
    rw [← Ny486.out] at HP25
    have HQ25:=Aside0.mk HP25
    clear HP25
    refine hK.out _ _ ⟨(blk_cell BK482.out 0).trans rfl,(blk_cell BK482.out 1).trans rfl,(blk_cell BK482.out 2).trans rfl,hHeld.2.2.2.1,((zhx HB hw484_0).trans rfl)⟩ (fun hHeld=>?_)
    clear hK K
    refine norm_ (a':=?_) ?_ ?_
    rotate_left
    ·show Act.put _ (some 33) _=_
     simp only [Act.put,List.setIfInBounds_toArray,List.set_cons_zero,List.set_cons_succ,i64_w,i32_w]
     rfl
    refine zp1 HT_ 17 34 (mb' 19 262143) rfl ?_
    refine last_ (i:=18) (N:=none) (mb' 19 524287) rfl rfl (one_of HT_.out (by kernel_rfl)) (by decide) (fun K hK=>?_)
    refine skip_ (w1:=?_) (by rfl) rfl ?_ ?_
    rotate_left
    ·go_simp
     rfl
    refine hK.out _ _ ?_
    clear hK K
    refine done_ (done_of HT_.out (by kernel_rfl)) ?_
    try go_wp2
    have n0_:Aside0 (Kd.R (Kd.int .i64) 3 (w23.setCell ⟨go15,(((rd_T79 l0 x13_1).f0):Int).toNat,none⟩ (.int .i64 t485)) w.heap.size (fun _=>True) (.slice (some ⟨go15,0,none⟩) x5_1.length co24) y486):=⟨zdr HQ25⟩
    have n1_:Aside0 ((w23.setCell ⟨go15,(((rd_T79 l0 x13_1).f0):Int).toNat,none⟩ (.int .i64 t485)).heap[gb482]?=some (.cells #[.int .i64 ((rd_T79 l0 x13_1).f0),.int .i64 ((rd_T79 l0 x13_1).f1),.int .i64 ((rd_T79 l0 x13_1).f2)] 79 (0,0))):=⟨by(with_reducible repeat(first|refine blk_drewN ?_ _|refine blk_drew ?_ |refine blk_alloc ?_ _));refine blk_far ?_ (by have h_:=Kd.R_ne HO_5.out BK482.out (by decide);intro e_;exact h_ (by rw [e_];rfl)) _;(with_reducible repeat(first|refine blk_drewN ?_ _|refine blk_drew ?_ |refine blk_alloc ?_ _));exact BK482.out⟩
    have n2_:Aside0 (Below w.heap.size w (w23.setCell ⟨go15,(((rd_T79 l0 x13_1).f0):Int).toNat,none⟩ (.int .i64 t485))):=⟨by exact zk3 HB GB15.out GE482.out⟩
    (try clear HO_5)
    (try clear BK482)
    (try clear HB)
    (try simp only [show ∀ (W_:World) (n_:Nat) (a_:Addr) (v_:Value),(World.drewN W_ n_).setCell a_ v_= (World.setCell W_ a_ v_).drewN n_ from fun _ _ _ _=>rfl])
    generalize (w23.setCell ⟨go15,(((rd_T79 l0 x13_1).f0):Int).toNat,none⟩ (.int .i64 t485))=w26 at n0_ n1_ n2_ ⊢
    have HO_5:=n0_
    have BK482:=n1_
    have HB:=n2_
    clear n0_ n1_ n2_
    (try(rw [drewN_self w26];generalize hq_:World.drewN w26 _=w26;have n0_:Aside0 (Kd.R (Kd.int .i64) 3 w26 w.heap.size (fun _=>True) (.slice (some ⟨go15,0,none⟩) x5_1.length co24) y486):=⟨by rw [← hq_];exact(zq4 HO_5)⟩;have n1_:Aside0 (w26.heap[gb482]?=some (.cells #[.int .i64 ((rd_T79 l0 x13_1).f0),.int .i64 ((rd_T79 l0 x13_1).f1),.int .i64 ((rd_T79 l0 x13_1).f2)] 79 (0,0))):=⟨by rw [← hq_];exact(zq3 BK482)⟩;have n2_:Aside0 (Below w.heap.size w w26):=⟨by rw [← hq_];exact(by exact zk2 HB GE482.out)⟩;clear HO_5 BK482 HB hq_;have HO_5:=n0_;have BK482:=n1_;have HB:=n2_;clear n0_ n1_ n2_))
    replace HO_5:=Aside0.mk (Kd.R_drew HO_5.out)
    replace BK482:=Aside0.mk (blk_drew BK482.out)
    replace HB:=Aside0.mk (below_drew1 HB.out)
    have p487: 0≤ (((rd_T79 l0 x13_1).f1):Int):=of_decide_eq_true zq1
    have q487:((rd_T79 l0 x13_1).f1)< (y486.length:Int):=(by have h_:(((rd_T79 l0 x13_1).f1):Int)< ((x5_1.length:Int):Int):=of_decide_eq_true zq1;first|(have e_:=(Kd.R_reads' HO_5.out).1;omega)|simpa only [Ny486.out,List.length_set] using h_)
    have ql487:((((rd_T79 l0 x13_1).f1):Int)< ((x5_1.length:Int):Int))=True:=eq_true (of_decide_eq_true zq1)
    obtain⟨ad487,e487,hx487_0⟩:=Kd.at_int (Kd.R_reads' HO_5.out).2.2 ((rd_T79 l0 x13_1).f1) p487 q487
    obtain rfl:(⟨go15,0,none⟩ :Addr)=ad487:=(by injection e487)
    (first|simp only [add_plain] at hx487_0|simp only [add_at] at hx487_0|simp only [Addr.add,Nat.zero_add] at hx487_0|skip)
    replace p487:=eq_true p487
    replace q487:=eq_true q487
    have p488: 0≤ (((rd_T79 l0 x13_1).f0):Int):=of_decide_eq_true zq1
    have q488:((rd_T79 l0 x13_1).f0)< (l1.length:Int):=of_decide_eq_true zq1
    obtain⟨ad488,e488,hx488_0⟩:=Kd.at_int HR1.out ((rd_T79 l0 x13_1).f0) p488 q488
    have hw488_0:=hx488_0
    obtain rfl:ad484=ad488:=(by injection e488)
    replace hx488_0:=zhx HB hx488_0
    replace p488:=eq_true p488
    replace q488:=eq_true q488
    refine start_ (n:=19) (S:=fun w'=>w'.cell? ⟨gb482,0,none⟩=some (.int .i64 ((rd_T79 l0 x13_1).f0))∧w'.cell? ⟨gb482,1,none⟩=some (.int .i64 ((rd_T79 l0 x13_1).f1))∧w'.cell? ⟨gb482,2,none⟩=some (.int .i64 ((rd_T79 l0 x13_1).f2))∧w'.cell? ⟨go15,(((rd_T79 l0 x13_1).f1)).toNat,none⟩=some (.int .i64 (rd y486 ((rd_T79 l0 x13_1).f1)))∧w'.cell? (ad484.add (((rd_T79 l0 x13_1).f0)).toNat)=some (.int .i64 (rd l1 ((rd_T79 l0 x13_1).f0)))) (ds:= [18]) (mb' 19 0) (by kernel_rfl) rfl rfl ⟨(blk_cell BK482.out 0).trans rfl,(blk_cell BK482.out 1).trans rfl,(blk_cell BK482.out 2).trans rfl,hx487_0,((zhx HB hw488_0).trans rfl)⟩ (fun hHeld=>?_);refine with_tabW spec_l9Relax.tab6 spec_l9Relax.bits6 (fun HT_ HW_=>?_)
    generalize w26.drew=w27 at HO_5 BK482 HB HQ25 hx487_0 hx488_0 hHeld ⊢
    refine zp1 HT_ 0 35 (mb' 19 1) rfl ?_
    refine zp1 HT_ 1 36 (mb' 19 3) rfl ?_
    refine zp1 HT_ 3 38 (mb' 19 11) rfl ?_
    refine zp1 HT_ 4 39 (mb' 19 27) rfl ?_
    refine zp1 HT_ 8 43 (mb' 19 283) rfl ?_
    refine zp1 HT_ 9 44 (mb' 19 795) rfl ?_
    refine zp1 HT_ 13 48 (mb' 19 8987) rfl ?_
    refine zt1 HT_ HW_ (v:=?_) (a':=?_) 2 37 (mb' 19 8991) rfl ?_ hHeld ?_ ?_;rotate_left;(rintro w' ⟨s0,s1,s2,s3,s4⟩;go_simp;with_reducible rfl);rotate_left;exact zpa
    refine zt1 HT_ HW_ (v:=?_) (a':=?_) 5 40 (mb' 19 9023) rfl ?_ hHeld ?_ ?_;rotate_left;(rintro w' ⟨s0,s1,s2,s3,s4⟩;go_simp;with_reducible rfl);rotate_left;exact zpa
    refine zp1 HT_ 6 41 (mb' 19 9087) rfl ?_
    refine zt1 HT_ HW_ (v:=?_) (a':=?_) 7 42 (mb' 19 9215) rfl ?_ hHeld ?_ ?_;rotate_left;(rintro w' ⟨s0,s1,s2,s3,s4⟩;go_simp;with_reducible rfl);rotate_left;exact zpa
    refine zt1 HT_ HW_ (v:=?_) (a':=?_) 10 45 (mb' 19 10239) rfl ?_ hHeld ?_ ?_;rotate_left;(rintro w' ⟨s0,s1,s2,s3,s4⟩;go_simp;with_reducible rfl);rotate_left;exact zpa
    refine zp1 HT_ 11 46 (mb' 19 12287) rfl ?_
    refine zt1 HT_ HW_ (v:=?_) (a':=?_) 12 47 (mb' 19 16383) rfl ?_ hHeld ?_ ?_;rotate_left;(rintro w' ⟨s0,s1,s2,s3,s4⟩;go_simp;with_reducible rfl);rotate_left;exact zpa
    refine zt1 HT_ HW_ (v:=?_) (a':=?_) 14 49 (mb' 19 32767) rfl ?_ hHeld ?_ ?_;rotate_left;(rintro w' ⟨s0,s1,s2,s3,s4⟩;go_simp;with_reducible rfl);rotate_left;exact zpa
    refine zp1 HT_ 15 50 (mb' 19 65535) rfl ?_
    refine one_ (i:=16) (N:=some 51) (mb' 19 131071) rfl rfl (one_of HT_.out (by kernel_rfl)) (by decide) (fun K hK=>?_)
    refine goes_ Try.func99 (by kernel_rfl) rfl #[.int .i64 (rd y486 ((rd_T79 l0 x13_1).f1)),.int .i64 (wrap64 ((rd l1 ((rd_T79 l0 x13_1).f0))+ ((rd_T79 l0 x13_1).f2)))] (by rfl) rfl rfl zq2 ?_
    with_reducible refine(spec_l1Least.calls (rd y486 ((rd_T79 l0 x13_1).f1)) (wrap64 ((rd l1 ((rd_T79 l0 x13_1).f0))+ ((rd_T79 l0 x13_1).f2))) t489 _ A18.out).mono ?_
    rintro e w' ⟨rfl,⟨nd,rfl⟩⟩
    refine⟨_,rfl,?_⟩
    have p19: 0≤ (((rd_T79 l0 x13_1).f1):Int):=of_decide_eq_true zq1
    have q19:(((rd_T79 l0 x13_1).f1):Int)< ((x5_1.length:Int):Int):=of_decide_eq_true zq1
    obtain⟨hx19_0,hf19_0⟩:=Kd.R_celln 0 HO_5.out (((rd_T79 l0 x13_1).f1):Int) p19 q19
    replace p19:=eq_true p19
    replace q19:=eq_true q19
    have HP28:=Kd.R_putn HO_5.out (((rd_T79 l0 x13_1).f1):Int) t489
    rw [← Ny490.out] at HP28
    have HQ28:=Aside0.mk HP28
    clear HP28
    refine hK.out _ _ ⟨(blk_cell BK482.out 0).trans rfl,(blk_cell BK482.out 1).trans rfl,(blk_cell BK482.out 2).trans rfl,hHeld.2.2.2.1,((zhx HB hw488_0).trans rfl)⟩ (fun hHeld=>?_)
    clear hK K
    refine norm_ (a':=?_) ?_ ?_
    rotate_left
    ·show Act.put _ (some 51) _=_
     simp only [Act.put,List.setIfInBounds_toArray,List.set_cons_zero,List.set_cons_succ,i64_w,i32_w]
     rfl
    refine zp1 HT_ 17 52 (mb' 19 262143) rfl ?_
    refine last_ (i:=18) (N:=none) (mb' 19 524287) rfl rfl (one_of HT_.out (by kernel_rfl)) (by decide) (fun K hK=>?_)
    refine skip_ (w1:=?_) (by rfl) rfl ?_ ?_
    rotate_left
    ·go_simp
     rfl
    refine hK.out _ _ ?_
    clear hK K
    refine done_ (done_of HT_.out (by kernel_rfl)) ?_
    try go_wp2
    go_roundg k1
    case measure=>have:=HK1.out;omega
    case rel=>exact⟨(y490),(wrap64 (x13_1+1)),zrs,H',⟨by have:=HK1.out;omega⟩,⟨zdr HQ28⟩,⟨by exact zk3 HB GB15.out GE482.out⟩⟩
   ·rw [if_neg c7] at H
    have c7b0:decide (x13_1< (l0.length:Int))=false:=decide_eq_false c7
    clear c7
    obtain rfl:=Option.some.inj H
    go_wp2
    go_ret
    exact⟨_,zer,zdr HO_5,by exact zk1 HB⟩
mutual
def spec_l9Fars.l0:Nat→Int→List (S79)→Int→List Int→Int→Option (List Int)
 | 0,_,_,_,_,_=>none
 |k+1,x0,x1,x2,x7,x8=>if x8<x0 then(if x7.length< 17592186044416 then(spec_l9Fars.l0 k x0 x1 x2 (x7++ [100000]) (wrap64 (x8+1))) else(none)) else(if 0≤x2 then(if x2< (x7.length:Int) then(spec_l9Fars.l1 k x0 x1 (x7.set (x2:Int).toNat 0) 0) else(none)) else(none))
def spec_l9Fars.l1:Nat→Int→List (S79)→List Int→Int→Option (List Int)
 | 0,_,_,_,_=>none
 |k+1,x0,x1,x7,x9=>if x9<x0 then((spec_l9Relax.f k x1 x7).bind fun t495=>(spec_l9Fars.l1 k x0 x1 t495 (wrap64 (x9+1)))) else(some x7)
end
def spec_l9Fars.f (k:Nat) (a0:Int) (l1:List (S79)) (a2:Int):Option (List Int):=spec_l9Fars.l0 k a0 l1 a2 ([] :List Int) 0
set_option maxHeartbeats 8000000 in
set_option maxRecDepth 100000 in
theorem spec_l9Fars.calls (k:Nat) (a0:Int) (A1:Option Addr) (c1:Nat) (l1:List (S79)) (a2:Int) (r:List Int) (w:World) (hr1:Kd.C k79 w A1 l1.length l1) (hc1:l1.length≤c1) (h:spec_l9Fars.f k a0 l1 a2=some r):
  Calls Try.prog 96 #[.int .i64 a0,.slice A1 l1.length c1,.int .i64 a2] w fun e w'=> ∃ v0_:Value,e= .returned (v0_)∧Kd.R (Kd.int .i64) 3 w' w.heap.size (fun _=>True) v0_ r∧Below w.heap.size w w':=by
 have HR1:=Aside0.mk hr1
 have HC1:=Aside0.mk hc1
 clear hr1 hc1
 have HB:=Aside0.mk (Below.refl w.heap.size w)
 have H:(spec_l9Fars.l0 k a0 l1 a2 ([] :List Int) 0)=some r:=h
 clear h
 have H':=Aside0.mk H
 clear H
 go_enter Try.func96,Try.ntmps96
 go_wp2
 go_loopg [7,8] k (fun kq v7 v8 w'=> ∃ (x7_1:List Int) (x8_1:Int),v8= .int .i64 x8_1∧Aside0 (spec_l9Fars.l0 kq a0 l1 a2 x7_1 x8_1=some r)∧Aside0 (kq≤k)∧Aside0 (Kd.R (Kd.int .i64) 3 w' w.heap.size (fun _=>True) v7 x7_1)∧Aside0 (Below w.heap.size w w'))
 case atStart=>exact⟨(([] :List Int)),(0),zrs,H',⟨Nat.le_refl _⟩,⟨by first|exact Kd.R_nil _ _ _ _ _|exact Kd.N_nil _ _ _ _ _|exact Kd.V_nil _ _ _ _ _|exact Kd.Q_nil _ _ _ _ _|exact Kd.S_nil _ _ _ _ _⟩,⟨by exact zk1 HB⟩⟩
 case round=>
  clear H'
  try clear c1
  try clear p2
  obtain⟨x7_1,x8_1,rfl,HA,HK1,HO_7,HB⟩:=hrel
  cases gk with
  |zero=>exact absurd HA.out (by simp [spec_l9Fars.l0])
  |succ k1=>
   have H:=HA.out
   clear HA
   simp only [spec_l9Fars.l0] at H
   by_cases c4:x8_1<a0
   ·rw [if_pos c4] at H
    have c4b0:decide (x8_1<a0)=true:=decide_eq_true c4
    clear c4
    by_cases c5:x7_1.length< 17592186044416
    case neg=>exact znn c5 H
    rw [if_pos c5] at H
    have LMc5:=Aside0.mk c5
    clear c5
    obtain⟨y491,hy491⟩ :∃ y_:List Int,y_= (x7_1++ [100000]):=⟨_,rfl⟩
    replace H:(spec_l9Fars.l0 k1 a0 l1 a2 y491 (wrap64 (x8_1+1)))=some r:=zfh hy491 H
    have Ny491:=Aside0.mk hy491
    clear hy491
    have H':=Aside0.mk H
    clear H
    go_wp2_with (first|((with_reducible refine gate_builtin (b:= .append) (xs:= #[.tmp 15,.tmp 16]) rfl ?_);at_builtin;refine Kd.R_append (Kd.int .i64) (w0:=w) w.heap.size rfl (.tmp 15) (.tmp 16) 22 3 (.int .i64 0) 8 rfl Try.underlying22 info3 rfl (by decide) (by omega) u7 x7_1 100000 [.int .i64 100000] (fun _=>True) (fun _=>False) rfl rfl ?aP (fun _ hk=>hk.elim) ?aF ?aO ?aB ?aS ?aL ?_;(case aP=>exact rfl);(case aB=>exact(by exact zk1 HB));(case aF=>exact(fun _ _=>trivial));(case aO=>exact(zq4 HO_7));(case aS=>exact(below_size (by exact zk1 HB)));(case aL=>have:=LMc5.out;omega);intro v492 w6 ho hb hg hat;rw [← Ny491.out] at ho;have HO493:=Aside0.mk (ho);replace HB:=Aside0.mk (hb);clear HO_7;clear ho hb hg hat))
    go_roundg k1
    case measure=>have:=HK1.out;omega
    case rel=>exact⟨(y491),(wrap64 (x8_1+1)),zrs,H',⟨by have:=HK1.out;omega⟩,⟨zdr HO493⟩,⟨by exact zk1 HB⟩⟩
   ·rw [if_neg c4] at H
    have c4b0:decide (x8_1<a0)=false:=decide_eq_false c4
    clear c4
    by_cases c7: 0≤a2
    case neg=>exact znn c7 H
    rw [if_pos c7] at H
    have c7b0:decide (0≤a2)=true:=decide_eq_true c7
    clear c7
    by_cases c8:a2< (x7_1.length:Int)
    case neg=>exact znn c8 H
    rw [if_pos c8] at H
    have c8b0:decide (a2< (x7_1.length:Int))=true:=decide_eq_true c8
    clear c8
    obtain⟨y494,hy494⟩ :∃ y_:List Int,y_= (x7_1.set (a2:Int).toNat 0):=⟨_,rfl⟩
    replace H:(spec_l9Fars.l1 k1 a0 l1 y494 0)=some r:=zfh hy494 H
    have Ny494:=Aside0.mk hy494
    clear hy494
    have H':=Aside0.mk H
    clear H
    have p9: 0≤ (a2:Int):=of_decide_eq_true zq1
    have q9:(a2:Int)< ((x7_1.length:Int):Int):=of_decide_eq_true zq1
    obtain⟨go9,co9,eo9,gb9,gl9,cl9,HG9⟩:=Kd.R_form HO_7.out (by omega)
    (first|cases eo9|(injection eo9 with ea_ en_ ec_;(first|subst ea_|(injection ea_ with ea_;subst ea_));subst ec_;clear en_))
    have GB9:=Aside0.mk gb9
    have GG9:=Aside0.mk HG9
    clear gb9 gl9 HG9
    obtain⟨hx9_0,hf9_0⟩:=Kd.R_celln 0 HO_7.out (a2:Int) p9 q9
    replace p9:=eq_true p9
    replace q9:=eq_true q9
    have HP10:=Kd.R_putg HO_7.out (a2:Int) 0
    go_wp2_with (first|((with_reducible refine gate_store (t:=3) (p:=20) rfl ?_);refine store_event (t:=3) (p:=20) (v:=?vo_w11) (w1:=(wr.setCell ⟨go9,(a2:Int).toNat,none⟩ (.int .i64 0))) ?hg ?ho ?hn ?hr ?_;(case ho=>rfl);(case hg=>rfl);(case hn=>rfl);(case hr=>first|(go_simp;done)|(go_simp;rfl));intro w11 hw;have hg:wr.grownBy w11 (some go9):=(by rw [hw];exact HP10.2);have hp_:Kd.R (Kd.int .i64) 3 w11 w.heap.size (fun _=>True) (.slice (some ⟨go9,0,none⟩) x7_1.length co9) y494:=(by rw [hw,Ny494.out];exact HP10.1);clear HP10;replace HO_7:=Aside0.mk (hp_);replace HB:=Aside0.mk ((by rw [hw];exact below_set (HB.out) GB9.out:Below w.heap.size w w11));clear hg hw hp_))
    go_loopg [7,9] k1 (fun kq v7 v9 w'=> ∃ (x7_2:List Int) (x9_2:Int),v9= .int .i64 x9_2∧Aside0 (spec_l9Fars.l1 kq a0 l1 x7_2 x9_2=some r)∧Aside0 (kq≤k1)∧Aside0 (Kd.R (Kd.int .i64) 3 w' w.heap.size (fun _=>True) v7 x7_2)∧Aside0 (Below w.heap.size w w'))
    case atStart=>exact⟨(y494),(0),zrs,H',⟨Nat.le_refl _⟩,⟨zdr HO_7⟩,⟨by exact zk1 HB⟩⟩
    case round=>
     clear H'
     try clear c1
     try clear p2
     try clear c4
     try clear c4b0
     try clear c5
     try clear p6
     try clear c7
     try clear c7b0
     try clear c8
     try clear c8b0
     try clear c9
     try clear p9
     try clear q9
     try clear hx9
     try clear hf9
     try clear hx9_0
     try clear p2
     try clear p9
     try clear q9
     obtain⟨x7_2,x9_2,rfl,HA,HK2,HO_7,HB⟩:=hrel
     cases gk with
     |zero=>exact absurd HA.out (by simp [spec_l9Fars.l1])
     |succ k2=>
      have H:=HA.out
      clear HA
      simp only [spec_l9Fars.l1] at H
      by_cases c12:x9_2<a0
      ·rw [if_pos c12] at H
       have c12b0:decide (x9_2<a0)=true:=decide_eq_true c12
       clear c12
       replace H:=Option.bind_eq_some_iff.mp H
       obtain⟨t495,A130,H⟩:=H
       replace H:(spec_l9Fars.l1 k2 a0 l1 t495 (wrap64 (x9_2+1)))=some r:=H
       have A13:=Aside0.mk A130
       clear A130
       have H':=Aside0.mk H
       clear H
       obtain⟨Ao14,co14,eo14⟩:=Kd.R_slice HO_7.out
       subst eo14
       go_wp2_with (first|((with_reducible refine gate_callee (f:=106) rfl ?_);refine goesL_ (some 28) rfl rfl Try.func106 (by kernel_rfl) rfl #[.slice A1 l1.length c1,.slice Ao14 x7_2.length co14] rfl zq2 ?_;(with_reducible refine(spec_l9Relax.calls k2 _ _ l1 _ _ x7_2 t495 _ ?side1 ?side2 ?side3 ?side4 A13.out).mono ?_);(case side1=>exact zcc ((Kd.C_below HR1.out HB.out)));(case side2=>exact HC1.out);(case side3=>exact zcc ((Kd.R_reads' HO_7.out).2.2));(case side4=>exact(Kd.R_reads' HO_7.out).2.1);rintro e w15 ⟨v496,rfl,ho0,hb⟩;refine⟨_,rfl,?_⟩;have HO497:=Aside0.mk (Kd.R_lower (Kd.R_new' ho0 (Kd.R_lt (zq4 HO_7))) (below_size (by exact zk1 HB)));replace HO_7:=Aside0.mk (Kd.R_elder' (zq4 HO_7) (Kd.R_base ho0) hb);replace HB:=Aside0.mk (below_step (by exact zk1 HB) hb);(try clear hb);(try clear hb2);(try clear hk);(try clear hi);(try clear ho0)))
       go_roundg k2
       case measure=>have:=HK1.out;have:=HK2.out;omega
       case rel=>exact⟨(t495),(wrap64 (x9_2+1)),zrs,H',⟨by have:=HK1.out;have:=HK2.out;omega⟩,⟨by(with_reducible repeat(first|apply Kd.R_alloc|apply Kd.R_drewN|apply Kd.R_drew));exact Kd.R_mono HO497.out (fun _ hk=>trivial)⟩,⟨by exact zk1 HB⟩⟩
      ·rw [if_neg c12] at H
       have c12b0:decide (x9_2<a0)=false:=decide_eq_false c12
       clear c12
       obtain rfl:=Option.some.inj H
       go_wp2
       go_ret
       exact⟨_,zer,zdr HO_7,by exact zk1 HB⟩
def spec_l8Near.l0:Nat→Int→List Int→List (S79)→Int→Int→Option (List Int)
 | 0,_,_,_,_,_=>none
 |k+1,x1,x5,x8,x9,x10=>if x10<x9 then(if 0≤x10 then(if x10< (x8.length:Int) then(if ((rd_T79 x8 x10).f0)=x1 then((spec_l1Put.f k x5 ((rd_T79 x8 x10).f1)).bind fun t500=>(if ((rd_T79 x8 x10).f1)=x1 then((spec_l1Put.f k t500 ((rd_T79 x8 x10).f0)).bind fun t503=>(spec_l8Near.l0 k x1 t503 x8 x9 (wrap64 (x10+1)))) else(spec_l8Near.l0 k x1 t500 x8 x9 (wrap64 (x10+1))))) else(if ((rd_T79 x8 x10).f1)=x1 then((spec_l1Put.f k x5 ((rd_T79 x8 x10).f0)).bind fun t506=>(spec_l8Near.l0 k x1 t506 x8 x9 (wrap64 (x10+1)))) else(spec_l8Near.l0 k x1 x5 x8 x9 (wrap64 (x10+1))))) else(none)) else(none)) else(some x5)
def spec_l8Near.f (k:Nat) (l0:List (S79)) (a1:Int):Option (List Int):=spec_l8Near.l0 k a1 ([] :List Int) l0 (l0.length:Int) 0
set_option maxHeartbeats 8000000 in
set_option maxRecDepth 100000 in
theorem spec_l8Near.calls (k:Nat) (A0:Option Addr) (c0:Nat) (l0:List (S79)) (a1:Int) (r:List Int) (w:World) (hr0:Kd.C k79 w A0 l0.length l0) (hc0:l0.length≤c0) (h:spec_l8Near.f k l0 a1=some r):
  Calls Try.prog 97 #[.slice A0 l0.length c0,.int .i64 a1] w fun e w'=> ∃ v0_:Value,e= .returned (v0_)∧Kd.R (Kd.int .i64) 3 w' w.heap.size (fun _=>True) v0_ r∧Below w.heap.size w w':=by
 have hu79:=Try.underlying79
 have HR0:=Aside0.mk hr0
 have HC0:=Aside0.mk hc0
 clear hr0 hc0
 have HB:=Aside0.mk (Below.refl w.heap.size w)
 have H:(spec_l8Near.l0 k a1 ([] :List Int) l0 (l0.length:Int) 0)=some r:=h
 clear h
 have H':=Aside0.mk H
 clear H
 go_enter Try.func97,Try.ntmps97
 go_wp2
 go_loopg [5,10] k (fun kq v5 v10 w'=> ∃ (x5_1:List Int) (x10_1:Int),v10= .int .i64 x10_1∧Aside0 (spec_l8Near.l0 kq a1 x5_1 l0 (l0.length:Int) x10_1=some r)∧Aside0 (kq≤k)∧Aside0 (Kd.R (Kd.int .i64) 3 w' w.heap.size (fun _=>True) v5 x5_1)∧Aside0 (Below w.heap.size w w'))
 case atStart=>exact⟨(([] :List Int)),(0),zrs,H',⟨Nat.le_refl _⟩,⟨by first|exact Kd.R_nil _ _ _ _ _|exact Kd.N_nil _ _ _ _ _|exact Kd.V_nil _ _ _ _ _|exact Kd.Q_nil _ _ _ _ _|exact Kd.S_nil _ _ _ _ _⟩,⟨by exact zk1 HB⟩⟩
 case round=>
  clear H'
  try clear p2
  obtain⟨x5_1,x10_1,rfl,HA,HK1,HO_5,HB⟩:=hrel
  cases gk with
  |zero=>exact absurd HA.out (by simp [spec_l8Near.l0])
  |succ k1=>
   have H:=HA.out
   clear HA
   simp only [spec_l8Near.l0] at H
   by_cases c3:x10_1< (l0.length:Int)
   ·rw [if_pos c3] at H
    have c3b0:decide (x10_1< (l0.length:Int))=true:=decide_eq_true c3
    clear c3
    by_cases c4: 0≤x10_1
    case neg=>exact znn c4 H
    rw [if_pos c4] at H
    have c4b0:decide (0≤x10_1)=true:=decide_eq_true c4
    clear c4
    by_cases c5:x10_1< (l0.length:Int)
    case neg=>exact znn c5 H
    rw [if_pos c5] at H
    have c5b0:decide (x10_1< (l0.length:Int))=true:=decide_eq_true c5
    clear c5
    by_cases c6:((rd_T79 l0 x10_1).f0)=a1
    ·rw [if_pos c6] at H
     have c6b0:(((rd_T79 l0 x10_1).f0)==a1)=true:=beq_iff_eq.mpr c6
     have c6b1:(((rd_T79 l0 x10_1).f0) !=a1)=false:=bne_eq_false_iff_eq.mpr c6
     clear c6
     replace H:=Option.bind_eq_some_iff.mp H
     obtain⟨t500,A70,H⟩:=H
     replace H:(if ((rd_T79 l0 x10_1).f1)=a1 then((spec_l1Put.f k1 t500 ((rd_T79 l0 x10_1).f0)).bind fun t503=>(spec_l8Near.l0 k1 a1 t503 l0 (l0.length:Int) (wrap64 (x10_1+1)))) else(spec_l8Near.l0 k1 a1 t500 l0 (l0.length:Int) (wrap64 (x10_1+1))))=some r:=H
     have A7:=Aside0.mk A70
     clear A70
     by_cases c8:((rd_T79 l0 x10_1).f1)=a1
     ·rw [if_pos c8] at H
      have c8b0:(((rd_T79 l0 x10_1).f1)==a1)=true:=beq_iff_eq.mpr c8
      have c8b1:(((rd_T79 l0 x10_1).f1) !=a1)=false:=bne_eq_false_iff_eq.mpr c8
      clear c8
      replace H:=Option.bind_eq_some_iff.mp H
      obtain⟨t503,A90,H⟩:=H
      replace H:(spec_l8Near.l0 k1 a1 t503 l0 (l0.length:Int) (wrap64 (x10_1+1)))=some r:=H
      have A9:=Aside0.mk A90
      clear A90
      have H':=Aside0.mk H
      clear H
      have p498: 0≤ (x10_1:Int):=of_decide_eq_true zq1
      have q498:x10_1< (l0.length:Int):=of_decide_eq_true zq1
      obtain⟨ad498,e498,hx498_0,hx498_1,hx498_2⟩:=at_T79 HR0.out x10_1 p498 q498
      cases e498
      replace hx498_0:=zhx HB hx498_0
      replace hx498_1:=zhx HB hx498_1
      replace hx498_2:=zhx HB hx498_2
      replace p498:=eq_true p498
      replace q498:=eq_true q498
      go_wp2_with (first|((with_reducible refine gate_dst (N:=7) rfl ?_);refine box_event ?hg (N:=7) ?hd (cs:= #[.int .i64 0,.int .i64 0,.int .i64 0]) (t:=79) ?hr ?_;(case hd=>rfl);(case hg=>rfl);(case hr=>first|(go_simp;done)|(go_simp;rfl));intro gb499 hg w10 hbox hb;have BK499:=Aside0.mk (hbox);have GW499:=Aside0.mk ((by rw [hg];exact(below_size (by exact zk1 HB)):w.heap.size≤gb499));have GE499:=GW499;replace HO_5:=Aside0.mk (Kd.R_below (zq4 HO_5) hb);replace HB:=Aside0.mk (below_step (by exact zk1 HB) hb);clear hb hbox hg;have hcz11_0:=zcz BK499 0 (.int .i64 0);have hcz11_1:=zcz BK499 1 (.int .i64 0);have hcz11_2:=zcz BK499 2 (.int .i64 0);have hfz11_0:=blk_frozen BK499.out 0;have hfz11_1:=blk_frozen BK499.out 1;have hfz11_2:=blk_frozen BK499.out 2)|((with_reducible refine gate_store (t:=79) (p:=7) rfl ?_);refine store_event (t:=79) (p:=7) (v:=?vo_w12) (w1:=(((w10.setCell ⟨gb499,0,none⟩ (.int .i64 ((rd_T79 l0 x10_1).f0))).setCell ⟨gb499,1,none⟩ (.int .i64 ((rd_T79 l0 x10_1).f1))).setCell ⟨gb499,2,none⟩ (.int .i64 ((rd_T79 l0 x10_1).f2)))) ?hg ?ho ?hn ?hr ?_;(case ho=>rfl);(case hg=>rfl);(case hn=>rfl);(case hr=>first|(go_simp;done)|(go_simp;rfl));intro w12 hw;have n0_:Aside0 (Kd.R (Kd.int .i64) 3 w12 w.heap.size (fun _=>True) u5 x5_1):=⟨(by rw [hw];exact(by(with_reducible repeat(first|apply Kd.R_alloc|apply Kd.R_drewN|apply Kd.R_drew));exact Kd.R_mono (Kd.R_far (p:=⟨gb499,2,none⟩) (Kd.R_far (p:=⟨gb499,1,none⟩) (Kd.R_far (p:=⟨gb499,0,none⟩) (Kd.R_types HO_5.out BK499.out (by decide)) (fun _ hk=>hk.2) (.int .i64 ((rd_T79 l0 x10_1).f0))) (fun _ hk=>hk.2) (.int .i64 ((rd_T79 l0 x10_1).f1))) (fun _ hk=>hk.2) (.int .i64 ((rd_T79 l0 x10_1).f2))) (fun _ hk=>trivial)))⟩;have n1_:Aside0 (w12.heap[gb499]?=some (.cells #[.int .i64 ((rd_T79 l0 x10_1).f0),.int .i64 ((rd_T79 l0 x10_1).f1),.int .i64 ((rd_T79 l0 x10_1).f2)] 79 (0,0))):=⟨(by rw [hw];exact(by(with_reducible repeat(first|refine blk_drewN ?_ _|refine blk_drew ?_ |refine blk_alloc ?_ _));refine blk_put (cs:= #[.int .i64 ((rd_T79 l0 x10_1).f0),.int .i64 ((rd_T79 l0 x10_1).f1),.int .i64 0]) ?_ 2 _ rfl;(with_reducible repeat(first|refine blk_drewN ?_ _|refine blk_drew ?_ |refine blk_alloc ?_ _));refine blk_put (cs:= #[.int .i64 ((rd_T79 l0 x10_1).f0),.int .i64 0,.int .i64 0]) ?_ 1 _ rfl;(with_reducible repeat(first|refine blk_drewN ?_ _|refine blk_drew ?_ |refine blk_alloc ?_ _));refine blk_put (cs:= #[.int .i64 0,.int .i64 0,.int .i64 0]) ?_ 0 _ rfl;(with_reducible repeat(first|refine blk_drewN ?_ _|refine blk_drew ?_ |refine blk_alloc ?_ _));exact BK499.out))⟩;have n2_:Aside0 (Below w.heap.size w w12):=⟨(by rw [hw];exact(by exact zk2 HB GE499.out))⟩;clear hw;clear HO_5;clear BK499;clear HB;have HO_5:=n0_;have BK499:=n1_;have HB:=n2_;clear n0_ n1_ n2_;have hcz13_0:=zcz BK499 0 (.int .i64 ((rd_T79 l0 x10_1).f0));have hcz13_1:=zcz BK499 1 (.int .i64 ((rd_T79 l0 x10_1).f1));have hcz13_2:=zcz BK499 2 (.int .i64 ((rd_T79 l0 x10_1).f2));have hfz13_0:=blk_frozen BK499.out 0;have hfz13_1:=blk_frozen BK499.out 1;have hfz13_2:=blk_frozen BK499.out 2;obtain⟨Ao14,co14,eo14⟩:=Kd.R_slice HO_5.out;subst eo14)|((with_reducible refine gate_callee (f:=105) rfl ?_);refine goesL_ (some 21) rfl rfl Try.func105 (by kernel_rfl) rfl #[.slice Ao14 x5_1.length co14,.int .i64 ((rd_T79 l0 x10_1).f1)] rfl zq2 ?_;(with_reducible refine(spec_l1Put.calls k1 (fun k_=>some k_= (.slice Ao14 x5_1.length co14:Value).ownBlock) (.slice Ao14 x5_1.length co14) x5_1 ((rd_T79 l0 x10_1).f1) t500 w _ ?side1 ?side2 A7.out).mono ?_);(case side1=>exact zk2 HB GE499.out);(case side2=>exact Kd.R_tight rfl HO_5.out);rintro e w15 ⟨v501,rfl,ho0,hb,hkp⟩;refine⟨_,rfl,?_⟩;have HO502:=Aside0.mk (Kd.R_mono (ok':=fun k_=>True) ho0 (fun k_ hk_=>trivial));replace BK499:=Aside0.mk (blk_kept (zq3 BK499) hkp (fun hs_=>(fun e_=>(Kd.R_ne HO_5.out BK499.out (by decide)) e_) hs_));replace HB:=Aside0.mk (hb);clear HO_5;(try clear hb);(try clear hkp);(try clear ho0);have hcz16_0:=zcz BK499 0 (.int .i64 ((rd_T79 l0 x10_1).f0));have hcz16_1:=zcz BK499 1 (.int .i64 ((rd_T79 l0 x10_1).f1));have hcz16_2:=zcz BK499 2 (.int .i64 ((rd_T79 l0 x10_1).f2));have hfz16_0:=blk_frozen BK499.out 0;have hfz16_1:=blk_frozen BK499.out 1;have hfz16_2:=blk_frozen BK499.out 2;obtain⟨Ao17,co17,eo17⟩:=Kd.R_slice HO502.out;subst eo17)|((with_reducible refine gate_callee (f:=105) rfl ?_);refine goesL_ (some 29) rfl rfl Try.func105 (by kernel_rfl) rfl #[.slice Ao17 t500.length co17,.int .i64 ((rd_T79 l0 x10_1).f0)] rfl zq2 ?_;(with_reducible refine(spec_l1Put.calls k1 (fun k_=>some k_= (.slice Ao17 t500.length co17:Value).ownBlock) (.slice Ao17 t500.length co17) t500 ((rd_T79 l0 x10_1).f0) t503 w _ ?side1 ?side2 A9.out).mono ?_);(case side1=>exact zk2 HB GE499.out);(case side2=>exact Kd.R_tight rfl HO502.out);rintro e w18 ⟨v504,rfl,ho0,hb,hkp⟩;refine⟨_,rfl,?_⟩;have HO505:=Aside0.mk (Kd.R_mono (ok':=fun k_=>True) ho0 (fun k_ hk_=>trivial));replace BK499:=Aside0.mk (blk_kept (zq3 BK499) hkp (fun hs_=>(fun e_=>(Kd.R_ne HO502.out BK499.out (by decide)) e_) hs_));replace HB:=Aside0.mk (hb);clear HO502;(try clear hb);(try clear hkp);(try clear ho0)))
      go_roundg k1
      case measure=>have:=HK1.out;omega
      case rel=>exact⟨(t503),(wrap64 (x10_1+1)),zrs,H',⟨by have:=HK1.out;omega⟩,⟨zdr HO505⟩,⟨by exact zk2 HB GE499.out⟩⟩
     ·rw [if_neg c8] at H
      have c8b0:(((rd_T79 l0 x10_1).f1)==a1)=false:=beq_eq_false_iff_ne.mpr c8
      have c8b1:(((rd_T79 l0 x10_1).f1) !=a1)=true:=bne_iff_ne.mpr c8
      have H':=Aside0.mk H
      clear H
      have p498: 0≤ (x10_1:Int):=of_decide_eq_true zq1
      have q498:x10_1< (l0.length:Int):=of_decide_eq_true zq1
      obtain⟨ad498,e498,hx498_0,hx498_1,hx498_2⟩:=at_T79 HR0.out x10_1 p498 q498
      cases e498
      replace hx498_0:=zhx HB hx498_0
      replace hx498_1:=zhx HB hx498_1
      replace hx498_2:=zhx HB hx498_2
      replace p498:=eq_true p498
      replace q498:=eq_true q498
      go_wp2_with (first|((with_reducible refine gate_dst (N:=7) rfl ?_);refine box_event ?hg (N:=7) ?hd (cs:= #[.int .i64 0,.int .i64 0,.int .i64 0]) (t:=79) ?hr ?_;(case hd=>rfl);(case hg=>rfl);(case hr=>first|(go_simp;done)|(go_simp;rfl));intro gb499 hg w19 hbox hb;have BK499:=Aside0.mk (hbox);have GW499:=Aside0.mk ((by rw [hg];exact(below_size (by exact zk1 HB)):w.heap.size≤gb499));have GE499:=GW499;replace HO_5:=Aside0.mk (Kd.R_below (zq4 HO_5) hb);replace HB:=Aside0.mk (below_step (by exact zk1 HB) hb);clear hb hbox hg;have hcz20_0:=zcz BK499 0 (.int .i64 0);have hcz20_1:=zcz BK499 1 (.int .i64 0);have hcz20_2:=zcz BK499 2 (.int .i64 0);have hfz20_0:=blk_frozen BK499.out 0;have hfz20_1:=blk_frozen BK499.out 1;have hfz20_2:=blk_frozen BK499.out 2)|((with_reducible refine gate_store (t:=79) (p:=7) rfl ?_);refine store_event (t:=79) (p:=7) (v:=?vo_w21) (w1:=(((w19.setCell ⟨gb499,0,none⟩ (.int .i64 ((rd_T79 l0 x10_1).f0))).setCell ⟨gb499,1,none⟩ (.int .i64 ((rd_T79 l0 x10_1).f1))).setCell ⟨gb499,2,none⟩ (.int .i64 ((rd_T79 l0 x10_1).f2)))) ?hg ?ho ?hn ?hr ?_;(case ho=>rfl);(case hg=>rfl);(case hn=>rfl);(case hr=>first|(go_simp;done)|(go_simp;rfl));intro w21 hw;have n0_:Aside0 (Kd.R (Kd.int .i64) 3 w21 w.heap.size (fun _=>True) u5 x5_1):=⟨(by rw [hw];exact(by(with_reducible repeat(first|apply Kd.R_alloc|apply Kd.R_drewN|apply Kd.R_drew));exact Kd.R_mono (Kd.R_far (p:=⟨gb499,2,none⟩) (Kd.R_far (p:=⟨gb499,1,none⟩) (Kd.R_far (p:=⟨gb499,0,none⟩) (Kd.R_types HO_5.out BK499.out (by decide)) (fun _ hk=>hk.2) (.int .i64 ((rd_T79 l0 x10_1).f0))) (fun _ hk=>hk.2) (.int .i64 ((rd_T79 l0 x10_1).f1))) (fun _ hk=>hk.2) (.int .i64 ((rd_T79 l0 x10_1).f2))) (fun _ hk=>trivial)))⟩;have n1_:Aside0 (w21.heap[gb499]?=some (.cells #[.int .i64 ((rd_T79 l0 x10_1).f0),.int .i64 ((rd_T79 l0 x10_1).f1),.int .i64 ((rd_T79 l0 x10_1).f2)] 79 (0,0))):=⟨(by rw [hw];exact(by(with_reducible repeat(first|refine blk_drewN ?_ _|refine blk_drew ?_ |refine blk_alloc ?_ _));refine blk_put (cs:= #[.int .i64 ((rd_T79 l0 x10_1).f0),.int .i64 ((rd_T79 l0 x10_1).f1),.int .i64 0]) ?_ 2 _ rfl;(with_reducible repeat(first|refine blk_drewN ?_ _|refine blk_drew ?_ |refine blk_alloc ?_ _));refine blk_put (cs:= #[.int .i64 ((rd_T79 l0 x10_1).f0),.int .i64 0,.int .i64 0]) ?_ 1 _ rfl;(with_reducible repeat(first|refine blk_drewN ?_ _|refine blk_drew ?_ |refine blk_alloc ?_ _));refine blk_put (cs:= #[.int .i64 0,.int .i64 0,.int .i64 0]) ?_ 0 _ rfl;(with_reducible repeat(first|refine blk_drewN ?_ _|refine blk_drew ?_ |refine blk_alloc ?_ _));exact BK499.out))⟩;have n2_:Aside0 (Below w.heap.size w w21):=⟨(by rw [hw];exact(by exact zk2 HB GE499.out))⟩;clear hw;clear HO_5;clear BK499;clear HB;have HO_5:=n0_;have BK499:=n1_;have HB:=n2_;clear n0_ n1_ n2_;have hcz22_0:=zcz BK499 0 (.int .i64 ((rd_T79 l0 x10_1).f0));have hcz22_1:=zcz BK499 1 (.int .i64 ((rd_T79 l0 x10_1).f1));have hcz22_2:=zcz BK499 2 (.int .i64 ((rd_T79 l0 x10_1).f2));have hfz22_0:=blk_frozen BK499.out 0;have hfz22_1:=blk_frozen BK499.out 1;have hfz22_2:=blk_frozen BK499.out 2;obtain⟨Ao23,co23,eo23⟩:=Kd.R_slice HO_5.out;subst eo23)|((with_reducible refine gate_callee (f:=105) rfl ?_);refine goesL_ (some 21) rfl rfl Try.func105 (by kernel_rfl) rfl #[.slice Ao23 x5_1.length co23,.int .i64 ((rd_T79 l0 x10_1).f1)] rfl zq2 ?_;(with_reducible refine(spec_l1Put.calls k1 (fun k_=>some k_= (.slice Ao23 x5_1.length co23:Value).ownBlock) (.slice Ao23 x5_1.length co23) x5_1 ((rd_T79 l0 x10_1).f1) t500 w _ ?side1 ?side2 A7.out).mono ?_);(case side1=>exact zk2 HB GE499.out);(case side2=>exact Kd.R_tight rfl HO_5.out);rintro e w24 ⟨v501,rfl,ho0,hb,hkp⟩;refine⟨_,rfl,?_⟩;have HO502:=Aside0.mk (Kd.R_mono (ok':=fun k_=>True) ho0 (fun k_ hk_=>trivial));replace BK499:=Aside0.mk (blk_kept (zq3 BK499) hkp (fun hs_=>(fun e_=>(Kd.R_ne HO_5.out BK499.out (by decide)) e_) hs_));replace HB:=Aside0.mk (hb);clear HO_5;(try clear hb);(try clear hkp);(try clear ho0);have hcz25_0:=zcz BK499 0 (.int .i64 ((rd_T79 l0 x10_1).f0));have hcz25_1:=zcz BK499 1 (.int .i64 ((rd_T79 l0 x10_1).f1));have hcz25_2:=zcz BK499 2 (.int .i64 ((rd_T79 l0 x10_1).f2));have hfz25_0:=blk_frozen BK499.out 0;have hfz25_1:=blk_frozen BK499.out 1;have hfz25_2:=blk_frozen BK499.out 2))
      go_roundg k1
      case measure=>have:=HK1.out;omega
      case rel=>exact⟨(t500),(wrap64 (x10_1+1)),zrs,H',⟨by have:=HK1.out;omega⟩,⟨zdr HO502⟩,⟨by exact zk2 HB GE499.out⟩⟩
    ·rw [if_neg c6] at H
     have c6b0:(((rd_T79 l0 x10_1).f0)==a1)=false:=beq_eq_false_iff_ne.mpr c6
     have c6b1:(((rd_T79 l0 x10_1).f0) !=a1)=true:=bne_iff_ne.mpr c6
     by_cases c26:((rd_T79 l0 x10_1).f1)=a1
     ·rw [if_pos c26] at H
      have c26b0:(((rd_T79 l0 x10_1).f1)==a1)=true:=beq_iff_eq.mpr c26
      have c26b1:(((rd_T79 l0 x10_1).f1) !=a1)=false:=bne_eq_false_iff_eq.mpr c26
      clear c26
      replace H:=Option.bind_eq_some_iff.mp H
      obtain⟨t506,A270,H⟩:=H
      replace H:(spec_l8Near.l0 k1 a1 t506 l0 (l0.length:Int) (wrap64 (x10_1+1)))=some r:=H
      have A27:=Aside0.mk A270
      clear A270
      have H':=Aside0.mk H
      clear H
      have p498: 0≤ (x10_1:Int):=of_decide_eq_true zq1
      have q498:x10_1< (l0.length:Int):=of_decide_eq_true zq1
      obtain⟨ad498,e498,hx498_0,hx498_1,hx498_2⟩:=at_T79 HR0.out x10_1 p498 q498
      cases e498
      replace hx498_0:=zhx HB hx498_0
      replace hx498_1:=zhx HB hx498_1
      replace hx498_2:=zhx HB hx498_2
      replace p498:=eq_true p498
      replace q498:=eq_true q498
      go_wp2_with (first|((with_reducible refine gate_dst (N:=7) rfl ?_);refine box_event ?hg (N:=7) ?hd (cs:= #[.int .i64 0,.int .i64 0,.int .i64 0]) (t:=79) ?hr ?_;(case hd=>rfl);(case hg=>rfl);(case hr=>first|(go_simp;done)|(go_simp;rfl));intro gb499 hg w28 hbox hb;have BK499:=Aside0.mk (hbox);have GW499:=Aside0.mk ((by rw [hg];exact(below_size (by exact zk1 HB)):w.heap.size≤gb499));have GE499:=GW499;replace HO_5:=Aside0.mk (Kd.R_below (zq4 HO_5) hb);replace HB:=Aside0.mk (below_step (by exact zk1 HB) hb);clear hb hbox hg;have hcz29_0:=zcz BK499 0 (.int .i64 0);have hcz29_1:=zcz BK499 1 (.int .i64 0);have hcz29_2:=zcz BK499 2 (.int .i64 0);have hfz29_0:=blk_frozen BK499.out 0;have hfz29_1:=blk_frozen BK499.out 1;have hfz29_2:=blk_frozen BK499.out 2)|((with_reducible refine gate_store (t:=79) (p:=7) rfl ?_);refine store_event (t:=79) (p:=7) (v:=?vo_w30) (w1:=(((w28.setCell ⟨gb499,0,none⟩ (.int .i64 ((rd_T79 l0 x10_1).f0))).setCell ⟨gb499,1,none⟩ (.int .i64 ((rd_T79 l0 x10_1).f1))).setCell ⟨gb499,2,none⟩ (.int .i64 ((rd_T79 l0 x10_1).f2)))) ?hg ?ho ?hn ?hr ?_;(case ho=>rfl);(case hg=>rfl);(case hn=>rfl);(case hr=>first|(go_simp;done)|(go_simp;rfl));intro w30 hw;have n0_:Aside0 (Kd.R (Kd.int .i64) 3 w30 w.heap.size (fun _=>True) u5 x5_1):=⟨(by rw [hw];exact(by(with_reducible repeat(first|apply Kd.R_alloc|apply Kd.R_drewN|apply Kd.R_drew));exact Kd.R_mono (Kd.R_far (p:=⟨gb499,2,none⟩) (Kd.R_far (p:=⟨gb499,1,none⟩) (Kd.R_far (p:=⟨gb499,0,none⟩) (Kd.R_types HO_5.out BK499.out (by decide)) (fun _ hk=>hk.2) (.int .i64 ((rd_T79 l0 x10_1).f0))) (fun _ hk=>hk.2) (.int .i64 ((rd_T79 l0 x10_1).f1))) (fun _ hk=>hk.2) (.int .i64 ((rd_T79 l0 x10_1).f2))) (fun _ hk=>trivial)))⟩;have n1_:Aside0 (w30.heap[gb499]?=some (.cells #[.int .i64 ((rd_T79 l0 x10_1).f0),.int .i64 ((rd_T79 l0 x10_1).f1),.int .i64 ((rd_T79 l0 x10_1).f2)] 79 (0,0))):=⟨(by rw [hw];exact(by(with_reducible repeat(first|refine blk_drewN ?_ _|refine blk_drew ?_ |refine blk_alloc ?_ _));refine blk_put (cs:= #[.int .i64 ((rd_T79 l0 x10_1).f0),.int .i64 ((rd_T79 l0 x10_1).f1),.int .i64 0]) ?_ 2 _ rfl;(with_reducible repeat(first|refine blk_drewN ?_ _|refine blk_drew ?_ |refine blk_alloc ?_ _));refine blk_put (cs:= #[.int .i64 ((rd_T79 l0 x10_1).f0),.int .i64 0,.int .i64 0]) ?_ 1 _ rfl;(with_reducible repeat(first|refine blk_drewN ?_ _|refine blk_drew ?_ |refine blk_alloc ?_ _));refine blk_put (cs:= #[.int .i64 0,.int .i64 0,.int .i64 0]) ?_ 0 _ rfl;(with_reducible repeat(first|refine blk_drewN ?_ _|refine blk_drew ?_ |refine blk_alloc ?_ _));exact BK499.out))⟩;have n2_:Aside0 (Below w.heap.size w w30):=⟨(by rw [hw];exact(by exact zk2 HB GE499.out))⟩;clear hw;clear HO_5;clear BK499;clear HB;have HO_5:=n0_;have BK499:=n1_;have HB:=n2_;clear n0_ n1_ n2_;have hcz31_0:=zcz BK499 0 (.int .i64 ((rd_T79 l0 x10_1).f0));have hcz31_1:=zcz BK499 1 (.int .i64 ((rd_T79 l0 x10_1).f1));have hcz31_2:=zcz BK499 2 (.int .i64 ((rd_T79 l0 x10_1).f2));have hfz31_0:=blk_frozen BK499.out 0;have hfz31_1:=blk_frozen BK499.out 1;have hfz31_2:=blk_frozen BK499.out 2;obtain⟨Ao32,co32,eo32⟩:=Kd.R_slice HO_5.out;subst eo32)|((with_reducible refine gate_callee (f:=105) rfl ?_);refine goesL_ (some 29) rfl rfl Try.func105 (by kernel_rfl) rfl #[.slice Ao32 x5_1.length co32,.int .i64 ((rd_T79 l0 x10_1).f0)] rfl zq2 ?_;(with_reducible refine(spec_l1Put.calls k1 (fun k_=>some k_= (.slice Ao32 x5_1.length co32:Value).ownBlock) (.slice Ao32 x5_1.length co32) x5_1 ((rd_T79 l0 x10_1).f0) t506 w _ ?side1 ?side2 A27.out).mono ?_);(case side1=>exact zk2 HB GE499.out);(case side2=>exact Kd.R_tight rfl HO_5.out);rintro e w33 ⟨v507,rfl,ho0,hb,hkp⟩;refine⟨_,rfl,?_⟩;have HO508:=Aside0.mk (Kd.R_mono (ok':=fun k_=>True) ho0 (fun k_ hk_=>trivial));replace BK499:=Aside0.mk (blk_kept (zq3 BK499) hkp (fun hs_=>(fun e_=>(Kd.R_ne HO_5.out BK499.out (by decide)) e_) hs_));replace HB:=Aside0.mk (hb);clear HO_5;(try clear hb);(try clear hkp);(try clear ho0)))
      go_roundg k1
      case measure=>have:=HK1.out;omega
      case rel=>exact⟨(t506),(wrap64 (x10_1+1)),zrs,H',⟨by have:=HK1.out;omega⟩,⟨zdr HO508⟩,⟨by exact zk2 HB GE499.out⟩⟩
     ·rw [if_neg c26] at H
      have c26b0:(((rd_T79 l0 x10_1).f1)==a1)=false:=beq_eq_false_iff_ne.mpr c26
      have c26b1:(((rd_T79 l0 x10_1).f1) !=a1)=true:=bne_iff_ne.mpr c26
      have H':=Aside0.mk H
      clear H
      have p498: 0≤ (x10_1:Int):=of_decide_eq_true zq1
      have q498:x10_1< (l0.length:Int):=of_decide_eq_true zq1
      obtain⟨ad498,e498,hx498_0,hx498_1,hx498_2⟩:=at_T79 HR0.out x10_1 p498 q498
      cases e498
      replace hx498_0:=zhx HB hx498_0
      replace hx498_1:=zhx HB hx498_1
      replace hx498_2:=zhx HB hx498_2
      replace p498:=eq_true p498
      replace q498:=eq_true q498
      go_wp2_with (first|((with_reducible refine gate_dst (N:=7) rfl ?_);refine box_event ?hg (N:=7) ?hd (cs:= #[.int .i64 0,.int .i64 0,.int .i64 0]) (t:=79) ?hr ?_;(case hd=>rfl);(case hg=>rfl);(case hr=>first|(go_simp;done)|(go_simp;rfl));intro gb499 hg w34 hbox hb;have BK499:=Aside0.mk (hbox);have GW499:=Aside0.mk ((by rw [hg];exact(below_size (by exact zk1 HB)):w.heap.size≤gb499));have GE499:=GW499;replace HO_5:=Aside0.mk (Kd.R_below (zq4 HO_5) hb);replace HB:=Aside0.mk (below_step (by exact zk1 HB) hb);clear hb hbox hg;have hcz35_0:=zcz BK499 0 (.int .i64 0);have hcz35_1:=zcz BK499 1 (.int .i64 0);have hcz35_2:=zcz BK499 2 (.int .i64 0);have hfz35_0:=blk_frozen BK499.out 0;have hfz35_1:=blk_frozen BK499.out 1;have hfz35_2:=blk_frozen BK499.out 2))
      go_roundg k1
      case measure=>have:=HK1.out;omega
      case rel=>exact⟨(x5_1),(wrap64 (x10_1+1)),zrs,H',⟨by have:=HK1.out;omega⟩,⟨by(with_reducible repeat(first|apply Kd.R_alloc|apply Kd.R_drewN|apply Kd.R_drew));exact Kd.R_mono (Kd.R_far (p:=⟨gb499,2,none⟩) (Kd.R_far (p:=⟨gb499,1,none⟩) (Kd.R_far (p:=⟨gb499,0,none⟩) (Kd.R_types HO_5.out BK499.out (by decide)) (fun _ hk=>hk.2) (.int .i64 ((rd_T79 l0 x10_1).f0))) (fun _ hk=>hk.2) (.int .i64 ((rd_T79 l0 x10_1).f1))) (fun _ hk=>hk.2) (.int .i64 ((rd_T79 l0 x10_1).f2))) (fun _ hk=>trivial)⟩,⟨by exact zk2 HB GE499.out⟩⟩
   ·rw [if_neg c3] at H
    have c3b0:decide (x10_1< (l0.length:Int))=false:=decide_eq_false c3
    clear c3
    obtain rfl:=Option.some.inj H
    go_wp2
    go_ret
    exact⟨_,zer,zdr HO_5,by exact zk1 HB⟩
end Go.Proofs.Ytedegfbheihopaa.P
