/- Functions, walks and plain lemmas that the law FnHops reaches, part 3. -/
import Derived.Test.YtklecgkjoofipaaCFnHops2
import Derived.Below
import Derived.Deep.Draws
import Derived.Deep.AppendLies
import Derived.Maps.AppendAt
import Derived.OwnWalk
import Derived.Laws.BytesArg
import Derived.Laws.MakeOwn
import Derived.Laws.OwnMore
import Derived.Deep.OwnRows
import Derived.Tactics
import Derived.Lib.ConvBytes
import Derived.Laws.Slices
import Derived.WalkKit
import Derived.KernelRfl
import Derived.RowKit3
import Derived.Deep.LoopGhost
import Derived.Deep.QuietTactic
import Derived.BigQuiet
import Derived.WideLaws
import Derived.Deep.DeepCutAuto
import Derived.Deep.CutBlock
import Derived.Deep.RegionHeld3
import Derived.Laws.Rows
import Derived.Lib.AppendStr
import Derived.ArgAppend
import Derived.Laws.IdiomCopy
import Derived.OrdersHeld
import Derived.Laws.BitsLemmas
import Derived.RowKit
import Derived.WalkSpells
import Derived.Lib.SliceRun
import Derived.Shelf.Abstract
import Derived.ProofKit
import Derived.OpenShut
import Derived.ShutString
import Derived.ChangeOld
import Derived.SizedLaws
namespace Go.Proofs.Ytklecgkjoofipaa.P
open Go.RowKit Go.Proofs.YtklecgkjoofipaaW.PrintWords Go.Proofs.YtklecgkjoofipaaW.PrintLast Go.Proofs.YtklecgkjoofipaaW.PrintMore
attribute [local go_sem] max2_int min2_int max_two min_two max_three min_three max_four min_four   -- for this text's walks alone
set_option linter.unusedVariables false
set_option linter.unusedSimpArgs false
def impl_allIn.l0:Nat→Int→Int→List Int→Int→Int→Option (Bool)
 | 0,_,_,_,_,_=>none
 |k+1,x1,x2,x9,x10,x11=>if x11<x10 then(if 0≤x11 then(if x11< (x9.length:Int) then((impl_in.f (rd x9 x11) x1 x2).bind fun t148=>(if t148=true then(impl_allIn.l0 k x1 x2 x9 x10 (wrap64 (x11+1))) else(some false))) else(none)) else(none)) else(some true)
def impl_allIn.f (k:Nat) (l0:List Int) (a1:Int) (a2:Int):Option (Bool):=impl_allIn.l0 k a1 a2 l0 (l0.length:Int) 0
set_option maxHeartbeats 8000000 in
set_option maxRecDepth 100000 in
theorem impl_allIn.calls (k:Nat) (A0:Option Addr) (c0:Nat) (l0:List Int) (a1:Int) (a2:Int) (r:Bool) (w:World) (hr0:Kd.C (Kd.int .i64) w A0 l0.length l0) (hc0:l0.length≤c0) (h:impl_allIn.f k l0 a1 a2=some r):
  Calls Try.prog 57 #[.slice A0 l0.length c0,.int .i64 a1,.int .i64 a2] w fun e w'=>e= .returned (.bool r)∧Drawn0 w w':=by
 have HR0:=Aside0.mk hr0
 have HC0:=Aside0.mk hc0
 clear hr0 hc0
 have H:(impl_allIn.l0 k a1 a2 l0 (l0.length:Int) 0)=some r:=h
 clear h
 have H':=Aside0.mk H
 clear H
 go_enter Try.func57,Try.ntmps57
 go_wp2
 go_loopg [11] k (fun kq v11 w'=> ∃ (x11_1:Int),v11= .int .i64 x11_1∧Aside0 (impl_allIn.l0 kq a1 a2 l0 (l0.length:Int) x11_1=some r)∧Aside0 (kq≤k)∧Drawn0 w w')
 case atStart=>exact⟨(0),(by first|rfl|(simp;done)|(simp [*];done)),H',⟨Nat.le_refl _⟩,by repeat(first|exact Drawn0.refl _|apply Drawn0.step)⟩
 case round=>
  clear H'
  try clear p2
  obtain⟨x11_1,rfl,HA,HK1,⟨m1,rfl⟩⟩:=hrel
  cases gk with
  |zero=>exact absurd HA.out (by simp [impl_allIn.l0])
  |succ k1=>
   have H:=HA.out
   clear HA
   simp only [impl_allIn.l0] at H
   by_cases c4:x11_1< (l0.length:Int)
   ·rw [if_pos c4] at H
    have c4b0:decide (x11_1< (l0.length:Int))=true:=decide_eq_true c4
    clear c4
    by_cases c5: 0≤x11_1
    ·rw [if_pos c5] at H
     have c5b0:decide (0≤x11_1)=true:=decide_eq_true c5
     clear c5
     by_cases c6:x11_1< (l0.length:Int)
     ·rw [if_pos c6] at H
      have c6b0:decide (x11_1< (l0.length:Int))=true:=decide_eq_true c6
      clear c6
      replace H:=Option.bind_eq_some_iff.mp H
      obtain⟨t148,A70,H⟩:=H
      replace H:(if t148=true then(impl_allIn.l0 k1 a1 a2 l0 (l0.length:Int) (wrap64 (x11_1+1))) else(some false))=some r:=H
      have A7:=Aside0.mk A70
      clear A70
      by_cases c8:t148=true
      ·subst c8
       have H1:(impl_allIn.l0 k1 a1 a2 l0 (l0.length:Int) (wrap64 (x11_1+1)))=some r:=by rw [if_pos rfl] at H;exact H
       clear H
       have H:=H1
       clear H1
       have H':=Aside0.mk H
       clear H
       have p147: 0≤ (x11_1:Int):=of_decide_eq_true zq1
       have q147:x11_1< (l0.length:Int):=of_decide_eq_true zq1
       obtain⟨ad147,e147,hx147_0⟩:=Kd.at_int HR0.out x11_1 p147 q147
       cases e147
       replace p147:=eq_true p147
       replace q147:=eq_true q147
       go_wp2_with (first|((with_reducible refine gate_callee (f:=49) rfl ?_);refine goesL_ (some 18) rfl rfl Try.func49 (by kernel_rfl) rfl #[.int .i64 (rd l0 x11_1),.int .i64 a1,.int .i64 a2] rfl zq2 ?_;(with_reducible refine(impl_in.calls (rd l0 x11_1) a1 a2 true _ A7.out).mono ?_);rintro e w' ⟨rfl,⟨nd,rfl⟩⟩;refine⟨_,rfl,?_⟩))
       go_roundg k1
       case measure=>have:=HK1.out;omega
       case rel=>exact⟨(wrap64 (x11_1+1)),(by first|rfl|(simp;done)|(simp [*];done)),H',⟨by have:=HK1.out;omega⟩,by repeat(first|exact Drawn0.refl _|apply Drawn0.step)⟩
      ·replace c8:=Bool.eq_false_iff.mpr c8
       subst c8
       have H1:(some false)=some r:=by rw [if_neg (show ¬ (false=true) by decide)] at H;exact H
       clear H
       have H:=H1
       clear H1
       obtain rfl:=Option.some.inj H
       have p147: 0≤ (x11_1:Int):=of_decide_eq_true zq1
       have q147:x11_1< (l0.length:Int):=of_decide_eq_true zq1
       obtain⟨ad147,e147,hx147_0⟩:=Kd.at_int HR0.out x11_1 p147 q147
       cases e147
       replace p147:=eq_true p147
       replace q147:=eq_true q147
       go_wp2_with (first|((with_reducible refine gate_callee (f:=49) rfl ?_);refine goesL_ (some 18) rfl rfl Try.func49 (by kernel_rfl) rfl #[.int .i64 (rd l0 x11_1),.int .i64 a1,.int .i64 a2] rfl zq2 ?_;(with_reducible refine(impl_in.calls (rd l0 x11_1) a1 a2 false _ A7.out).mono ?_);rintro e w' ⟨rfl,⟨nd,rfl⟩⟩;refine⟨_,rfl,?_⟩))
       go_ret
       exact⟨by first|rfl|(simp;done)|(simp [*];done),by repeat(first|exact Drawn0.refl _|apply Drawn0.step)⟩
     ·rw [if_neg c6] at H
      exact absurd H (by simp)
    ·rw [if_neg c5] at H
     exact absurd H (by simp)
   ·rw [if_neg c4] at H
    have c4b0:decide (x11_1< (l0.length:Int))=false:=decide_eq_false c4
    clear c4
    obtain rfl:=Option.some.inj H
    go_wp2
    go_ret
    exact⟨by first|rfl|(simp;done)|(simp [*];done),by repeat(first|exact Drawn0.refl _|apply Drawn0.step)⟩
def impl_goodAt.f (k:Nat) (a0:Int) (l1:List (S67)) (l2:List Int):Option (Bool):=(impl_GoodEdges.f k a0 l1).bind fun t149=>(if t149=true then((impl_allIn.f k l2 0 (wrap64 (a0 - 1))).bind fun t150=>(some t150)) else(some false))
set_option maxHeartbeats 8000000 in
set_option maxRecDepth 100000 in
theorem impl_goodAt.calls (k:Nat) (a0:Int) (A1:Option Addr) (c1:Nat) (l1:List (S67)) (A2:Option Addr) (c2:Nat) (l2:List Int) (r:Bool) (w:World) (hr1:Kd.C k67 w A1 l1.length l1) (hc1:l1.length≤c1) (hr2:Kd.C (Kd.int .i64) w A2 l2.length l2) (hc2:l2.length≤c2) (h:impl_goodAt.f k a0 l1 l2=some r):
  Calls Try.prog 50 #[.int .i64 a0,.slice A1 l1.length c1,.slice A2 l2.length c2] w fun e w'=>e= .returned (.bool r)∧Below w.heap.size w w':=by
 have HR1:=Aside0.mk hr1
 have HC1:=Aside0.mk hc1
 clear hr1 hc1
 have HR2:=Aside0.mk hr2
 have HC2:=Aside0.mk hc2
 clear hr2 hc2
 have HB:=Aside0.mk (Below.refl w.heap.size w)
 have H:((impl_GoodEdges.f k a0 l1).bind fun t149=>(if t149=true then((impl_allIn.f k l2 0 (wrap64 (a0 - 1))).bind fun t150=>(some t150)) else(some false)))=some r:=h
 clear h
 replace H:=Option.bind_eq_some_iff.mp H
 obtain⟨t149,A40,H⟩:=H
 replace H:(if t149=true then((impl_allIn.f k l2 0 (wrap64 (a0 - 1))).bind fun t150=>(some t150)) else(some false))=some r:=H
 have A4:=Aside0.mk A40
 clear A40
 by_cases c5:t149=true
 ·subst c5
  have H1:((impl_allIn.f k l2 0 (wrap64 (a0 - 1))).bind fun t150=>(some t150))=some r:=by rw [if_pos rfl] at H;exact H
  clear H
  have H:=H1
  clear H1
  replace H:=Option.bind_eq_some_iff.mp H
  obtain⟨t150,A60,H⟩:=H
  replace H:(some t150)=some r:=H
  have A6:=Aside0.mk A60
  clear A60
  obtain rfl:=Option.some.inj H
  go_enter Try.func50,Try.ntmps50
  go_wp2_with (first|((with_reducible refine gate_callee (f:=54) rfl ?_);refine goesL_ (some 9) rfl rfl Try.func54 (by kernel_rfl) rfl #[.int .i64 a0,.slice A1 l1.length c1] rfl zq2 ?_;(with_reducible refine(impl_GoodEdges.calls k a0 _ _ l1 true _ ?side1 ?side2 A4.out).mono ?_);(case side1=>repeat(first|exact HR1.out|(with_reducible refine Kd.C_alloc ?_ _)|(with_reducible refine Kd.C_drewN ?_ _)|(with_reducible refine Kd.C_drew ?_)));(case side2=>exact HC1.out);rintro e w7 ⟨rfl,hb⟩;refine⟨_,rfl,?_⟩;have n0_:=Aside0.mk (below_step (zb0 HB) hb);clear HB;have HB:=n0_;clear n0_;(try clear hb);(try clear hb2);(try clear hk);(try clear hi))|(go_at_call 57;(with_reducible refine(impl_allIn.calls k _ _ l2 0 (wrap64 (a0 - 1)) t150 _ ?side1 ?side2 A6.out).mono ?_);(case side1=>repeat(first|exact(Kd.C_below HR2.out HB.out)|(with_reducible refine Kd.C_alloc ?_ _)|(with_reducible refine Kd.C_drewN ?_ _)|(with_reducible refine Kd.C_drew ?_)));(case side2=>exact HC2.out);rintro e w' ⟨rfl,⟨nd,rfl⟩⟩))
  go_ret
  exact⟨by first|rfl|(simp [errW_none,errW_some]<;>rfl)|(simp [*,errW_none,errW_some]<;>rfl),by repeat(first|(with_reducible first|exact HB.out|apply below_alloc|apply pw_below_drewN|apply below_drew1)|exact HB.out)⟩
 ·replace c5:=Bool.eq_false_iff.mpr c5
  subst c5
  have H1:(some false)=some r:=by rw [if_neg (show ¬ (false=true) by decide)] at H;exact H
  clear H
  have H:=H1
  clear H1
  obtain rfl:=Option.some.inj H
  go_enter Try.func50,Try.ntmps50
  go_wp2_with (first|((with_reducible refine gate_callee (f:=54) rfl ?_);refine goesL_ (some 9) rfl rfl Try.func54 (by kernel_rfl) rfl #[.int .i64 a0,.slice A1 l1.length c1] rfl zq2 ?_;(with_reducible refine(impl_GoodEdges.calls k a0 _ _ l1 false _ ?side1 ?side2 A4.out).mono ?_);(case side1=>repeat(first|exact HR1.out|(with_reducible refine Kd.C_alloc ?_ _)|(with_reducible refine Kd.C_drewN ?_ _)|(with_reducible refine Kd.C_drew ?_)));(case side2=>exact HC1.out);rintro e w8 ⟨rfl,hb⟩;refine⟨_,rfl,?_⟩;have n0_:=Aside0.mk (below_step (zb0 HB) hb);clear HB;have HB:=n0_;clear n0_;(try clear hb);(try clear hb2);(try clear hk);(try clear hi)))
  go_ret
  exact⟨by first|rfl|(simp [errW_none,errW_some]<;>rfl)|(simp [*,errW_none,errW_some]<;>rfl),by repeat(first|(with_reducible first|exact HB.out|apply below_alloc|apply pw_below_drewN|apply below_drew1)|exact HB.out)⟩
def impl_cost.l0:Nat→Int→Int→List (S67)→Int→Int→Option (Int)
 | 0,_,_,_,_,_=>none
 |k+1,x1,x2,x9,x10,x11=>if x11<x10 then(if 0≤x11 then(if x11< (x9.length:Int) then(if ((rd_T67 x9 x11).f0)= (mn x1 x2) then(if ((rd_T67 x9 x11).f1)= (mx x1 x2) then(some ((rd_T67 x9 x11).f2)) else(impl_cost.l0 k x1 x2 x9 x10 (wrap64 (x11+1)))) else(impl_cost.l0 k x1 x2 x9 x10 (wrap64 (x11+1)))) else(none)) else(none)) else(some 0)
def impl_cost.f (k:Nat) (l0:List (S67)) (a1:Int) (a2:Int):Option (Int):=impl_cost.l0 k a1 a2 l0 (l0.length:Int) 0
set_option maxHeartbeats 8000000 in
set_option maxRecDepth 100000 in
theorem impl_cost.calls (k:Nat) (A0:Option Addr) (c0:Nat) (l0:List (S67)) (a1:Int) (a2:Int) (r:Int) (w:World) (hr0:Kd.C k67 w A0 l0.length l0) (hc0:l0.length≤c0) (h:impl_cost.f k l0 a1 a2=some r):
  Calls Try.prog 51 #[.slice A0 l0.length c0,.int .i64 a1,.int .i64 a2] w fun e w'=>e= .returned (.int .i64 r)∧Below w.heap.size w w':=by
 have hu67:=Try.underlying67
 have HR0:=Aside0.mk hr0
 have HC0:=Aside0.mk hc0
 clear hr0 hc0
 have HB:=Aside0.mk (Below.refl w.heap.size w)
 have H:(impl_cost.l0 k a1 a2 l0 (l0.length:Int) 0)=some r:=h
 clear h
 have H':=Aside0.mk H
 clear H
 go_enter Try.func51,Try.ntmps51
 go_wp2
 go_loopg [11] k (fun kq v11 w'=> ∃ (x11_1:Int),v11= .int .i64 x11_1∧Aside0 (impl_cost.l0 kq a1 a2 l0 (l0.length:Int) x11_1=some r)∧Aside0 (kq≤k)∧Aside0 (Below w.heap.size w w'))
 case atStart=>exact⟨(0),(by first|rfl|(simp;done)|(simp [*];done)),H',⟨Nat.le_refl _⟩,⟨by repeat(first|(with_reducible first|exact HB.out|apply below_alloc|apply pw_below_drewN|apply below_drew1)|exact HB.out)⟩⟩
 case round=>
  clear H'
  try clear p2
  obtain⟨x11_1,rfl,HA,HK1,HB⟩:=hrel
  cases gk with
  |zero=>exact absurd HA.out (by simp [impl_cost.l0])
  |succ k1=>
   have H:=HA.out
   clear HA
   simp only [impl_cost.l0] at H
   by_cases c4:x11_1< (l0.length:Int)
   ·rw [if_pos c4] at H
    have c4b0:decide (x11_1< (l0.length:Int))=true:=decide_eq_true c4
    clear c4
    by_cases c5: 0≤x11_1
    ·rw [if_pos c5] at H
     have c5b0:decide (0≤x11_1)=true:=decide_eq_true c5
     clear c5
     by_cases c6:x11_1< (l0.length:Int)
     ·rw [if_pos c6] at H
      have c6b0:decide (x11_1< (l0.length:Int))=true:=decide_eq_true c6
      clear c6
      obtain⟨ji7,hji7⟩ :∃ j_:Int,(mn a1 a2)=j_:=⟨_,rfl⟩
      replace H:(if ((rd_T67 l0 x11_1).f0)= (ji7) then(if ((rd_T67 l0 x11_1).f1)= (mx a1 a2) then(some ((rd_T67 l0 x11_1).f2)) else(impl_cost.l0 k1 a1 a2 l0 (l0.length:Int) (wrap64 (x11_1+1)))) else(impl_cost.l0 k1 a1 a2 l0 (l0.length:Int) (wrap64 (x11_1+1))))=some r:=by first|(rw [hji7] at H;exact H)|(simp only [hji7] at H ⊢;exact H)
      have hji7_:(if a2<a1 then a2 else a1)=ji7:=hji7
      by_cases c8:((rd_T67 l0 x11_1).f0)= (ji7)
      ·rw [if_pos c8] at H
       have c8b0:(((rd_T67 l0 x11_1).f0)== (ji7))=true:=beq_iff_eq.mpr c8
       have c8b1:(((rd_T67 l0 x11_1).f0) != (ji7))=false:=bne_eq_false_iff_eq.mpr c8
       clear c8
       obtain⟨ji9,hji9⟩ :∃ j_:Int,(mx a1 a2)=j_:=⟨_,rfl⟩
       replace H:(if ((rd_T67 l0 x11_1).f1)= (ji9) then(some ((rd_T67 l0 x11_1).f2)) else(impl_cost.l0 k1 a1 a2 l0 (l0.length:Int) (wrap64 (x11_1+1))))=some r:=by first|(rw [hji9] at H;exact H)|(simp only [hji9] at H ⊢;exact H)
       have hji9_:(if a1<a2 then a2 else a1)=ji9:=hji9
       by_cases c10:((rd_T67 l0 x11_1).f1)= (ji9)
       ·rw [if_pos c10] at H
        have c10b0:(((rd_T67 l0 x11_1).f1)== (ji9))=true:=beq_iff_eq.mpr c10
        have c10b1:(((rd_T67 l0 x11_1).f1) != (ji9))=false:=bne_eq_false_iff_eq.mpr c10
        clear c10
        obtain rfl:=Option.some.inj H
        have p151: 0≤ (x11_1:Int):=of_decide_eq_true zq1
        have q151:x11_1< (l0.length:Int):=of_decide_eq_true zq1
        obtain⟨ad151,e151,hx151_0,hx151_1,hx151_2⟩:=at_T67 HR0.out x11_1 p151 q151
        cases e151
        replace hx151_0:=(HB.out.cell (World.block_lt_of_cell? w _ hx151_0)).trans hx151_0
        replace hx151_1:=(HB.out.cell (World.block_lt_of_cell? w _ hx151_1)).trans hx151_1
        replace hx151_2:=(HB.out.cell (World.block_lt_of_cell? w _ hx151_2)).trans hx151_2
        replace p151:=eq_true p151
        replace q151:=eq_true q151
        go_wp2_with (first|((with_reducible refine gate_dst (N:=8) rfl ?_);(try(refine gate_guard (by rfl) ?_;dsimp only));refine box_event ?hg (N:=8) ?hd (cs:= #[.int .i64 0,.int .i64 0,.int .i64 0]) (t:=67) ?hr ?_;(case hd=>rfl);(case hg=>rfl);(case hr=>first|(go_simp;done)|(go_simp;rfl));intro gb152 hg w11 hbox hb;have n0_:=Aside0.mk (below_step (zb0 HB) hb);have n1_:=Aside0.mk (hbox);have n2_:=Aside0.mk ((by rw [hg];exact(below_size (zb0 HB)):w.heap.size≤gb152));have n3_:=Aside0.mk ((by rw [hg];exact(below_size (zb0 HB)):w.heap.size≤gb152));clear HB;have HB:=n0_;have BK152:=n1_;have GW152:=n2_;have GE152:=n3_;clear n0_ n1_ n2_ n3_;clear hb hbox hg;have hcz12_0:w11.cell? ⟨gb152,0,none⟩=some (.int .i64 0):=(blk_cell BK152.out 0).trans rfl;have hcz12_1:w11.cell? ⟨gb152,1,none⟩=some (.int .i64 0):=(blk_cell BK152.out 1).trans rfl;have hcz12_2:w11.cell? ⟨gb152,2,none⟩=some (.int .i64 0):=(blk_cell BK152.out 2).trans rfl;have hfz12_0:=blk_frozen BK152.out 0;have hfz12_1:=blk_frozen BK152.out 1;have hfz12_2:=blk_frozen BK152.out 2))
        go_ret
        exact⟨by first|rfl|(simp [errW_none,errW_some]<;>rfl)|(simp only [← hji7,← hji9];first|rfl|(simp [errW_none,errW_some]<;>rfl))|(simp [*,errW_none,errW_some]<;>rfl),by repeat(first|(with_reducible first|exact HB.out|apply below_alloc|apply pw_below_drewN|apply below_drew1|refine below_set ?_ GE152.out)|exact HB.out)⟩
       ·rw [if_neg c10] at H
        have c10b0:(((rd_T67 l0 x11_1).f1)== (ji9))=false:=beq_eq_false_iff_ne.mpr c10
        have c10b1:(((rd_T67 l0 x11_1).f1) != (ji9))=true:=bne_iff_ne.mpr c10
        have H':=Aside0.mk H
        clear H
        have p151: 0≤ (x11_1:Int):=of_decide_eq_true zq1
        have q151:x11_1< (l0.length:Int):=of_decide_eq_true zq1
        obtain⟨ad151,e151,hx151_0,hx151_1,hx151_2⟩:=at_T67 HR0.out x11_1 p151 q151
        cases e151
        replace hx151_0:=(HB.out.cell (World.block_lt_of_cell? w _ hx151_0)).trans hx151_0
        replace hx151_1:=(HB.out.cell (World.block_lt_of_cell? w _ hx151_1)).trans hx151_1
        replace hx151_2:=(HB.out.cell (World.block_lt_of_cell? w _ hx151_2)).trans hx151_2
        replace p151:=eq_true p151
        replace q151:=eq_true q151
        go_wp2_with (first|((with_reducible refine gate_dst (N:=8) rfl ?_);(try(refine gate_guard (by rfl) ?_;dsimp only));refine box_event ?hg (N:=8) ?hd (cs:= #[.int .i64 0,.int .i64 0,.int .i64 0]) (t:=67) ?hr ?_;(case hd=>rfl);(case hg=>rfl);(case hr=>first|(go_simp;done)|(go_simp;rfl));intro gb152 hg w13 hbox hb;have n0_:=Aside0.mk (below_step (zb0 HB) hb);have n1_:=Aside0.mk (hbox);have n2_:=Aside0.mk ((by rw [hg];exact(below_size (zb0 HB)):w.heap.size≤gb152));have n3_:=Aside0.mk ((by rw [hg];exact(below_size (zb0 HB)):w.heap.size≤gb152));clear HB;have HB:=n0_;have BK152:=n1_;have GW152:=n2_;have GE152:=n3_;clear n0_ n1_ n2_ n3_;clear hb hbox hg;have hcz14_0:w13.cell? ⟨gb152,0,none⟩=some (.int .i64 0):=(blk_cell BK152.out 0).trans rfl;have hcz14_1:w13.cell? ⟨gb152,1,none⟩=some (.int .i64 0):=(blk_cell BK152.out 1).trans rfl;have hcz14_2:w13.cell? ⟨gb152,2,none⟩=some (.int .i64 0):=(blk_cell BK152.out 2).trans rfl;have hfz14_0:=blk_frozen BK152.out 0;have hfz14_1:=blk_frozen BK152.out 1;have hfz14_2:=blk_frozen BK152.out 2))
        go_roundg k1
        case measure=>have:=HK1.out;omega
        case rel=>exact⟨(wrap64 (x11_1+1)),(by first|rfl|(simp;done)|(simp [*];done)),H',⟨by have:=HK1.out;omega⟩,⟨by repeat(first|(with_reducible first|exact HB.out|apply below_alloc|apply pw_below_drewN|apply below_drew1|refine below_set ?_ GE152.out)|exact HB.out)⟩⟩
      ·rw [if_neg c8] at H
       have c8b0:(((rd_T67 l0 x11_1).f0)== (ji7))=false:=beq_eq_false_iff_ne.mpr c8
       have c8b1:(((rd_T67 l0 x11_1).f0) != (ji7))=true:=bne_iff_ne.mpr c8
       have H':=Aside0.mk H
       clear H
       have p151: 0≤ (x11_1:Int):=of_decide_eq_true zq1
       have q151:x11_1< (l0.length:Int):=of_decide_eq_true zq1
       obtain⟨ad151,e151,hx151_0,hx151_1,hx151_2⟩:=at_T67 HR0.out x11_1 p151 q151
       cases e151
       replace hx151_0:=(HB.out.cell (World.block_lt_of_cell? w _ hx151_0)).trans hx151_0
       replace hx151_1:=(HB.out.cell (World.block_lt_of_cell? w _ hx151_1)).trans hx151_1
       replace hx151_2:=(HB.out.cell (World.block_lt_of_cell? w _ hx151_2)).trans hx151_2
       replace p151:=eq_true p151
       replace q151:=eq_true q151
       go_wp2_with (first|((with_reducible refine gate_dst (N:=8) rfl ?_);(try(refine gate_guard (by rfl) ?_;dsimp only));refine box_event ?hg (N:=8) ?hd (cs:= #[.int .i64 0,.int .i64 0,.int .i64 0]) (t:=67) ?hr ?_;(case hd=>rfl);(case hg=>rfl);(case hr=>first|(go_simp;done)|(go_simp;rfl));intro gb152 hg w15 hbox hb;have n0_:=Aside0.mk (below_step (zb0 HB) hb);have n1_:=Aside0.mk (hbox);have n2_:=Aside0.mk ((by rw [hg];exact(below_size (zb0 HB)):w.heap.size≤gb152));have n3_:=Aside0.mk ((by rw [hg];exact(below_size (zb0 HB)):w.heap.size≤gb152));clear HB;have HB:=n0_;have BK152:=n1_;have GW152:=n2_;have GE152:=n3_;clear n0_ n1_ n2_ n3_;clear hb hbox hg;have hcz16_0:w15.cell? ⟨gb152,0,none⟩=some (.int .i64 0):=(blk_cell BK152.out 0).trans rfl;have hcz16_1:w15.cell? ⟨gb152,1,none⟩=some (.int .i64 0):=(blk_cell BK152.out 1).trans rfl;have hcz16_2:w15.cell? ⟨gb152,2,none⟩=some (.int .i64 0):=(blk_cell BK152.out 2).trans rfl;have hfz16_0:=blk_frozen BK152.out 0;have hfz16_1:=blk_frozen BK152.out 1;have hfz16_2:=blk_frozen BK152.out 2))
       go_roundg k1
       case measure=>have:=HK1.out;omega
       case rel=>exact⟨(wrap64 (x11_1+1)),(by first|rfl|(simp;done)|(simp [*];done)),H',⟨by have:=HK1.out;omega⟩,⟨by repeat(first|(with_reducible first|exact HB.out|apply below_alloc|apply pw_below_drewN|apply below_drew1|refine below_set ?_ GE152.out)|exact HB.out)⟩⟩
     ·rw [if_neg c6] at H
      exact absurd H (by simp)
    ·rw [if_neg c5] at H
     exact absurd H (by simp)
   ·rw [if_neg c4] at H
    have c4b0:decide (x11_1< (l0.length:Int))=false:=decide_eq_false c4
    clear c4
    obtain rfl:=Option.some.inj H
    go_wp2
    go_ret
    exact⟨by first|rfl|(simp [errW_none,errW_some]<;>rfl)|(simp [*,errW_none,errW_some]<;>rfl),by repeat(first|(with_reducible first|exact HB.out|apply below_alloc|apply pw_below_drewN|apply below_drew1)|exact HB.out)⟩
end Go.Proofs.Ytklecgkjoofipaa.P

namespace Go.Proofs.Ytklecgkjoofipaa.P
open Go.RowKit Go.Proofs.YtklecgkjoofipaaW.PrintWords Go.Proofs.YtklecgkjoofipaaW.PrintLast Go.Proofs.YtklecgkjoofipaaW.PrintMore
attribute [local go_sem] max2_int min2_int max_two min_two max_three min_three max_four min_four   -- for this text's walks alone
set_option linter.unusedVariables false
set_option linter.unusedSimpArgs false
mutual
def impl_CostOf.j0:Nat→List (S67)→List Int→Bool→Option (Int × Bool)
 | 0,_,_,_=>none
 |k+1,x1,x2,x21=>if x21=true then(some (0,false)) else(impl_CostOf.l0 k x1 x2 0 1)
def impl_CostOf.l0:Nat→List (S67)→List Int→Int→Int→Option (Int × Bool)
 | 0,_,_,_,_=>none
 |k+1,x1,x2,x8,x9=>if x9< (x2.length:Int) then(if 0≤ (wrap64 (x9 - 1)) then(if (wrap64 (x9 - 1))< (x2.length:Int) then(if 0≤x9 then((impl_cost.f k x1 (rd x2 (wrap64 (x9 - 1))) (rd x2 x9)).bind fun t157=>(if t157=0 then(some (0,false)) else(impl_CostOf.l0 k x1 x2 (wrap64 (x8+t157)) (wrap64 (x9+1))))) else(none)) else(none)) else(none)) else(some (x8,true))
end
def impl_CostOf.f (k:Nat) (a0:Int) (l1:List (S67)) (l2:List Int):Option (Int × Bool):=(impl_in.f (l2.length:Int) 1 12).bind fun t153=>(if t153=true then((impl_goodAt.f k a0 l1 l2).bind fun t154=>(impl_CostOf.j0 k l1 l2 (!t154))) else(impl_CostOf.j0 k l1 l2 true))
def impl_CostOf.T7:Bool × List (List Nat × List Nat):=(true,[([],[]),([],[]),([],[]),([2],[2]),([1,3],[1,3]),([4],[4]),([],[]),([],[]),([6,7],[6,7]),([8],[8]),([0,5,9],[0,5,9]),([10,10,0,1,2,3,4,5,6,7,8,9,10],[10])])
def impl_CostOf.B7:List Nat:= [0,0,0,4,14,30,0,0,192,448,1023,2047]
theorem impl_CostOf.tab7:rtab .any (opsOf Try.f16 7)=impl_CostOf.T7:=by kernel_rfl
theorem impl_CostOf.bits7:waitsOk impl_CostOf.T7.2 impl_CostOf.B7=true:=by kernel_rfl
set_option maxHeartbeats 8000000 in
set_option maxRecDepth 100000 in
theorem impl_CostOf.calls (k:Nat) (a0:Int) (A1:Option Addr) (c1:Nat) (l1:List (S67)) (A2:Option Addr) (c2:Nat) (l2:List Int) (r1:Int) (r2:Bool) (w:World) (hr1:Kd.C k67 w A1 l1.length l1) (hc1:l1.length≤c1) (hr2:Kd.C (Kd.int .i64) w A2 l2.length l2) (hc2:l2.length≤c2) (h:impl_CostOf.f k a0 l1 l2=some (r1,r2)):
  Calls Try.prog 16 #[.int .i64 a0,.slice A1 l1.length c1,.slice A2 l2.length c2] w fun e w'=>e= .returned (.tuple #[.int .i64 r1,.bool r2])∧Below w.heap.size w w':=by
 have HR1:=Aside0.mk hr1
 have HC1:=Aside0.mk hc1
 clear hr1 hc1
 have HR2:=Aside0.mk hr2
 have HC2:=Aside0.mk hc2
 clear hr2 hc2
 have HB:=Aside0.mk (Below.refl w.heap.size w)
 have H:((impl_in.f (l2.length:Int) 1 12).bind fun t153=>(if t153=true then((impl_goodAt.f k a0 l1 l2).bind fun t154=>(impl_CostOf.j0 k l1 l2 (!t154))) else(impl_CostOf.j0 k l1 l2 true)))=some (r1,r2):=h
 clear h
 have HC4:=Aside0.mk H
 clear H
 go_enter Try.func16,Try.ntmps16
 go_upto_region 1 with (fail)
 go_cut [21] (fun v21 wc=> ∃ (kq:Nat) (x21_3:Bool),v21= .bool x21_3∧Aside0 (impl_CostOf.j0 kq l1 l2 x21_3=some (r1,r2))∧Aside0 (kq≤k)∧Aside0 (Below w.heap.size w wc))
 case first=>
  have H:=HC4.out
  clear HC4
  replace H:=Option.bind_eq_some_iff.mp H
  obtain⟨t153,A50,H⟩:=H
  replace H:(if t153=true then((impl_goodAt.f k a0 l1 l2).bind fun t154=>(impl_CostOf.j0 k l1 l2 (!t154))) else(impl_CostOf.j0 k l1 l2 true))=some (r1,r2):=H
  have A5:=Aside0.mk A50
  clear A50
  by_cases c6:t153=true
  ·subst c6
   have H1:((impl_goodAt.f k a0 l1 l2).bind fun t154=>(impl_CostOf.j0 k l1 l2 (!t154)))=some (r1,r2):=by rw [if_pos rfl] at H;exact H
   clear H
   have H:=H1
   clear H1
   replace H:=Option.bind_eq_some_iff.mp H
   obtain⟨t154,A70,H⟩:=H
   replace H:(impl_CostOf.j0 k l1 l2 (!t154))=some (r1,r2):=H
   have A7:=Aside0.mk A70
   clear A70
   have H':=Aside0.mk H
   clear H
   go_wp2_with (first|((with_reducible refine gate_callee (f:=49) rfl ?_);refine goesL_ (some 13) rfl rfl Try.func49 (by kernel_rfl) rfl #[.int .i64 (l2.length:Int),.int .i64 1,.int .i64 12] rfl zq2 ?_;(with_reducible refine(impl_in.calls (l2.length:Int) 1 12 true _ A5.out).mono ?_);rintro e w' ⟨rfl,⟨nd,rfl⟩⟩;refine⟨_,rfl,?_⟩)|(go_at_call 50;(with_reducible refine(impl_goodAt.calls k a0 _ _ l1 _ _ l2 t154 _ ?side1 ?side2 ?side3 ?side4 A7.out).mono ?_);(case side1=>repeat(first|exact(Kd.C_below HR1.out (zb0 HB))|(with_reducible refine Kd.C_alloc ?_ _)|(with_reducible refine Kd.C_drewN ?_ _)|(with_reducible refine Kd.C_drew ?_)));(case side2=>exact HC1.out);(case side3=>repeat(first|exact(Kd.C_below HR2.out (zb0 HB))|(with_reducible refine Kd.C_alloc ?_ _)|(with_reducible refine Kd.C_drewN ?_ _)|(with_reducible refine Kd.C_drew ?_)));(case side4=>exact HC2.out);rintro e w8 ⟨rfl,hb⟩;have n0_:=Aside0.mk (below_step (zb0 HB) hb);clear HB;have HB:=n0_;clear n0_;(try clear hb);(try clear hb2);(try clear hk);(try clear hi)))
   go_meet
   case rel=>exact⟨_,(!t154),(by first|rfl|(simp;done)|(simp [*];done)),H',⟨by first|omega|exact Nat.le_refl _⟩,⟨by repeat(first|(with_reducible first|exact HB.out|apply below_alloc|apply pw_below_drewN|apply below_drew1)|exact HB.out)⟩⟩
  ·replace c6:=Bool.eq_false_iff.mpr c6
   subst c6
   have H1:(impl_CostOf.j0 k l1 l2 true)=some (r1,r2):=by rw [if_neg (show ¬ (false=true) by decide)] at H;exact H
   clear H
   have H:=H1
   clear H1
   have H':=Aside0.mk H
   clear H
   go_wp2_with (first|((with_reducible refine gate_callee (f:=49) rfl ?_);refine goesL_ (some 13) rfl rfl Try.func49 (by kernel_rfl) rfl #[.int .i64 (l2.length:Int),.int .i64 1,.int .i64 12] rfl zq2 ?_;(with_reducible refine(impl_in.calls (l2.length:Int) 1 12 false _ A5.out).mono ?_);rintro e w' ⟨rfl,⟨nd,rfl⟩⟩;refine⟨_,rfl,?_⟩))
   go_meet
   case rel=>exact⟨_,(true),(by first|rfl|(simp;done)|(simp [*];done)),H',⟨by first|omega|exact Nat.le_refl _⟩,⟨by repeat(first|(with_reducible first|exact HB.out|apply below_alloc|apply pw_below_drewN|apply below_drew1)|exact HB.out)⟩⟩
 case rest=>
  clear HC4
  try clear c1
  try clear c2
  try clear p2
  try clear c4
  try clear c6
  obtain⟨kq,x21_3,rfl,HA,HJ3,HB⟩:=hcut
  cases kq with
  |zero=>exact absurd HA.out (by simp [impl_CostOf.j0])
  |succ kj3=>
   have H:=HA.out
   clear HA
   simp only [impl_CostOf.j0] at H
   by_cases c9:x21_3=true
   ·subst c9
    have H1:(some (0,false))=some (r1,r2):=by rw [if_pos rfl] at H;exact H
    clear H
    have H:=H1
    clear H1
    simp only [Option.some.injEq,Prod.mk.injEq] at H
    obtain⟨rfl,rfl⟩:=H
    go_wp2
    go_ret2
    exact⟨by first|rfl|(simp [errW_none,errW_some]<;>rfl)|(simp [*,errW_none,errW_some]<;>rfl),by repeat(first|(with_reducible first|exact HB.out|apply below_alloc|apply pw_below_drewN|apply below_drew1)|exact HB.out)⟩
   ·replace c9:=Bool.eq_false_iff.mpr c9
    subst c9
    have H1:(impl_CostOf.l0 kj3 l1 l2 0 1)=some (r1,r2):=by rw [if_neg (show ¬ (false=true) by decide)] at H;exact H
    clear H
    have H:=H1
    clear H1
    have H':=Aside0.mk H
    clear H
    go_wp2
    go_loopg [8,9] kj3 (fun kq v8 v9 w'=> ∃ (x8_2:Int) (x9_2:Int),v8= .int .i64 x8_2∧v9= .int .i64 x9_2∧Aside0 (impl_CostOf.l0 kq l1 l2 x8_2 x9_2=some (r1,r2))∧Aside0 (kq≤kj3)∧Aside0 (Below w.heap.size w w'))
    case atStart=>exact⟨(0),(1),(by first|rfl|(simp;done)|(simp [*];done)),(by first|rfl|(simp;done)|(simp [*];done)),H',⟨Nat.le_refl _⟩,⟨by repeat(first|(with_reducible first|exact HB.out|apply below_alloc|apply pw_below_drewN|apply below_drew1)|exact HB.out)⟩⟩
    case round=>
     clear H'
     try clear c1
     try clear c2
     try clear p2
     try clear c4
     try clear c6
     try clear c9
     try clear p2
     obtain⟨x8_2,x9_2,rfl,rfl,HA,HK2,HB⟩:=hrel
     cases gk with
     |zero=>exact absurd HA.out (by simp [impl_CostOf.l0])
     |succ k2=>
      have H:=HA.out
      clear HA
      simp only [impl_CostOf.l0] at H
      by_cases c10:x9_2< (l2.length:Int)
      ·rw [if_pos c10] at H
       have c10b0:decide (x9_2< (l2.length:Int))=true:=decide_eq_true c10
       clear c10
       obtain⟨ji11,hji11⟩ :∃ j_:Int,(wrap64 (x9_2 - 1))=j_:=⟨_,rfl⟩
       replace H:(if 0≤ (ji11) then(if (ji11)< (l2.length:Int) then(if 0≤x9_2 then((impl_cost.f k2 l1 (rd l2 (ji11)) (rd l2 x9_2)).bind fun t157=>(if t157=0 then(some (0,false)) else(impl_CostOf.l0 k2 l1 l2 (wrap64 (x8_2+t157)) (wrap64 (x9_2+1))))) else(none)) else(none)) else(none))=some (r1,r2):=by first|(rw [hji11] at H;exact H)|(simp only [hji11] at H ⊢;exact H)
       have hji11w:(IntKind.i64.wrap (x9_2 - 1))=ji11:=(i64_w _).trans hji11
       by_cases c12: 0≤ (ji11)
       ·rw [if_pos c12] at H
        have c12b0:decide (0≤ (ji11))=true:=decide_eq_true c12
        clear c12
        by_cases c13:(ji11)< (l2.length:Int)
        ·rw [if_pos c13] at H
         have c13b0:decide ((ji11)< (l2.length:Int))=true:=decide_eq_true c13
         clear c13
         by_cases c14: 0≤x9_2
         ·rw [if_pos c14] at H
          have c14b0:decide (0≤x9_2)=true:=decide_eq_true c14
          clear c14
          replace H:=Option.bind_eq_some_iff.mp H
          obtain⟨t157,A150,H⟩:=H
          replace H:(if t157=0 then(some (0,false)) else(impl_CostOf.l0 k2 l1 l2 (wrap64 (x8_2+t157)) (wrap64 (x9_2+1))))=some (r1,r2):=H
          have A15:=Aside0.mk A150
          clear A150
          by_cases c16:t157=0
          ·rw [if_pos c16] at H
           have c16b0:(t157==0)=true:=beq_iff_eq.mpr c16
           have c16b1:(t157 !=0)=false:=bne_eq_false_iff_eq.mpr c16
           clear c16
           simp only [Option.some.injEq,Prod.mk.injEq] at H
           obtain⟨rfl,rfl⟩:=H
           try go_wp2
           have n0_:=Aside0.mk (below_drew1 HB.out)
           clear HB
           have HB:=n0_
           clear n0_
           have p155: 0≤ ((ji11):Int):=of_decide_eq_true zq1
           have q155:(ji11)< (l2.length:Int):=of_decide_eq_true zq1
           obtain⟨ad155,e155,hx155_0⟩:=Kd.at_int HR2.out (ji11) p155 q155
           have hw155_0:=hx155_0
           cases e155
           replace hx155_0:=(HB.out.cell (World.block_lt_of_cell? w _ hx155_0)).trans hx155_0
           replace p155:=eq_true p155
           replace q155:=eq_true q155
           have p156: 0≤ (x9_2:Int):=of_decide_eq_true zq1
           have q156:x9_2< (l2.length:Int):=of_decide_eq_true zq1
           obtain⟨ad156,e156,hx156_0⟩:=Kd.at_int HR2.out x9_2 p156 q156
           have hw156_0:=hx156_0
           obtain rfl:ad155=ad156:=(by injection e156)
           replace hx156_0:=(HB.out.cell (World.block_lt_of_cell? w _ hx156_0)).trans hx156_0
           replace p156:=eq_true p156
           replace q156:=eq_true q156
           refine start_ (n:=12) (S:=fun w'=>w'.cell? (ad155.add ((ji11)).toNat)=some (.int .i64 (rd l2 (ji11)))∧w'.cell? (ad155.add (x9_2).toNat)=some (.int .i64 (rd l2 x9_2))) (ds:= []) #[false,false,false,false,false,false,false,false,false,false,false,false] (by kernel_rfl) rfl rfl ⟨((HB.out.cell (World.block_lt_of_cell? w _ hw155_0)).trans hw155_0),((HB.out.cell (World.block_lt_of_cell? w _ hw156_0)).trans hw156_0)⟩ (fun hHeld=>?_);refine with_tabW impl_CostOf.tab7 impl_CostOf.bits7 (fun HT_ HW_=>?_)
           generalize wr.drew=w17 at HB hx155_0 hx156_0 hHeld ⊢
           refine pure_ (i:=0) (N:=some 28) (v:=?_) (a':=?_) #[true,false,false,false,false,false,false,false,false,false,false,false] rfl rfl (any_of HT_.out (by kernel_rfl)) (fun _ _ _ h=>h) (Or.inl ⟨by rfl,?_⟩) ?_ ?_
           rotate_left
           ·intro w'
            go_simp
            with_reducible rfl
           rotate_left
           ·simp only [Act.put,List.setIfInBounds_toArray,List.set_cons_zero,List.set_cons_succ,i64_w,i32_w]
            rfl
           refine pure_ (i:=1) (N:=some 29) (v:=?_) (a':=?_) #[true,true,false,false,false,false,false,false,false,false,false,false] rfl rfl (any_of HT_.out (by kernel_rfl)) (fun _ _ _ h=>h) (Or.inl ⟨by rfl,?_⟩) ?_ ?_
           rotate_left
           ·intro w'
            go_simp
            with_reducible rfl
           rotate_left
           ·simp only [Act.put,List.setIfInBounds_toArray,List.set_cons_zero,List.set_cons_succ,i64_w,i32_w]
            rfl
           refine pure_ (i:=2) (N:=some 30) (v:=?_) (a':=?_) #[true,true,true,false,false,false,false,false,false,false,false,false] rfl rfl (any_of HT_.out (by kernel_rfl)) (fun _ _ _ h=>h) (Or.inl ⟨by rfl,?_⟩) ?_ ?_
           rotate_left
           ·intro w'
            go_simp
            with_reducible rfl
           rotate_left
           ·simp only [Act.put,List.setIfInBounds_toArray,List.set_cons_zero,List.set_cons_succ,i64_w,i32_w]
            rfl
           refine pure_ (i:=3) (N:=some 31) (v:=?_) (a':=?_) #[true,true,true,true,false,false,false,false,false,false,false,false] rfl rfl (any_of HT_.out (by kernel_rfl)) (fun _ _ _ h=>h) (Or.inl ⟨by rfl,?_⟩) ?_ ?_
           rotate_left
           ·intro w'
            go_simp
            with_reducible rfl
           rotate_left
           ·simp only [Act.put,List.setIfInBounds_toArray,List.set_cons_zero,List.set_cons_succ,i64_w,i32_w]
            rfl
           refine pure_ (i:=4) (N:=some 32) (v:=?_) (a':=?_) #[true,true,true,true,true,false,false,false,false,false,false,false] rfl rfl (any_of HT_.out (by kernel_rfl)) (fun _ _ _ h=>h) (Or.inl ⟨by rfl,?_⟩) ?_ ?_
           rotate_left
           ·intro w'
            go_simp
            with_reducible rfl
           rotate_left
           ·simp only [Act.put,List.setIfInBounds_toArray,List.set_cons_zero,List.set_cons_succ,i64_w,i32_w]
            rfl
           refine pure_ (i:=6) (N:=some 34) (v:=?_) (a':=?_) #[true,true,true,true,true,false,true,false,false,false,false,false] rfl rfl (any_of HT_.out (by kernel_rfl)) (fun _ _ _ h=>h) (Or.inl ⟨by rfl,?_⟩) ?_ ?_
           rotate_left
           ·intro w'
            go_simp
            with_reducible rfl
           rotate_left
           ·simp only [Act.put,List.setIfInBounds_toArray,List.set_cons_zero,List.set_cons_succ,i64_w,i32_w]
            rfl
           refine pure_ (i:=7) (N:=some 35) (v:=?_) (a':=?_) #[true,true,true,true,true,false,true,true,false,false,false,false] rfl rfl (any_of HT_.out (by kernel_rfl)) (fun _ _ _ h=>h) (Or.inl ⟨by rfl,?_⟩) ?_ ?_
           rotate_left
           ·intro w'
            go_simp
            with_reducible rfl
           rotate_left
           ·simp only [Act.put,List.setIfInBounds_toArray,List.set_cons_zero,List.set_cons_succ,i64_w,i32_w]
            rfl
           refine pure_ (i:=8) (N:=some 36) (v:=?_) (a':=?_) #[true,true,true,true,true,false,true,true,true,false,false,false] rfl rfl (any_of HT_.out (by kernel_rfl)) (fun _ _ _ h=>h) (Or.inl ⟨by rfl,?_⟩) ?_ ?_
           rotate_left
           ·intro w'
            go_simp
            with_reducible rfl
           rotate_left
           ·simp only [Act.put,List.setIfInBounds_toArray,List.set_cons_zero,List.set_cons_succ,i64_w,i32_w]
            rfl
           refine take_ (i:=5) (N:=some 33) (v:=?_) (a':=?_) #[true,true,true,true,true,true,true,true,true,false,false,false] rfl rfl (take_ofW HT_.out HW_.out (by kernel_rfl)) (fun _ _ _ h=>h) (Or.inl ⟨by rfl,?_⟩) hHeld ?_ ?_
           rotate_left
           ·rintro w' ⟨s0,s1⟩
            go_simp
            with_reducible rfl
           rotate_left
           ·simp only [Act.put,List.setIfInBounds_toArray,List.set_cons_zero,List.set_cons_succ,i64_w,i32_w]
            rfl
           refine take_ (i:=9) (N:=some 37) (v:=?_) (a':=?_) #[true,true,true,true,true,true,true,true,true,true,false,false] rfl rfl (take_ofW HT_.out HW_.out (by kernel_rfl)) (fun _ _ _ h=>h) (Or.inl ⟨by rfl,?_⟩) hHeld ?_ ?_
           rotate_left
           ·rintro w' ⟨s0,s1⟩
            go_simp
            with_reducible rfl
           rotate_left
           ·simp only [Act.put,List.setIfInBounds_toArray,List.set_cons_zero,List.set_cons_succ,i64_w,i32_w]
            rfl
           refine one_ (i:=10) (N:=some 38) #[true,true,true,true,true,true,true,true,true,true,true,false] rfl rfl (one_of HT_.out (by kernel_rfl)) (by decide) (fun K hK=>?_)
           refine goes_ Try.func51 (by kernel_rfl) rfl #[.slice A1 l1.length c1,.int .i64 (rd l2 (ji11)),.int .i64 (rd l2 x9_2)] (by rfl) rfl rfl (by(try simp only [List.map_toArray,List.map_cons,List.map_nil]);first|done|(simp only [hji11];rfl)|rfl|(simp only [List.length_drop,List.length_take];rfl)) ?_
           with_reducible refine(impl_cost.calls k2 _ _ l1 (rd l2 (ji11)) (rd l2 x9_2) t157 _ ?side1 ?side2 A15.out).mono ?_
           (case side1=>repeat(first|exact(Kd.C_below HR1.out HB.out)|(with_reducible refine Kd.C_alloc ?_ _)|(with_reducible refine Kd.C_drewN ?_ _)|(with_reducible refine Kd.C_drew ?_)))
           (case side2=>exact HC1.out)
           rintro e w18 ⟨rfl,hb⟩
           refine⟨_,rfl,?_⟩
           have n0_:=Aside0.mk (below_step (zb0 HB) hb)
           clear HB
           have HB:=n0_
           clear n0_
           (try clear hb)
           (try clear hb2)
           (try clear hk)
           (try clear hi)
           refine hK.out _ _ ⟨((HB.out.cell (World.block_lt_of_cell? w _ hw155_0)).trans hw155_0),((HB.out.cell (World.block_lt_of_cell? w _ hw156_0)).trans hw156_0)⟩ (fun hHeld=>?_)
           clear hK K
           refine norm_ (a':=?_) ?_ ?_
           rotate_left
           ·show Act.put _ (some 38) _=_
            simp only [Act.put,List.setIfInBounds_toArray,List.set_cons_zero,List.set_cons_succ,i64_w,i32_w]
            rfl
           refine pure_ (i:=11) (N:=some 10) (v:=?_) (a':=?_) #[true,true,true,true,true,true,true,true,true,true,true,true] rfl rfl (any_of HT_.out (by kernel_rfl)) (fun _ _ _ h=>h) (Or.inl ⟨by rfl,?_⟩) ?_ ?_
           rotate_left
           ·intro w'
            go_simp
            with_reducible rfl
           rotate_left
           ·simp only [Act.put,List.setIfInBounds_toArray,List.set_cons_zero,List.set_cons_succ,i64_w,i32_w]
            rfl
           refine done_ (done_of HT_.out (by kernel_rfl)) ?_
           try go_wp2
           go_ret2
           exact⟨by first|rfl|(simp [errW_none,errW_some]<;>rfl)|(simp only [← hji11];first|rfl|(simp [errW_none,errW_some]<;>rfl))|(simp [*,errW_none,errW_some]<;>rfl),by repeat(first|(with_reducible first|exact HB.out|apply below_alloc|apply pw_below_drewN|apply below_drew1)|exact HB.out)⟩
          ·rw [if_neg c16] at H
           have c16b0:(t157==0)=false:=beq_eq_false_iff_ne.mpr c16
           have c16b1:(t157 !=0)=true:=bne_iff_ne.mpr c16
           have H':=Aside0.mk H
           clear H
           try go_wp2
           have n0_:=Aside0.mk (below_drew1 HB.out)
           clear HB
           have HB:=n0_
           clear n0_
           have p155: 0≤ ((ji11):Int):=of_decide_eq_true zq1
           have q155:(ji11)< (l2.length:Int):=of_decide_eq_true zq1
           obtain⟨ad155,e155,hx155_0⟩:=Kd.at_int HR2.out (ji11) p155 q155
           have hw155_0:=hx155_0
           cases e155
           replace hx155_0:=(HB.out.cell (World.block_lt_of_cell? w _ hx155_0)).trans hx155_0
           replace p155:=eq_true p155
           replace q155:=eq_true q155
           have p156: 0≤ (x9_2:Int):=of_decide_eq_true zq1
           have q156:x9_2< (l2.length:Int):=of_decide_eq_true zq1
           obtain⟨ad156,e156,hx156_0⟩:=Kd.at_int HR2.out x9_2 p156 q156
           have hw156_0:=hx156_0
           obtain rfl:ad155=ad156:=(by injection e156)
           replace hx156_0:=(HB.out.cell (World.block_lt_of_cell? w _ hx156_0)).trans hx156_0
           replace p156:=eq_true p156
           replace q156:=eq_true q156
           refine start_ (n:=12) (S:=fun w'=>w'.cell? (ad155.add ((ji11)).toNat)=some (.int .i64 (rd l2 (ji11)))∧w'.cell? (ad155.add (x9_2).toNat)=some (.int .i64 (rd l2 x9_2))) (ds:= []) #[false,false,false,false,false,false,false,false,false,false,false,false] (by kernel_rfl) rfl rfl ⟨((HB.out.cell (World.block_lt_of_cell? w _ hw155_0)).trans hw155_0),((HB.out.cell (World.block_lt_of_cell? w _ hw156_0)).trans hw156_0)⟩ (fun hHeld=>?_);refine with_tabW impl_CostOf.tab7 impl_CostOf.bits7 (fun HT_ HW_=>?_)
           generalize wr.drew=w19 at HB hx155_0 hx156_0 hHeld ⊢
           refine pure_ (i:=0) (N:=some 28) (v:=?_) (a':=?_) #[true,false,false,false,false,false,false,false,false,false,false,false] rfl rfl (any_of HT_.out (by kernel_rfl)) (fun _ _ _ h=>h) (Or.inl ⟨by rfl,?_⟩) ?_ ?_
           rotate_left
           ·intro w'
            go_simp
            with_reducible rfl
           rotate_left
           ·simp only [Act.put,List.setIfInBounds_toArray,List.set_cons_zero,List.set_cons_succ,i64_w,i32_w]
            rfl
           refine pure_ (i:=1) (N:=some 29) (v:=?_) (a':=?_) #[true,true,false,false,false,false,false,false,false,false,false,false] rfl rfl (any_of HT_.out (by kernel_rfl)) (fun _ _ _ h=>h) (Or.inl ⟨by rfl,?_⟩) ?_ ?_
           rotate_left
           ·intro w'
            go_simp
            with_reducible rfl
           rotate_left
           ·simp only [Act.put,List.setIfInBounds_toArray,List.set_cons_zero,List.set_cons_succ,i64_w,i32_w]
            rfl
           refine pure_ (i:=2) (N:=some 30) (v:=?_) (a':=?_) #[true,true,true,false,false,false,false,false,false,false,false,false] rfl rfl (any_of HT_.out (by kernel_rfl)) (fun _ _ _ h=>h) (Or.inl ⟨by rfl,?_⟩) ?_ ?_
           rotate_left
           ·intro w'
            go_simp
            with_reducible rfl
           rotate_left
           ·simp only [Act.put,List.setIfInBounds_toArray,List.set_cons_zero,List.set_cons_succ,i64_w,i32_w]
            rfl
           refine pure_ (i:=3) (N:=some 31) (v:=?_) (a':=?_) #[true,true,true,true,false,false,false,false,false,false,false,false] rfl rfl (any_of HT_.out (by kernel_rfl)) (fun _ _ _ h=>h) (Or.inl ⟨by rfl,?_⟩) ?_ ?_
           rotate_left
           ·intro w'
            go_simp
            with_reducible rfl
           rotate_left
           ·simp only [Act.put,List.setIfInBounds_toArray,List.set_cons_zero,List.set_cons_succ,i64_w,i32_w]
            rfl
           refine pure_ (i:=4) (N:=some 32) (v:=?_) (a':=?_) #[true,true,true,true,true,false,false,false,false,false,false,false] rfl rfl (any_of HT_.out (by kernel_rfl)) (fun _ _ _ h=>h) (Or.inl ⟨by rfl,?_⟩) ?_ ?_
           rotate_left
           ·intro w'
            go_simp
            with_reducible rfl
           rotate_left
           ·simp only [Act.put,List.setIfInBounds_toArray,List.set_cons_zero,List.set_cons_succ,i64_w,i32_w]
            rfl
           refine pure_ (i:=6) (N:=some 34) (v:=?_) (a':=?_) #[true,true,true,true,true,false,true,false,false,false,false,false] rfl rfl (any_of HT_.out (by kernel_rfl)) (fun _ _ _ h=>h) (Or.inl ⟨by rfl,?_⟩) ?_ ?_
           rotate_left
           ·intro w'
            go_simp
            with_reducible rfl
           rotate_left
           ·simp only [Act.put,List.setIfInBounds_toArray,List.set_cons_zero,List.set_cons_succ,i64_w,i32_w]
            rfl
           refine pure_ (i:=7) (N:=some 35) (v:=?_) (a':=?_) #[true,true,true,true,true,false,true,true,false,false,false,false] rfl rfl (any_of HT_.out (by kernel_rfl)) (fun _ _ _ h=>h) (Or.inl ⟨by rfl,?_⟩) ?_ ?_
           rotate_left
           ·intro w'
            go_simp
            with_reducible rfl
           rotate_left
           ·simp only [Act.put,List.setIfInBounds_toArray,List.set_cons_zero,List.set_cons_succ,i64_w,i32_w]
            rfl
           refine pure_ (i:=8) (N:=some 36) (v:=?_) (a':=?_) #[true,true,true,true,true,false,true,true,true,false,false,false] rfl rfl (any_of HT_.out (by kernel_rfl)) (fun _ _ _ h=>h) (Or.inl ⟨by rfl,?_⟩) ?_ ?_
           rotate_left
           ·intro w'
            go_simp
            with_reducible rfl
           rotate_left
           ·simp only [Act.put,List.setIfInBounds_toArray,List.set_cons_zero,List.set_cons_succ,i64_w,i32_w]
            rfl
           refine take_ (i:=5) (N:=some 33) (v:=?_) (a':=?_) #[true,true,true,true,true,true,true,true,true,false,false,false] rfl rfl (take_ofW HT_.out HW_.out (by kernel_rfl)) (fun _ _ _ h=>h) (Or.inl ⟨by rfl,?_⟩) hHeld ?_ ?_
           rotate_left
           ·rintro w' ⟨s0,s1⟩
            go_simp
            with_reducible rfl
           rotate_left
           ·simp only [Act.put,List.setIfInBounds_toArray,List.set_cons_zero,List.set_cons_succ,i64_w,i32_w]
            rfl
           refine take_ (i:=9) (N:=some 37) (v:=?_) (a':=?_) #[true,true,true,true,true,true,true,true,true,true,false,false] rfl rfl (take_ofW HT_.out HW_.out (by kernel_rfl)) (fun _ _ _ h=>h) (Or.inl ⟨by rfl,?_⟩) hHeld ?_ ?_
           rotate_left
           ·rintro w' ⟨s0,s1⟩
            go_simp
            with_reducible rfl
           rotate_left
           ·simp only [Act.put,List.setIfInBounds_toArray,List.set_cons_zero,List.set_cons_succ,i64_w,i32_w]
            rfl
           refine one_ (i:=10) (N:=some 38) #[true,true,true,true,true,true,true,true,true,true,true,false] rfl rfl (one_of HT_.out (by kernel_rfl)) (by decide) (fun K hK=>?_)
           refine goes_ Try.func51 (by kernel_rfl) rfl #[.slice A1 l1.length c1,.int .i64 (rd l2 (ji11)),.int .i64 (rd l2 x9_2)] (by rfl) rfl rfl (by(try simp only [List.map_toArray,List.map_cons,List.map_nil]);first|done|(simp only [hji11];rfl)|rfl|(simp only [List.length_drop,List.length_take];rfl)) ?_
           with_reducible refine(impl_cost.calls k2 _ _ l1 (rd l2 (ji11)) (rd l2 x9_2) t157 _ ?side1 ?side2 A15.out).mono ?_
           (case side1=>repeat(first|exact(Kd.C_below HR1.out HB.out)|(with_reducible refine Kd.C_alloc ?_ _)|(with_reducible refine Kd.C_drewN ?_ _)|(with_reducible refine Kd.C_drew ?_)))
           (case side2=>exact HC1.out)
           rintro e w20 ⟨rfl,hb⟩
           refine⟨_,rfl,?_⟩
           have n0_:=Aside0.mk (below_step (zb0 HB) hb)
           clear HB
           have HB:=n0_
           clear n0_
           (try clear hb)
           (try clear hb2)
           (try clear hk)
           (try clear hi)
           refine hK.out _ _ ⟨((HB.out.cell (World.block_lt_of_cell? w _ hw155_0)).trans hw155_0),((HB.out.cell (World.block_lt_of_cell? w _ hw156_0)).trans hw156_0)⟩ (fun hHeld=>?_)
           clear hK K
           refine norm_ (a':=?_) ?_ ?_
           rotate_left
           ·show Act.put _ (some 38) _=_
            simp only [Act.put,List.setIfInBounds_toArray,List.set_cons_zero,List.set_cons_succ,i64_w,i32_w]
            rfl
           refine pure_ (i:=11) (N:=some 10) (v:=?_) (a':=?_) #[true,true,true,true,true,true,true,true,true,true,true,true] rfl rfl (any_of HT_.out (by kernel_rfl)) (fun _ _ _ h=>h) (Or.inl ⟨by rfl,?_⟩) ?_ ?_
           rotate_left
           ·intro w'
            go_simp
            with_reducible rfl
           rotate_left
           ·simp only [Act.put,List.setIfInBounds_toArray,List.set_cons_zero,List.set_cons_succ,i64_w,i32_w]
            rfl
           refine done_ (done_of HT_.out (by kernel_rfl)) ?_
           try go_wp2
           go_roundg k2
           case measure=>have:=HJ3.out;have:=HK2.out;omega
           case rel=>exact⟨(wrap64 (x8_2+t157)),(wrap64 (x9_2+1)),(by first|rfl|(simp;done)|(simp [*];done)),(by first|rfl|(simp;done)|(simp [*];done)),H',⟨by have:=HJ3.out;have:=HK2.out;omega⟩,⟨by repeat(first|(with_reducible first|exact HB.out|apply below_alloc|apply pw_below_drewN|apply below_drew1)|exact HB.out)⟩⟩
         ·rw [if_neg c14] at H
          exact absurd H (by simp)
        ·rw [if_neg c13] at H
         exact absurd H (by simp)
       ·rw [if_neg c12] at H
        exact absurd H (by simp)
      ·rw [if_neg c10] at H
       have c10b0:decide (x9_2< (l2.length:Int))=false:=decide_eq_false c10
       clear c10
       simp only [Option.some.injEq,Prod.mk.injEq] at H
       obtain⟨rfl,rfl⟩:=H
       go_wp2
       go_ret2
       exact⟨by first|rfl|(simp [errW_none,errW_some]<;>rfl)|(simp [*,errW_none,errW_some]<;>rfl),by repeat(first|(with_reducible first|exact HB.out|apply below_alloc|apply pw_below_drewN|apply below_drew1)|exact HB.out)⟩
end Go.Proofs.Ytklecgkjoofipaa.P

namespace Go.Proofs.Ytklecgkjoofipaa.P
open Go.RowKit Go.Proofs.YtklecgkjoofipaaW.PrintWords Go.Proofs.YtklecgkjoofipaaW.PrintLast Go.Proofs.YtklecgkjoofipaaW.PrintMore
attribute [local go_sem] max2_int min2_int max_two min_two max_three min_three max_four min_four   -- for this text's walks alone
set_option linter.unusedVariables false
set_option linter.unusedSimpArgs false
def spec_l1Least.f (a0:Int) (a1:Int):Option (Int):=if a0<a1 then(some a0) else(some a1)
set_option maxHeartbeats 8000000 in
set_option maxRecDepth 100000 in
theorem spec_l1Least.calls (a0:Int) (a1:Int) (r:Int) (w:World) (h:spec_l1Least.f a0 a1=some r):
  Calls Try.prog 72 #[.int .i64 a0,.int .i64 a1] w fun e w'=>e= .returned (.int .i64 r)∧Drawn0 w w':=by
 have H:(if a0<a1 then(some a0) else(some a1))=some r:=h
 clear h
 by_cases c3:a0<a1
 ·rw [if_pos c3] at H
  have c3b0:decide (a0<a1)=true:=decide_eq_true c3
  clear c3
  obtain rfl:=Option.some.inj H
  go_enter Try.func72,Try.ntmps72
  go_wp2
  go_ret
  exact⟨by first|rfl|(simp;done)|(simp [*];done),by repeat(first|exact Drawn0.refl _|apply Drawn0.step)⟩
 ·rw [if_neg c3] at H
  have c3b0:decide (a0<a1)=false:=decide_eq_false c3
  clear c3
  obtain rfl:=Option.some.inj H
  go_enter Try.func72,Try.ntmps72
  go_wp2
  go_ret
  exact⟨by first|rfl|(simp;done)|(simp [*];done),by repeat(first|exact Drawn0.refl _|apply Drawn0.step)⟩
end Go.Proofs.Ytklecgkjoofipaa.P

namespace Go.Proofs.Ytklecgkjoofipaa.P
open Go.RowKit Go.Proofs.YtklecgkjoofipaaW.PrintWords Go.Proofs.YtklecgkjoofipaaW.PrintLast Go.Proofs.YtklecgkjoofipaaW.PrintMore
attribute [local go_sem] max2_int min2_int max_two min_two max_three min_three max_four min_four   -- for this text's walks alone
set_option linter.unusedVariables false
set_option linter.unusedSimpArgs false
def spec_l9Relax.l0:Nat→List Int→List Int→List (S67)→Int→Int→Option (List Int)
 | 0,_,_,_,_,_=>none
 |k+1,x1,x5,x11,x12,x13=>if x13<x12 then(if 0≤x13 then(if x13< (x11.length:Int) then(if 0≤ ((rd_T67 x11 x13).f0) then(if ((rd_T67 x11 x13).f0)< (x5.length:Int) then(if 0≤ ((rd_T67 x11 x13).f1) then(if ((rd_T67 x11 x13).f1)< (x1.length:Int) then((spec_l1Least.f (rd x5 ((rd_T67 x11 x13).f0)) (wrap64 ((rd x1 ((rd_T67 x11 x13).f1))+ ((rd_T67 x11 x13).f2)))).bind fun t200=>((some (x5.set (((rd_T67 x11 x13).f0):Int).toNat t200:List Int)).bind fun y201=>(if ((rd_T67 x11 x13).f1)< (x5.length:Int) then(if ((rd_T67 x11 x13).f0)< (x1.length:Int) then((spec_l1Least.f (rd y201 ((rd_T67 x11 x13).f1)) (wrap64 ((rd x1 ((rd_T67 x11 x13).f0))+ ((rd_T67 x11 x13).f2)))).bind fun t204=>(spec_l9Relax.l0 k x1 (y201.set (((rd_T67 x11 x13).f1):Int).toNat t204) x11 x12 (wrap64 (x13+1)))) else(none)) else(none)))) else(none)) else(none)) else(none)) else(none)) else(none)) else(none)) else(some x5)
def spec_l9Relax.f (k:Nat) (l0:List (S67)) (l1:List Int):Option (List Int):=(some (([] :List Int):List Int)).bind fun y190=>(if y190.length+l1.length< 17592186044416 then(spec_l9Relax.l0 k l1 (y190++l1) l0 (l0.length:Int) 0) else(none))
def spec_l9Relax.T5:Bool × List (List Nat × List Nat):=(true,[([],[]),([],[]),([1],[1]),([],[]),([],[]),([4],[4]),([3,5],[3,5]),([6],[6]),([],[]),([],[]),([9],[9]),([8,10],[8,10]),([11],[11]),([],[]),([13],[13]),([12,14],[12,14]),([7,15],[7,15]),([0,2,0,1,2,3,4,5,6,7,8,9,10,11,12,13,14,15,16],[0,2]),([17,16,16,0,1,2,3,4,5,6,7,8,9,10,11,12,13,14,15,16],[16,17])])
def spec_l9Relax.B5:List Nat:= [0,0,2,0,0,16,56,120,0,0,512,1792,3840,0,8192,32512,65528,131071,262143]
theorem spec_l9Relax.tab5:rtab .any (opsOf Try.f56 5)=spec_l9Relax.T5:=by kernel_rfl
theorem spec_l9Relax.bits5:waitsOk spec_l9Relax.T5.2 spec_l9Relax.B5=true:=by kernel_rfl
def spec_l9Relax.T6:Bool × List (List Nat × List Nat):=(true,[([],[]),([],[]),([1],[1]),([],[]),([],[]),([4],[4]),([3,5],[3,5]),([6],[6]),([],[]),([],[]),([9],[9]),([8,10],[8,10]),([11],[11]),([],[]),([13],[13]),([12,14],[12,14]),([7,15],[7,15]),([0,2,0,1,2,3,4,5,6,7,8,9,10,11,12,13,14,15,16],[0,2]),([17,16,16,0,1,2,3,4,5,6,7,8,9,10,11,12,13,14,15,16],[16,17])])
def spec_l9Relax.B6:List Nat:= [0,0,2,0,0,16,56,120,0,0,512,1792,3840,0,8192,32512,65528,131071,262143]
theorem spec_l9Relax.tab6:rtab .any (opsOf Try.f56 6)=spec_l9Relax.T6:=by kernel_rfl
theorem spec_l9Relax.bits6:waitsOk spec_l9Relax.T6.2 spec_l9Relax.B6=true:=by kernel_rfl
theorem zq4 {q p:Prop} (b:Aside0 q) (h:q→p:=by intro z;(with_reducible repeat(first|apply Kd.R_alloc|apply Kd.R_drewN|apply Kd.R_drew));exact z):p:=h b.out
set_option maxHeartbeats 8000000 in
set_option maxRecDepth 100000 in
theorem spec_l9Relax.calls (k:Nat) (A0:Option Addr) (c0:Nat) (l0:List (S67)) (A1:Option Addr) (c1:Nat) (l1:List Int) (r:List Int) (w:World) (hr0:Kd.C k67 w A0 l0.length l0) (hc0:l0.length≤c0) (hr1:Kd.C (Kd.int .i64) w A1 l1.length l1) (hc1:l1.length≤c1) (h:spec_l9Relax.f k l0 l1=some r):
  Calls Try.prog 56 #[.slice A0 l0.length c0,.slice A1 l1.length c1] w fun e w'=> ∃ v0_:Value,e= .returned (v0_)∧Kd.R (Kd.int .i64) 3 w' w.heap.size (fun _=>True) v0_ r∧Below w.heap.size w w':=by
 have hu67:=Try.underlying67
 have HR0:=Aside0.mk hr0
 have HC0:=Aside0.mk hc0
 clear hr0 hc0
 have HR1:=Aside0.mk hr1
 have HC1:=Aside0.mk hc1
 clear hr1 hc1
 have HB:=Aside0.mk (Below.refl w.heap.size w)
 have H:((some (([] :List Int):List Int)).bind fun y190=>(if y190.length+l1.length< 17592186044416 then(spec_l9Relax.l0 k l1 (y190++l1) l0 (l0.length:Int) 0) else(none)))=some r:=h
 clear h
 obtain⟨y190,hy190⟩ :∃ y_:List Int,y_= (([] :List Int)):=⟨_,rfl⟩
 replace H:(if y190.length+l1.length< 17592186044416 then(spec_l9Relax.l0 k l1 (y190++l1) l0 (l0.length:Int) 0) else(none))=some r:=by first|(rw [hy190];with_reducible exact H)|(have H2_:=(Option.bind_some _ _).symm.trans H;rw [hy190];with_reducible exact H2_)|(have H2_:=(Option.bind_some _ _).symm.trans H;with_reducible exact H2_)|with_reducible exact H|(rw [hy190];exact H)|exact H
 have Ny190:=Aside0.mk hy190
 clear hy190
 by_cases c3:y190.length+l1.length< 17592186044416
 ·rw [if_pos c3] at H
  have LMc3:=Aside0.mk c3
  clear c3
  obtain⟨y193,hy193⟩ :∃ y_:List Int,y_= (y190++l1):=⟨_,rfl⟩
  replace H:(spec_l9Relax.l0 k l1 y193 l0 (l0.length:Int) 0)=some r:=by first|(rw [hy193];with_reducible exact H)|(have H2_:=(Option.bind_some _ _).symm.trans H;rw [hy193];with_reducible exact H2_)|(have H2_:=(Option.bind_some _ _).symm.trans H;with_reducible exact H2_)|with_reducible exact H|(rw [hy193];exact H)|exact H
  have Ny193:=Aside0.mk hy193
  clear hy193
  have H':=Aside0.mk H
  clear H
  go_enter Try.func56,Try.ntmps56
  go_wp2_with (first|((with_reducible refine gate_dst (N:=8) rfl ?_);refine Kd.R_lit (Kd.int .i64) _ 3 ?hg (N:=8) ?hd (xs:=([] :List Int)) (inner:= []) (ok:=fun _=>True) (okp:=fun _=>True) ?hr ?hp (fun _ hk=>hk) trivial (Below.refl _ _) (Nat.le_refl _) (by simp) ?_;(case hd=>rfl);(case hg=>rfl);(case hr=>first|(go_simp;done)|(go_simp;rfl));(case hp=>exact(Reps.none _ _));intro v191 w4 ho5 hb hg_ hnew_;clear hg_ hnew_;(first|rw [← Ny190.out] at ho5|(simp only [Int.reduceToNat] at ho5;rw [← Ny190.out] at ho5));have n0_:=Aside0.mk (Kd.R_lower ho5 (below_size (zb0 HB)));have n1_:=Aside0.mk (below_step (zb0 HB) hb);clear HB;have HO192:=n0_;have HB:=n1_;clear n0_ n1_;clear hb ho5)|((with_reducible refine gate_builtin (b:= .append) (xs:= #[.tmp 8,.tmp 9]) rfl ?_);at_builtin;refine Kd.R_append_rows (Kd.int .i64) (w0:=w) w.heap.size rfl (.tmp 8) (.tmp 9) 23 3 (.int .i64 0) 8 rfl Try.underlying23 info3 rfl (by decide) (by omega) v191 y190 l1 _ _ _ (fun _=>True) (fun _=>False) rfl rfl ?aO ?aR (fun _ _ h=>h) (fun _ h=>h.elim) ?aF ?aB ?aS ?aL ?_;(case aR=>repeat(first|exact(Kd.C_below HR1.out HB.out)|(with_reducible refine Kd.C_alloc ?_ _)|(with_reducible refine Kd.C_drewN ?_ _)|(with_reducible refine Kd.C_drew ?_)));(case aB=>exact(zb0 HB));(case aF=>exact(fun _ _=>trivial));(case aO=>exact(zq4 HO192));(case aS=>exact(below_size (zb0 HB)));(case aL=>have:=LMc3.out;omega);intro v194 w6 ho hb hg hat;rw [← Ny193.out] at ho;have n0_:=Aside0.mk (hb);have n1_:=Aside0.mk (ho);clear HB;clear HO192;have HB:=n0_;have HO195:=n1_;clear n0_ n1_;clear ho hb hg hat))
  go_loopg [13] k (fun kq v13 w'=> ∃ (x5_1:List Int) (x13_1:Int),v13= .int .i64 x13_1∧Aside0 (spec_l9Relax.l0 kq l1 x5_1 l0 (l0.length:Int) x13_1=some r)∧Aside0 (kq≤k)∧Aside0 (Kd.R (Kd.int .i64) 3 w' w.heap.size (fun _=>True) v194 x5_1)∧Aside0 (Below w.heap.size w w'))
  case atStart=>exact⟨(y193),(0),(by first|rfl|(simp;done)|(simp [*];done)),H',⟨Nat.le_refl _⟩,⟨by(with_reducible repeat(first|apply Kd.R_alloc|apply Kd.R_drewN|apply Kd.R_drew));exact HO195.out⟩,⟨by repeat(first|(with_reducible first|exact HB.out|apply below_alloc|apply pw_below_drewN|apply below_drew1)|exact HB.out)⟩⟩
  case round=>
   clear H'
   try clear c1
   try clear p2
   try clear c3
   try clear c5
   obtain⟨x5_1,x13_1,rfl,HA,HK1,HO_5,HB⟩:=hrel
   cases gk with
   |zero=>exact absurd HA.out (by simp [spec_l9Relax.l0])
   |succ k1=>
    have H:=HA.out
    clear HA
    simp only [spec_l9Relax.l0] at H
    by_cases c7:x13_1< (l0.length:Int)
    ·rw [if_pos c7] at H
     have c7b0:decide (x13_1< (l0.length:Int))=true:=decide_eq_true c7
     clear c7
     by_cases c8: 0≤x13_1
     ·rw [if_pos c8] at H
      have c8b0:decide (0≤x13_1)=true:=decide_eq_true c8
      clear c8
      by_cases c9:x13_1< (l0.length:Int)
      ·rw [if_pos c9] at H
       have c9b0:decide (x13_1< (l0.length:Int))=true:=decide_eq_true c9
       clear c9
       by_cases c10: 0≤ ((rd_T67 l0 x13_1).f0)
       ·rw [if_pos c10] at H
        have c10b0:decide (0≤ ((rd_T67 l0 x13_1).f0))=true:=decide_eq_true c10
        clear c10
        by_cases c11:((rd_T67 l0 x13_1).f0)< (x5_1.length:Int)
        ·rw [if_pos c11] at H
         have c11b0:decide (((rd_T67 l0 x13_1).f0)< (x5_1.length:Int))=true:=decide_eq_true c11
         clear c11
         by_cases c12: 0≤ ((rd_T67 l0 x13_1).f1)
         ·rw [if_pos c12] at H
          have c12b0:decide (0≤ ((rd_T67 l0 x13_1).f1))=true:=decide_eq_true c12
          clear c12
          by_cases c13:((rd_T67 l0 x13_1).f1)< (l1.length:Int)
          ·rw [if_pos c13] at H
           have c13b0:decide (((rd_T67 l0 x13_1).f1)< (l1.length:Int))=true:=decide_eq_true c13
           clear c13
           replace H:=Option.bind_eq_some_iff.mp H
           obtain⟨t200,A140,H⟩:=H
           replace H:((some (x5_1.set (((rd_T67 l0 x13_1).f0):Int).toNat t200:List Int)).bind fun y201=>(if ((rd_T67 l0 x13_1).f1)< (x5_1.length:Int) then(if ((rd_T67 l0 x13_1).f0)< (l1.length:Int) then((spec_l1Least.f (rd y201 ((rd_T67 l0 x13_1).f1)) (wrap64 ((rd l1 ((rd_T67 l0 x13_1).f0))+ ((rd_T67 l0 x13_1).f2)))).bind fun t204=>(spec_l9Relax.l0 k1 l1 (y201.set (((rd_T67 l0 x13_1).f1):Int).toNat t204) l0 (l0.length:Int) (wrap64 (x13_1+1)))) else(none)) else(none)))=some r:=H
           have A14:=Aside0.mk A140
           clear A140
           obtain⟨y201,hy201⟩ :∃ y_:List Int,y_= (x5_1.set (((rd_T67 l0 x13_1).f0):Int).toNat t200):=⟨_,rfl⟩
           replace H:(if ((rd_T67 l0 x13_1).f1)< (x5_1.length:Int) then(if ((rd_T67 l0 x13_1).f0)< (l1.length:Int) then((spec_l1Least.f (rd y201 ((rd_T67 l0 x13_1).f1)) (wrap64 ((rd l1 ((rd_T67 l0 x13_1).f0))+ ((rd_T67 l0 x13_1).f2)))).bind fun t204=>(spec_l9Relax.l0 k1 l1 (y201.set (((rd_T67 l0 x13_1).f1):Int).toNat t204) l0 (l0.length:Int) (wrap64 (x13_1+1)))) else(none)) else(none))=some r:=by first|(rw [hy201];with_reducible exact H)|(have H2_:=(Option.bind_some _ _).symm.trans H;rw [hy201];with_reducible exact H2_)|(have H2_:=(Option.bind_some _ _).symm.trans H;with_reducible exact H2_)|with_reducible exact H|(rw [hy201];exact H)|exact H
           have Ny201:=Aside0.mk hy201
           clear hy201
           by_cases c16:((rd_T67 l0 x13_1).f1)< (x5_1.length:Int)
           ·rw [if_pos c16] at H
            have c16b0:decide (((rd_T67 l0 x13_1).f1)< (x5_1.length:Int))=true:=decide_eq_true c16
            clear c16
            by_cases c17:((rd_T67 l0 x13_1).f0)< (l1.length:Int)
            ·rw [if_pos c17] at H
             have c17b0:decide (((rd_T67 l0 x13_1).f0)< (l1.length:Int))=true:=decide_eq_true c17
             clear c17
             replace H:=Option.bind_eq_some_iff.mp H
             obtain⟨t204,A180,H⟩:=H
             replace H:(spec_l9Relax.l0 k1 l1 (y201.set (((rd_T67 l0 x13_1).f1):Int).toNat t204) l0 (l0.length:Int) (wrap64 (x13_1+1)))=some r:=H
             have A18:=Aside0.mk A180
             clear A180
             obtain⟨y205,hy205⟩ :∃ y_:List Int,y_= (y201.set (((rd_T67 l0 x13_1).f1):Int).toNat t204):=⟨_,rfl⟩
             replace H:(spec_l9Relax.l0 k1 l1 y205 l0 (l0.length:Int) (wrap64 (x13_1+1)))=some r:=by first|(rw [hy205];with_reducible exact H)|(have H2_:=(Option.bind_some _ _).symm.trans H;rw [hy205];with_reducible exact H2_)|(have H2_:=(Option.bind_some _ _).symm.trans H;with_reducible exact H2_)|with_reducible exact H|(rw [hy205];exact H)|exact H
             have Ny205:=Aside0.mk hy205
             clear hy205
             have H':=Aside0.mk H
             clear H
             have p196: 0≤ (x13_1:Int):=of_decide_eq_true zq1
             have q196:x13_1< (l0.length:Int):=of_decide_eq_true zq1
             obtain⟨ad196,e196,hx196_0,hx196_1,hx196_2⟩:=at_T67 HR0.out x13_1 p196 q196
             cases e196
             replace hx196_0:=(HB.out.cell (World.block_lt_of_cell? w _ hx196_0)).trans hx196_0
             replace hx196_1:=(HB.out.cell (World.block_lt_of_cell? w _ hx196_1)).trans hx196_1
             replace hx196_2:=(HB.out.cell (World.block_lt_of_cell? w _ hx196_2)).trans hx196_2
             replace p196:=eq_true p196
             replace q196:=eq_true q196
             try go_wp2_with (first|((with_reducible refine gate_dst (N:=7) rfl ?_);refine box_event ?hg (N:=7) ?hd (cs:= #[.int .i64 0,.int .i64 0,.int .i64 0]) (t:=67) ?hr ?_;(case hd=>rfl);(case hg=>rfl);(case hr=>first|(go_simp;done)|(go_simp;rfl));intro gb197 hg w20 hbox hb;have n0_:=Aside0.mk (Kd.R_below (zq4 HO_5) hb);have n1_:=Aside0.mk (below_step (zb0 HB) hb);have n2_:=Aside0.mk (hbox);have n3_:=Aside0.mk ((by rw [hg];exact(below_size (zb0 HB)):w.heap.size≤gb197));have n4_:=Aside0.mk ((by rw [hg];exact(below_size (zb0 HB)):w.heap.size≤gb197));clear HO_5;clear HB;have HO_5:=n0_;have HB:=n1_;have BK197:=n2_;have GW197:=n3_;have GE197:=n4_;clear n0_ n1_ n2_ n3_ n4_;clear hb hbox hg;have hcz21_0:w20.cell? ⟨gb197,0,none⟩=some (.int .i64 0):=(blk_cell BK197.out 0).trans rfl;have hcz21_1:w20.cell? ⟨gb197,1,none⟩=some (.int .i64 0):=(blk_cell BK197.out 1).trans rfl;have hcz21_2:w20.cell? ⟨gb197,2,none⟩=some (.int .i64 0):=(blk_cell BK197.out 2).trans rfl;have hfz21_0:=blk_frozen BK197.out 0;have hfz21_1:=blk_frozen BK197.out 1;have hfz21_2:=blk_frozen BK197.out 2))
             have n0_:Aside0 (Kd.R (Kd.int .i64) 3 (((w20.setCell ⟨gb197,0,none⟩ (.int .i64 ((rd_T67 l0 x13_1).f0))).setCell ⟨gb197,1,none⟩ (.int .i64 ((rd_T67 l0 x13_1).f1))).setCell ⟨gb197,2,none⟩ (.int .i64 ((rd_T67 l0 x13_1).f2))) w.heap.size (fun _=>True) v194 x5_1):=⟨by(with_reducible repeat(first|apply Kd.R_alloc|apply Kd.R_drewN|apply Kd.R_drew));exact Kd.R_mono (Kd.R_far (p:=⟨gb197,2,none⟩) (Kd.R_far (p:=⟨gb197,1,none⟩) (Kd.R_far (p:=⟨gb197,0,none⟩) (Kd.R_types HO_5.out BK197.out (by decide)) (fun _ hk=>hk.2) (.int .i64 ((rd_T67 l0 x13_1).f0))) (fun _ hk=>hk.2) (.int .i64 ((rd_T67 l0 x13_1).f1))) (fun _ hk=>hk.2) (.int .i64 ((rd_T67 l0 x13_1).f2))) (fun _ hk=>trivial)⟩
             have n1_:Aside0 ((((w20.setCell ⟨gb197,0,none⟩ (.int .i64 ((rd_T67 l0 x13_1).f0))).setCell ⟨gb197,1,none⟩ (.int .i64 ((rd_T67 l0 x13_1).f1))).setCell ⟨gb197,2,none⟩ (.int .i64 ((rd_T67 l0 x13_1).f2))).heap[gb197]?=some (.cells #[.int .i64 ((rd_T67 l0 x13_1).f0),.int .i64 ((rd_T67 l0 x13_1).f1),.int .i64 ((rd_T67 l0 x13_1).f2)] 67 (0,0))):=⟨by(with_reducible repeat(first|refine blk_drewN ?_ _|refine blk_drew ?_ |refine blk_alloc ?_ _));refine blk_put (cs:= #[.int .i64 ((rd_T67 l0 x13_1).f0),.int .i64 ((rd_T67 l0 x13_1).f1),.int .i64 0]) ?_ 2 _ rfl;(with_reducible repeat(first|refine blk_drewN ?_ _|refine blk_drew ?_ |refine blk_alloc ?_ _));refine blk_put (cs:= #[.int .i64 ((rd_T67 l0 x13_1).f0),.int .i64 0,.int .i64 0]) ?_ 1 _ rfl;(with_reducible repeat(first|refine blk_drewN ?_ _|refine blk_drew ?_ |refine blk_alloc ?_ _));refine blk_put (cs:= #[.int .i64 0,.int .i64 0,.int .i64 0]) ?_ 0 _ rfl;(with_reducible repeat(first|refine blk_drewN ?_ _|refine blk_drew ?_ |refine blk_alloc ?_ _));exact BK197.out⟩
             have n2_:Aside0 (Below w.heap.size w (((w20.setCell ⟨gb197,0,none⟩ (.int .i64 ((rd_T67 l0 x13_1).f0))).setCell ⟨gb197,1,none⟩ (.int .i64 ((rd_T67 l0 x13_1).f1))).setCell ⟨gb197,2,none⟩ (.int .i64 ((rd_T67 l0 x13_1).f2)))):=⟨by repeat(first|(with_reducible first|exact HB.out|apply below_alloc|apply pw_below_drewN|apply below_drew1|refine below_set ?_ GE197.out)|exact HB.out)⟩
             (try clear HO_5)
             (try clear BK197)
             (try clear HB)
             (try simp only [show ∀ (W_:World) (n_:Nat) (a_:Addr) (v_:Value),(World.drewN W_ n_).setCell a_ v_= (World.setCell W_ a_ v_).drewN n_ from fun _ _ _ _=>rfl])
             generalize (((w20.setCell ⟨gb197,0,none⟩ (.int .i64 ((rd_T67 l0 x13_1).f0))).setCell ⟨gb197,1,none⟩ (.int .i64 ((rd_T67 l0 x13_1).f1))).setCell ⟨gb197,2,none⟩ (.int .i64 ((rd_T67 l0 x13_1).f2)))=w22 at n0_ n1_ n2_ ⊢
             have HO_5:=n0_
             have BK197:=n1_
             have HB:=n2_
             clear n0_ n1_ n2_
             have n0_:=Aside0.mk (Kd.R_drew HO_5.out)
             have n1_:=Aside0.mk (blk_drew BK197.out)
             have n2_:=Aside0.mk (below_drew1 HB.out)
             clear HO_5
             clear BK197
             clear HB
             have HO_5:=n0_
             have BK197:=n1_
             have HB:=n2_
             clear n0_ n1_ n2_
             obtain⟨Ao24,co24,eo24⟩:=Kd.R_slice HO_5.out
             (first|subst eo24|(injection eo24 with f1_ f2_ f3_;have f4_:=f1_.symm;have f5_:=f3_.symm;clear f1_ f2_ f3_;subst f4_;subst f5_))
             have p198: 0≤ (((rd_T67 l0 x13_1).f0):Int):=of_decide_eq_true zq1
             have q198:((rd_T67 l0 x13_1).f0)< (x5_1.length:Int):=of_decide_eq_true zq1
             obtain⟨ad198,e198,hx198_0⟩:=Kd.at_int (Kd.R_reads' HO_5.out).2.2 ((rd_T67 l0 x13_1).f0) p198 q198
             cases e198
             replace p198:=eq_true p198
             replace q198:=eq_true q198
             have p199: 0≤ (((rd_T67 l0 x13_1).f1):Int):=of_decide_eq_true zq1
             have q199:((rd_T67 l0 x13_1).f1)< (l1.length:Int):=of_decide_eq_true zq1
             obtain⟨ad199,e199,hx199_0⟩:=Kd.at_int HR1.out ((rd_T67 l0 x13_1).f1) p199 q199
             have hw199_0:=hx199_0
             cases e199
             replace hx199_0:=(HB.out.cell (World.block_lt_of_cell? w _ hx199_0)).trans hx199_0
             replace p199:=eq_true p199
             replace q199:=eq_true q199
             refine start_ (n:=19) (S:=fun w'=>w'.cell? ⟨gb197,0,none⟩=some (.int .i64 ((rd_T67 l0 x13_1).f0))∧w'.cell? ⟨gb197,1,none⟩=some (.int .i64 ((rd_T67 l0 x13_1).f1))∧w'.cell? ⟨gb197,2,none⟩=some (.int .i64 ((rd_T67 l0 x13_1).f2))∧w'.cell? (ad198.add (((rd_T67 l0 x13_1).f0)).toNat)=some (.int .i64 (rd x5_1 ((rd_T67 l0 x13_1).f0)))∧w'.cell? (ad199.add (((rd_T67 l0 x13_1).f1)).toNat)=some (.int .i64 (rd l1 ((rd_T67 l0 x13_1).f1)))) (ds:= [18]) #[f',f',f',f',f',f',f',f',f',f',f',f',f',f',f',f',f',f',f'] (by kernel_rfl) rfl rfl ⟨(blk_cell BK197.out 0).trans rfl,(blk_cell BK197.out 1).trans rfl,(blk_cell BK197.out 2).trans rfl,hx198_0,((HB.out.cell (World.block_lt_of_cell? w _ hw199_0)).trans hw199_0)⟩ (fun hHeld=>?_);refine with_tabW spec_l9Relax.tab5 spec_l9Relax.bits5 (fun HT_ HW_=>?_)
             generalize w22.drew=w23 at HO_5 BK197 HB hx198_0 hx199_0 hHeld ⊢
             refine pure_ (i:=0) (N:=some 17) (v:=?_) (a':=?_) #[t',f',f',f',f',f',f',f',f',f',f',f',f',f',f',f',f',f',f'] rfl rfl (any_of HT_.out (by kernel_rfl)) (fun _ _ _ h=>h) (Or.inl ⟨by rfl,?_⟩) ?_ ?_
             rotate_left
             ·intro w'
              go_simp
              with_reducible rfl
             rotate_left
             ·simp only [Act.put,List.setIfInBounds_toArray,List.set_cons_zero,List.set_cons_succ,i64_w,i32_w]
              rfl
             refine pure_ (i:=1) (N:=some 18) (v:=?_) (a':=?_) #[t',t',f',f',f',f',f',f',f',f',f',f',f',f',f',f',f',f',f'] rfl rfl (any_of HT_.out (by kernel_rfl)) (fun _ _ _ h=>h) (Or.inl ⟨by rfl,?_⟩) ?_ ?_
             rotate_left
             ·intro w'
              go_simp
              with_reducible rfl
             rotate_left
             ·simp only [Act.put,List.setIfInBounds_toArray,List.set_cons_zero,List.set_cons_succ,i64_w,i32_w]
              rfl
             refine pure_ (i:=3) (N:=some 20) (v:=?_) (a':=?_) #[t',t',f',t',f',f',f',f',f',f',f',f',f',f',f',f',f',f',f'] rfl rfl (any_of HT_.out (by kernel_rfl)) (fun _ _ _ h=>h) (Or.inl ⟨by rfl,?_⟩) ?_ ?_
             rotate_left
             ·intro w'
              go_simp
              with_reducible rfl
             rotate_left
             ·simp only [Act.put,List.setIfInBounds_toArray,List.set_cons_zero,List.set_cons_succ,i64_w,i32_w]
              rfl
             refine pure_ (i:=4) (N:=some 21) (v:=?_) (a':=?_) #[t',t',f',t',t',f',f',f',f',f',f',f',f',f',f',f',f',f',f'] rfl rfl (any_of HT_.out (by kernel_rfl)) (fun _ _ _ h=>h) (Or.inl ⟨by rfl,?_⟩) ?_ ?_
             rotate_left
             ·intro w'
              go_simp
              with_reducible rfl
             rotate_left
             ·simp only [Act.put,List.setIfInBounds_toArray,List.set_cons_zero,List.set_cons_succ,i64_w,i32_w]
              rfl
             refine pure_ (i:=8) (N:=some 25) (v:=?_) (a':=?_) #[t',t',f',t',t',f',f',f',t',f',f',f',f',f',f',f',f',f',f'] rfl rfl (any_of HT_.out (by kernel_rfl)) (fun _ _ _ h=>h) (Or.inl ⟨by rfl,?_⟩) ?_ ?_
             rotate_left
             ·intro w'
              go_simp
              with_reducible rfl
             rotate_left
             ·simp only [Act.put,List.setIfInBounds_toArray,List.set_cons_zero,List.set_cons_succ,i64_w,i32_w]
              rfl
             refine pure_ (i:=9) (N:=some 26) (v:=?_) (a':=?_) #[t',t',f',t',t',f',f',f',t',t',f',f',f',f',f',f',f',f',f'] rfl rfl (any_of HT_.out (by kernel_rfl)) (fun _ _ _ h=>h) (Or.inl ⟨by rfl,?_⟩) ?_ ?_
             rotate_left
             ·intro w'
              go_simp
              with_reducible rfl
             rotate_left
             ·simp only [Act.put,List.setIfInBounds_toArray,List.set_cons_zero,List.set_cons_succ,i64_w,i32_w]
              rfl
             refine pure_ (i:=13) (N:=some 30) (v:=?_) (a':=?_) #[t',t',f',t',t',f',f',f',t',t',f',f',f',t',f',f',f',f',f'] rfl rfl (any_of HT_.out (by kernel_rfl)) (fun _ _ _ h=>h) (Or.inl ⟨by rfl,?_⟩) ?_ ?_
             rotate_left
             ·intro w'
              go_simp
              with_reducible rfl
             rotate_left
             ·simp only [Act.put,List.setIfInBounds_toArray,List.set_cons_zero,List.set_cons_succ,i64_w,i32_w]
              rfl
             refine take_ (i:=2) (N:=some 19) (v:=?_) (a':=?_) #[t',t',t',t',t',f',f',f',t',t',f',f',f',t',f',f',f',f',f'] rfl rfl (take_ofW HT_.out HW_.out (by kernel_rfl)) (fun _ _ _ h=>h) (Or.inl ⟨by rfl,?_⟩) hHeld ?_ ?_
             rotate_left
             ·rintro w' ⟨s0,s1,s2,s3,s4⟩
              go_simp
              with_reducible rfl
             rotate_left
             ·simp only [Act.put,List.setIfInBounds_toArray,List.set_cons_zero,List.set_cons_succ,i64_w,i32_w]
              rfl
             refine take_ (i:=5) (N:=some 22) (v:=?_) (a':=?_) #[t',t',t',t',t',t',f',f',t',t',f',f',f',t',f',f',f',f',f'] rfl rfl (take_ofW HT_.out HW_.out (by kernel_rfl)) (fun _ _ _ h=>h) (Or.inl ⟨by rfl,?_⟩) hHeld ?_ ?_
             rotate_left
             ·rintro w' ⟨s0,s1,s2,s3,s4⟩
              go_simp
              with_reducible rfl
             rotate_left
             ·simp only [Act.put,List.setIfInBounds_toArray,List.set_cons_zero,List.set_cons_succ,i64_w,i32_w]
              rfl
             refine pure_ (i:=6) (N:=some 23) (v:=?_) (a':=?_) #[t',t',t',t',t',t',t',f',t',t',f',f',f',t',f',f',f',f',f'] rfl rfl (any_of HT_.out (by kernel_rfl)) (fun _ _ _ h=>h) (Or.inl ⟨by rfl,?_⟩) ?_ ?_
             rotate_left
             ·intro w'
              go_simp
              with_reducible rfl
             rotate_left
             ·simp only [Act.put,List.setIfInBounds_toArray,List.set_cons_zero,List.set_cons_succ,i64_w,i32_w]
              rfl
             refine take_ (i:=7) (N:=some 24) (v:=?_) (a':=?_) #[t',t',t',t',t',t',t',t',t',t',f',f',f',t',f',f',f',f',f'] rfl rfl (take_ofW HT_.out HW_.out (by kernel_rfl)) (fun _ _ _ h=>h) (Or.inl ⟨by rfl,?_⟩) hHeld ?_ ?_
             rotate_left
             ·rintro w' ⟨s0,s1,s2,s3,s4⟩
              go_simp
              with_reducible rfl
             rotate_left
             ·simp only [Act.put,List.setIfInBounds_toArray,List.set_cons_zero,List.set_cons_succ,i64_w,i32_w]
              rfl
             refine take_ (i:=10) (N:=some 27) (v:=?_) (a':=?_) #[t',t',t',t',t',t',t',t',t',t',t',f',f',t',f',f',f',f',f'] rfl rfl (take_ofW HT_.out HW_.out (by kernel_rfl)) (fun _ _ _ h=>h) (Or.inl ⟨by rfl,?_⟩) hHeld ?_ ?_
             rotate_left
             ·rintro w' ⟨s0,s1,s2,s3,s4⟩
              go_simp
              with_reducible rfl
             rotate_left
             ·simp only [Act.put,List.setIfInBounds_toArray,List.set_cons_zero,List.set_cons_succ,i64_w,i32_w]
              rfl
             refine pure_ (i:=11) (N:=some 28) (v:=?_) (a':=?_) #[t',t',t',t',t',t',t',t',t',t',t',t',f',t',f',f',f',f',f'] rfl rfl (any_of HT_.out (by kernel_rfl)) (fun _ _ _ h=>h) (Or.inl ⟨by rfl,?_⟩) ?_ ?_
             rotate_left
             ·intro w'
              go_simp
              with_reducible rfl
             rotate_left
             ·simp only [Act.put,List.setIfInBounds_toArray,List.set_cons_zero,List.set_cons_succ,i64_w,i32_w]
              rfl
             refine take_ (i:=12) (N:=some 29) (v:=?_) (a':=?_) #[t',t',t',t',t',t',t',t',t',t',t',t',t',t',f',f',f',f',f'] rfl rfl (take_ofW HT_.out HW_.out (by kernel_rfl)) (fun _ _ _ h=>h) (Or.inl ⟨by rfl,?_⟩) hHeld ?_ ?_
             rotate_left
             ·rintro w' ⟨s0,s1,s2,s3,s4⟩
              go_simp
              with_reducible rfl
             rotate_left
             ·simp only [Act.put,List.setIfInBounds_toArray,List.set_cons_zero,List.set_cons_succ,i64_w,i32_w]
              rfl
             refine take_ (i:=14) (N:=some 31) (v:=?_) (a':=?_) #[t',t',t',t',t',t',t',t',t',t',t',t',t',t',t',f',f',f',f'] rfl rfl (take_ofW HT_.out HW_.out (by kernel_rfl)) (fun _ _ _ h=>h) (Or.inl ⟨by rfl,?_⟩) hHeld ?_ ?_
             rotate_left
             ·rintro w' ⟨s0,s1,s2,s3,s4⟩
              go_simp
              with_reducible rfl
             rotate_left
             ·simp only [Act.put,List.setIfInBounds_toArray,List.set_cons_zero,List.set_cons_succ,i64_w,i32_w]
              rfl
             refine pure_ (i:=15) (N:=some 32) (v:=?_) (a':=?_) #[t',t',t',t',t',t',t',t',t',t',t',t',t',t',t',t',f',f',f'] rfl rfl (any_of HT_.out (by kernel_rfl)) (fun _ _ _ h=>h) (Or.inl ⟨by rfl,?_⟩) ?_ ?_
             rotate_left
             ·intro w'
              go_simp
              with_reducible rfl
             rotate_left
             ·simp only [Act.put,List.setIfInBounds_toArray,List.set_cons_zero,List.set_cons_succ,i64_w,i32_w]
              rfl
             refine one_ (i:=16) (N:=some 33) #[t',t',t',t',t',t',t',t',t',t',t',t',t',t',t',t',t',f',f'] rfl rfl (one_of HT_.out (by kernel_rfl)) (by decide) (fun K hK=>?_)
             refine goes_ Try.func72 (by kernel_rfl) rfl #[.int .i64 (rd x5_1 ((rd_T67 l0 x13_1).f0)),.int .i64 (wrap64 ((rd l1 ((rd_T67 l0 x13_1).f1))+ ((rd_T67 l0 x13_1).f2)))] (by rfl) rfl rfl zq2 ?_
             with_reducible refine(spec_l1Least.calls (rd x5_1 ((rd_T67 l0 x13_1).f0)) (wrap64 ((rd l1 ((rd_T67 l0 x13_1).f1))+ ((rd_T67 l0 x13_1).f2))) t200 _ A14.out).mono ?_
             rintro e w' ⟨rfl,⟨nd,rfl⟩⟩
             refine⟨_,rfl,?_⟩
             have p15: 0≤ (((rd_T67 l0 x13_1).f0):Int):=of_decide_eq_true zq1
             have q15:(((rd_T67 l0 x13_1).f0):Int)< ((x5_1.length:Int):Int):=of_decide_eq_true zq1
             obtain⟨go15,co15,eo15,gb15,gl15,cl15,HG15⟩:=Kd.R_form HO_5.out (by omega)
             (first|cases eo15|(injection eo15 with ea_ en_ ec_;(first|subst ea_|(injection ea_ with ea_;subst ea_));subst ec_;clear en_))
             have GB15:=Aside0.mk gb15
             have GG15:=Aside0.mk HG15
             clear gb15 gl15 HG15
             (first|simp only [add_plain] at hx198_0|skip)
             obtain⟨hx15_0,hf15_0⟩:=Kd.R_celln 0 HO_5.out (((rd_T67 l0 x13_1).f0):Int) p15 q15
             replace p15:=eq_true p15
             replace q15:=eq_true q15
             have HP25:=Kd.R_putn HO_5.out (((rd_T67 l0 x13_1).f0):Int) t200
             rw [← Ny201.out] at HP25
             have HQ25:=Aside0.mk HP25
             clear HP25
             refine hK.out _ _ ⟨(blk_cell BK197.out 0).trans rfl,(blk_cell BK197.out 1).trans rfl,(blk_cell BK197.out 2).trans rfl,hHeld.2.2.2.1,((HB.out.cell (World.block_lt_of_cell? w _ hw199_0)).trans hw199_0)⟩ (fun hHeld=>?_)
             clear hK K
             refine norm_ (a':=?_) ?_ ?_
             rotate_left
             ·show Act.put _ (some 33) _=_
              simp only [Act.put,List.setIfInBounds_toArray,List.set_cons_zero,List.set_cons_succ,i64_w,i32_w]
              rfl
             refine pure_ (i:=17) (N:=some 34) (v:=?_) (a':=?_) #[t',t',t',t',t',t',t',t',t',t',t',t',t',t',t',t',t',t',f'] rfl rfl (any_of HT_.out (by kernel_rfl)) (fun _ _ _ h=>h) (Or.inl ⟨by rfl,?_⟩) ?_ ?_
             rotate_left
             ·intro w'
              go_simp
              with_reducible rfl
             rotate_left
             ·simp only [Act.put,List.setIfInBounds_toArray,List.set_cons_zero,List.set_cons_succ,i64_w,i32_w]
              rfl
             refine last_ (i:=18) (N:=none) #[t',t',t',t',t',t',t',t',t',t',t',t',t',t',t',t',t',t',t'] rfl rfl (one_of HT_.out (by kernel_rfl)) (by decide) (fun K hK=>?_)
             refine skip_ (w1:=?_) (by rfl) rfl ?_ ?_
             rotate_left
             ·go_simp
              rfl
             refine hK.out _ _ ?_
             clear hK K
             refine done_ (done_of HT_.out (by kernel_rfl)) ?_
             try go_wp2
             have n0_:Aside0 (Kd.R (Kd.int .i64) 3 (w23.setCell ⟨go15,(((rd_T67 l0 x13_1).f0):Int).toNat,none⟩ (.int .i64 t200)) w.heap.size (fun _=>True) (.slice (some ⟨go15,0,none⟩) x5_1.length co24) y201):=⟨by(with_reducible repeat(first|apply Kd.R_alloc|apply Kd.R_drewN|apply Kd.R_drew));exact HQ25.out⟩
             have n1_:Aside0 ((w23.setCell ⟨go15,(((rd_T67 l0 x13_1).f0):Int).toNat,none⟩ (.int .i64 t200)).heap[gb197]?=some (.cells #[.int .i64 ((rd_T67 l0 x13_1).f0),.int .i64 ((rd_T67 l0 x13_1).f1),.int .i64 ((rd_T67 l0 x13_1).f2)] 67 (0,0))):=⟨by(with_reducible repeat(first|refine blk_drewN ?_ _|refine blk_drew ?_ |refine blk_alloc ?_ _));refine blk_far ?_ (by have h_:=Kd.R_ne HO_5.out BK197.out (by decide);intro e_;exact h_ (by rw [e_];rfl)) _;(with_reducible repeat(first|refine blk_drewN ?_ _|refine blk_drew ?_ |refine blk_alloc ?_ _));exact BK197.out⟩
             have n2_:Aside0 (Below w.heap.size w (w23.setCell ⟨go15,(((rd_T67 l0 x13_1).f0):Int).toNat,none⟩ (.int .i64 t200))):=⟨by repeat(first|(with_reducible first|exact HB.out|apply below_alloc|apply pw_below_drewN|apply below_drew1|refine below_set ?_ GB15.out|refine below_set ?_ GE197.out)|exact HB.out)⟩
             (try clear HO_5)
             (try clear BK197)
             (try clear HB)
             (try simp only [show ∀ (W_:World) (n_:Nat) (a_:Addr) (v_:Value),(World.drewN W_ n_).setCell a_ v_= (World.setCell W_ a_ v_).drewN n_ from fun _ _ _ _=>rfl])
             generalize (w23.setCell ⟨go15,(((rd_T67 l0 x13_1).f0):Int).toNat,none⟩ (.int .i64 t200))=w26 at n0_ n1_ n2_ ⊢
             have HO_5:=n0_
             have BK197:=n1_
             have HB:=n2_
             clear n0_ n1_ n2_
             (try(rw [drewN_self w26];generalize hq_:World.drewN w26 _=w26;have n0_:Aside0 (Kd.R (Kd.int .i64) 3 w26 w.heap.size (fun _=>True) (.slice (some ⟨go15,0,none⟩) x5_1.length co24) y201):=⟨by rw [← hq_];exact(zq4 HO_5)⟩;have n1_:Aside0 (w26.heap[gb197]?=some (.cells #[.int .i64 ((rd_T67 l0 x13_1).f0),.int .i64 ((rd_T67 l0 x13_1).f1),.int .i64 ((rd_T67 l0 x13_1).f2)] 67 (0,0))):=⟨by rw [← hq_];exact(zq3 BK197)⟩;have n2_:Aside0 (Below w.heap.size w w26):=⟨by rw [← hq_];exact(zb1 HB GE197)⟩;clear HO_5 BK197 HB hq_;have HO_5:=n0_;have BK197:=n1_;have HB:=n2_;clear n0_ n1_ n2_))
             have n0_:=Aside0.mk (Kd.R_drew HO_5.out)
             have n1_:=Aside0.mk (blk_drew BK197.out)
             have n2_:=Aside0.mk (below_drew1 HB.out)
             clear HO_5
             clear BK197
             clear HB
             have HO_5:=n0_
             have BK197:=n1_
             have HB:=n2_
             clear n0_ n1_ n2_
             have p202: 0≤ (((rd_T67 l0 x13_1).f1):Int):=of_decide_eq_true zq1
             have q202:((rd_T67 l0 x13_1).f1)< (y201.length:Int):=(by have h_:(((rd_T67 l0 x13_1).f1):Int)< ((x5_1.length:Int):Int):=of_decide_eq_true zq1;first|(have e_:=(Kd.R_reads' HO_5.out).1;omega)|simpa only [Ny201.out,List.length_set] using h_)
             have ql202:((((rd_T67 l0 x13_1).f1):Int)< ((x5_1.length:Int):Int))=True:=eq_true (of_decide_eq_true zq1)
             obtain⟨ad202,e202,hx202_0⟩:=Kd.at_int (Kd.R_reads' HO_5.out).2.2 ((rd_T67 l0 x13_1).f1) p202 q202
             obtain rfl:(⟨go15,0,none⟩ :Addr)=ad202:=(by injection e202)
             (first|simp only [add_plain] at hx202_0|simp only [add_at] at hx202_0|simp only [Addr.add,Nat.zero_add] at hx202_0|skip)
             replace p202:=eq_true p202
             replace q202:=eq_true q202
             have p203: 0≤ (((rd_T67 l0 x13_1).f0):Int):=of_decide_eq_true zq1
             have q203:((rd_T67 l0 x13_1).f0)< (l1.length:Int):=of_decide_eq_true zq1
             obtain⟨ad203,e203,hx203_0⟩:=Kd.at_int HR1.out ((rd_T67 l0 x13_1).f0) p203 q203
             have hw203_0:=hx203_0
             obtain rfl:ad199=ad203:=(by injection e203)
             replace hx203_0:=(HB.out.cell (World.block_lt_of_cell? w _ hx203_0)).trans hx203_0
             replace p203:=eq_true p203
             replace q203:=eq_true q203
             refine start_ (n:=19) (S:=fun w'=>w'.cell? ⟨gb197,0,none⟩=some (.int .i64 ((rd_T67 l0 x13_1).f0))∧w'.cell? ⟨gb197,1,none⟩=some (.int .i64 ((rd_T67 l0 x13_1).f1))∧w'.cell? ⟨gb197,2,none⟩=some (.int .i64 ((rd_T67 l0 x13_1).f2))∧w'.cell? ⟨go15,(((rd_T67 l0 x13_1).f1)).toNat,none⟩=some (.int .i64 (rd y201 ((rd_T67 l0 x13_1).f1)))∧w'.cell? (ad199.add (((rd_T67 l0 x13_1).f0)).toNat)=some (.int .i64 (rd l1 ((rd_T67 l0 x13_1).f0)))) (ds:= [18]) #[f',f',f',f',f',f',f',f',f',f',f',f',f',f',f',f',f',f',f'] (by kernel_rfl) rfl rfl ⟨(blk_cell BK197.out 0).trans rfl,(blk_cell BK197.out 1).trans rfl,(blk_cell BK197.out 2).trans rfl,hx202_0,((HB.out.cell (World.block_lt_of_cell? w _ hw203_0)).trans hw203_0)⟩ (fun hHeld=>?_);refine with_tabW spec_l9Relax.tab6 spec_l9Relax.bits6 (fun HT_ HW_=>?_)
             generalize w26.drew=w27 at HO_5 BK197 HB HQ25 hx202_0 hx203_0 hHeld ⊢
             refine pure_ (i:=0) (N:=some 35) (v:=?_) (a':=?_) #[t',f',f',f',f',f',f',f',f',f',f',f',f',f',f',f',f',f',f'] rfl rfl (any_of HT_.out (by kernel_rfl)) (fun _ _ _ h=>h) (Or.inl ⟨by rfl,?_⟩) ?_ ?_
             rotate_left
             ·intro w'
              go_simp
              with_reducible rfl
             rotate_left
             ·simp only [Act.put,List.setIfInBounds_toArray,List.set_cons_zero,List.set_cons_succ,i64_w,i32_w]
              rfl
             refine pure_ (i:=1) (N:=some 36) (v:=?_) (a':=?_) #[t',t',f',f',f',f',f',f',f',f',f',f',f',f',f',f',f',f',f'] rfl rfl (any_of HT_.out (by kernel_rfl)) (fun _ _ _ h=>h) (Or.inl ⟨by rfl,?_⟩) ?_ ?_
             rotate_left
             ·intro w'
              go_simp
              with_reducible rfl
             rotate_left
             ·simp only [Act.put,List.setIfInBounds_toArray,List.set_cons_zero,List.set_cons_succ,i64_w,i32_w]
              rfl
             refine pure_ (i:=3) (N:=some 38) (v:=?_) (a':=?_) #[t',t',f',t',f',f',f',f',f',f',f',f',f',f',f',f',f',f',f'] rfl rfl (any_of HT_.out (by kernel_rfl)) (fun _ _ _ h=>h) (Or.inl ⟨by rfl,?_⟩) ?_ ?_
             rotate_left
             ·intro w'
              go_simp
              with_reducible rfl
             rotate_left
             ·simp only [Act.put,List.setIfInBounds_toArray,List.set_cons_zero,List.set_cons_succ,i64_w,i32_w]
              rfl
             refine pure_ (i:=4) (N:=some 39) (v:=?_) (a':=?_) #[t',t',f',t',t',f',f',f',f',f',f',f',f',f',f',f',f',f',f'] rfl rfl (any_of HT_.out (by kernel_rfl)) (fun _ _ _ h=>h) (Or.inl ⟨by rfl,?_⟩) ?_ ?_
             rotate_left
             ·intro w'
              go_simp
              with_reducible rfl
             rotate_left
             ·simp only [Act.put,List.setIfInBounds_toArray,List.set_cons_zero,List.set_cons_succ,i64_w,i32_w]
              rfl
             refine pure_ (i:=8) (N:=some 43) (v:=?_) (a':=?_) #[t',t',f',t',t',f',f',f',t',f',f',f',f',f',f',f',f',f',f'] rfl rfl (any_of HT_.out (by kernel_rfl)) (fun _ _ _ h=>h) (Or.inl ⟨by rfl,?_⟩) ?_ ?_
             rotate_left
             ·intro w'
              go_simp
              with_reducible rfl
             rotate_left
             ·simp only [Act.put,List.setIfInBounds_toArray,List.set_cons_zero,List.set_cons_succ,i64_w,i32_w]
              rfl
             refine pure_ (i:=9) (N:=some 44) (v:=?_) (a':=?_) #[t',t',f',t',t',f',f',f',t',t',f',f',f',f',f',f',f',f',f'] rfl rfl (any_of HT_.out (by kernel_rfl)) (fun _ _ _ h=>h) (Or.inl ⟨by rfl,?_⟩) ?_ ?_
             rotate_left
             ·intro w'
              go_simp
              with_reducible rfl
             rotate_left
             ·simp only [Act.put,List.setIfInBounds_toArray,List.set_cons_zero,List.set_cons_succ,i64_w,i32_w]
              rfl
             refine pure_ (i:=13) (N:=some 48) (v:=?_) (a':=?_) #[t',t',f',t',t',f',f',f',t',t',f',f',f',t',f',f',f',f',f'] rfl rfl (any_of HT_.out (by kernel_rfl)) (fun _ _ _ h=>h) (Or.inl ⟨by rfl,?_⟩) ?_ ?_
             rotate_left
             ·intro w'
              go_simp
              with_reducible rfl
             rotate_left
             ·simp only [Act.put,List.setIfInBounds_toArray,List.set_cons_zero,List.set_cons_succ,i64_w,i32_w]
              rfl
             refine take_ (i:=2) (N:=some 37) (v:=?_) (a':=?_) #[t',t',t',t',t',f',f',f',t',t',f',f',f',t',f',f',f',f',f'] rfl rfl (take_ofW HT_.out HW_.out (by kernel_rfl)) (fun _ _ _ h=>h) (Or.inl ⟨by rfl,?_⟩) hHeld ?_ ?_
             rotate_left
             ·rintro w' ⟨s0,s1,s2,s3,s4⟩
              go_simp
              with_reducible rfl
             rotate_left
             ·simp only [Act.put,List.setIfInBounds_toArray,List.set_cons_zero,List.set_cons_succ,i64_w,i32_w]
              rfl
             refine take_ (i:=5) (N:=some 40) (v:=?_) (a':=?_) #[t',t',t',t',t',t',f',f',t',t',f',f',f',t',f',f',f',f',f'] rfl rfl (take_ofW HT_.out HW_.out (by kernel_rfl)) (fun _ _ _ h=>h) (Or.inl ⟨by rfl,?_⟩) hHeld ?_ ?_
             rotate_left
             ·rintro w' ⟨s0,s1,s2,s3,s4⟩
              go_simp
              with_reducible rfl
             rotate_left
             ·simp only [Act.put,List.setIfInBounds_toArray,List.set_cons_zero,List.set_cons_succ,i64_w,i32_w]
              rfl
             refine pure_ (i:=6) (N:=some 41) (v:=?_) (a':=?_) #[t',t',t',t',t',t',t',f',t',t',f',f',f',t',f',f',f',f',f'] rfl rfl (any_of HT_.out (by kernel_rfl)) (fun _ _ _ h=>h) (Or.inl ⟨by rfl,?_⟩) ?_ ?_
             rotate_left
             ·intro w'
              go_simp
              with_reducible rfl
             rotate_left
             ·simp only [Act.put,List.setIfInBounds_toArray,List.set_cons_zero,List.set_cons_succ,i64_w,i32_w]
              rfl
             refine take_ (i:=7) (N:=some 42) (v:=?_) (a':=?_) #[t',t',t',t',t',t',t',t',t',t',f',f',f',t',f',f',f',f',f'] rfl rfl (take_ofW HT_.out HW_.out (by kernel_rfl)) (fun _ _ _ h=>h) (Or.inl ⟨by rfl,?_⟩) hHeld ?_ ?_
             rotate_left
             ·rintro w' ⟨s0,s1,s2,s3,s4⟩
              go_simp
              with_reducible rfl
             rotate_left
             ·simp only [Act.put,List.setIfInBounds_toArray,List.set_cons_zero,List.set_cons_succ,i64_w,i32_w]
              rfl
             refine take_ (i:=10) (N:=some 45) (v:=?_) (a':=?_) #[t',t',t',t',t',t',t',t',t',t',t',f',f',t',f',f',f',f',f'] rfl rfl (take_ofW HT_.out HW_.out (by kernel_rfl)) (fun _ _ _ h=>h) (Or.inl ⟨by rfl,?_⟩) hHeld ?_ ?_
             rotate_left
             ·rintro w' ⟨s0,s1,s2,s3,s4⟩
              go_simp
              with_reducible rfl
             rotate_left
             ·simp only [Act.put,List.setIfInBounds_toArray,List.set_cons_zero,List.set_cons_succ,i64_w,i32_w]
              rfl
             refine pure_ (i:=11) (N:=some 46) (v:=?_) (a':=?_) #[t',t',t',t',t',t',t',t',t',t',t',t',f',t',f',f',f',f',f'] rfl rfl (any_of HT_.out (by kernel_rfl)) (fun _ _ _ h=>h) (Or.inl ⟨by rfl,?_⟩) ?_ ?_
             rotate_left
             ·intro w'
              go_simp
              with_reducible rfl
             rotate_left
             ·simp only [Act.put,List.setIfInBounds_toArray,List.set_cons_zero,List.set_cons_succ,i64_w,i32_w]
              rfl
             refine take_ (i:=12) (N:=some 47) (v:=?_) (a':=?_) #[t',t',t',t',t',t',t',t',t',t',t',t',t',t',f',f',f',f',f'] rfl rfl (take_ofW HT_.out HW_.out (by kernel_rfl)) (fun _ _ _ h=>h) (Or.inl ⟨by rfl,?_⟩) hHeld ?_ ?_
             rotate_left
             ·rintro w' ⟨s0,s1,s2,s3,s4⟩
              go_simp
              with_reducible rfl
             rotate_left
             ·simp only [Act.put,List.setIfInBounds_toArray,List.set_cons_zero,List.set_cons_succ,i64_w,i32_w]
              rfl
             refine take_ (i:=14) (N:=some 49) (v:=?_) (a':=?_) #[t',t',t',t',t',t',t',t',t',t',t',t',t',t',t',f',f',f',f'] rfl rfl (take_ofW HT_.out HW_.out (by kernel_rfl)) (fun _ _ _ h=>h) (Or.inl ⟨by rfl,?_⟩) hHeld ?_ ?_
             rotate_left
             ·rintro w' ⟨s0,s1,s2,s3,s4⟩
              go_simp
              with_reducible rfl
             rotate_left
             ·simp only [Act.put,List.setIfInBounds_toArray,List.set_cons_zero,List.set_cons_succ,i64_w,i32_w]
              rfl
             refine pure_ (i:=15) (N:=some 50) (v:=?_) (a':=?_) #[t',t',t',t',t',t',t',t',t',t',t',t',t',t',t',t',f',f',f'] rfl rfl (any_of HT_.out (by kernel_rfl)) (fun _ _ _ h=>h) (Or.inl ⟨by rfl,?_⟩) ?_ ?_
             rotate_left
             ·intro w'
              go_simp
              with_reducible rfl
             rotate_left
             ·simp only [Act.put,List.setIfInBounds_toArray,List.set_cons_zero,List.set_cons_succ,i64_w,i32_w]
              rfl
             refine one_ (i:=16) (N:=some 51) #[t',t',t',t',t',t',t',t',t',t',t',t',t',t',t',t',t',f',f'] rfl rfl (one_of HT_.out (by kernel_rfl)) (by decide) (fun K hK=>?_)
             refine goes_ Try.func72 (by kernel_rfl) rfl #[.int .i64 (rd y201 ((rd_T67 l0 x13_1).f1)),.int .i64 (wrap64 ((rd l1 ((rd_T67 l0 x13_1).f0))+ ((rd_T67 l0 x13_1).f2)))] (by rfl) rfl rfl zq2 ?_
             with_reducible refine(spec_l1Least.calls (rd y201 ((rd_T67 l0 x13_1).f1)) (wrap64 ((rd l1 ((rd_T67 l0 x13_1).f0))+ ((rd_T67 l0 x13_1).f2))) t204 _ A18.out).mono ?_
             rintro e w' ⟨rfl,⟨nd,rfl⟩⟩
             refine⟨_,rfl,?_⟩
             have p19: 0≤ (((rd_T67 l0 x13_1).f1):Int):=of_decide_eq_true zq1
             have q19:(((rd_T67 l0 x13_1).f1):Int)< ((x5_1.length:Int):Int):=of_decide_eq_true zq1
             obtain⟨hx19_0,hf19_0⟩:=Kd.R_celln 0 HO_5.out (((rd_T67 l0 x13_1).f1):Int) p19 q19
             replace p19:=eq_true p19
             replace q19:=eq_true q19
             have HP28:=Kd.R_putn HO_5.out (((rd_T67 l0 x13_1).f1):Int) t204
             rw [← Ny205.out] at HP28
             have HQ28:=Aside0.mk HP28
             clear HP28
             refine hK.out _ _ ⟨(blk_cell BK197.out 0).trans rfl,(blk_cell BK197.out 1).trans rfl,(blk_cell BK197.out 2).trans rfl,hHeld.2.2.2.1,((HB.out.cell (World.block_lt_of_cell? w _ hw203_0)).trans hw203_0)⟩ (fun hHeld=>?_)
             clear hK K
             refine norm_ (a':=?_) ?_ ?_
             rotate_left
             ·show Act.put _ (some 51) _=_
              simp only [Act.put,List.setIfInBounds_toArray,List.set_cons_zero,List.set_cons_succ,i64_w,i32_w]
              rfl
             refine pure_ (i:=17) (N:=some 52) (v:=?_) (a':=?_) #[t',t',t',t',t',t',t',t',t',t',t',t',t',t',t',t',t',t',f'] rfl rfl (any_of HT_.out (by kernel_rfl)) (fun _ _ _ h=>h) (Or.inl ⟨by rfl,?_⟩) ?_ ?_
             rotate_left
             ·intro w'
              go_simp
              with_reducible rfl
             rotate_left
             ·simp only [Act.put,List.setIfInBounds_toArray,List.set_cons_zero,List.set_cons_succ,i64_w,i32_w]
              rfl
             refine last_ (i:=18) (N:=none) #[t',t',t',t',t',t',t',t',t',t',t',t',t',t',t',t',t',t',t'] rfl rfl (one_of HT_.out (by kernel_rfl)) (by decide) (fun K hK=>?_)
             refine skip_ (w1:=?_) (by rfl) rfl ?_ ?_
             rotate_left
             ·go_simp
              rfl
             refine hK.out _ _ ?_
             clear hK K
             refine done_ (done_of HT_.out (by kernel_rfl)) ?_
             try go_wp2
             go_roundg k1
             case measure=>have:=HK1.out;omega
             case rel=>exact⟨(y205),(wrap64 (x13_1+1)),(by first|rfl|(simp;done)|(simp [*];done)),H',⟨by have:=HK1.out;omega⟩,⟨by(with_reducible repeat(first|apply Kd.R_alloc|apply Kd.R_drewN|apply Kd.R_drew));exact HQ28.out⟩,⟨by repeat(first|(with_reducible first|exact HB.out|apply below_alloc|apply pw_below_drewN|apply below_drew1|refine below_set ?_ GB15.out|refine below_set ?_ GE197.out)|exact HB.out)⟩⟩
            ·rw [if_neg c17] at H
             exact absurd H (by simp)
           ·rw [if_neg c16] at H
            exact absurd H (by simp)
          ·rw [if_neg c13] at H
           exact absurd H (by simp)
         ·rw [if_neg c12] at H
          exact absurd H (by simp)
        ·rw [if_neg c11] at H
         exact absurd H (by simp)
       ·rw [if_neg c10] at H
        exact absurd H (by simp)
      ·rw [if_neg c9] at H
       exact absurd H (by simp)
     ·rw [if_neg c8] at H
      exact absurd H (by simp)
    ·rw [if_neg c7] at H
     have c7b0:decide (x13_1< (l0.length:Int))=false:=decide_eq_false c7
     clear c7
     obtain rfl:=Option.some.inj H
     go_wp2
     go_ret
     exact⟨_,by first|rfl|(simp [errW_none,errW_some]<;>rfl)|(simp [*,errW_none,errW_some]<;>rfl),by(with_reducible repeat(first|apply Kd.R_alloc|apply Kd.R_drewN|apply Kd.R_drew));exact HO_5.out,by repeat(first|(with_reducible first|exact HB.out|apply below_alloc|apply pw_below_drewN|apply below_drew1)|exact HB.out)⟩
 ·rw [if_neg c3] at H
  exact absurd H (by simp)
end Go.Proofs.Ytklecgkjoofipaa.P

namespace Go.Proofs.Ytklecgkjoofipaa.P
open Go.RowKit Go.Proofs.YtklecgkjoofipaaW.PrintWords Go.Proofs.YtklecgkjoofipaaW.PrintLast Go.Proofs.YtklecgkjoofipaaW.PrintMore
attribute [local go_sem] max2_int min2_int max_two min_two max_three min_three max_four min_four   -- for this text's walks alone
set_option linter.unusedVariables false
set_option linter.unusedSimpArgs false
mutual
def spec_l9Fars.l0:Nat→Int→List (S67)→Int→List Int→Int→Option (List Int)
 | 0,_,_,_,_,_=>none
 |k+1,x0,x1,x2,x7,x8=>if x8<x0 then(if x7.length< 17592186044416 then(spec_l9Fars.l0 k x0 x1 x2 (x7++ [100000]) (wrap64 (x8+1))) else(none)) else(if 0≤x2 then(if x2< (x7.length:Int) then(spec_l9Fars.l1 k x0 x1 (x7.set (x2:Int).toNat 0) 0) else(none)) else(none))
def spec_l9Fars.l1:Nat→Int→List (S67)→List Int→Int→Option (List Int)
 | 0,_,_,_,_=>none
 |k+1,x0,x1,x7,x9=>if x9<x0 then((spec_l9Relax.f k x1 x7).bind fun t210=>(spec_l9Fars.l1 k x0 x1 t210 (wrap64 (x9+1)))) else(some x7)
end
def spec_l9Fars.f (k:Nat) (a0:Int) (l1:List (S67)) (a2:Int):Option (List Int):=spec_l9Fars.l0 k a0 l1 a2 ([] :List Int) 0
set_option maxHeartbeats 8000000 in
set_option maxRecDepth 100000 in
theorem spec_l9Fars.calls (k:Nat) (a0:Int) (A1:Option Addr) (c1:Nat) (l1:List (S67)) (a2:Int) (r:List Int) (w:World) (hr1:Kd.C k67 w A1 l1.length l1) (hc1:l1.length≤c1) (h:spec_l9Fars.f k a0 l1 a2=some r):
  Calls Try.prog 53 #[.int .i64 a0,.slice A1 l1.length c1,.int .i64 a2] w fun e w'=> ∃ v0_:Value,e= .returned (v0_)∧Kd.R (Kd.int .i64) 3 w' w.heap.size (fun _=>True) v0_ r∧Below w.heap.size w w':=by
 have HR1:=Aside0.mk hr1
 have HC1:=Aside0.mk hc1
 clear hr1 hc1
 have HB:=Aside0.mk (Below.refl w.heap.size w)
 have H:(spec_l9Fars.l0 k a0 l1 a2 ([] :List Int) 0)=some r:=h
 clear h
 have H':=Aside0.mk H
 clear H
 go_enter Try.func53,Try.ntmps53
 go_wp2
 go_loopg [7,8] k (fun kq v7 v8 w'=> ∃ (x7_1:List Int) (x8_1:Int),v8= .int .i64 x8_1∧Aside0 (spec_l9Fars.l0 kq a0 l1 a2 x7_1 x8_1=some r)∧Aside0 (kq≤k)∧Aside0 (Kd.R (Kd.int .i64) 3 w' w.heap.size (fun _=>True) v7 x7_1)∧Aside0 (Below w.heap.size w w'))
 case atStart=>exact⟨(([] :List Int)),(0),(by first|rfl|(simp;done)|(simp [*];done)),H',⟨Nat.le_refl _⟩,⟨by first|exact Kd.R_nil _ _ _ _ _|exact Kd.N_nil _ _ _ _ _|exact Kd.V_nil _ _ _ _ _|exact Kd.Q_nil _ _ _ _ _|exact Kd.S_nil _ _ _ _ _⟩,⟨by repeat(first|(with_reducible first|exact HB.out|apply below_alloc|apply pw_below_drewN|apply below_drew1)|exact HB.out)⟩⟩
 case round=>
  clear H'
  try clear c1
  try clear p2
  obtain⟨x7_1,x8_1,rfl,HA,HK1,HO_7,HB⟩:=hrel
  cases gk with
  |zero=>exact absurd HA.out (by simp [spec_l9Fars.l0])
  |succ k1=>
   have H:=HA.out
   clear HA
   simp only [spec_l9Fars.l0] at H
   by_cases c4:x8_1<a0
   ·rw [if_pos c4] at H
    have c4b0:decide (x8_1<a0)=true:=decide_eq_true c4
    clear c4
    by_cases c5:x7_1.length< 17592186044416
    ·rw [if_pos c5] at H
     have LMc5:=Aside0.mk c5
     clear c5
     obtain⟨y206,hy206⟩ :∃ y_:List Int,y_= (x7_1++ [100000]):=⟨_,rfl⟩
     replace H:(spec_l9Fars.l0 k1 a0 l1 a2 y206 (wrap64 (x8_1+1)))=some r:=by first|(rw [hy206];with_reducible exact H)|(have H2_:=(Option.bind_some _ _).symm.trans H;rw [hy206];with_reducible exact H2_)|(have H2_:=(Option.bind_some _ _).symm.trans H;with_reducible exact H2_)|with_reducible exact H|(rw [hy206];exact H)|exact H
     have Ny206:=Aside0.mk hy206
     clear hy206
     have H':=Aside0.mk H
     clear H
     go_wp2_with (first|((with_reducible refine gate_builtin (b:= .append) (xs:= #[.tmp 15,.tmp 16]) rfl ?_);at_builtin;refine Kd.R_append (Kd.int .i64) (w0:=w) w.heap.size rfl (.tmp 15) (.tmp 16) 23 3 (.int .i64 0) 8 rfl Try.underlying23 info3 rfl (by decide) (by omega) u7 x7_1 100000 [.int .i64 100000] (fun _=>True) (fun _=>False) rfl rfl ?aP (fun _ hk=>hk.elim) ?aF ?aO ?aB ?aS ?aL ?_;(case aP=>exact rfl);(case aB=>exact(zb0 HB));(case aF=>exact(fun _ _=>trivial));(case aO=>exact(zq4 HO_7));(case aS=>exact(below_size (zb0 HB)));(case aL=>have:=LMc5.out;omega);intro v207 w6 ho hb hg hat;rw [← Ny206.out] at ho;have n0_:=Aside0.mk (hb);have n1_:=Aside0.mk (ho);clear HB;clear HO_7;have HB:=n0_;have HO208:=n1_;clear n0_ n1_;clear ho hb hg hat))
     go_roundg k1
     case measure=>have:=HK1.out;omega
     case rel=>exact⟨(y206),(wrap64 (x8_1+1)),(by first|rfl|(simp;done)|(simp [*];done)),H',⟨by have:=HK1.out;omega⟩,⟨by(with_reducible repeat(first|apply Kd.R_alloc|apply Kd.R_drewN|apply Kd.R_drew));exact HO208.out⟩,⟨by repeat(first|(with_reducible first|exact HB.out|apply below_alloc|apply pw_below_drewN|apply below_drew1)|exact HB.out)⟩⟩
    ·rw [if_neg c5] at H
     exact absurd H (by simp)
   ·rw [if_neg c4] at H
    have c4b0:decide (x8_1<a0)=false:=decide_eq_false c4
    clear c4
    by_cases c7: 0≤a2
    ·rw [if_pos c7] at H
     have c7b0:decide (0≤a2)=true:=decide_eq_true c7
     clear c7
     by_cases c8:a2< (x7_1.length:Int)
     ·rw [if_pos c8] at H
      have c8b0:decide (a2< (x7_1.length:Int))=true:=decide_eq_true c8
      clear c8
      obtain⟨y209,hy209⟩ :∃ y_:List Int,y_= (x7_1.set (a2:Int).toNat 0):=⟨_,rfl⟩
      replace H:(spec_l9Fars.l1 k1 a0 l1 y209 0)=some r:=by first|(rw [hy209];with_reducible exact H)|(have H2_:=(Option.bind_some _ _).symm.trans H;rw [hy209];with_reducible exact H2_)|(have H2_:=(Option.bind_some _ _).symm.trans H;with_reducible exact H2_)|with_reducible exact H|(rw [hy209];exact H)|exact H
      have Ny209:=Aside0.mk hy209
      clear hy209
      have H':=Aside0.mk H
      clear H
      have p9: 0≤ (a2:Int):=of_decide_eq_true zq1
      have q9:(a2:Int)< ((x7_1.length:Int):Int):=of_decide_eq_true zq1
      obtain⟨go9,co9,eo9,gb9,gl9,cl9,HG9⟩:=Kd.R_form HO_7.out (by omega)
      (first|cases eo9|(injection eo9 with ea_ en_ ec_;(first|subst ea_|(injection ea_ with ea_;subst ea_));subst ec_;clear en_))
      have GB9:=Aside0.mk gb9
      have GG9:=Aside0.mk HG9
      clear gb9 gl9 HG9
      obtain⟨hx9_0,hf9_0⟩:=Kd.R_celln 0 HO_7.out (a2:Int) p9 q9
      replace p9:=eq_true p9
      replace q9:=eq_true q9
      have HP10:=Kd.R_putg HO_7.out (a2:Int) 0
      go_wp2_with (first|((with_reducible refine gate_store (t:=3) (p:=20) rfl ?_);refine store_event (t:=3) (p:=20) (v:=?vo_w11) (w1:=(wr.setCell ⟨go9,(a2:Int).toNat,none⟩ (.int .i64 0))) ?hg ?ho ?hn ?hr ?_;(case ho=>rfl);(case hg=>rfl);(case hn=>rfl);(case hr=>first|(go_simp;done)|(go_simp;rfl));intro w11 hw;have hg:wr.grownBy w11 (some go9):=(by rw [hw];exact HP10.2);have hp_:Kd.R (Kd.int .i64) 3 w11 w.heap.size (fun _=>True) (.slice (some ⟨go9,0,none⟩) x7_1.length co9) y209:=(by rw [hw,Ny209.out];exact HP10.1);clear HP10;have n0_:=Aside0.mk (hp_);have n1_:=Aside0.mk ((by rw [hw];exact below_set (HB.out) GB9.out:Below w.heap.size w w11));clear HO_7;clear HB;have HO_7:=n0_;have HB:=n1_;clear n0_ n1_;clear hg hw hp_))
      go_loopg [7,9] k1 (fun kq v7 v9 w'=> ∃ (x7_2:List Int) (x9_2:Int),v9= .int .i64 x9_2∧Aside0 (spec_l9Fars.l1 kq a0 l1 x7_2 x9_2=some r)∧Aside0 (kq≤k1)∧Aside0 (Kd.R (Kd.int .i64) 3 w' w.heap.size (fun _=>True) v7 x7_2)∧Aside0 (Below w.heap.size w w'))
      case atStart=>exact⟨(y209),(0),(by first|rfl|(simp;done)|(simp [*];done)),H',⟨Nat.le_refl _⟩,⟨by(with_reducible repeat(first|apply Kd.R_alloc|apply Kd.R_drewN|apply Kd.R_drew));exact HO_7.out⟩,⟨by repeat(first|(with_reducible first|exact HB.out|apply below_alloc|apply pw_below_drewN|apply below_drew1)|exact HB.out)⟩⟩
      case round=>
       clear H'
       try clear c1
       try clear p2
       try clear c4
       try clear c4b0
       try clear c5
       try clear p6
       try clear c7
       try clear c7b0
       try clear c8
       try clear c8b0
       try clear p9
       try clear q9
       try clear hx9
       try clear hf9
       try clear hx9_0
       try clear p2
       try clear p9
       try clear q9
       obtain⟨x7_2,x9_2,rfl,HA,HK2,HO_7,HB⟩:=hrel
       cases gk with
       |zero=>exact absurd HA.out (by simp [spec_l9Fars.l1])
       |succ k2=>
        have H:=HA.out
        clear HA
        simp only [spec_l9Fars.l1] at H
        by_cases c12:x9_2<a0
        ·rw [if_pos c12] at H
         have c12b0:decide (x9_2<a0)=true:=decide_eq_true c12
         clear c12
         replace H:=Option.bind_eq_some_iff.mp H
         obtain⟨t210,A130,H⟩:=H
         replace H:(spec_l9Fars.l1 k2 a0 l1 t210 (wrap64 (x9_2+1)))=some r:=H
         have A13:=Aside0.mk A130
         clear A130
         have H':=Aside0.mk H
         clear H
         obtain⟨Ao14,co14,eo14⟩:=Kd.R_slice HO_7.out
         subst eo14
         go_wp2_with (first|((with_reducible refine gate_callee (f:=56) rfl ?_);refine goesL_ (some 28) rfl rfl Try.func56 (by kernel_rfl) rfl #[.slice A1 l1.length c1,.slice Ao14 x7_2.length co14] rfl zq2 ?_;(with_reducible refine(spec_l9Relax.calls k2 _ _ l1 _ _ x7_2 t210 _ ?side1 ?side2 ?side3 ?side4 A13.out).mono ?_);(case side1=>repeat(first|exact(Kd.C_below HR1.out HB.out)|(with_reducible refine Kd.C_alloc ?_ _)|(with_reducible refine Kd.C_drewN ?_ _)|(with_reducible refine Kd.C_drew ?_)));(case side2=>exact HC1.out);(case side3=>repeat(first|exact(Kd.R_reads' HO_7.out).2.2|(with_reducible refine Kd.C_alloc ?_ _)|(with_reducible refine Kd.C_drewN ?_ _)|(with_reducible refine Kd.C_drew ?_)));(case side4=>exact(Kd.R_reads' HO_7.out).2.1);rintro e w15 ⟨v211,rfl,ho0,hb⟩;refine⟨_,rfl,?_⟩;have n0_:=Aside0.mk (Kd.R_elder' (zq4 HO_7) (Kd.R_base ho0) hb);have n1_:=Aside0.mk (Kd.R_lower (Kd.R_new' ho0 (Kd.R_lt (zq4 HO_7))) (below_size (zb0 HB)));have n2_:=Aside0.mk (below_step (zb0 HB) hb);clear HO_7;clear HB;have HO_7:=n0_;have HO212:=n1_;have HB:=n2_;clear n0_ n1_ n2_;(try clear hb);(try clear hb2);(try clear hk);(try clear hi);(try clear ho0)))
         go_roundg k2
         case measure=>have:=HK1.out;have:=HK2.out;omega
         case rel=>exact⟨(t210),(wrap64 (x9_2+1)),(by first|rfl|(simp;done)|(simp [*];done)),H',⟨by have:=HK1.out;have:=HK2.out;omega⟩,⟨by(with_reducible repeat(first|apply Kd.R_alloc|apply Kd.R_drewN|apply Kd.R_drew));exact Kd.R_mono HO212.out (fun _ hk=>trivial)⟩,⟨by repeat(first|(with_reducible first|exact HB.out|apply below_alloc|apply pw_below_drewN|apply below_drew1)|exact HB.out)⟩⟩
        ·rw [if_neg c12] at H
         have c12b0:decide (x9_2<a0)=false:=decide_eq_false c12
         clear c12
         obtain rfl:=Option.some.inj H
         go_wp2
         go_ret
         exact⟨_,by first|rfl|(simp [errW_none,errW_some]<;>rfl)|(simp [*,errW_none,errW_some]<;>rfl),by(with_reducible repeat(first|apply Kd.R_alloc|apply Kd.R_drewN|apply Kd.R_drew));exact HO_7.out,by repeat(first|(with_reducible first|exact HB.out|apply below_alloc|apply pw_below_drewN|apply below_drew1)|exact HB.out)⟩
     ·rw [if_neg c8] at H
      exact absurd H (by simp)
    ·rw [if_neg c7] at H
     exact absurd H (by simp)
end Go.Proofs.Ytklecgkjoofipaa.P

namespace Go.Proofs.Ytklecgkjoofipaa.P
open Go.RowKit Go.Proofs.YtklecgkjoofipaaW.PrintWords Go.Proofs.YtklecgkjoofipaaW.PrintLast Go.Proofs.YtklecgkjoofipaaW.PrintMore
attribute [local go_sem] max2_int min2_int max_two min_two max_three min_three max_four min_four   -- for this text's walks alone
set_option linter.unusedVariables false
set_option linter.unusedSimpArgs false
def impl_relaxed.l0:Nat→List Int→List Int→List (S67)→Int→Int→Option (List Int)
 | 0,_,_,_,_,_=>none
 |k+1,x1,x5,x11,x12,x13=>if x13<x12 then(if 0≤x13 then(if x13< (x11.length:Int) then(if 0≤ ((rd_T67 x11 x13).f0) then(if ((rd_T67 x11 x13).f0)< (x5.length:Int) then(if 0≤ ((rd_T67 x11 x13).f1) then(if ((rd_T67 x11 x13).f1)< (x1.length:Int) then((some (x5.set (((rd_T67 x11 x13).f0):Int).toNat (mn (rd x5 ((rd_T67 x11 x13).f0)) (wrap64 ((rd x1 ((rd_T67 x11 x13).f1))+ ((rd_T67 x11 x13).f2)))):List Int)).bind fun y228=>(if ((rd_T67 x11 x13).f1)< (x5.length:Int) then(if ((rd_T67 x11 x13).f0)< (x1.length:Int) then(impl_relaxed.l0 k x1 (y228.set (((rd_T67 x11 x13).f1):Int).toNat (mn (rd y228 ((rd_T67 x11 x13).f1)) (wrap64 ((rd x1 ((rd_T67 x11 x13).f0))+ ((rd_T67 x11 x13).f2))))) x11 x12 (wrap64 (x13+1))) else(none)) else(none))) else(none)) else(none)) else(none)) else(none)) else(none)) else(none)) else(some x5)
def impl_relaxed.f (k:Nat) (l0:List (S67)) (l1:List Int):Option (List Int):=(some (([] :List Int):List Int)).bind fun y218=>(if y218.length+l1.length< 17592186044416 then(impl_relaxed.l0 k l1 (y218++l1) l0 (l0.length:Int) 0) else(none))
def impl_relaxed.T5:Bool × List (List Nat × List Nat):=(true,[([],[]),([],[]),([1],[1]),([],[]),([],[]),([4],[4]),([3,5],[3,5]),([6],[6]),([],[]),([],[]),([9],[9]),([8,10],[8,10]),([11],[11]),([],[]),([13],[13]),([12,14],[12,14]),([7,15],[7,15]),([0,2,0,1,2,3,4,5,6,7,8,9,10,11,12,13,14,15,16],[0,2]),([17,16,0,1,2,3,4,5,6,7,8,9,10,11,12,13,14,15,16],[16,17])])
def impl_relaxed.B5:List Nat:= [0,0,2,0,0,16,56,120,0,0,512,1792,3840,0,8192,32512,65528,131071,262143]
theorem impl_relaxed.tab5:rtab .any (opsOf Try.f58 5)=impl_relaxed.T5:=by kernel_rfl
theorem impl_relaxed.bits5:waitsOk impl_relaxed.T5.2 impl_relaxed.B5=true:=by kernel_rfl
def impl_relaxed.T6:Bool × List (List Nat × List Nat):=(true,[([],[]),([],[]),([1],[1]),([],[]),([],[]),([4],[4]),([3,5],[3,5]),([6],[6]),([],[]),([],[]),([9],[9]),([8,10],[8,10]),([11],[11]),([],[]),([13],[13]),([12,14],[12,14]),([7,15],[7,15]),([0,2,0,1,2,3,4,5,6,7,8,9,10,11,12,13,14,15,16],[0,2]),([17,16,0,1,2,3,4,5,6,7,8,9,10,11,12,13,14,15,16],[16,17])])
def impl_relaxed.B6:List Nat:= [0,0,2,0,0,16,56,120,0,0,512,1792,3840,0,8192,32512,65528,131071,262143]
theorem impl_relaxed.tab6:rtab .any (opsOf Try.f58 6)=impl_relaxed.T6:=by kernel_rfl
theorem impl_relaxed.bits6:waitsOk impl_relaxed.T6.2 impl_relaxed.B6=true:=by kernel_rfl
set_option maxHeartbeats 8000000 in
set_option maxRecDepth 100000 in
theorem impl_relaxed.calls (k:Nat) (A0:Option Addr) (c0:Nat) (l0:List (S67)) (A1:Option Addr) (c1:Nat) (l1:List Int) (r:List Int) (w:World) (hr0:Kd.C k67 w A0 l0.length l0) (hc0:l0.length≤c0) (hr1:Kd.C (Kd.int .i64) w A1 l1.length l1) (hc1:l1.length≤c1) (h:impl_relaxed.f k l0 l1=some r):
  Calls Try.prog 58 #[.slice A0 l0.length c0,.slice A1 l1.length c1] w fun e w'=> ∃ v0_:Value,e= .returned (v0_)∧Kd.R (Kd.int .i64) 3 w' w.heap.size (fun _=>True) v0_ r∧Below w.heap.size w w':=by
 have hu67:=Try.underlying67
 have HR0:=Aside0.mk hr0
 have HC0:=Aside0.mk hc0
 clear hr0 hc0
 have HR1:=Aside0.mk hr1
 have HC1:=Aside0.mk hc1
 clear hr1 hc1
 have HB:=Aside0.mk (Below.refl w.heap.size w)
 have H:((some (([] :List Int):List Int)).bind fun y218=>(if y218.length+l1.length< 17592186044416 then(impl_relaxed.l0 k l1 (y218++l1) l0 (l0.length:Int) 0) else(none)))=some r:=h
 clear h
 obtain⟨y218,hy218⟩ :∃ y_:List Int,y_= (([] :List Int)):=⟨_,rfl⟩
 replace H:(if y218.length+l1.length< 17592186044416 then(impl_relaxed.l0 k l1 (y218++l1) l0 (l0.length:Int) 0) else(none))=some r:=by first|(rw [hy218];with_reducible exact H)|(have H2_:=(Option.bind_some _ _).symm.trans H;rw [hy218];with_reducible exact H2_)|(have H2_:=(Option.bind_some _ _).symm.trans H;with_reducible exact H2_)|with_reducible exact H|(rw [hy218];exact H)|exact H
 have Ny218:=Aside0.mk hy218
 clear hy218
 by_cases c3:y218.length+l1.length< 17592186044416
 ·rw [if_pos c3] at H
  have LMc3:=Aside0.mk c3
  clear c3
  obtain⟨y221,hy221⟩ :∃ y_:List Int,y_= (y218++l1):=⟨_,rfl⟩
  replace H:(impl_relaxed.l0 k l1 y221 l0 (l0.length:Int) 0)=some r:=by first|(rw [hy221];with_reducible exact H)|(have H2_:=(Option.bind_some _ _).symm.trans H;rw [hy221];with_reducible exact H2_)|(have H2_:=(Option.bind_some _ _).symm.trans H;with_reducible exact H2_)|with_reducible exact H|(rw [hy221];exact H)|exact H
  have Ny221:=Aside0.mk hy221
  clear hy221
  have H':=Aside0.mk H
  clear H
  go_enter Try.func58,Try.ntmps58
  go_wp2_with (first|((with_reducible refine gate_dst (N:=8) rfl ?_);refine Kd.R_lit (Kd.int .i64) _ 3 ?hg (N:=8) ?hd (xs:=([] :List Int)) (inner:= []) (ok:=fun _=>True) (okp:=fun _=>True) ?hr ?hp (fun _ hk=>hk) trivial (Below.refl _ _) (Nat.le_refl _) (by simp) ?_;(case hd=>rfl);(case hg=>rfl);(case hr=>first|(go_simp;done)|(go_simp;rfl));(case hp=>exact(Reps.none _ _));intro v219 w4 ho5 hb hg_ hnew_;clear hg_ hnew_;(first|rw [← Ny218.out] at ho5|(simp only [Int.reduceToNat] at ho5;rw [← Ny218.out] at ho5));have n0_:=Aside0.mk (Kd.R_lower ho5 (below_size (zb0 HB)));have n1_:=Aside0.mk (below_step (zb0 HB) hb);clear HB;have HO220:=n0_;have HB:=n1_;clear n0_ n1_;clear hb ho5)|((with_reducible refine gate_builtin (b:= .append) (xs:= #[.tmp 8,.tmp 9]) rfl ?_);at_builtin;refine Kd.R_append_rows (Kd.int .i64) (w0:=w) w.heap.size rfl (.tmp 8) (.tmp 9) 23 3 (.int .i64 0) 8 rfl Try.underlying23 info3 rfl (by decide) (by omega) v219 y218 l1 _ _ _ (fun _=>True) (fun _=>False) rfl rfl ?aO ?aR (fun _ _ h=>h) (fun _ h=>h.elim) ?aF ?aB ?aS ?aL ?_;(case aR=>repeat(first|exact(Kd.C_below HR1.out HB.out)|(with_reducible refine Kd.C_alloc ?_ _)|(with_reducible refine Kd.C_drewN ?_ _)|(with_reducible refine Kd.C_drew ?_)));(case aB=>exact(zb0 HB));(case aF=>exact(fun _ _=>trivial));(case aO=>exact(zq4 HO220));(case aS=>exact(below_size (zb0 HB)));(case aL=>have:=LMc3.out;omega);intro v222 w6 ho hb hg hat;rw [← Ny221.out] at ho;have n0_:=Aside0.mk (hb);have n1_:=Aside0.mk (ho);clear HB;clear HO220;have HB:=n0_;have HO223:=n1_;clear n0_ n1_;clear ho hb hg hat))
  go_loopg [13] k (fun kq v13 w'=> ∃ (x5_1:List Int) (x13_1:Int),v13= .int .i64 x13_1∧Aside0 (impl_relaxed.l0 kq l1 x5_1 l0 (l0.length:Int) x13_1=some r)∧Aside0 (kq≤k)∧Aside0 (Kd.R (Kd.int .i64) 3 w' w.heap.size (fun _=>True) v222 x5_1)∧Aside0 (Below w.heap.size w w'))
  case atStart=>exact⟨(y221),(0),(by first|rfl|(simp;done)|(simp [*];done)),H',⟨Nat.le_refl _⟩,⟨by(with_reducible repeat(first|apply Kd.R_alloc|apply Kd.R_drewN|apply Kd.R_drew));exact HO223.out⟩,⟨by repeat(first|(with_reducible first|exact HB.out|apply below_alloc|apply pw_below_drewN|apply below_drew1)|exact HB.out)⟩⟩
  case round=>
   clear H'
   try clear c1
   try clear p2
   try clear c3
   try clear c5
   obtain⟨x5_1,x13_1,rfl,HA,HK1,HO_5,HB⟩:=hrel
   cases gk with
   |zero=>exact absurd HA.out (by simp [impl_relaxed.l0])
   |succ k1=>
    have H:=HA.out
    clear HA
    simp only [impl_relaxed.l0] at H
    by_cases c7:x13_1< (l0.length:Int)
    ·rw [if_pos c7] at H
     have c7b0:decide (x13_1< (l0.length:Int))=true:=decide_eq_true c7
     clear c7
     by_cases c8: 0≤x13_1
     ·rw [if_pos c8] at H
      have c8b0:decide (0≤x13_1)=true:=decide_eq_true c8
      clear c8
      by_cases c9:x13_1< (l0.length:Int)
      ·rw [if_pos c9] at H
       have c9b0:decide (x13_1< (l0.length:Int))=true:=decide_eq_true c9
       clear c9
       by_cases c10: 0≤ ((rd_T67 l0 x13_1).f0)
       ·rw [if_pos c10] at H
        have c10b0:decide (0≤ ((rd_T67 l0 x13_1).f0))=true:=decide_eq_true c10
        clear c10
        by_cases c11:((rd_T67 l0 x13_1).f0)< (x5_1.length:Int)
        ·rw [if_pos c11] at H
         have c11b0:decide (((rd_T67 l0 x13_1).f0)< (x5_1.length:Int))=true:=decide_eq_true c11
         clear c11
         by_cases c12: 0≤ ((rd_T67 l0 x13_1).f1)
         ·rw [if_pos c12] at H
          have c12b0:decide (0≤ ((rd_T67 l0 x13_1).f1))=true:=decide_eq_true c12
          clear c12
          by_cases c13:((rd_T67 l0 x13_1).f1)< (l1.length:Int)
          ·rw [if_pos c13] at H
           have c13b0:decide (((rd_T67 l0 x13_1).f1)< (l1.length:Int))=true:=decide_eq_true c13
           clear c13
           obtain⟨ji14,hji14⟩ :∃ j_:Int,(mn (rd x5_1 ((rd_T67 l0 x13_1).f0)) (wrap64 ((rd l1 ((rd_T67 l0 x13_1).f1))+ ((rd_T67 l0 x13_1).f2))))=j_:=⟨_,rfl⟩
           replace H:((some (x5_1.set (((rd_T67 l0 x13_1).f0):Int).toNat (ji14):List Int)).bind fun y228=>(if ((rd_T67 l0 x13_1).f1)< (x5_1.length:Int) then(if ((rd_T67 l0 x13_1).f0)< (l1.length:Int) then(impl_relaxed.l0 k1 l1 (y228.set (((rd_T67 l0 x13_1).f1):Int).toNat (mn (rd y228 ((rd_T67 l0 x13_1).f1)) (wrap64 ((rd l1 ((rd_T67 l0 x13_1).f0))+ ((rd_T67 l0 x13_1).f2))))) l0 (l0.length:Int) (wrap64 (x13_1+1))) else(none)) else(none)))=some r:=by first|(rw [hji14] at H;exact H)|(simp only [hji14] at H ⊢;exact H)
           have hji14_:(if (wrap64 ((rd l1 ((rd_T67 l0 x13_1).f1))+ ((rd_T67 l0 x13_1).f2)))< (rd x5_1 ((rd_T67 l0 x13_1).f0)) then(wrap64 ((rd l1 ((rd_T67 l0 x13_1).f1))+ ((rd_T67 l0 x13_1).f2))) else(rd x5_1 ((rd_T67 l0 x13_1).f0)))=ji14:=hji14
           obtain⟨y228,hy228⟩ :∃ y_:List Int,y_= (x5_1.set (((rd_T67 l0 x13_1).f0):Int).toNat (ji14)):=⟨_,rfl⟩
           replace H:(if ((rd_T67 l0 x13_1).f1)< (x5_1.length:Int) then(if ((rd_T67 l0 x13_1).f0)< (l1.length:Int) then(impl_relaxed.l0 k1 l1 (y228.set (((rd_T67 l0 x13_1).f1):Int).toNat (mn (rd y228 ((rd_T67 l0 x13_1).f1)) (wrap64 ((rd l1 ((rd_T67 l0 x13_1).f0))+ ((rd_T67 l0 x13_1).f2))))) l0 (l0.length:Int) (wrap64 (x13_1+1))) else(none)) else(none))=some r:=by first|(rw [hy228];with_reducible exact H)|(have H2_:=(Option.bind_some _ _).symm.trans H;rw [hy228];with_reducible exact H2_)|(have H2_:=(Option.bind_some _ _).symm.trans H;with_reducible exact H2_)|with_reducible exact H|(rw [hy228];exact H)|exact H
           have Ny228:=Aside0.mk hy228
           clear hy228
           by_cases c16:((rd_T67 l0 x13_1).f1)< (x5_1.length:Int)
           ·rw [if_pos c16] at H
            have c16b0:decide (((rd_T67 l0 x13_1).f1)< (x5_1.length:Int))=true:=decide_eq_true c16
            clear c16
            by_cases c17:((rd_T67 l0 x13_1).f0)< (l1.length:Int)
            ·rw [if_pos c17] at H
             have c17b0:decide (((rd_T67 l0 x13_1).f0)< (l1.length:Int))=true:=decide_eq_true c17
             clear c17
             obtain⟨ji18,hji18⟩ :∃ j_:Int,(mn (rd y228 ((rd_T67 l0 x13_1).f1)) (wrap64 ((rd l1 ((rd_T67 l0 x13_1).f0))+ ((rd_T67 l0 x13_1).f2))))=j_:=⟨_,rfl⟩
             replace H:(impl_relaxed.l0 k1 l1 (y228.set (((rd_T67 l0 x13_1).f1):Int).toNat (ji18)) l0 (l0.length:Int) (wrap64 (x13_1+1)))=some r:=by first|(rw [hji18] at H;exact H)|(simp only [hji18] at H ⊢;exact H)
             have hji18_:(if (wrap64 ((rd l1 ((rd_T67 l0 x13_1).f0))+ ((rd_T67 l0 x13_1).f2)))< (rd y228 ((rd_T67 l0 x13_1).f1)) then(wrap64 ((rd l1 ((rd_T67 l0 x13_1).f0))+ ((rd_T67 l0 x13_1).f2))) else(rd y228 ((rd_T67 l0 x13_1).f1)))=ji18:=hji18
             obtain⟨y231,hy231⟩ :∃ y_:List Int,y_= (y228.set (((rd_T67 l0 x13_1).f1):Int).toNat (ji18)):=⟨_,rfl⟩
             replace H:(impl_relaxed.l0 k1 l1 y231 l0 (l0.length:Int) (wrap64 (x13_1+1)))=some r:=by first|(rw [hy231];with_reducible exact H)|(have H2_:=(Option.bind_some _ _).symm.trans H;rw [hy231];with_reducible exact H2_)|(have H2_:=(Option.bind_some _ _).symm.trans H;with_reducible exact H2_)|with_reducible exact H|(rw [hy231];exact H)|exact H
             have Ny231:=Aside0.mk hy231
             clear hy231
             have H':=Aside0.mk H
             clear H
             have p224: 0≤ (x13_1:Int):=of_decide_eq_true zq1
             have q224:x13_1< (l0.length:Int):=of_decide_eq_true zq1
             obtain⟨ad224,e224,hx224_0,hx224_1,hx224_2⟩:=at_T67 HR0.out x13_1 p224 q224
             cases e224
             replace hx224_0:=(HB.out.cell (World.block_lt_of_cell? w _ hx224_0)).trans hx224_0
             replace hx224_1:=(HB.out.cell (World.block_lt_of_cell? w _ hx224_1)).trans hx224_1
             replace hx224_2:=(HB.out.cell (World.block_lt_of_cell? w _ hx224_2)).trans hx224_2
             replace p224:=eq_true p224
             replace q224:=eq_true q224
             try go_wp2_with (first|((with_reducible refine gate_dst (N:=7) rfl ?_);refine box_event ?hg (N:=7) ?hd (cs:= #[.int .i64 0,.int .i64 0,.int .i64 0]) (t:=67) ?hr ?_;(case hd=>rfl);(case hg=>rfl);(case hr=>first|(go_simp;done)|(go_simp;rfl));intro gb225 hg w20 hbox hb;have n0_:=Aside0.mk (Kd.R_below (zq4 HO_5) hb);have n1_:=Aside0.mk (below_step (zb0 HB) hb);have n2_:=Aside0.mk (hbox);have n3_:=Aside0.mk ((by rw [hg];exact(below_size (zb0 HB)):w.heap.size≤gb225));have n4_:=Aside0.mk ((by rw [hg];exact(below_size (zb0 HB)):w.heap.size≤gb225));clear HO_5;clear HB;have HO_5:=n0_;have HB:=n1_;have BK225:=n2_;have GW225:=n3_;have GE225:=n4_;clear n0_ n1_ n2_ n3_ n4_;clear hb hbox hg;have hcz21_0:w20.cell? ⟨gb225,0,none⟩=some (.int .i64 0):=(blk_cell BK225.out 0).trans rfl;have hcz21_1:w20.cell? ⟨gb225,1,none⟩=some (.int .i64 0):=(blk_cell BK225.out 1).trans rfl;have hcz21_2:w20.cell? ⟨gb225,2,none⟩=some (.int .i64 0):=(blk_cell BK225.out 2).trans rfl;have hfz21_0:=blk_frozen BK225.out 0;have hfz21_1:=blk_frozen BK225.out 1;have hfz21_2:=blk_frozen BK225.out 2))
             have n0_:Aside0 (Kd.R (Kd.int .i64) 3 (((w20.setCell ⟨gb225,0,none⟩ (.int .i64 ((rd_T67 l0 x13_1).f0))).setCell ⟨gb225,1,none⟩ (.int .i64 ((rd_T67 l0 x13_1).f1))).setCell ⟨gb225,2,none⟩ (.int .i64 ((rd_T67 l0 x13_1).f2))) w.heap.size (fun _=>True) v222 x5_1):=⟨by(with_reducible repeat(first|apply Kd.R_alloc|apply Kd.R_drewN|apply Kd.R_drew));exact Kd.R_mono (Kd.R_far (p:=⟨gb225,2,none⟩) (Kd.R_far (p:=⟨gb225,1,none⟩) (Kd.R_far (p:=⟨gb225,0,none⟩) (Kd.R_types HO_5.out BK225.out (by decide)) (fun _ hk=>hk.2) (.int .i64 ((rd_T67 l0 x13_1).f0))) (fun _ hk=>hk.2) (.int .i64 ((rd_T67 l0 x13_1).f1))) (fun _ hk=>hk.2) (.int .i64 ((rd_T67 l0 x13_1).f2))) (fun _ hk=>trivial)⟩
             have n1_:Aside0 ((((w20.setCell ⟨gb225,0,none⟩ (.int .i64 ((rd_T67 l0 x13_1).f0))).setCell ⟨gb225,1,none⟩ (.int .i64 ((rd_T67 l0 x13_1).f1))).setCell ⟨gb225,2,none⟩ (.int .i64 ((rd_T67 l0 x13_1).f2))).heap[gb225]?=some (.cells #[.int .i64 ((rd_T67 l0 x13_1).f0),.int .i64 ((rd_T67 l0 x13_1).f1),.int .i64 ((rd_T67 l0 x13_1).f2)] 67 (0,0))):=⟨by(with_reducible repeat(first|refine blk_drewN ?_ _|refine blk_drew ?_ |refine blk_alloc ?_ _));refine blk_put (cs:= #[.int .i64 ((rd_T67 l0 x13_1).f0),.int .i64 ((rd_T67 l0 x13_1).f1),.int .i64 0]) ?_ 2 _ rfl;(with_reducible repeat(first|refine blk_drewN ?_ _|refine blk_drew ?_ |refine blk_alloc ?_ _));refine blk_put (cs:= #[.int .i64 ((rd_T67 l0 x13_1).f0),.int .i64 0,.int .i64 0]) ?_ 1 _ rfl;(with_reducible repeat(first|refine blk_drewN ?_ _|refine blk_drew ?_ |refine blk_alloc ?_ _));refine blk_put (cs:= #[.int .i64 0,.int .i64 0,.int .i64 0]) ?_ 0 _ rfl;(with_reducible repeat(first|refine blk_drewN ?_ _|refine blk_drew ?_ |refine blk_alloc ?_ _));exact BK225.out⟩
             have n2_:Aside0 (Below w.heap.size w (((w20.setCell ⟨gb225,0,none⟩ (.int .i64 ((rd_T67 l0 x13_1).f0))).setCell ⟨gb225,1,none⟩ (.int .i64 ((rd_T67 l0 x13_1).f1))).setCell ⟨gb225,2,none⟩ (.int .i64 ((rd_T67 l0 x13_1).f2)))):=⟨by repeat(first|(with_reducible first|exact HB.out|apply below_alloc|apply pw_below_drewN|apply below_drew1|refine below_set ?_ GE225.out)|exact HB.out)⟩
             (try clear HO_5)
             (try clear BK225)
             (try clear HB)
             (try simp only [show ∀ (W_:World) (n_:Nat) (a_:Addr) (v_:Value),(World.drewN W_ n_).setCell a_ v_= (World.setCell W_ a_ v_).drewN n_ from fun _ _ _ _=>rfl])
             generalize (((w20.setCell ⟨gb225,0,none⟩ (.int .i64 ((rd_T67 l0 x13_1).f0))).setCell ⟨gb225,1,none⟩ (.int .i64 ((rd_T67 l0 x13_1).f1))).setCell ⟨gb225,2,none⟩ (.int .i64 ((rd_T67 l0 x13_1).f2)))=w22 at n0_ n1_ n2_ ⊢
             have HO_5:=n0_
             have BK225:=n1_
             have HB:=n2_
             clear n0_ n1_ n2_
             have n0_:=Aside0.mk (Kd.R_drew HO_5.out)
             have n1_:=Aside0.mk (blk_drew BK225.out)
             have n2_:=Aside0.mk (below_drew1 HB.out)
             clear HO_5
             clear BK225
             clear HB
             have HO_5:=n0_
             have BK225:=n1_
             have HB:=n2_
             clear n0_ n1_ n2_
             obtain⟨Ao24,co24,eo24⟩:=Kd.R_slice HO_5.out
             (first|subst eo24|(injection eo24 with f1_ f2_ f3_;have f4_:=f1_.symm;have f5_:=f3_.symm;clear f1_ f2_ f3_;subst f4_;subst f5_))
             have p226: 0≤ (((rd_T67 l0 x13_1).f0):Int):=of_decide_eq_true zq1
             have q226:((rd_T67 l0 x13_1).f0)< (x5_1.length:Int):=of_decide_eq_true zq1
             obtain⟨ad226,e226,hx226_0⟩:=Kd.at_int (Kd.R_reads' HO_5.out).2.2 ((rd_T67 l0 x13_1).f0) p226 q226
             cases e226
             replace p226:=eq_true p226
             replace q226:=eq_true q226
             have p227: 0≤ (((rd_T67 l0 x13_1).f1):Int):=of_decide_eq_true zq1
             have q227:((rd_T67 l0 x13_1).f1)< (l1.length:Int):=of_decide_eq_true zq1
             obtain⟨ad227,e227,hx227_0⟩:=Kd.at_int HR1.out ((rd_T67 l0 x13_1).f1) p227 q227
             have hw227_0:=hx227_0
             cases e227
             replace hx227_0:=(HB.out.cell (World.block_lt_of_cell? w _ hx227_0)).trans hx227_0
             replace p227:=eq_true p227
             replace q227:=eq_true q227
             have p15: 0≤ (((rd_T67 l0 x13_1).f0):Int):=of_decide_eq_true zq1
             have q15:(((rd_T67 l0 x13_1).f0):Int)< ((x5_1.length:Int):Int):=of_decide_eq_true zq1
             obtain⟨go15,co15,eo15,gb15,gl15,cl15,HG15⟩:=Kd.R_form HO_5.out (by omega)
             (first|cases eo15|(injection eo15 with ea_ en_ ec_;(first|subst ea_|(injection ea_ with ea_;subst ea_));subst ec_;clear en_))
             have GB15:=Aside0.mk gb15
             have GG15:=Aside0.mk HG15
             clear gb15 gl15 HG15
             (first|simp only [add_plain] at hx226_0|skip)
             obtain⟨hx15_0,hf15_0⟩:=Kd.R_celln 0 HO_5.out (((rd_T67 l0 x13_1).f0):Int) p15 q15
             replace p15:=eq_true p15
             replace q15:=eq_true q15
             have HP25:=Kd.R_putn HO_5.out (((rd_T67 l0 x13_1).f0):Int) ji14
             rw [← Ny228.out] at HP25
             have HQ25:=Aside0.mk HP25
             clear HP25
             refine start_ (n:=19) (S:=fun w'=>w'.cell? ⟨gb225,0,none⟩=some (.int .i64 ((rd_T67 l0 x13_1).f0))∧w'.cell? ⟨gb225,1,none⟩=some (.int .i64 ((rd_T67 l0 x13_1).f1))∧w'.cell? ⟨gb225,2,none⟩=some (.int .i64 ((rd_T67 l0 x13_1).f2))∧w'.cell? ⟨go15,(((rd_T67 l0 x13_1).f0)).toNat,none⟩=some (.int .i64 (rd x5_1 ((rd_T67 l0 x13_1).f0)))∧w'.cell? (ad227.add (((rd_T67 l0 x13_1).f1)).toNat)=some (.int .i64 (rd l1 ((rd_T67 l0 x13_1).f1)))) (ds:= [18]) #[f',f',f',f',f',f',f',f',f',f',f',f',f',f',f',f',f',f',f'] (by kernel_rfl) rfl rfl ⟨(blk_cell BK225.out 0).trans rfl,(blk_cell BK225.out 1).trans rfl,(blk_cell BK225.out 2).trans rfl,hx226_0,((HB.out.cell (World.block_lt_of_cell? w _ hw227_0)).trans hw227_0)⟩ (fun hHeld=>?_);refine with_tabW impl_relaxed.tab5 impl_relaxed.bits5 (fun HT_ HW_=>?_)
             generalize w22.drew=w23 at HO_5 BK225 HB GG15 HQ25 hf15_0 hx15_0 hx226_0 hx227_0 hHeld ⊢
             refine pure_ (i:=0) (N:=some 17) (v:=?_) (a':=?_) #[t',f',f',f',f',f',f',f',f',f',f',f',f',f',f',f',f',f',f'] rfl rfl (any_of HT_.out (by kernel_rfl)) (fun _ _ _ h=>h) (Or.inl ⟨by rfl,?_⟩) ?_ ?_
             rotate_left
             ·intro w'
              go_simp
              with_reducible rfl
             rotate_left
             ·simp only [Act.put,List.setIfInBounds_toArray,List.set_cons_zero,List.set_cons_succ,i64_w,i32_w]
              rfl
             refine pure_ (i:=1) (N:=some 18) (v:=?_) (a':=?_) #[t',t',f',f',f',f',f',f',f',f',f',f',f',f',f',f',f',f',f'] rfl rfl (any_of HT_.out (by kernel_rfl)) (fun _ _ _ h=>h) (Or.inl ⟨by rfl,?_⟩) ?_ ?_
             rotate_left
             ·intro w'
              go_simp
              with_reducible rfl
             rotate_left
             ·simp only [Act.put,List.setIfInBounds_toArray,List.set_cons_zero,List.set_cons_succ,i64_w,i32_w]
              rfl
             refine pure_ (i:=3) (N:=some 20) (v:=?_) (a':=?_) #[t',t',f',t',f',f',f',f',f',f',f',f',f',f',f',f',f',f',f'] rfl rfl (any_of HT_.out (by kernel_rfl)) (fun _ _ _ h=>h) (Or.inl ⟨by rfl,?_⟩) ?_ ?_
             rotate_left
             ·intro w'
              go_simp
              with_reducible rfl
             rotate_left
             ·simp only [Act.put,List.setIfInBounds_toArray,List.set_cons_zero,List.set_cons_succ,i64_w,i32_w]
              rfl
             refine pure_ (i:=4) (N:=some 21) (v:=?_) (a':=?_) #[t',t',f',t',t',f',f',f',f',f',f',f',f',f',f',f',f',f',f'] rfl rfl (any_of HT_.out (by kernel_rfl)) (fun _ _ _ h=>h) (Or.inl ⟨by rfl,?_⟩) ?_ ?_
             rotate_left
             ·intro w'
              go_simp
              with_reducible rfl
             rotate_left
             ·simp only [Act.put,List.setIfInBounds_toArray,List.set_cons_zero,List.set_cons_succ,i64_w,i32_w]
              rfl
             refine pure_ (i:=8) (N:=some 25) (v:=?_) (a':=?_) #[t',t',f',t',t',f',f',f',t',f',f',f',f',f',f',f',f',f',f'] rfl rfl (any_of HT_.out (by kernel_rfl)) (fun _ _ _ h=>h) (Or.inl ⟨by rfl,?_⟩) ?_ ?_
             rotate_left
             ·intro w'
              go_simp
              with_reducible rfl
             rotate_left
             ·simp only [Act.put,List.setIfInBounds_toArray,List.set_cons_zero,List.set_cons_succ,i64_w,i32_w]
              rfl
             refine pure_ (i:=9) (N:=some 26) (v:=?_) (a':=?_) #[t',t',f',t',t',f',f',f',t',t',f',f',f',f',f',f',f',f',f'] rfl rfl (any_of HT_.out (by kernel_rfl)) (fun _ _ _ h=>h) (Or.inl ⟨by rfl,?_⟩) ?_ ?_
             rotate_left
             ·intro w'
              go_simp
              with_reducible rfl
             rotate_left
             ·simp only [Act.put,List.setIfInBounds_toArray,List.set_cons_zero,List.set_cons_succ,i64_w,i32_w]
              rfl
             refine pure_ (i:=13) (N:=some 30) (v:=?_) (a':=?_) #[t',t',f',t',t',f',f',f',t',t',f',f',f',t',f',f',f',f',f'] rfl rfl (any_of HT_.out (by kernel_rfl)) (fun _ _ _ h=>h) (Or.inl ⟨by rfl,?_⟩) ?_ ?_
             rotate_left
             ·intro w'
              go_simp
              with_reducible rfl
             rotate_left
             ·simp only [Act.put,List.setIfInBounds_toArray,List.set_cons_zero,List.set_cons_succ,i64_w,i32_w]
              rfl
             refine take_ (i:=2) (N:=some 19) (v:=?_) (a':=?_) #[t',t',t',t',t',f',f',f',t',t',f',f',f',t',f',f',f',f',f'] rfl rfl (take_ofW HT_.out HW_.out (by kernel_rfl)) (fun _ _ _ h=>h) (Or.inl ⟨by rfl,?_⟩) hHeld ?_ ?_
             rotate_left
             ·rintro w' ⟨s0,s1,s2,s3,s4⟩
              go_simp
              with_reducible rfl
             rotate_left
             ·simp only [Act.put,List.setIfInBounds_toArray,List.set_cons_zero,List.set_cons_succ,i64_w,i32_w]
              rfl
             refine take_ (i:=5) (N:=some 22) (v:=?_) (a':=?_) #[t',t',t',t',t',t',f',f',t',t',f',f',f',t',f',f',f',f',f'] rfl rfl (take_ofW HT_.out HW_.out (by kernel_rfl)) (fun _ _ _ h=>h) (Or.inl ⟨by rfl,?_⟩) hHeld ?_ ?_
             rotate_left
             ·rintro w' ⟨s0,s1,s2,s3,s4⟩
              go_simp
              with_reducible rfl
             rotate_left
             ·simp only [Act.put,List.setIfInBounds_toArray,List.set_cons_zero,List.set_cons_succ,i64_w,i32_w]
              rfl
             refine pure_ (i:=6) (N:=some 23) (v:=?_) (a':=?_) #[t',t',t',t',t',t',t',f',t',t',f',f',f',t',f',f',f',f',f'] rfl rfl (any_of HT_.out (by kernel_rfl)) (fun _ _ _ h=>h) (Or.inl ⟨by rfl,?_⟩) ?_ ?_
             rotate_left
             ·intro w'
              go_simp
              with_reducible rfl
             rotate_left
             ·simp only [Act.put,List.setIfInBounds_toArray,List.set_cons_zero,List.set_cons_succ,i64_w,i32_w]
              rfl
             refine take_ (i:=7) (N:=some 24) (v:=?_) (a':=?_) #[t',t',t',t',t',t',t',t',t',t',f',f',f',t',f',f',f',f',f'] rfl rfl (take_ofW HT_.out HW_.out (by kernel_rfl)) (fun _ _ _ h=>h) (Or.inl ⟨by rfl,?_⟩) hHeld ?_ ?_
             rotate_left
             ·rintro w' ⟨s0,s1,s2,s3,s4⟩
              go_simp
              with_reducible rfl
             rotate_left
             ·simp only [Act.put,List.setIfInBounds_toArray,List.set_cons_zero,List.set_cons_succ,i64_w,i32_w]
              rfl
             refine take_ (i:=10) (N:=some 27) (v:=?_) (a':=?_) #[t',t',t',t',t',t',t',t',t',t',t',f',f',t',f',f',f',f',f'] rfl rfl (take_ofW HT_.out HW_.out (by kernel_rfl)) (fun _ _ _ h=>h) (Or.inl ⟨by rfl,?_⟩) hHeld ?_ ?_
             rotate_left
             ·rintro w' ⟨s0,s1,s2,s3,s4⟩
              go_simp
              with_reducible rfl
             rotate_left
             ·simp only [Act.put,List.setIfInBounds_toArray,List.set_cons_zero,List.set_cons_succ,i64_w,i32_w]
              rfl
             refine pure_ (i:=11) (N:=some 28) (v:=?_) (a':=?_) #[t',t',t',t',t',t',t',t',t',t',t',t',f',t',f',f',f',f',f'] rfl rfl (any_of HT_.out (by kernel_rfl)) (fun _ _ _ h=>h) (Or.inl ⟨by rfl,?_⟩) ?_ ?_
             rotate_left
             ·intro w'
              go_simp
              with_reducible rfl
             rotate_left
             ·simp only [Act.put,List.setIfInBounds_toArray,List.set_cons_zero,List.set_cons_succ,i64_w,i32_w]
              rfl
             refine take_ (i:=12) (N:=some 29) (v:=?_) (a':=?_) #[t',t',t',t',t',t',t',t',t',t',t',t',t',t',f',f',f',f',f'] rfl rfl (take_ofW HT_.out HW_.out (by kernel_rfl)) (fun _ _ _ h=>h) (Or.inl ⟨by rfl,?_⟩) hHeld ?_ ?_
             rotate_left
             ·rintro w' ⟨s0,s1,s2,s3,s4⟩
              go_simp
              with_reducible rfl
             rotate_left
             ·simp only [Act.put,List.setIfInBounds_toArray,List.set_cons_zero,List.set_cons_succ,i64_w,i32_w]
              rfl
             refine take_ (i:=14) (N:=some 31) (v:=?_) (a':=?_) #[t',t',t',t',t',t',t',t',t',t',t',t',t',t',t',f',f',f',f'] rfl rfl (take_ofW HT_.out HW_.out (by kernel_rfl)) (fun _ _ _ h=>h) (Or.inl ⟨by rfl,?_⟩) hHeld ?_ ?_
             rotate_left
             ·rintro w' ⟨s0,s1,s2,s3,s4⟩
              go_simp
              with_reducible rfl
             rotate_left
             ·simp only [Act.put,List.setIfInBounds_toArray,List.set_cons_zero,List.set_cons_succ,i64_w,i32_w]
              rfl
             refine pure_ (i:=15) (N:=some 32) (v:=?_) (a':=?_) #[t',t',t',t',t',t',t',t',t',t',t',t',t',t',t',t',f',f',f'] rfl rfl (any_of HT_.out (by kernel_rfl)) (fun _ _ _ h=>h) (Or.inl ⟨by rfl,?_⟩) ?_ ?_
             rotate_left
             ·intro w'
              go_simp
              with_reducible rfl
             rotate_left
             ·simp only [Act.put,List.setIfInBounds_toArray,List.set_cons_zero,List.set_cons_succ,i64_w,i32_w]
              rfl
             refine pure_ (i:=16) (N:=some 33) (v:=?_) (a':=?_) #[t',t',t',t',t',t',t',t',t',t',t',t',t',t',t',t',t',f',f'] rfl rfl (any_of HT_.out (by kernel_rfl)) (fun _ _ _ h=>h) (Or.inl ⟨by rfl,?_⟩) ?_ ?_
             rotate_left
             ·intro w'
              go_simp
              with_reducible rfl
             rotate_left
             ·simp only [Act.put,List.setIfInBounds_toArray,List.set_cons_zero,List.set_cons_succ,i64_w,i32_w]
              rfl
             refine pure_ (i:=17) (N:=some 34) (v:=?_) (a':=?_) #[t',t',t',t',t',t',t',t',t',t',t',t',t',t',t',t',t',t',f'] rfl rfl (any_of HT_.out (by kernel_rfl)) (fun _ _ _ h=>h) (Or.inl ⟨by rfl,?_⟩) ?_ ?_
             rotate_left
             ·intro w'
              go_simp
              with_reducible rfl
             rotate_left
             ·simp only [Act.put,List.setIfInBounds_toArray,List.set_cons_zero,List.set_cons_succ,i64_w,i32_w]
              rfl
             refine last_ (i:=18) (N:=none) #[t',t',t',t',t',t',t',t',t',t',t',t',t',t',t',t',t',t',t'] rfl rfl (one_of HT_.out (by kernel_rfl)) (by decide) (fun K hK=>?_)
             refine skip_ (w1:=?_) (by rfl) rfl ?_ ?_
             rotate_left
             ·go_simp
              rfl
             refine hK.out _ _ ?_
             clear hK K
             refine done_ (done_of HT_.out (by kernel_rfl)) ?_
             try go_wp2
             have n0_:Aside0 (Kd.R (Kd.int .i64) 3 (w23.setCell ⟨go15,(((rd_T67 l0 x13_1).f0):Int).toNat,none⟩ (.int .i64 ji14)) w.heap.size (fun _=>True) (.slice (some ⟨go15,0,none⟩) x5_1.length co24) y228):=⟨by(with_reducible repeat(first|apply Kd.R_alloc|apply Kd.R_drewN|apply Kd.R_drew));exact HQ25.out⟩
             have n1_:Aside0 ((w23.setCell ⟨go15,(((rd_T67 l0 x13_1).f0):Int).toNat,none⟩ (.int .i64 ji14)).heap[gb225]?=some (.cells #[.int .i64 ((rd_T67 l0 x13_1).f0),.int .i64 ((rd_T67 l0 x13_1).f1),.int .i64 ((rd_T67 l0 x13_1).f2)] 67 (0,0))):=⟨by(with_reducible repeat(first|refine blk_drewN ?_ _|refine blk_drew ?_ |refine blk_alloc ?_ _));refine blk_far ?_ (by have h_:=Kd.R_ne HO_5.out BK225.out (by decide);intro e_;exact h_ (by rw [e_];rfl)) _;(with_reducible repeat(first|refine blk_drewN ?_ _|refine blk_drew ?_ |refine blk_alloc ?_ _));exact BK225.out⟩
             have n2_:Aside0 (Below w.heap.size w (w23.setCell ⟨go15,(((rd_T67 l0 x13_1).f0):Int).toNat,none⟩ (.int .i64 ji14))):=⟨by repeat(first|(with_reducible first|exact HB.out|apply below_alloc|apply pw_below_drewN|apply below_drew1|refine below_set ?_ GB15.out|refine below_set ?_ GE225.out)|exact HB.out)⟩
             (try clear HO_5)
             (try clear BK225)
             (try clear HB)
             (try simp only [show ∀ (W_:World) (n_:Nat) (a_:Addr) (v_:Value),(World.drewN W_ n_).setCell a_ v_= (World.setCell W_ a_ v_).drewN n_ from fun _ _ _ _=>rfl])
             generalize (w23.setCell ⟨go15,(((rd_T67 l0 x13_1).f0):Int).toNat,none⟩ (.int .i64 ji14))=w26 at n0_ n1_ n2_ ⊢
             have HO_5:=n0_
             have BK225:=n1_
             have HB:=n2_
             clear n0_ n1_ n2_
             have n0_:=Aside0.mk (Kd.R_drew HO_5.out)
             have n1_:=Aside0.mk (blk_drew BK225.out)
             have n2_:=Aside0.mk (below_drew1 HB.out)
             clear HO_5
             clear BK225
             clear HB
             have HO_5:=n0_
             have BK225:=n1_
             have HB:=n2_
             clear n0_ n1_ n2_
             have p229: 0≤ (((rd_T67 l0 x13_1).f1):Int):=of_decide_eq_true zq1
             have q229:((rd_T67 l0 x13_1).f1)< (y228.length:Int):=(by have h_:(((rd_T67 l0 x13_1).f1):Int)< ((x5_1.length:Int):Int):=of_decide_eq_true zq1;first|(have e_:=(Kd.R_reads' HO_5.out).1;omega)|simpa only [Ny228.out,List.length_set] using h_)
             have ql229:((((rd_T67 l0 x13_1).f1):Int)< ((x5_1.length:Int):Int))=True:=eq_true (of_decide_eq_true zq1)
             obtain⟨ad229,e229,hx229_0⟩:=Kd.at_int (Kd.R_reads' HO_5.out).2.2 ((rd_T67 l0 x13_1).f1) p229 q229
             obtain rfl:(⟨go15,0,none⟩ :Addr)=ad229:=(by injection e229)
             (first|simp only [add_plain] at hx229_0|simp only [add_at] at hx229_0|simp only [Addr.add,Nat.zero_add] at hx229_0|skip)
             replace p229:=eq_true p229
             replace q229:=eq_true q229
             have p230: 0≤ (((rd_T67 l0 x13_1).f0):Int):=of_decide_eq_true zq1
             have q230:((rd_T67 l0 x13_1).f0)< (l1.length:Int):=of_decide_eq_true zq1
             obtain⟨ad230,e230,hx230_0⟩:=Kd.at_int HR1.out ((rd_T67 l0 x13_1).f0) p230 q230
             have hw230_0:=hx230_0
             obtain rfl:ad227=ad230:=(by injection e230)
             replace hx230_0:=(HB.out.cell (World.block_lt_of_cell? w _ hx230_0)).trans hx230_0
             replace p230:=eq_true p230
             replace q230:=eq_true q230
             have p19: 0≤ (((rd_T67 l0 x13_1).f1):Int):=of_decide_eq_true zq1
             have q19:(((rd_T67 l0 x13_1).f1):Int)< ((x5_1.length:Int):Int):=of_decide_eq_true zq1
             obtain⟨hx19_0,hf19_0⟩:=Kd.R_celln 0 HO_5.out (((rd_T67 l0 x13_1).f1):Int) p19 q19
             replace p19:=eq_true p19
             replace q19:=eq_true q19
             have HP28:=Kd.R_putn HO_5.out (((rd_T67 l0 x13_1).f1):Int) ji18
             rw [← Ny231.out] at HP28
             have HQ28:=Aside0.mk HP28
             clear HP28
             refine start_ (n:=19) (S:=fun w'=>w'.cell? ⟨gb225,0,none⟩=some (.int .i64 ((rd_T67 l0 x13_1).f0))∧w'.cell? ⟨gb225,1,none⟩=some (.int .i64 ((rd_T67 l0 x13_1).f1))∧w'.cell? ⟨gb225,2,none⟩=some (.int .i64 ((rd_T67 l0 x13_1).f2))∧w'.cell? ⟨go15,(((rd_T67 l0 x13_1).f1)).toNat,none⟩=some (.int .i64 (rd y228 ((rd_T67 l0 x13_1).f1)))∧w'.cell? (ad227.add (((rd_T67 l0 x13_1).f0)).toNat)=some (.int .i64 (rd l1 ((rd_T67 l0 x13_1).f0)))) (ds:= [18]) #[f',f',f',f',f',f',f',f',f',f',f',f',f',f',f',f',f',f',f'] (by kernel_rfl) rfl rfl ⟨(blk_cell BK225.out 0).trans rfl,(blk_cell BK225.out 1).trans rfl,(blk_cell BK225.out 2).trans rfl,hx229_0,((HB.out.cell (World.block_lt_of_cell? w _ hw230_0)).trans hw230_0)⟩ (fun hHeld=>?_);refine with_tabW impl_relaxed.tab6 impl_relaxed.bits6 (fun HT_ HW_=>?_)
             generalize w26.drew=w27 at HO_5 BK225 HB HQ25 HQ28 hf19_0 hx19_0 hx229_0 hx230_0 hHeld ⊢
             refine pure_ (i:=0) (N:=some 35) (v:=?_) (a':=?_) #[t',f',f',f',f',f',f',f',f',f',f',f',f',f',f',f',f',f',f'] rfl rfl (any_of HT_.out (by kernel_rfl)) (fun _ _ _ h=>h) (Or.inl ⟨by rfl,?_⟩) ?_ ?_
             rotate_left
             ·intro w'
              go_simp
              with_reducible rfl
             rotate_left
             ·simp only [Act.put,List.setIfInBounds_toArray,List.set_cons_zero,List.set_cons_succ,i64_w,i32_w]
              rfl
             refine pure_ (i:=1) (N:=some 36) (v:=?_) (a':=?_) #[t',t',f',f',f',f',f',f',f',f',f',f',f',f',f',f',f',f',f'] rfl rfl (any_of HT_.out (by kernel_rfl)) (fun _ _ _ h=>h) (Or.inl ⟨by rfl,?_⟩) ?_ ?_
             rotate_left
             ·intro w'
              go_simp
              with_reducible rfl
             rotate_left
             ·simp only [Act.put,List.setIfInBounds_toArray,List.set_cons_zero,List.set_cons_succ,i64_w,i32_w]
              rfl
             refine pure_ (i:=3) (N:=some 38) (v:=?_) (a':=?_) #[t',t',f',t',f',f',f',f',f',f',f',f',f',f',f',f',f',f',f'] rfl rfl (any_of HT_.out (by kernel_rfl)) (fun _ _ _ h=>h) (Or.inl ⟨by rfl,?_⟩) ?_ ?_
             rotate_left
             ·intro w'
              go_simp
              with_reducible rfl
             rotate_left
             ·simp only [Act.put,List.setIfInBounds_toArray,List.set_cons_zero,List.set_cons_succ,i64_w,i32_w]
              rfl
             refine pure_ (i:=4) (N:=some 39) (v:=?_) (a':=?_) #[t',t',f',t',t',f',f',f',f',f',f',f',f',f',f',f',f',f',f'] rfl rfl (any_of HT_.out (by kernel_rfl)) (fun _ _ _ h=>h) (Or.inl ⟨by rfl,?_⟩) ?_ ?_
             rotate_left
             ·intro w'
              go_simp
              with_reducible rfl
             rotate_left
             ·simp only [Act.put,List.setIfInBounds_toArray,List.set_cons_zero,List.set_cons_succ,i64_w,i32_w]
              rfl
             refine pure_ (i:=8) (N:=some 43) (v:=?_) (a':=?_) #[t',t',f',t',t',f',f',f',t',f',f',f',f',f',f',f',f',f',f'] rfl rfl (any_of HT_.out (by kernel_rfl)) (fun _ _ _ h=>h) (Or.inl ⟨by rfl,?_⟩) ?_ ?_
             rotate_left
             ·intro w'
              go_simp
              with_reducible rfl
             rotate_left
             ·simp only [Act.put,List.setIfInBounds_toArray,List.set_cons_zero,List.set_cons_succ,i64_w,i32_w]
              rfl
             refine pure_ (i:=9) (N:=some 44) (v:=?_) (a':=?_) #[t',t',f',t',t',f',f',f',t',t',f',f',f',f',f',f',f',f',f'] rfl rfl (any_of HT_.out (by kernel_rfl)) (fun _ _ _ h=>h) (Or.inl ⟨by rfl,?_⟩) ?_ ?_
             rotate_left
             ·intro w'
              go_simp
              with_reducible rfl
             rotate_left
             ·simp only [Act.put,List.setIfInBounds_toArray,List.set_cons_zero,List.set_cons_succ,i64_w,i32_w]
              rfl
             refine pure_ (i:=13) (N:=some 48) (v:=?_) (a':=?_) #[t',t',f',t',t',f',f',f',t',t',f',f',f',t',f',f',f',f',f'] rfl rfl (any_of HT_.out (by kernel_rfl)) (fun _ _ _ h=>h) (Or.inl ⟨by rfl,?_⟩) ?_ ?_
             rotate_left
             ·intro w'
              go_simp
              with_reducible rfl
             rotate_left
             ·simp only [Act.put,List.setIfInBounds_toArray,List.set_cons_zero,List.set_cons_succ,i64_w,i32_w]
              rfl
             refine take_ (i:=2) (N:=some 37) (v:=?_) (a':=?_) #[t',t',t',t',t',f',f',f',t',t',f',f',f',t',f',f',f',f',f'] rfl rfl (take_ofW HT_.out HW_.out (by kernel_rfl)) (fun _ _ _ h=>h) (Or.inl ⟨by rfl,?_⟩) hHeld ?_ ?_
             rotate_left
             ·rintro w' ⟨s0,s1,s2,s3,s4⟩
              go_simp
              with_reducible rfl
             rotate_left
             ·simp only [Act.put,List.setIfInBounds_toArray,List.set_cons_zero,List.set_cons_succ,i64_w,i32_w]
              rfl
             refine take_ (i:=5) (N:=some 40) (v:=?_) (a':=?_) #[t',t',t',t',t',t',f',f',t',t',f',f',f',t',f',f',f',f',f'] rfl rfl (take_ofW HT_.out HW_.out (by kernel_rfl)) (fun _ _ _ h=>h) (Or.inl ⟨by rfl,?_⟩) hHeld ?_ ?_
             rotate_left
             ·rintro w' ⟨s0,s1,s2,s3,s4⟩
              go_simp
              with_reducible rfl
             rotate_left
             ·simp only [Act.put,List.setIfInBounds_toArray,List.set_cons_zero,List.set_cons_succ,i64_w,i32_w]
              rfl
             refine pure_ (i:=6) (N:=some 41) (v:=?_) (a':=?_) #[t',t',t',t',t',t',t',f',t',t',f',f',f',t',f',f',f',f',f'] rfl rfl (any_of HT_.out (by kernel_rfl)) (fun _ _ _ h=>h) (Or.inl ⟨by rfl,?_⟩) ?_ ?_
             rotate_left
             ·intro w'
              go_simp
              with_reducible rfl
             rotate_left
             ·simp only [Act.put,List.setIfInBounds_toArray,List.set_cons_zero,List.set_cons_succ,i64_w,i32_w]
              rfl
             refine take_ (i:=7) (N:=some 42) (v:=?_) (a':=?_) #[t',t',t',t',t',t',t',t',t',t',f',f',f',t',f',f',f',f',f'] rfl rfl (take_ofW HT_.out HW_.out (by kernel_rfl)) (fun _ _ _ h=>h) (Or.inl ⟨by rfl,?_⟩) hHeld ?_ ?_
             rotate_left
             ·rintro w' ⟨s0,s1,s2,s3,s4⟩
              go_simp
              with_reducible rfl
             rotate_left
             ·simp only [Act.put,List.setIfInBounds_toArray,List.set_cons_zero,List.set_cons_succ,i64_w,i32_w]
              rfl
             refine take_ (i:=10) (N:=some 45) (v:=?_) (a':=?_) #[t',t',t',t',t',t',t',t',t',t',t',f',f',t',f',f',f',f',f'] rfl rfl (take_ofW HT_.out HW_.out (by kernel_rfl)) (fun _ _ _ h=>h) (Or.inl ⟨by rfl,?_⟩) hHeld ?_ ?_
             rotate_left
             ·rintro w' ⟨s0,s1,s2,s3,s4⟩
              go_simp
              with_reducible rfl
             rotate_left
             ·simp only [Act.put,List.setIfInBounds_toArray,List.set_cons_zero,List.set_cons_succ,i64_w,i32_w]
              rfl
             refine pure_ (i:=11) (N:=some 46) (v:=?_) (a':=?_) #[t',t',t',t',t',t',t',t',t',t',t',t',f',t',f',f',f',f',f'] rfl rfl (any_of HT_.out (by kernel_rfl)) (fun _ _ _ h=>h) (Or.inl ⟨by rfl,?_⟩) ?_ ?_
             rotate_left
             ·intro w'
              go_simp
              with_reducible rfl
             rotate_left
             ·simp only [Act.put,List.setIfInBounds_toArray,List.set_cons_zero,List.set_cons_succ,i64_w,i32_w]
              rfl
             refine take_ (i:=12) (N:=some 47) (v:=?_) (a':=?_) #[t',t',t',t',t',t',t',t',t',t',t',t',t',t',f',f',f',f',f'] rfl rfl (take_ofW HT_.out HW_.out (by kernel_rfl)) (fun _ _ _ h=>h) (Or.inl ⟨by rfl,?_⟩) hHeld ?_ ?_
             rotate_left
             ·rintro w' ⟨s0,s1,s2,s3,s4⟩
              go_simp
              with_reducible rfl
             rotate_left
             ·simp only [Act.put,List.setIfInBounds_toArray,List.set_cons_zero,List.set_cons_succ,i64_w,i32_w]
              rfl
             refine take_ (i:=14) (N:=some 49) (v:=?_) (a':=?_) #[t',t',t',t',t',t',t',t',t',t',t',t',t',t',t',f',f',f',f'] rfl rfl (take_ofW HT_.out HW_.out (by kernel_rfl)) (fun _ _ _ h=>h) (Or.inl ⟨by rfl,?_⟩) hHeld ?_ ?_
             rotate_left
             ·rintro w' ⟨s0,s1,s2,s3,s4⟩
              go_simp
              with_reducible rfl
             rotate_left
             ·simp only [Act.put,List.setIfInBounds_toArray,List.set_cons_zero,List.set_cons_succ,i64_w,i32_w]
              rfl
             refine pure_ (i:=15) (N:=some 50) (v:=?_) (a':=?_) #[t',t',t',t',t',t',t',t',t',t',t',t',t',t',t',t',f',f',f'] rfl rfl (any_of HT_.out (by kernel_rfl)) (fun _ _ _ h=>h) (Or.inl ⟨by rfl,?_⟩) ?_ ?_
             rotate_left
             ·intro w'
              go_simp
              with_reducible rfl
             rotate_left
             ·simp only [Act.put,List.setIfInBounds_toArray,List.set_cons_zero,List.set_cons_succ,i64_w,i32_w]
              rfl
             refine pure_ (i:=16) (N:=some 51) (v:=?_) (a':=?_) #[t',t',t',t',t',t',t',t',t',t',t',t',t',t',t',t',t',f',f'] rfl rfl (any_of HT_.out (by kernel_rfl)) (fun _ _ _ h=>h) (Or.inl ⟨by rfl,?_⟩) ?_ ?_
             rotate_left
             ·intro w'
              go_simp
              with_reducible rfl
             rotate_left
             ·simp only [Act.put,List.setIfInBounds_toArray,List.set_cons_zero,List.set_cons_succ,i64_w,i32_w]
              rfl
             refine pure_ (i:=17) (N:=some 52) (v:=?_) (a':=?_) #[t',t',t',t',t',t',t',t',t',t',t',t',t',t',t',t',t',t',f'] rfl rfl (any_of HT_.out (by kernel_rfl)) (fun _ _ _ h=>h) (Or.inl ⟨by rfl,?_⟩) ?_ ?_
             rotate_left
             ·intro w'
              go_simp
              with_reducible rfl
             rotate_left
             ·simp only [Act.put,List.setIfInBounds_toArray,List.set_cons_zero,List.set_cons_succ,i64_w,i32_w]
              rfl
             refine last_ (i:=18) (N:=none) #[t',t',t',t',t',t',t',t',t',t',t',t',t',t',t',t',t',t',t'] rfl rfl (one_of HT_.out (by kernel_rfl)) (by decide) (fun K hK=>?_)
             refine skip_ (w1:=?_) (by rfl) rfl ?_ ?_
             rotate_left
             ·go_simp
              rfl
             refine hK.out _ _ ?_
             clear hK K
             refine done_ (done_of HT_.out (by kernel_rfl)) ?_
             try go_wp2
             go_roundg k1
             case measure=>have:=HK1.out;omega
             case rel=>exact⟨(y231),(wrap64 (x13_1+1)),(by first|rfl|(simp;done)|(simp [*];done)),H',⟨by have:=HK1.out;omega⟩,⟨by(with_reducible repeat(first|apply Kd.R_alloc|apply Kd.R_drewN|apply Kd.R_drew));exact HQ28.out⟩,⟨by repeat(first|(with_reducible first|exact HB.out|apply below_alloc|apply pw_below_drewN|apply below_drew1|refine below_set ?_ GB15.out|refine below_set ?_ GE225.out)|exact HB.out)⟩⟩
            ·rw [if_neg c17] at H
             exact absurd H (by simp)
           ·rw [if_neg c16] at H
            exact absurd H (by simp)
          ·rw [if_neg c13] at H
           exact absurd H (by simp)
         ·rw [if_neg c12] at H
          exact absurd H (by simp)
        ·rw [if_neg c11] at H
         exact absurd H (by simp)
       ·rw [if_neg c10] at H
        exact absurd H (by simp)
      ·rw [if_neg c9] at H
       exact absurd H (by simp)
     ·rw [if_neg c8] at H
      exact absurd H (by simp)
    ·rw [if_neg c7] at H
     have c7b0:decide (x13_1< (l0.length:Int))=false:=decide_eq_false c7
     clear c7
     obtain rfl:=Option.some.inj H
     go_wp2
     go_ret
     exact⟨_,by first|rfl|(simp [errW_none,errW_some]<;>rfl)|(simp [*,errW_none,errW_some]<;>rfl),by(with_reducible repeat(first|apply Kd.R_alloc|apply Kd.R_drewN|apply Kd.R_drew));exact HO_5.out,by repeat(first|(with_reducible first|exact HB.out|apply below_alloc|apply pw_below_drewN|apply below_drew1)|exact HB.out)⟩
 ·rw [if_neg c3] at H
  exact absurd H (by simp)
end Go.Proofs.Ytklecgkjoofipaa.P

namespace Go.Proofs.Ytklecgkjoofipaa.P
open Go.RowKit Go.Proofs.YtklecgkjoofipaaW.PrintWords Go.Proofs.YtklecgkjoofipaaW.PrintLast Go.Proofs.YtklecgkjoofipaaW.PrintMore
attribute [local go_sem] max2_int min2_int max_two min_two max_three min_three max_four min_four   -- for this text's walks alone
set_option linter.unusedVariables false
set_option linter.unusedSimpArgs false
mutual
def impl_fars.l0:Nat→Int→List (S67)→Int→List Int→Int→Int→Option (List Int)
 | 0,_,_,_,_,_,_=>none
 |k+1,x0,x1,x2,x7,x12,x13=>if x13<x12 then(if 0≤x13 then(if x13< (x7.length:Int) then(impl_fars.l0 k x0 x1 x2 (x7.set (x13:Int).toNat 100000) x12 (wrap64 (x13+1))) else(none)) else(none)) else(if 0≤x2 then(if x2< (x7.length:Int) then(impl_fars.l1 k x1 (x7.set (x2:Int).toNat 0) x0 0) else(none)) else(none))
def impl_fars.l1:Nat→List (S67)→List Int→Int→Int→Option (List Int)
 | 0,_,_,_,_=>none
 |k+1,x1,x7,x23,x24=>if x24<x23 then((impl_relaxed.f k x1 x7).bind fun t237=>(impl_fars.l1 k x1 t237 x23 (wrap64 (x24+1)))) else(some x7)
end
def impl_fars.f (k:Nat) (a0:Int) (l1:List (S67)) (a2:Int):Option (List Int):=if 0≤a0 then(if (a0:Int).toNat≤35184372088832 then((some (List.replicate (a0:Int).toNat 0:List Int)).bind fun y232=>(impl_fars.l0 k a0 l1 a2 y232 (y232.length:Int) 0)) else(none)) else(none)
set_option maxHeartbeats 8000000 in
set_option maxRecDepth 100000 in
theorem impl_fars.calls (k:Nat) (a0:Int) (A1:Option Addr) (c1:Nat) (l1:List (S67)) (a2:Int) (r:List Int) (w:World) (hr1:Kd.C k67 w A1 l1.length l1) (hc1:l1.length≤c1) (h:impl_fars.f k a0 l1 a2=some r):
  Calls Try.prog 55 #[.int .i64 a0,.slice A1 l1.length c1,.int .i64 a2] w fun e w'=> ∃ v0_:Value,e= .returned (v0_)∧Kd.R (Kd.int .i64) 3 w' w.heap.size (fun _=>True) v0_ r∧Below w.heap.size w w':=by
 have HR1:=Aside0.mk hr1
 have HC1:=Aside0.mk hc1
 clear hr1 hc1
 have HB:=Aside0.mk (Below.refl w.heap.size w)
 have H:(if 0≤a0 then(if (a0:Int).toNat≤35184372088832 then((some (List.replicate (a0:Int).toNat 0:List Int)).bind fun y232=>(impl_fars.l0 k a0 l1 a2 y232 (y232.length:Int) 0)) else(none)) else(none))=some r:=h
 clear h
 by_cases c4: 0≤a0
 ·rw [if_pos c4] at H
  have c4b0:=eq_true c4
  have c4b1:decide (0≤a0)=true:=decide_eq_true c4
  clear c4
  by_cases c5:(a0:Int).toNat≤35184372088832
  ·rw [if_pos c5] at H
   have c5b0:=eq_true c5
   have c5b1:decide ((a0:Int).toNat≤35184372088832)=true:=decide_eq_true c5
   clear c5
   obtain⟨y232,hy232⟩ :∃ y_:List Int,y_= (List.replicate (a0:Int).toNat 0):=⟨_,rfl⟩
   replace H:(impl_fars.l0 k a0 l1 a2 y232 (y232.length:Int) 0)=some r:=by first|(rw [hy232];with_reducible exact H)|(have H2_:=(Option.bind_some _ _).symm.trans H;rw [hy232];with_reducible exact H2_)|(have H2_:=(Option.bind_some _ _).symm.trans H;with_reducible exact H2_)|with_reducible exact H|(rw [hy232];exact H)|exact H
   have Ny232:=Aside0.mk hy232
   clear hy232
   have H':=Aside0.mk H
   clear H
   go_enter Try.func55,Try.ntmps55
   go_wp2_with (first|((with_reducible refine gate_dst (N:=10) rfl ?_);refine Kd.R_make (Kd.int .i64) _ 3 rfl (N:=10) rfl 23 _ _ rfl a0 rfl rfl Try.underlying23 (.int .i64 0) 8 info3 rfl (by decide) (by omega) 0 (ok:=fun _=>True) (okp:=fun _=>True) rfl (fun _ hk=>hk) trivial (of_decide_eq_true zq1) (Nat.le_trans (Nat.mul_le_mul_right _ (of_decide_eq_true zq1:a0.toNat≤35184372088832)) (by omega)) (Below.refl _ _) (Nat.le_refl _) ?_;intro v233 w6 ho7 hb hg_ hnew_;clear hg_ hnew_;(first|rw [← Ny232.out] at ho7|(simp only [Int.reduceToNat] at ho7;rw [← Ny232.out] at ho7));have n0_:=Aside0.mk (Kd.R_lower ho7 (below_size (zb0 HB)));have n1_:=Aside0.mk (below_step (zb0 HB) hb);clear HB;have HO234:=n0_;have HB:=n1_;clear n0_ n1_;clear hb ho7;obtain⟨Ao8,co8,eo8⟩:=Kd.R_slice HO234.out;subst eo8))
   go_loopg [13] k (fun kq v13 w'=> ∃ (x7_1:List Int) (x13_1:Int),v13= .int .i64 x13_1∧Aside0 (impl_fars.l0 kq a0 l1 a2 x7_1 (y232.length:Int) x13_1=some r)∧Aside0 (kq≤k)∧Aside0 (Kd.R (Kd.int .i64) 3 w' w.heap.size (fun _=>True) (.slice Ao8 y232.length co8) x7_1)∧Aside0 (Below w.heap.size w w'))
   case atStart=>exact⟨(y232),(0),(by first|rfl|(simp;done)|(simp [*];done)),H',⟨Nat.le_refl _⟩,⟨by(with_reducible repeat(first|apply Kd.R_alloc|apply Kd.R_drewN|apply Kd.R_drew));exact HO234.out⟩,⟨by repeat(first|(with_reducible first|exact HB.out|apply below_alloc|apply pw_below_drewN|apply below_drew1)|exact HB.out)⟩⟩
   case round=>
    clear H'
    try clear c1
    try clear p2
    try clear c4
    try clear c4b0
    try clear c4b1
    try clear c5
    try clear c5b0
    try clear c5b1
    obtain⟨x7_1,x13_1,rfl,HA,HK1,HO_7,HB⟩:=hrel
    have hl7_1:=(Kd.R_reads' HO_7.out).1
    rw [hl7_1] at HO_7
    (try simp only [hl7_1])
    cases gk with
    |zero=>exact absurd HA.out (by simp [impl_fars.l0])
    |succ k1=>
     have H:=HA.out
     clear HA
     simp only [impl_fars.l0] at H
     by_cases c9:x13_1< (y232.length:Int)
     ·rw [if_pos c9] at H
      have c9b0:decide (x13_1< (y232.length:Int))=true:=decide_eq_true c9
      (try(have c9b0L:=c9b0;simp only [hl7_1] at c9b0L))
      clear c9
      by_cases c10: 0≤x13_1
      ·rw [if_pos c10] at H
       have c10b0:decide (0≤x13_1)=true:=decide_eq_true c10
       clear c10
       by_cases c11:x13_1< (x7_1.length:Int)
       ·rw [if_pos c11] at H
        have c11b0:decide (x13_1< (x7_1.length:Int))=true:=decide_eq_true c11
        (try(have c11b0L:=c11b0;simp only [hl7_1] at c11b0L))
        clear c11
        obtain⟨y235,hy235⟩ :∃ y_:List Int,y_= (x7_1.set (x13_1:Int).toNat 100000):=⟨_,rfl⟩
        replace H:(impl_fars.l0 k1 a0 l1 a2 y235 (y232.length:Int) (wrap64 (x13_1+1)))=some r:=by first|(rw [hy235];with_reducible exact H)|(have H2_:=(Option.bind_some _ _).symm.trans H;rw [hy235];with_reducible exact H2_)|(have H2_:=(Option.bind_some _ _).symm.trans H;with_reducible exact H2_)|with_reducible exact H|(rw [hy235];exact H)|exact H
        have Ny235:=Aside0.mk hy235
        clear hy235
        have H':=Aside0.mk H
        clear H
        have p12: 0≤ (x13_1:Int):=of_decide_eq_true zq1
        have q12:(x13_1:Int)< ((x7_1.length:Int):Int):=of_decide_eq_true zq1
        obtain⟨go12,co12,eo12,gb12,gl12,cl12,HG12⟩:=Kd.R_form HO_7.out (by omega)
        (first|cases eo12|(injection eo12 with ea_ en_ ec_;(first|subst ea_|(injection ea_ with ea_;subst ea_));subst ec_;clear en_))
        have GB12:=Aside0.mk gb12
        have GG12:=Aside0.mk HG12
        clear gb12 gl12 HG12
        obtain⟨hx12_0,hf12_0⟩:=Kd.R_celln 0 HO_7.out (x13_1:Int) p12 q12
        replace p12:=eq_true p12
        replace q12:=eq_true q12
        have HP13:=Kd.R_putg HO_7.out (x13_1:Int) 100000
        go_wp2_with (first|((with_reducible refine gate_store (t:=3) (p:=18) rfl ?_);refine store_event (t:=3) (p:=18) (v:=?vo_w14) (w1:=(wr.setCell ⟨go12,(x13_1:Int).toNat,none⟩ (.int .i64 100000))) ?hg ?ho ?hn ?hr ?_;(case ho=>rfl);(case hg=>rfl);(case hn=>rfl);(case hr=>first|(go_simp;done)|(go_simp;rfl));intro w14 hw;have hg:wr.grownBy w14 (some go12):=(by rw [hw];exact HP13.2);have hp_:Kd.R (Kd.int .i64) 3 w14 w.heap.size (fun _=>True) (.slice (some ⟨go12,0,none⟩) x7_1.length co8) y235:=(by rw [hw,Ny235.out];exact HP13.1);clear HP13;have n0_:=Aside0.mk (hp_);have n1_:=Aside0.mk ((by rw [hw];exact below_set (HB.out) GB12.out:Below w.heap.size w w14));clear HO_7;clear HB;have HO_7:=n0_;have HB:=n1_;clear n0_ n1_;clear hg hw hp_))
        (try simp only [← hl7_1])
        go_roundg k1
        case measure=>have:=HK1.out;omega
        case rel=>exact⟨(y235),(wrap64 (x13_1+1)),(by first|rfl|(simp;done)|(simp [*];done)),H',⟨by have:=HK1.out;omega⟩,⟨by(try simp only [hl7_1]);(with_reducible repeat(first|apply Kd.R_alloc|apply Kd.R_drewN|apply Kd.R_drew));exact HO_7.out⟩,⟨by repeat(first|(with_reducible first|exact HB.out|apply below_alloc|apply pw_below_drewN|apply below_drew1)|exact HB.out)⟩⟩
       ·rw [if_neg c11] at H
        exact absurd H (by simp)
      ·rw [if_neg c10] at H
       exact absurd H (by simp)
     ·rw [if_neg c9] at H
      have c9b0:decide (x13_1< (y232.length:Int))=false:=decide_eq_false c9
      (try(have c9b0L:=c9b0;simp only [hl7_1] at c9b0L))
      clear c9
      by_cases c15: 0≤a2
      ·rw [if_pos c15] at H
       have c15b0:decide (0≤a2)=true:=decide_eq_true c15
       clear c15
       by_cases c16:a2< (x7_1.length:Int)
       ·rw [if_pos c16] at H
        have c16b0:decide (a2< (x7_1.length:Int))=true:=decide_eq_true c16
        (try(have c16b0L:=c16b0;simp only [hl7_1] at c16b0L))
        clear c16
        obtain⟨y236,hy236⟩ :∃ y_:List Int,y_= (x7_1.set (a2:Int).toNat 0):=⟨_,rfl⟩
        replace H:(impl_fars.l1 k1 l1 y236 a0 0)=some r:=by first|(rw [hy236];with_reducible exact H)|(have H2_:=(Option.bind_some _ _).symm.trans H;rw [hy236];with_reducible exact H2_)|(have H2_:=(Option.bind_some _ _).symm.trans H;with_reducible exact H2_)|with_reducible exact H|(rw [hy236];exact H)|exact H
        have Ny236:=Aside0.mk hy236
        clear hy236
        have H':=Aside0.mk H
        clear H
        have p17: 0≤ (a2:Int):=of_decide_eq_true zq1
        have q17:(a2:Int)< ((x7_1.length:Int):Int):=of_decide_eq_true zq1
        obtain⟨go17,co17,eo17,gb17,gl17,cl17,HG17⟩:=Kd.R_form HO_7.out (by omega)
        (first|cases eo17|(injection eo17 with ea_ en_ ec_;(first|subst ea_|(injection ea_ with ea_;subst ea_));subst ec_;clear en_))
        have GB17:=Aside0.mk gb17
        have GG17:=Aside0.mk HG17
        clear gb17 gl17 HG17
        obtain⟨hx17_0,hf17_0⟩:=Kd.R_celln 0 HO_7.out (a2:Int) p17 q17
        replace p17:=eq_true p17
        replace q17:=eq_true q17
        have HP18:=Kd.R_putg HO_7.out (a2:Int) 0
        go_wp2_with (first|((with_reducible refine gate_store (t:=3) (p:=22) rfl ?_);refine store_event (t:=3) (p:=22) (v:=?vo_w19) (w1:=(wr.setCell ⟨go17,(a2:Int).toNat,none⟩ (.int .i64 0))) ?hg ?ho ?hn ?hr ?_;(case ho=>rfl);(case hg=>rfl);(case hn=>rfl);(case hr=>first|(go_simp;done)|(go_simp;rfl));intro w19 hw;have hg:wr.grownBy w19 (some go17):=(by rw [hw];exact HP18.2);have hp_:Kd.R (Kd.int .i64) 3 w19 w.heap.size (fun _=>True) (.slice (some ⟨go17,0,none⟩) x7_1.length co8) y236:=(by rw [hw,Ny236.out];exact HP18.1);clear HP18;have n0_:=Aside0.mk (hp_);have n1_:=Aside0.mk ((by rw [hw];exact below_set (HB.out) GB17.out:Below w.heap.size w w19));clear HO_7;clear HB;have HO_7:=n0_;have HB:=n1_;clear n0_ n1_;clear hg hw hp_))
        go_loopg [7,24] k1 (fun kq v7 v24 w'=> ∃ (x7_2:List Int) (x24_2:Int),v24= .int .i64 x24_2∧Aside0 (impl_fars.l1 kq l1 x7_2 a0 x24_2=some r)∧Aside0 (kq≤k1)∧Aside0 (Kd.R (Kd.int .i64) 3 w' w.heap.size (fun _=>True) v7 x7_2)∧Aside0 (Below w.heap.size w w'))
        case atStart=>exact⟨(y236),(0),(by first|rfl|(simp;done)|(simp [*];done)),H',⟨Nat.le_refl _⟩,⟨by(try simp only [hl7_1]);(with_reducible repeat(first|apply Kd.R_alloc|apply Kd.R_drewN|apply Kd.R_drew));exact HO_7.out⟩,⟨by repeat(first|(with_reducible first|exact HB.out|apply below_alloc|apply pw_below_drewN|apply below_drew1)|exact HB.out)⟩⟩
        case round=>
         clear H'
         try clear c1
         try clear p1
         try clear q1
         try clear hx1
         try clear p2
         try clear c4
         try clear c4b0
         try clear c4b1
         try clear c5
         try clear c5b0
         try clear c5b1
         try clear p6
         try clear c9
         try clear c9b0
         try clear c10
         try clear c10b0
         try clear c11
         try clear c11b0
         try clear p12
         try clear q12
         try clear hx12
         try clear hf12
         try clear c15
         try clear c15b0
         try clear c16
         try clear c16b0
         try clear p17
         try clear q17
         try clear hx17
         try clear hf17
         try clear hx12_0
         try clear hx17_0
         try clear p12
         try clear p17
         try clear p2
         try clear q12
         try clear q17
         obtain⟨x7_2,x24_2,rfl,HA,HK2,HO_7,HB⟩:=hrel
         cases gk with
         |zero=>exact absurd HA.out (by simp [impl_fars.l1])
         |succ k2=>
          have H:=HA.out
          clear HA
          simp only [impl_fars.l1] at H
          by_cases c20:x24_2<a0
          ·rw [if_pos c20] at H
           have c20b0:decide (x24_2<a0)=true:=decide_eq_true c20
           clear c20
           replace H:=Option.bind_eq_some_iff.mp H
           obtain⟨t237,A210,H⟩:=H
           replace H:(impl_fars.l1 k2 l1 t237 a0 (wrap64 (x24_2+1)))=some r:=H
           have A21:=Aside0.mk A210
           clear A210
           have H':=Aside0.mk H
           clear H
           obtain⟨Ao22,co22,eo22⟩:=Kd.R_slice HO_7.out
           subst eo22
           go_wp2_with (first|((with_reducible refine gate_callee (f:=58) rfl ?_);refine goesL_ (some 28) rfl rfl Try.func58 (by kernel_rfl) rfl #[.slice A1 l1.length c1,.slice Ao22 x7_2.length co22] rfl zq2 ?_;(with_reducible refine(impl_relaxed.calls k2 _ _ l1 _ _ x7_2 t237 _ ?side1 ?side2 ?side3 ?side4 A21.out).mono ?_);(case side1=>repeat(first|exact(Kd.C_below HR1.out HB.out)|(with_reducible refine Kd.C_alloc ?_ _)|(with_reducible refine Kd.C_drewN ?_ _)|(with_reducible refine Kd.C_drew ?_)));(case side2=>exact HC1.out);(case side3=>repeat(first|exact(Kd.R_reads' HO_7.out).2.2|(with_reducible refine Kd.C_alloc ?_ _)|(with_reducible refine Kd.C_drewN ?_ _)|(with_reducible refine Kd.C_drew ?_)));(case side4=>exact(Kd.R_reads' HO_7.out).2.1);rintro e w23 ⟨v238,rfl,ho0,hb⟩;refine⟨_,rfl,?_⟩;have n0_:=Aside0.mk (Kd.R_elder' (zq4 HO_7) (Kd.R_base ho0) hb);have n1_:=Aside0.mk (Kd.R_lower (Kd.R_new' ho0 (Kd.R_lt (zq4 HO_7))) (below_size (zb0 HB)));have n2_:=Aside0.mk (below_step (zb0 HB) hb);clear HO_7;clear HB;have HO_7:=n0_;have HO239:=n1_;have HB:=n2_;clear n0_ n1_ n2_;(try clear hb);(try clear hb2);(try clear hk);(try clear hi);(try clear ho0)))
           go_roundg k2
           case measure=>have:=HK1.out;have:=HK2.out;omega
           case rel=>exact⟨(t237),(wrap64 (x24_2+1)),(by first|rfl|(simp;done)|(simp [*];done)),H',⟨by have:=HK1.out;have:=HK2.out;omega⟩,⟨by(try simp only [hl7_1]);(with_reducible repeat(first|apply Kd.R_alloc|apply Kd.R_drewN|apply Kd.R_drew));exact Kd.R_mono HO239.out (fun _ hk=>trivial)⟩,⟨by repeat(first|(with_reducible first|exact HB.out|apply below_alloc|apply pw_below_drewN|apply below_drew1)|exact HB.out)⟩⟩
          ·rw [if_neg c20] at H
           have c20b0:decide (x24_2<a0)=false:=decide_eq_false c20
           clear c20
           obtain rfl:=Option.some.inj H
           go_wp2
           go_ret
           exact⟨_,by first|rfl|(simp [errW_none,errW_some]<;>rfl)|(simp [*,errW_none,errW_some]<;>rfl),by(with_reducible repeat(first|apply Kd.R_alloc|apply Kd.R_drewN|apply Kd.R_drew));exact HO_7.out,by repeat(first|(with_reducible first|exact HB.out|apply below_alloc|apply pw_below_drewN|apply below_drew1)|exact HB.out)⟩
       ·rw [if_neg c16] at H
        exact absurd H (by simp)
      ·rw [if_neg c15] at H
       exact absurd H (by simp)
  ·rw [if_neg c5] at H
   exact absurd H (by simp)
 ·rw [if_neg c4] at H
  exact absurd H (by simp)
end Go.Proofs.Ytklecgkjoofipaa.P

namespace Go.Proofs.Ytklecgkjoofipaa.P
open Go.RowKit Go.Proofs.YtklecgkjoofipaaW.PrintWords Go.Proofs.YtklecgkjoofipaaW.PrintLast Go.Proofs.YtklecgkjoofipaaW.PrintMore
attribute [local go_sem] max2_int min2_int max_two min_two max_three min_three max_four min_four   -- for this text's walks alone
set_option linter.unusedVariables false
set_option linter.unusedSimpArgs false
def impl_FarsFrom.f (k:Nat) (a0:Int) (l1:List (S67)) (a2:Int):Option (List Int × Bool):=(impl_goodAt.f k a0 l1 (([a2] :List Int))).bind fun t335=>(if t335=true then((impl_fars.f k a0 l1 a2).bind fun t336=>(some (t336,true))) else(some (([] :List Int),false)))
set_option maxHeartbeats 8000000 in
set_option maxRecDepth 100000 in
theorem impl_FarsFrom.calls (k:Nat) (a0:Int) (A1:Option Addr) (c1:Nat) (l1:List (S67)) (a2:Int) (r1:List Int) (r2:Bool) (w:World) (hr1:Kd.C k67 w A1 l1.length l1) (hc1:l1.length≤c1) (h:impl_FarsFrom.f k a0 l1 a2=some (r1,r2)):
  Calls Try.prog 27 #[.int .i64 a0,.slice A1 l1.length c1,.int .i64 a2] w fun e w'=> ∃ v0_:Value,e= .returned (.tuple #[v0_,.bool r2])∧Kd.R (Kd.int .i64) 3 w' w.heap.size (fun _=>True) v0_ r1∧Below w.heap.size w w':=by
 have HR1:=Aside0.mk hr1
 have HC1:=Aside0.mk hc1
 clear hr1 hc1
 have HB:=Aside0.mk (Below.refl w.heap.size w)
 have H:((impl_goodAt.f k a0 l1 (([a2] :List Int))).bind fun t335=>(if t335=true then((impl_fars.f k a0 l1 a2).bind fun t336=>(some (t336,true))) else(some (([] :List Int),false))))=some (r1,r2):=h
 clear h
 obtain⟨y332,hy332⟩ :∃ y_:List Int,y_= (([a2] :List Int)):=⟨_,rfl⟩
 replace H:((impl_goodAt.f k a0 l1 y332).bind fun t335=>(if t335=true then((impl_fars.f k a0 l1 a2).bind fun t336=>(some (t336,true))) else(some (([] :List Int),false))))=some (r1,r2):=by first|(rw [hy332];with_reducible exact H)|(have H2_:=(Option.bind_some _ _).symm.trans H;rw [hy332];with_reducible exact H2_)|(have H2_:=(Option.bind_some _ _).symm.trans H;with_reducible exact H2_)|with_reducible exact H|(rw [hy332];exact H)|exact H
 have Ny332:=Aside0.mk hy332
 clear hy332
 replace H:=Option.bind_eq_some_iff.mp H
 obtain⟨t335,A40,H⟩:=H
 replace H:(if t335=true then((impl_fars.f k a0 l1 a2).bind fun t336=>(some (t336,true))) else(some (([] :List Int),false)))=some (r1,r2):=H
 have A4:=Aside0.mk A40
 clear A40
 by_cases c5:t335=true
 ·subst c5
  have H1:((impl_fars.f k a0 l1 a2).bind fun t336=>(some (t336,true)))=some (r1,r2):=by rw [if_pos rfl] at H;exact H
  clear H
  have H:=H1
  clear H1
  replace H:=Option.bind_eq_some_iff.mp H
  obtain⟨t336,A60,H⟩:=H
  replace H:(some (t336,true))=some (r1,r2):=H
  have A6:=Aside0.mk A60
  clear A60
  simp only [Option.some.injEq,Prod.mk.injEq] at H
  obtain⟨rfl,rfl⟩:=H
  go_enter Try.func27,Try.ntmps27
  go_wp2_with (first|((with_reducible refine gate_dst (N:=11) rfl ?_);refine Kd.R_lit (Kd.int .i64) _ 3 ?hg (N:=11) ?hd (xs:=([a2] :List Int)) (inner:= [.int .i64 a2]) (ok:=fun _=>True) (okp:=fun _=>True) ?hr ?hp (fun _ hk=>hk) trivial (Below.refl _ _) (Nat.le_refl _) (by simp) ?_;(case hd=>rfl);(case hg=>rfl);(case hr=>first|(go_simp;done)|(go_simp;rfl));(case hp=>exact(Reps.one (show Kd.M (Kd.int .i64) _ _ _ a2 [.int .i64 a2] from rfl) (Reps.none _ _)));intro v333 w7 ho8 hb hg_ hnew_;clear hg_ hnew_;(first|rw [← Ny332.out] at ho8|(simp only [Int.reduceToNat] at ho8;rw [← Ny332.out] at ho8));have n0_:=Aside0.mk (Kd.R_lower ho8 (below_size (zb0 HB)));have n1_:=Aside0.mk (below_step (zb0 HB) hb);clear HB;have HO334:=n0_;have HB:=n1_;clear n0_ n1_;clear hb ho8;obtain⟨Ao9,co9,eo9⟩:=Kd.R_slice HO334.out;subst eo9)|((with_reducible refine gate_callee (f:=50) rfl ?_);refine goesL_ (some 12) rfl rfl Try.func50 (by kernel_rfl) rfl #[.int .i64 a0,.slice A1 l1.length c1,.slice Ao9 y332.length co9] rfl zq2 ?_;(with_reducible refine(impl_goodAt.calls k a0 _ _ l1 _ _ y332 true _ ?side1 ?side2 ?side3 ?side4 A4.out).mono ?_);(case side1=>repeat(first|exact(Kd.C_below HR1.out HB.out)|(with_reducible refine Kd.C_alloc ?_ _)|(with_reducible refine Kd.C_drewN ?_ _)|(with_reducible refine Kd.C_drew ?_)));(case side2=>exact HC1.out);(case side3=>repeat(first|exact(Kd.R_reads' HO334.out).2.2|(with_reducible refine Kd.C_alloc ?_ _)|(with_reducible refine Kd.C_drewN ?_ _)|(with_reducible refine Kd.C_drew ?_)));(case side4=>exact(Kd.R_reads' HO334.out).2.1);rintro e w10 ⟨rfl,hb⟩;refine⟨_,rfl,?_⟩;have n0_:=Aside0.mk (Kd.R_below (zq4 HO334) hb);have n1_:=Aside0.mk (below_step (zb0 HB) hb);clear HO334;clear HB;have HO334:=n0_;have HB:=n1_;clear n0_ n1_;(try clear hb);(try clear hb2);(try clear hk);(try clear hi))|((with_reducible refine gate_callee (f:=55) rfl ?_);refine goesL_ (some 17) rfl rfl Try.func55 (by kernel_rfl) rfl #[.int .i64 a0,.slice A1 l1.length c1,.int .i64 a2] rfl zq2 ?_;(with_reducible refine(impl_fars.calls k a0 _ _ l1 a2 t336 _ ?side1 ?side2 A6.out).mono ?_);(case side1=>repeat(first|exact(Kd.C_below HR1.out HB.out)|(with_reducible refine Kd.C_alloc ?_ _)|(with_reducible refine Kd.C_drewN ?_ _)|(with_reducible refine Kd.C_drew ?_)));(case side2=>exact HC1.out);rintro e w11 ⟨v337,rfl,ho0,hb⟩;refine⟨_,rfl,?_⟩;have n0_:=Aside0.mk (Kd.R_elder' (zq4 HO334) (Kd.R_base ho0) hb);have n1_:=Aside0.mk (Kd.R_lower (Kd.R_new' ho0 (Kd.R_lt (zq4 HO334))) (below_size (zb0 HB)));have n2_:=Aside0.mk (below_step (zb0 HB) hb);clear HO334;clear HB;have HO334:=n0_;have HO338:=n1_;have HB:=n2_;clear n0_ n1_ n2_;(try clear hb);(try clear hb2);(try clear hk);(try clear hi);(try clear ho0)))
  go_ret2
  exact⟨_,by first|rfl|(simp [errW_none,errW_some]<;>rfl)|(simp [*,errW_none,errW_some]<;>rfl),by(with_reducible repeat(first|apply Kd.R_alloc|apply Kd.R_drewN|apply Kd.R_drew));exact Kd.R_mono HO338.out (fun _ hk=>trivial),by repeat(first|(with_reducible first|exact HB.out|apply below_alloc|apply pw_below_drewN|apply below_drew1)|exact HB.out)⟩
 ·replace c5:=Bool.eq_false_iff.mpr c5
  subst c5
  have H1:(some (([] :List Int),false))=some (r1,r2):=by rw [if_neg (show ¬ (false=true) by decide)] at H;exact H
  clear H
  have H:=H1
  clear H1
  simp only [Option.some.injEq,Prod.mk.injEq] at H
  obtain⟨rfl,rfl⟩:=H
  go_enter Try.func27,Try.ntmps27
  go_wp2_with (first|((with_reducible refine gate_dst (N:=11) rfl ?_);refine Kd.R_lit (Kd.int .i64) _ 3 ?hg (N:=11) ?hd (xs:=([a2] :List Int)) (inner:= [.int .i64 a2]) (ok:=fun _=>True) (okp:=fun _=>True) ?hr ?hp (fun _ hk=>hk) trivial (Below.refl _ _) (Nat.le_refl _) (by simp) ?_;(case hd=>rfl);(case hg=>rfl);(case hr=>first|(go_simp;done)|(go_simp;rfl));(case hp=>exact(Reps.one (show Kd.M (Kd.int .i64) _ _ _ a2 [.int .i64 a2] from rfl) (Reps.none _ _)));intro v333 w12 ho13 hb hg_ hnew_;clear hg_ hnew_;(first|rw [← Ny332.out] at ho13|(simp only [Int.reduceToNat] at ho13;rw [← Ny332.out] at ho13));have n0_:=Aside0.mk (Kd.R_lower ho13 (below_size (zb0 HB)));have n1_:=Aside0.mk (below_step (zb0 HB) hb);clear HB;have HO334:=n0_;have HB:=n1_;clear n0_ n1_;clear hb ho13;obtain⟨Ao14,co14,eo14⟩:=Kd.R_slice HO334.out;subst eo14)|((with_reducible refine gate_callee (f:=50) rfl ?_);refine goesL_ (some 12) rfl rfl Try.func50 (by kernel_rfl) rfl #[.int .i64 a0,.slice A1 l1.length c1,.slice Ao14 y332.length co14] rfl zq2 ?_;(with_reducible refine(impl_goodAt.calls k a0 _ _ l1 _ _ y332 false _ ?side1 ?side2 ?side3 ?side4 A4.out).mono ?_);(case side1=>repeat(first|exact(Kd.C_below HR1.out HB.out)|(with_reducible refine Kd.C_alloc ?_ _)|(with_reducible refine Kd.C_drewN ?_ _)|(with_reducible refine Kd.C_drew ?_)));(case side2=>exact HC1.out);(case side3=>repeat(first|exact(Kd.R_reads' HO334.out).2.2|(with_reducible refine Kd.C_alloc ?_ _)|(with_reducible refine Kd.C_drewN ?_ _)|(with_reducible refine Kd.C_drew ?_)));(case side4=>exact(Kd.R_reads' HO334.out).2.1);rintro e w15 ⟨rfl,hb⟩;refine⟨_,rfl,?_⟩;have n0_:=Aside0.mk (Kd.R_below (zq4 HO334) hb);have n1_:=Aside0.mk (below_step (zb0 HB) hb);clear HO334;clear HB;have HO334:=n0_;have HB:=n1_;clear n0_ n1_;(try clear hb);(try clear hb2);(try clear hk);(try clear hi)))
  go_ret2
  exact⟨_,by first|rfl|(simp [errW_none,errW_some]<;>rfl)|(simp [*,errW_none,errW_some]<;>rfl),by first|exact Kd.R_nil _ _ _ _ _|exact Kd.N_nil _ _ _ _ _|exact Kd.V_nil _ _ _ _ _|exact Kd.Q_nil _ _ _ _ _|exact Kd.S_nil _ _ _ _ _,by repeat(first|(with_reducible first|exact HB.out|apply below_alloc|apply pw_below_drewN|apply below_drew1)|exact HB.out)⟩
end Go.Proofs.Ytklecgkjoofipaa.P

namespace Go.Proofs.Ytklecgkjoofipaa.P
open Go.RowKit Go.Proofs.YtklecgkjoofipaaW.PrintWords Go.Proofs.YtklecgkjoofipaaW.PrintLast Go.Proofs.YtklecgkjoofipaaW.PrintMore
attribute [local go_sem] max2_int min2_int max_two min_two max_three min_three max_four min_four   -- for this text's walks alone
set_option linter.unusedVariables false
set_option linter.unusedSimpArgs false
def spec_l9Two.f (k:Nat) (a0:Int) (l1:List (S67)) (a2:Int) (a3:Int):Option (Bool):=(spec_GoodEdges.f k a0 l1).bind fun t374=>(if t374=true then((spec_l1In.f a2 0 (wrap64 (a0 - 1))).bind fun t375=>(if t375=true then((spec_l1In.f a3 0 (wrap64 (a0 - 1))).bind fun t376=>(some t376)) else(some false))) else(some false))
set_option maxHeartbeats 8000000 in
set_option maxRecDepth 100000 in
theorem spec_l9Two.calls (k:Nat) (a0:Int) (A1:Option Addr) (c1:Nat) (l1:List (S67)) (a2:Int) (a3:Int) (r:Bool) (w:World) (hr1:Kd.C k67 w A1 l1.length l1) (hc1:l1.length≤c1) (h:spec_l9Two.f k a0 l1 a2 a3=some r):
  Calls Try.prog 59 #[.int .i64 a0,.slice A1 l1.length c1,.int .i64 a2,.int .i64 a3] w fun e w'=>e= .returned (.bool r)∧Below w.heap.size w w':=by
 have HR1:=Aside0.mk hr1
 have HC1:=Aside0.mk hc1
 clear hr1 hc1
 have HB:=Aside0.mk (Below.refl w.heap.size w)
 have H:((spec_GoodEdges.f k a0 l1).bind fun t374=>(if t374=true then((spec_l1In.f a2 0 (wrap64 (a0 - 1))).bind fun t375=>(if t375=true then((spec_l1In.f a3 0 (wrap64 (a0 - 1))).bind fun t376=>(some t376)) else(some false))) else(some false)))=some r:=h
 clear h
 replace H:=Option.bind_eq_some_iff.mp H
 obtain⟨t374,A50,H⟩:=H
 replace H:(if t374=true then((spec_l1In.f a2 0 (wrap64 (a0 - 1))).bind fun t375=>(if t375=true then((spec_l1In.f a3 0 (wrap64 (a0 - 1))).bind fun t376=>(some t376)) else(some false))) else(some false))=some r:=H
 have A5:=Aside0.mk A50
 clear A50
 by_cases c6:t374=true
 ·subst c6
  have H1:((spec_l1In.f a2 0 (wrap64 (a0 - 1))).bind fun t375=>(if t375=true then((spec_l1In.f a3 0 (wrap64 (a0 - 1))).bind fun t376=>(some t376)) else(some false)))=some r:=by rw [if_pos rfl] at H;exact H
  clear H
  have H:=H1
  clear H1
  replace H:=Option.bind_eq_some_iff.mp H
  obtain⟨t375,A70,H⟩:=H
  replace H:(if t375=true then((spec_l1In.f a3 0 (wrap64 (a0 - 1))).bind fun t376=>(some t376)) else(some false))=some r:=H
  have A7:=Aside0.mk A70
  clear A70
  by_cases c8:t375=true
  ·subst c8
   have H1:((spec_l1In.f a3 0 (wrap64 (a0 - 1))).bind fun t376=>(some t376))=some r:=by rw [if_pos rfl] at H;exact H
   clear H
   have H:=H1
   clear H1
   replace H:=Option.bind_eq_some_iff.mp H
   obtain⟨t376,A90,H⟩:=H
   replace H:(some t376)=some r:=H
   have A9:=Aside0.mk A90
   clear A90
   obtain rfl:=Option.some.inj H
   go_enter Try.func59,Try.ntmps59
   go_wp2_with (first|((with_reducible refine gate_callee (f:=44) rfl ?_);refine goesL_ (some 11) rfl rfl Try.func44 (by kernel_rfl) rfl #[.int .i64 a0,.slice A1 l1.length c1] rfl zq2 ?_;(with_reducible refine(spec_GoodEdges.calls k a0 _ _ l1 true _ ?side1 ?side2 A5.out).mono ?_);(case side1=>repeat(first|exact HR1.out|(with_reducible refine Kd.C_alloc ?_ _)|(with_reducible refine Kd.C_drewN ?_ _)|(with_reducible refine Kd.C_drew ?_)));(case side2=>exact HC1.out);rintro e w10 ⟨rfl,hb⟩;refine⟨_,rfl,?_⟩;have n0_:=Aside0.mk (below_step (zb0 HB) hb);clear HB;have HB:=n0_;clear n0_;(try clear hb);(try clear hb2);(try clear hk);(try clear hi))|(go_at_call 45;(with_reducible refine(spec_l1In.calls a2 0 (wrap64 (a0 - 1)) true _ A7.out).mono ?_);rintro e w' ⟨rfl,⟨nd,rfl⟩⟩)|(go_at_call 45;(with_reducible refine(spec_l1In.calls a3 0 (wrap64 (a0 - 1)) t376 _ A9.out).mono ?_);rintro e w' ⟨rfl,⟨nd,rfl⟩⟩))
   go_ret
   exact⟨by first|rfl|(simp [errW_none,errW_some]<;>rfl)|(simp [*,errW_none,errW_some]<;>rfl),by repeat(first|(with_reducible first|exact HB.out|apply below_alloc|apply pw_below_drewN|apply below_drew1)|exact HB.out)⟩
  ·replace c8:=Bool.eq_false_iff.mpr c8
   subst c8
   have H1:(some false)=some r:=by rw [if_neg (show ¬ (false=true) by decide)] at H;exact H
   clear H
   have H:=H1
   clear H1
   obtain rfl:=Option.some.inj H
   go_enter Try.func59,Try.ntmps59
   go_wp2_with (first|((with_reducible refine gate_callee (f:=44) rfl ?_);refine goesL_ (some 11) rfl rfl Try.func44 (by kernel_rfl) rfl #[.int .i64 a0,.slice A1 l1.length c1] rfl zq2 ?_;(with_reducible refine(spec_GoodEdges.calls k a0 _ _ l1 true _ ?side1 ?side2 A5.out).mono ?_);(case side1=>repeat(first|exact HR1.out|(with_reducible refine Kd.C_alloc ?_ _)|(with_reducible refine Kd.C_drewN ?_ _)|(with_reducible refine Kd.C_drew ?_)));(case side2=>exact HC1.out);rintro e w11 ⟨rfl,hb⟩;refine⟨_,rfl,?_⟩;have n0_:=Aside0.mk (below_step (zb0 HB) hb);clear HB;have HB:=n0_;clear n0_;(try clear hb);(try clear hb2);(try clear hk);(try clear hi))|(go_at_call 45;(with_reducible refine(spec_l1In.calls a2 0 (wrap64 (a0 - 1)) false _ A7.out).mono ?_);rintro e w' ⟨rfl,⟨nd,rfl⟩⟩))
   go_ret
   exact⟨by first|rfl|(simp [errW_none,errW_some]<;>rfl)|(simp [*,errW_none,errW_some]<;>rfl),by repeat(first|(with_reducible first|exact HB.out|apply below_alloc|apply pw_below_drewN|apply below_drew1)|exact HB.out)⟩
 ·replace c6:=Bool.eq_false_iff.mpr c6
  subst c6
  have H1:(some false)=some r:=by rw [if_neg (show ¬ (false=true) by decide)] at H;exact H
  clear H
  have H:=H1
  clear H1
  obtain rfl:=Option.some.inj H
  go_enter Try.func59,Try.ntmps59
  go_wp2_with (first|((with_reducible refine gate_callee (f:=44) rfl ?_);refine goesL_ (some 11) rfl rfl Try.func44 (by kernel_rfl) rfl #[.int .i64 a0,.slice A1 l1.length c1] rfl zq2 ?_;(with_reducible refine(spec_GoodEdges.calls k a0 _ _ l1 false _ ?side1 ?side2 A5.out).mono ?_);(case side1=>repeat(first|exact HR1.out|(with_reducible refine Kd.C_alloc ?_ _)|(with_reducible refine Kd.C_drewN ?_ _)|(with_reducible refine Kd.C_drew ?_)));(case side2=>exact HC1.out);rintro e w12 ⟨rfl,hb⟩;refine⟨_,rfl,?_⟩;have n0_:=Aside0.mk (below_step (zb0 HB) hb);clear HB;have HB:=n0_;clear n0_;(try clear hb);(try clear hb2);(try clear hk);(try clear hi)))
  go_ret
  exact⟨by first|rfl|(simp [errW_none,errW_some]<;>rfl)|(simp [*,errW_none,errW_some]<;>rfl),by repeat(first|(with_reducible first|exact HB.out|apply below_alloc|apply pw_below_drewN|apply below_drew1)|exact HB.out)⟩
def spec_l1Put.l0:Nat→List Int→Int→Int→Option (List Int)
 | 0,_,_,_=>none
 |k+1,x0,x1,x5=>if x5< (x0.length:Int) then(if 0≤x5 then(if (rd x0 x5)<x1 then(spec_l1Put.l0 k x0 x1 (wrap64 (x5+1))) else(if (rd x0 x5)=x1 then(some x0) else((some (([] :List Int):List Int)).bind fun y379=>(if x5≤ (x0.length:Int) then((some (x0.take (x5:Int).toNat:List Int)).bind fun y382=>(if y379.length+y382.length< 17592186044416 then((some (y379++y382:List Int)).bind fun y386=>(if y386.length< 17592186044416 then((some (y386++ [x1] :List Int)).bind fun y389=>((some (x0.drop (x5:Int).toNat:List Int)).bind fun y392=>(if y389.length+y392.length< 17592186044416 then(some (y389++y392)) else(none)))) else(none))) else(none))) else(none))))) else(none)) else((some (([] :List Int):List Int)).bind fun y399=>(if 0≤x5 then(if x5≤ (x0.length:Int) then((some (x0.take (x5:Int).toNat:List Int)).bind fun y402=>(if y399.length+y402.length< 17592186044416 then((some (y399++y402:List Int)).bind fun y406=>(if y406.length< 17592186044416 then((some (y406++ [x1] :List Int)).bind fun y409=>((some (x0.drop (x5:Int).toNat:List Int)).bind fun y412=>(if y409.length+y412.length< 17592186044416 then(some (y409++y412)) else(none)))) else(none))) else(none))) else(none)) else(none)))
def spec_l1Put.f (k:Nat) (l0:List Int) (a1:Int):Option (List Int):=spec_l1Put.l0 k l0 a1 0
set_option maxHeartbeats 8000000 in
set_option maxRecDepth 100000 in
theorem spec_l1Put.calls (k:Nat) (P0_:Nat→Prop) (u9000_:Value) (l0:List Int) (a1:Int) (r:List Int) (w0 w:World) (hB:Below w0.heap.size w0 w) (ho0:Kd.R (Kd.int .i64) 3 w w0.heap.size P0_ u9000_ l0) (h:spec_l1Put.f k l0 a1=some r):
  Calls Try.prog 77 #[u9000_,.int .i64 a1] w fun e w'=> ∃ v0_:Value,e= .returned (v0_)∧Kd.R (Kd.int .i64) 3 w' w0.heap.size (fun k_=>(P0_ k_∨w.heap.size≤k_)) v0_ r∧Below w0.heap.size w0 w'∧Kept w w' (fun k_=>P0_ k_):=by
 have HO0:=Aside0.mk (show Kd.R (Kd.int .i64) 3 w w0.heap.size (fun k_=>(P0_ k_∨w.heap.size≤k_)) u9000_ l0 from Kd.R_mono ho0 (fun k_ hk=>(.inl hk)))
 have HK:=Aside0.mk (Kept.refl w (fun k_=>P0_ k_))
 have HW0:=Aside0.mk hB.size
 have HB:=Aside0.mk hB
 clear hB
 have H:(spec_l1Put.l0 k l0 a1 0)=some r:=h
 clear h
 have H':=Aside0.mk H
 clear H
 go_enter Try.func77,Try.ntmps77
 go_wp2
 go_loopg [5] k (fun kq v5 w'=> ∃ (x5_1:Int),v5= .int .i64 x5_1∧Aside0 (spec_l1Put.l0 kq l0 a1 x5_1=some r)∧Aside0 (kq≤k)∧Aside0 (Kd.R (Kd.int .i64) 3 w' w0.heap.size (fun k_=>(P0_ k_∨w.heap.size≤k_)) u9000_ l0)∧Aside0 (Kept w w' (fun k_=>P0_ k_))∧Aside0 (Below w0.heap.size w0 w'))
 case atStart=>exact⟨(0),(by first|rfl|(simp;done)|(simp [*];done)),H',⟨Nat.le_refl _⟩,⟨by(with_reducible repeat(first|apply Kd.R_alloc|apply Kd.R_drewN|apply Kd.R_drew));exact HO0.out⟩,⟨by repeat(first|(with_reducible first|exact HK.out|apply Kept.alloc|apply Kept.drewN|apply Kept.drew)|exact HK.out)⟩,⟨by repeat(first|(with_reducible first|exact HB.out|apply below_alloc|apply pw_below_drewN|apply below_drew1)|exact HB.out)⟩⟩
 case round=>
  clear H'
  try clear p2
  obtain⟨x5_1,rfl,HA,HK1,HO_0,HK,HB⟩:=hrel
  cases gk with
  |zero=>exact absurd HA.out (by simp [spec_l1Put.l0])
  |succ k1=>
   have H:=HA.out
   clear HA
   simp only [spec_l1Put.l0] at H
   by_cases c3:x5_1< (l0.length:Int)
   ·rw [if_pos c3] at H
    have c3b0:decide (x5_1< (l0.length:Int))=true:=decide_eq_true c3
    clear c3
    by_cases c4: 0≤x5_1
    ·rw [if_pos c4] at H
     have c4b0:decide (0≤x5_1)=true:=decide_eq_true c4
     clear c4
     by_cases c5:(rd l0 x5_1)<a1
     ·rw [if_pos c5] at H
      have c5b0:decide ((rd l0 x5_1)<a1)=true:=decide_eq_true c5
      clear c5
      have H':=Aside0.mk H
      clear H
      obtain⟨Ao6,co6,eo6⟩:=Kd.R_slice HO_0.out
      subst eo6
      have p377: 0≤ (x5_1:Int):=of_decide_eq_true zq1
      have q377:x5_1< (l0.length:Int):=of_decide_eq_true zq1
      obtain⟨ad377,e377,hx377_0⟩:=Kd.at_int (Kd.R_reads' HO_0.out).2.2 x5_1 p377 q377
      cases e377
      replace p377:=eq_true p377
      replace q377:=eq_true q377
      go_wp2
      go_roundg k1
      case measure=>have:=HK1.out;omega
      case rel=>exact⟨(wrap64 (x5_1+1)),(by first|rfl|(simp;done)|(simp [*];done)),H',⟨by have:=HK1.out;omega⟩,⟨by(with_reducible repeat(first|apply Kd.R_alloc|apply Kd.R_drewN|apply Kd.R_drew));exact HO_0.out⟩,⟨by repeat(first|(with_reducible first|exact HK.out|apply Kept.alloc|apply Kept.drewN|apply Kept.drew)|exact HK.out)⟩,⟨by repeat(first|(with_reducible first|exact HB.out|apply below_alloc|apply pw_below_drewN|apply below_drew1)|exact HB.out)⟩⟩
     ·rw [if_neg c5] at H
      have c5b0:decide ((rd l0 x5_1)<a1)=false:=decide_eq_false c5
      clear c5
      by_cases c7:(rd l0 x5_1)=a1
      ·rw [if_pos c7] at H
       have c7b0:((rd l0 x5_1)==a1)=true:=beq_iff_eq.mpr c7
       have c7b1:((rd l0 x5_1) !=a1)=false:=bne_eq_false_iff_eq.mpr c7
       clear c7
       obtain rfl:=Option.some.inj H
       obtain⟨Ao8,co8,eo8⟩:=Kd.R_slice HO_0.out
       subst eo8
       have p377: 0≤ (x5_1:Int):=of_decide_eq_true zq1
       have q377:x5_1< (l0.length:Int):=of_decide_eq_true zq1
       obtain⟨ad377,e377,hx377_0⟩:=Kd.at_int (Kd.R_reads' HO_0.out).2.2 x5_1 p377 q377
       cases e377
       replace p377:=eq_true p377
       replace q377:=eq_true q377
       have p378: 0≤ (x5_1:Int):=of_decide_eq_true zq1
       have q378:x5_1< (l0.length:Int):=of_decide_eq_true zq1
       obtain⟨ad378,e378,hx378_0⟩:=Kd.at_int (Kd.R_reads' HO_0.out).2.2 x5_1 p378 q378
       obtain rfl:ad377=ad378:=(by injection e378)
       replace p378:=eq_true p378
       replace q378:=eq_true q378
       go_wp2
       go_ret
       exact⟨_,by first|rfl|(simp [errW_none,errW_some]<;>rfl)|(simp [*,errW_none,errW_some]<;>rfl),by(with_reducible repeat(first|apply Kd.R_alloc|apply Kd.R_drewN|apply Kd.R_drew));exact HO_0.out,by repeat(first|(with_reducible first|exact HB.out|apply below_alloc|apply pw_below_drewN|apply below_drew1)|exact HB.out),by repeat(first|(with_reducible first|exact HK.out|apply Kept.alloc|apply Kept.drewN|apply Kept.drew)|exact HK.out)⟩
      ·rw [if_neg c7] at H
       have c7b0:((rd l0 x5_1)==a1)=false:=beq_eq_false_iff_ne.mpr c7
       have c7b1:((rd l0 x5_1) !=a1)=true:=bne_iff_ne.mpr c7
       obtain⟨y379,hy379⟩ :∃ y_:List Int,y_= (([] :List Int)):=⟨_,rfl⟩
       replace H:(if x5_1≤ (l0.length:Int) then((some (l0.take (x5_1:Int).toNat:List Int)).bind fun y382=>(if y379.length+y382.length< 17592186044416 then((some (y379++y382:List Int)).bind fun y386=>(if y386.length< 17592186044416 then((some (y386++ [a1] :List Int)).bind fun y389=>((some (l0.drop (x5_1:Int).toNat:List Int)).bind fun y392=>(if y389.length+y392.length< 17592186044416 then(some (y389++y392)) else(none)))) else(none))) else(none))) else(none))=some r:=by first|(rw [hy379];with_reducible exact H)|(have H2_:=(Option.bind_some _ _).symm.trans H;rw [hy379];with_reducible exact H2_)|(have H2_:=(Option.bind_some _ _).symm.trans H;with_reducible exact H2_)|with_reducible exact H|(rw [hy379];exact H)|exact H
       have Ny379:=Aside0.mk hy379
       clear hy379
       have c9b0:=eq_true (of_decide_eq_true zq1: 0≤x5_1)
       by_cases c10:x5_1≤ (l0.length:Int)
       ·rw [if_pos c10] at H
        have c10b0:=eq_true c10
        have c10b1:decide (x5_1≤ (l0.length:Int))=true:=decide_eq_true c10
        clear c10
        obtain⟨y382,hy382⟩ :∃ y_:List Int,y_= (l0.take (x5_1:Int).toNat):=⟨_,rfl⟩
        replace H:(if y379.length+y382.length< 17592186044416 then((some (y379++y382:List Int)).bind fun y386=>(if y386.length< 17592186044416 then((some (y386++ [a1] :List Int)).bind fun y389=>((some (l0.drop (x5_1:Int).toNat:List Int)).bind fun y392=>(if y389.length+y392.length< 17592186044416 then(some (y389++y392)) else(none)))) else(none))) else(none))=some r:=by first|(rw [hy382];with_reducible exact H)|(have H2_:=(Option.bind_some _ _).symm.trans H;rw [hy382];with_reducible exact H2_)|(have H2_:=(Option.bind_some _ _).symm.trans H;with_reducible exact H2_)|with_reducible exact H|(rw [hy382];exact H)|exact H
        have Ny382:=Aside0.mk hy382
        clear hy382
        by_cases c11:y379.length+y382.length< 17592186044416
        ·rw [if_pos c11] at H
         have LMc11:=Aside0.mk c11
         clear c11
         obtain⟨y386,hy386⟩ :∃ y_:List Int,y_= (y379++y382):=⟨_,rfl⟩
         replace H:(if y386.length< 17592186044416 then((some (y386++ [a1] :List Int)).bind fun y389=>((some (l0.drop (x5_1:Int).toNat:List Int)).bind fun y392=>(if y389.length+y392.length< 17592186044416 then(some (y389++y392)) else(none)))) else(none))=some r:=by first|(rw [hy386];with_reducible exact H)|(have H2_:=(Option.bind_some _ _).symm.trans H;rw [hy386];with_reducible exact H2_)|(have H2_:=(Option.bind_some _ _).symm.trans H;with_reducible exact H2_)|with_reducible exact H|(rw [hy386];exact H)|exact H
         have Ny386:=Aside0.mk hy386
         clear hy386
         by_cases c12:y386.length< 17592186044416
         ·rw [if_pos c12] at H
          have LMc12:=Aside0.mk c12
          clear c12
          obtain⟨y389,hy389⟩ :∃ y_:List Int,y_= (y386++ [a1]):=⟨_,rfl⟩
          replace H:((some (l0.drop (x5_1:Int).toNat:List Int)).bind fun y392=>(if y389.length+y392.length< 17592186044416 then(some (y389++y392)) else(none)))=some r:=by first|(rw [hy389];with_reducible exact H)|(have H2_:=(Option.bind_some _ _).symm.trans H;rw [hy389];with_reducible exact H2_)|(have H2_:=(Option.bind_some _ _).symm.trans H;with_reducible exact H2_)|with_reducible exact H|(rw [hy389];exact H)|exact H
          have Ny389:=Aside0.mk hy389
          clear hy389
          have c13b0:=eq_true (of_decide_eq_true zq1: 0≤x5_1)
          have c14b0:=eq_true (of_decide_eq_true zq1:x5_1≤ (l0.length:Int))
          obtain⟨y392,hy392⟩ :∃ y_:List Int,y_= (l0.drop (x5_1:Int).toNat):=⟨_,rfl⟩
          replace H:(if y389.length+y392.length< 17592186044416 then(some (y389++y392)) else(none))=some r:=by first|(rw [hy392];with_reducible exact H)|(have H2_:=(Option.bind_some _ _).symm.trans H;rw [hy392];with_reducible exact H2_)|(have H2_:=(Option.bind_some _ _).symm.trans H;with_reducible exact H2_)|with_reducible exact H|(rw [hy392];exact H)|exact H
          have Ny392:=Aside0.mk hy392
          clear hy392
          by_cases c15:y389.length+y392.length< 17592186044416
          ·rw [if_pos c15] at H
           have LMc15:=Aside0.mk c15
           clear c15
           obtain⟨y396,hy396⟩ :∃ y_:List Int,y_= (y389++y392):=⟨_,rfl⟩
           replace H:(some y396)=some r:=by first|(rw [hy396];with_reducible exact H)|(have H2_:=(Option.bind_some _ _).symm.trans H;rw [hy396];with_reducible exact H2_)|(have H2_:=(Option.bind_some _ _).symm.trans H;with_reducible exact H2_)|with_reducible exact H|(rw [hy396];exact H)|exact H
           have Ny396:=Aside0.mk hy396
           clear hy396
           obtain rfl:=Option.some.inj H
           obtain⟨Ao16,co16,eo16⟩:=Kd.R_slice HO_0.out
           subst eo16
           have p377: 0≤ (x5_1:Int):=of_decide_eq_true zq1
           have q377:x5_1< (l0.length:Int):=of_decide_eq_true zq1
           obtain⟨ad377,e377,hx377_0⟩:=Kd.at_int (Kd.R_reads' HO_0.out).2.2 x5_1 p377 q377
           cases e377
           replace p377:=eq_true p377
           replace q377:=eq_true q377
           have p378: 0≤ (x5_1:Int):=of_decide_eq_true zq1
           have q378:x5_1< (l0.length:Int):=of_decide_eq_true zq1
           obtain⟨ad378,e378,hx378_0⟩:=Kd.at_int (Kd.R_reads' HO_0.out).2.2 x5_1 p378 q378
           obtain rfl:ad377=ad378:=(by injection e378)
           replace p378:=eq_true p378
           replace q378:=eq_true q378
           go_wp2_with (first|((with_reducible refine gate_dst (N:=34) rfl ?_);refine Kd.R_lit (Kd.int .i64) _ 3 ?hg (N:=34) ?hd (xs:=([] :List Int)) (inner:= []) (ok:=fun _=>True) (okp:=fun _=>True) ?hr ?hp (fun _ hk=>hk) trivial (Below.refl _ _) (Nat.le_refl _) (by simp) ?_;(case hd=>rfl);(case hg=>rfl);(case hr=>first|(go_simp;done)|(go_simp;rfl));(case hp=>exact(Reps.none _ _));intro v380 w17 ho18 hb hg_ hnew_;clear hg_ hnew_;(first|rw [← Ny379.out] at ho18|(simp only [Int.reduceToNat] at ho18;rw [← Ny379.out] at ho18));have n0_:=Aside0.mk (Kd.R_elder' (zq4 HO_0) (Kd.R_base ho18) hb);have n1_:=Aside0.mk (Kd.R_lower (Kd.R_new' (Kd.R_newM (M:=fun k_=>(P0_ k_∨w.heap.size≤k_)) ho18 (by first|exact HK.out.1|exact(show Kept w _ (fun k_=>P0_ k_) from by repeat(first|(with_reducible first|exact HK.out|apply Kept.alloc|apply Kept.drewN|apply Kept.drew)|exact HK.out)).1) (fun k_ h_=> .inr h_)) (Kd.R_lt (zq4 HO_0))) (below_size (zb0 HB)));have n2_:=Aside0.mk (Kept.below (S:=(fun k_=>P0_ k_)) (by repeat(first|(with_reducible first|exact HK.out|apply Kept.alloc|apply Kept.drewN|apply Kept.drew)|exact HK.out)) hb);have n3_:=Aside0.mk (below_step (zb0 HB) hb);clear HO_0;clear HK;clear HB;have HO_0:=n0_;have HO381:=n1_;have HK:=n2_;have HB:=n3_;clear n0_ n1_ n2_ n3_;clear hb ho18;have q19:(x5_1:Int)≤ ((l0.length:Int):Int):=of_decide_eq_true zq1;obtain⟨i019,hi019,_,hsz19,_⟩:=info_parts info3;have hroom19:l0.length≤co16:=(Kd.R_reads' HO_0.out).2.1;have hC19:Kd.C (Kd.int .i64) _ (some ad377) l0.length l0:=(Kd.R_reads' HO_0.out).2.2;have hcut19:=cut_to (P:=Try.prog) 23 3 .i64 Try.underlying23 hi019 (some ad377) l0.length co16 x5_1 (of_decide_eq_true zq1) q19 hroom19;have hr19:=Kd.C_take (m:=(x5_1:Int).toNat) hC19 (by omega);have hy19:y382.length= (x5_1:Int).toNat:=(by rw [Ny382.out,List.length_take];omega);rw [← Ny382.out] at hr19;rw [← hy19] at hcut19;have HR385:=Aside0.mk hr19;have HC385:=Aside0.mk (show y382.length≤co16 from by omega);clear hr19 hC19 hroom19 hi019 hsz19;have KY19:=Aside0.mk hy19;clear hy19;have KL19:=Aside0.mk (show (x5_1:Int).toNat≤l0.length from by omega);replace q19:=eq_true q19)|((with_reducible refine gate_builtin (b:= .append) (xs:= #[.tmp 34,.tmp 37]) rfl ?_);at_builtin;refine Kd.R_append_rows (Kd.int .i64) (w0:=w0) w0.heap.size rfl (.tmp 34) (.tmp 37) 23 3 (.int .i64 0) 8 rfl Try.underlying23 info3 rfl (by decide) (by omega) v380 y379 y382 _ _ _ (fun k_=>(P0_ k_∨w.heap.size≤k_)∧some k_≠ (.slice (some ad377) l0.length co16:Value).ownBlock) (fun _=>False) rfl rfl ?aO ?aR (fun _ _ h=>h) (fun _ h=>h.elim) ?aF ?aB ?aS ?aL ?_;(case aR=>repeat(first|exact(by repeat(first|(with_reducible exact HR385.out)|(with_reducible refine Kd.C_alloc ?_ _)|(with_reducible refine Kd.C_drewN ?_ _)|(with_reducible refine Kd.C_drew ?_)|exact HR385.out))|(with_reducible refine Kd.C_alloc ?_ _)|(with_reducible refine Kd.C_drewN ?_ _)|(with_reducible refine Kd.C_drew ?_)));(case aB=>exact(zb0 HB));(case aF=>exact(fun k_ hk=>⟨(.inr (Nat.le_trans (by first|exact HK.out.1|exact(show Kept w _ (fun k_=>P0_ k_) from by repeat(first|(with_reducible first|exact HK.out|apply Kept.alloc|apply Kept.drewN|apply Kept.drew)|exact HK.out)).1) hk)),Kd.fresh' (Kd.R_lt (zq4 HO_0)) k_ hk⟩));(case aO=>exact(by(with_reducible repeat(first|apply Kd.R_alloc|apply Kd.R_drewN|apply Kd.R_drew));exact Kd.R_mono HO381.out (fun _ hk=>⟨hk.1.1,hk.2⟩)));(case aS=>exact(below_size (zb0 HB)));(case aL=>have:=LMc11.out;omega);intro v387 w20 ho hb hg hat;rw [← Ny386.out] at ho;have n0_:=Aside0.mk (Kd.R_after (ok:=(fun k_=>(P0_ k_∨w.heap.size≤k_))) (zq4 HO_0) hg hat);have n1_:=Aside0.mk (hb);have n2_:=Aside0.mk (Kept.of_grown (S:=(fun k_=>P0_ k_)) hg (by repeat(first|(with_reducible first|exact HK.out|apply Kept.alloc|apply Kept.drewN|apply Kept.drew)|exact HK.out)) (fun k_ e_=>(HO381.out.1 k_ e_).1.1));have n3_:=Aside0.mk ((show Kd.C (Kd.int .i64) w20 (some ad377) y382.length y382 from by rw [Ny382.out];exact Kd.C_take (m:=(x5_1:Int).toNat) ((Kd.R_reads' (Kd.R_after (ok:=(fun k_=>(P0_ k_∨w.heap.size≤k_))) (zq4 HO_0) hg hat)).2.2) KL19.out));have n4_:=Aside0.mk (ho);clear HO_0;clear HB;clear HK;clear HR385;clear HO381;have HO_0:=n0_;have HB:=n1_;have HK:=n2_;have HR385:=n3_;have HO388:=n4_;clear n0_ n1_ n2_ n3_ n4_;clear ho hb hg hat)|((with_reducible refine gate_builtin (b:= .append) (xs:= #[.tmp 39,.tmp 41]) rfl ?_);at_builtin;refine Kd.R_append (Kd.int .i64) (w0:=w0) w0.heap.size rfl (.tmp 39) (.tmp 41) 23 3 (.int .i64 0) 8 rfl Try.underlying23 info3 rfl (by decide) (by omega) v387 y386 a1 [.int .i64 a1] (fun k_=>(P0_ k_∨w.heap.size≤k_)∧some k_≠ (.slice (some ad377) l0.length co16:Value).ownBlock) (fun _=>False) rfl rfl ?aP (fun _ hk=>hk.elim) ?aF ?aO ?aB ?aS ?aL ?_;(case aP=>exact rfl);(case aB=>exact(zb0 HB));(case aF=>exact(fun k_ hk=>⟨(.inr (Nat.le_trans (by first|exact HK.out.1|exact(show Kept w _ (fun k_=>P0_ k_) from by repeat(first|(with_reducible first|exact HK.out|apply Kept.alloc|apply Kept.drewN|apply Kept.drew)|exact HK.out)).1) hk)),Kd.fresh' (Kd.R_lt (zq4 HO_0)) k_ hk⟩));(case aO=>exact(zq4 HO388));(case aS=>exact(below_size (zb0 HB)));(case aL=>have:=LMc12.out;omega);intro v390 w21 ho hb hg hat;rw [← Ny389.out] at ho;have n0_:=Aside0.mk (Kd.R_after (ok:=(fun k_=>(P0_ k_∨w.heap.size≤k_))) (zq4 HO_0) hg hat);have n1_:=Aside0.mk (hb);have n2_:=Aside0.mk (Kept.of_grown (S:=(fun k_=>P0_ k_)) hg (by repeat(first|(with_reducible first|exact HK.out|apply Kept.alloc|apply Kept.drewN|apply Kept.drew)|exact HK.out)) (fun k_ e_=>(HO388.out.1 k_ e_).1));have n3_:=Aside0.mk ((show Kd.C (Kd.int .i64) w21 (some ad377) y382.length y382 from by rw [Ny382.out];exact Kd.C_take (m:=(x5_1:Int).toNat) ((Kd.R_reads' (Kd.R_after (ok:=(fun k_=>(P0_ k_∨w.heap.size≤k_))) (zq4 HO_0) hg hat)).2.2) KL19.out));have n4_:=Aside0.mk (ho);clear HO_0;clear HB;clear HK;clear HR385;clear HO388;have HO_0:=n0_;have HB:=n1_;have HK:=n2_;have HR385:=n3_;have HO391:=n4_;clear n0_ n1_ n2_ n3_ n4_;clear ho hb hg hat;have q22:(x5_1:Int)≤ ((l0.length:Int):Int):=of_decide_eq_true zq1;obtain⟨i022,hi022,_,hsz22,_⟩:=info_parts info3;have hroom22:l0.length≤co16:=(Kd.R_reads' HO_0.out).2.1;have hC22:Kd.C (Kd.int .i64) _ (some ad377) l0.length l0:=(Kd.R_reads' HO_0.out).2.2;have q022:(0:Int)≤ (x5_1:Int):=of_decide_eq_true zq1;have hcut22:=cut_from (P:=Try.prog) 23 3 .i64 Try.underlying23 hi022 1 hsz22 (some ad377) l0.length co16 x5_1 q022 q22;have hr22:=Kd.C_drop (m:=(x5_1:Int).toNat) (c:=co16) hC22 (by omega) hroom22;obtain⟨A22,hA22⟩ :∃ A1,A1= (if co16= (x5_1:Int).toNat then(some ad377) else((some ad377):Option Addr).map (·.add ((x5_1:Int).toNat * 1))):=⟨_,rfl⟩;obtain⟨c22,hc22⟩ :∃ c1,c1=co16 - (x5_1:Int).toNat:=⟨_,rfl⟩;have hy22:y392.length=l0.length - (x5_1:Int).toNat:=(by rw [Ny392.out,List.length_drop]<;>omega);rw [show (l0).drop (x5_1:Int).toNat=y392 from Ny392.out.symm] at hr22;replace hr22:Kd.C (Kd.int .i64) _ A22 y392.length y392:=(by rw [hA22];exact hr22);rw [← hy22,← hA22,← hc22] at hcut22;have HR395:=Aside0.mk hr22;have HC395:=Aside0.mk (show y392.length≤c22 from by rw [hy22,hc22];exact Nat.sub_le_sub_right hroom22 _);clear hr22 hC22 hroom22 hi022 hsz22 hc22;have KY22:=Aside0.mk hy22;have KA22:=Aside0.mk hA22;clear hy22 hA22;have KL22:=Aside0.mk (show (x5_1:Int).toNat≤l0.length from by omega);replace q22:=eq_true q22)|((with_reducible refine gate_builtin (b:= .append) (xs:= #[.tmp 43,.tmp 46]) rfl ?_);at_builtin;refine Kd.R_append_rows (Kd.int .i64) (w0:=w0) w0.heap.size rfl (.tmp 43) (.tmp 46) 23 3 (.int .i64 0) 8 rfl Try.underlying23 info3 rfl (by decide) (by omega) v390 y389 y392 _ _ _ (fun k_=>(P0_ k_∨w.heap.size≤k_)∧some k_≠ (.slice (some ad377) l0.length co16:Value).ownBlock) (fun _=>False) rfl rfl ?aO ?aR (fun _ _ h=>h) (fun _ h=>h.elim) ?aF ?aB ?aS ?aL ?_;(case aR=>repeat(first|exact(by repeat(first|(with_reducible exact HR395.out)|(with_reducible refine Kd.C_alloc ?_ _)|(with_reducible refine Kd.C_drewN ?_ _)|(with_reducible refine Kd.C_drew ?_)|exact HR395.out))|(with_reducible refine Kd.C_alloc ?_ _)|(with_reducible refine Kd.C_drewN ?_ _)|(with_reducible refine Kd.C_drew ?_)));(case aB=>exact(zb0 HB));(case aF=>exact(fun k_ hk=>⟨(.inr (Nat.le_trans (by first|exact HK.out.1|exact(show Kept w _ (fun k_=>P0_ k_) from by repeat(first|(with_reducible first|exact HK.out|apply Kept.alloc|apply Kept.drewN|apply Kept.drew)|exact HK.out)).1) hk)),Kd.fresh' (Kd.R_lt (zq4 HO_0)) k_ hk⟩));(case aO=>exact(zq4 HO391));(case aS=>exact(below_size (zb0 HB)));(case aL=>have:=LMc15.out;omega);intro v397 w23 ho hb hg hat;rw [← Ny396.out] at ho;have n0_:=Aside0.mk (Kd.R_after (ok:=(fun k_=>(P0_ k_∨w.heap.size≤k_))) (zq4 HO_0) hg hat);have n1_:=Aside0.mk (hb);have n2_:=Aside0.mk (Kept.of_grown (S:=(fun k_=>P0_ k_)) hg (by repeat(first|(with_reducible first|exact HK.out|apply Kept.alloc|apply Kept.drewN|apply Kept.drew)|exact HK.out)) (fun k_ e_=>(HO391.out.1 k_ e_).1));have n3_:=Aside0.mk ((show Kd.C (Kd.int .i64) w23 (some ad377) y382.length y382 from by rw [Ny382.out];exact Kd.C_take (m:=(x5_1:Int).toNat) ((Kd.R_reads' (Kd.R_after (ok:=(fun k_=>(P0_ k_∨w.heap.size≤k_))) (zq4 HO_0) hg hat)).2.2) KL19.out));have n4_:=Aside0.mk ((show Kd.C (Kd.int .i64) w23 A22 y392.length y392 from by rw [Ny392.out,KA22.out];exact Kd.C_drop (m:=(x5_1:Int).toNat) (c:=co16) ((Kd.R_reads' (Kd.R_after (ok:=(fun k_=>(P0_ k_∨w.heap.size≤k_))) (zq4 HO_0) hg hat)).2.2) KL22.out ((Kd.R_reads' (Kd.R_after (ok:=(fun k_=>(P0_ k_∨w.heap.size≤k_))) (zq4 HO_0) hg hat)).2.1)));have n5_:=Aside0.mk (ho);clear HO_0;clear HB;clear HK;clear HR385;clear HR395;clear HO391;have HO_0:=n0_;have HB:=n1_;have HK:=n2_;have HR385:=n3_;have HR395:=n4_;have HO398:=n5_;clear n0_ n1_ n2_ n3_ n4_ n5_;clear ho hb hg hat))
           go_ret
           exact⟨_,by first|rfl|(simp [errW_none,errW_some]<;>rfl)|(simp [*,errW_none,errW_some]<;>rfl),by(with_reducible repeat(first|apply Kd.R_alloc|apply Kd.R_drewN|apply Kd.R_drew));exact Kd.R_mono HO398.out (fun _ hk=>hk.1),by repeat(first|(with_reducible first|exact HB.out|apply below_alloc|apply pw_below_drewN|apply below_drew1)|exact HB.out),by repeat(first|(with_reducible first|exact HK.out|apply Kept.alloc|apply Kept.drewN|apply Kept.drew)|exact HK.out)⟩
          ·rw [if_neg c15] at H
           exact absurd H (by simp)
         ·rw [if_neg c12] at H
          exact absurd H (by simp)
        ·rw [if_neg c11] at H
         exact absurd H (by simp)
       ·rw [if_neg c10] at H
        exact absurd H (by simp)
    ·rw [if_neg c4] at H
     exact absurd H (by simp)
   ·rw [if_neg c3] at H
    have c3b0:decide (x5_1< (l0.length:Int))=false:=decide_eq_false c3
    clear c3
    obtain⟨y399,hy399⟩ :∃ y_:List Int,y_= (([] :List Int)):=⟨_,rfl⟩
    replace H:(if 0≤x5_1 then(if x5_1≤ (l0.length:Int) then((some (l0.take (x5_1:Int).toNat:List Int)).bind fun y402=>(if y399.length+y402.length< 17592186044416 then((some (y399++y402:List Int)).bind fun y406=>(if y406.length< 17592186044416 then((some (y406++ [a1] :List Int)).bind fun y409=>((some (l0.drop (x5_1:Int).toNat:List Int)).bind fun y412=>(if y409.length+y412.length< 17592186044416 then(some (y409++y412)) else(none)))) else(none))) else(none))) else(none)) else(none))=some r:=by first|(rw [hy399];with_reducible exact H)|(have H2_:=(Option.bind_some _ _).symm.trans H;rw [hy399];with_reducible exact H2_)|(have H2_:=(Option.bind_some _ _).symm.trans H;with_reducible exact H2_)|with_reducible exact H|(rw [hy399];exact H)|exact H
    have Ny399:=Aside0.mk hy399
    clear hy399
    by_cases c24: 0≤x5_1
    ·rw [if_pos c24] at H
     have c24b0:=eq_true c24
     have c24b1:decide (0≤x5_1)=true:=decide_eq_true c24
     clear c24
     by_cases c25:x5_1≤ (l0.length:Int)
     ·rw [if_pos c25] at H
      have c25b0:=eq_true c25
      have c25b1:decide (x5_1≤ (l0.length:Int))=true:=decide_eq_true c25
      clear c25
      obtain⟨y402,hy402⟩ :∃ y_:List Int,y_= (l0.take (x5_1:Int).toNat):=⟨_,rfl⟩
      replace H:(if y399.length+y402.length< 17592186044416 then((some (y399++y402:List Int)).bind fun y406=>(if y406.length< 17592186044416 then((some (y406++ [a1] :List Int)).bind fun y409=>((some (l0.drop (x5_1:Int).toNat:List Int)).bind fun y412=>(if y409.length+y412.length< 17592186044416 then(some (y409++y412)) else(none)))) else(none))) else(none))=some r:=by first|(rw [hy402];with_reducible exact H)|(have H2_:=(Option.bind_some _ _).symm.trans H;rw [hy402];with_reducible exact H2_)|(have H2_:=(Option.bind_some _ _).symm.trans H;with_reducible exact H2_)|with_reducible exact H|(rw [hy402];exact H)|exact H
      have Ny402:=Aside0.mk hy402
      clear hy402
      by_cases c26:y399.length+y402.length< 17592186044416
      ·rw [if_pos c26] at H
       have LMc26:=Aside0.mk c26
       clear c26
       obtain⟨y406,hy406⟩ :∃ y_:List Int,y_= (y399++y402):=⟨_,rfl⟩
       replace H:(if y406.length< 17592186044416 then((some (y406++ [a1] :List Int)).bind fun y409=>((some (l0.drop (x5_1:Int).toNat:List Int)).bind fun y412=>(if y409.length+y412.length< 17592186044416 then(some (y409++y412)) else(none)))) else(none))=some r:=by first|(rw [hy406];with_reducible exact H)|(have H2_:=(Option.bind_some _ _).symm.trans H;rw [hy406];with_reducible exact H2_)|(have H2_:=(Option.bind_some _ _).symm.trans H;with_reducible exact H2_)|with_reducible exact H|(rw [hy406];exact H)|exact H
       have Ny406:=Aside0.mk hy406
       clear hy406
       by_cases c27:y406.length< 17592186044416
       ·rw [if_pos c27] at H
        have LMc27:=Aside0.mk c27
        clear c27
        obtain⟨y409,hy409⟩ :∃ y_:List Int,y_= (y406++ [a1]):=⟨_,rfl⟩
        replace H:((some (l0.drop (x5_1:Int).toNat:List Int)).bind fun y412=>(if y409.length+y412.length< 17592186044416 then(some (y409++y412)) else(none)))=some r:=by first|(rw [hy409];with_reducible exact H)|(have H2_:=(Option.bind_some _ _).symm.trans H;rw [hy409];with_reducible exact H2_)|(have H2_:=(Option.bind_some _ _).symm.trans H;with_reducible exact H2_)|with_reducible exact H|(rw [hy409];exact H)|exact H
        have Ny409:=Aside0.mk hy409
        clear hy409
        have c28b0:=eq_true (of_decide_eq_true zq1: 0≤x5_1)
        have c29b0:=eq_true (of_decide_eq_true zq1:x5_1≤ (l0.length:Int))
        obtain⟨y412,hy412⟩ :∃ y_:List Int,y_= (l0.drop (x5_1:Int).toNat):=⟨_,rfl⟩
        replace H:(if y409.length+y412.length< 17592186044416 then(some (y409++y412)) else(none))=some r:=by first|(rw [hy412];with_reducible exact H)|(have H2_:=(Option.bind_some _ _).symm.trans H;rw [hy412];with_reducible exact H2_)|(have H2_:=(Option.bind_some _ _).symm.trans H;with_reducible exact H2_)|with_reducible exact H|(rw [hy412];exact H)|exact H
        have Ny412:=Aside0.mk hy412
        clear hy412
        by_cases c30:y409.length+y412.length< 17592186044416
        ·rw [if_pos c30] at H
         have LMc30:=Aside0.mk c30
         clear c30
         obtain⟨y416,hy416⟩ :∃ y_:List Int,y_= (y409++y412):=⟨_,rfl⟩
         replace H:(some y416)=some r:=by first|(rw [hy416];with_reducible exact H)|(have H2_:=(Option.bind_some _ _).symm.trans H;rw [hy416];with_reducible exact H2_)|(have H2_:=(Option.bind_some _ _).symm.trans H;with_reducible exact H2_)|with_reducible exact H|(rw [hy416];exact H)|exact H
         have Ny416:=Aside0.mk hy416
         clear hy416
         obtain rfl:=Option.some.inj H
         obtain⟨Ao31,co31,eo31⟩:=Kd.R_slice HO_0.out
         subst eo31
         go_wp2_with (first|((with_reducible refine gate_dst (N:=34) rfl ?_);refine Kd.R_lit (Kd.int .i64) _ 3 ?hg (N:=34) ?hd (xs:=([] :List Int)) (inner:= []) (ok:=fun _=>True) (okp:=fun _=>True) ?hr ?hp (fun _ hk=>hk) trivial (Below.refl _ _) (Nat.le_refl _) (by simp) ?_;(case hd=>rfl);(case hg=>rfl);(case hr=>first|(go_simp;done)|(go_simp;rfl));(case hp=>exact(Reps.none _ _));intro v400 w32 ho33 hb hg_ hnew_;clear hg_ hnew_;(first|rw [← Ny399.out] at ho33|(simp only [Int.reduceToNat] at ho33;rw [← Ny399.out] at ho33));have n0_:=Aside0.mk (Kd.R_elder' (zq4 HO_0) (Kd.R_base ho33) hb);have n1_:=Aside0.mk (Kd.R_lower (Kd.R_new' (Kd.R_newM (M:=fun k_=>(P0_ k_∨w.heap.size≤k_)) ho33 (by first|exact HK.out.1|exact(show Kept w _ (fun k_=>P0_ k_) from by repeat(first|(with_reducible first|exact HK.out|apply Kept.alloc|apply Kept.drewN|apply Kept.drew)|exact HK.out)).1) (fun k_ h_=> .inr h_)) (Kd.R_lt (zq4 HO_0))) (below_size (zb0 HB)));have n2_:=Aside0.mk (Kept.below (S:=(fun k_=>P0_ k_)) (by repeat(first|(with_reducible first|exact HK.out|apply Kept.alloc|apply Kept.drewN|apply Kept.drew)|exact HK.out)) hb);have n3_:=Aside0.mk (below_step (zb0 HB) hb);clear HO_0;clear HK;clear HB;have HO_0:=n0_;have HO401:=n1_;have HK:=n2_;have HB:=n3_;clear n0_ n1_ n2_ n3_;clear hb ho33;have q34:(x5_1:Int)≤ ((l0.length:Int):Int):=of_decide_eq_true zq1;obtain⟨i034,hi034,_,hsz34,_⟩:=info_parts info3;have hroom34:l0.length≤co31:=(Kd.R_reads' HO_0.out).2.1;have hC34:Kd.C (Kd.int .i64) _ Ao31 l0.length l0:=(Kd.R_reads' HO_0.out).2.2;have hcut34:=cut_to (P:=Try.prog) 23 3 .i64 Try.underlying23 hi034 Ao31 l0.length co31 x5_1 (of_decide_eq_true zq1) q34 hroom34;have hr34:=Kd.C_take (m:=(x5_1:Int).toNat) hC34 (by omega);have hy34:y402.length= (x5_1:Int).toNat:=(by rw [Ny402.out,List.length_take];omega);rw [← Ny402.out] at hr34;rw [← hy34] at hcut34;have HR405:=Aside0.mk hr34;have HC405:=Aside0.mk (show y402.length≤co31 from by omega);clear hr34 hC34 hroom34 hi034 hsz34;have KY34:=Aside0.mk hy34;clear hy34;have KL34:=Aside0.mk (show (x5_1:Int).toNat≤l0.length from by omega);replace q34:=eq_true q34)|((with_reducible refine gate_builtin (b:= .append) (xs:= #[.tmp 34,.tmp 37]) rfl ?_);at_builtin;refine Kd.R_append_rows (Kd.int .i64) (w0:=w0) w0.heap.size rfl (.tmp 34) (.tmp 37) 23 3 (.int .i64 0) 8 rfl Try.underlying23 info3 rfl (by decide) (by omega) v400 y399 y402 _ _ _ (fun k_=>(P0_ k_∨w.heap.size≤k_)∧some k_≠ (.slice Ao31 l0.length co31:Value).ownBlock) (fun _=>False) rfl rfl ?aO ?aR (fun _ _ h=>h) (fun _ h=>h.elim) ?aF ?aB ?aS ?aL ?_;(case aR=>repeat(first|exact(by repeat(first|(with_reducible exact HR405.out)|(with_reducible refine Kd.C_alloc ?_ _)|(with_reducible refine Kd.C_drewN ?_ _)|(with_reducible refine Kd.C_drew ?_)|exact HR405.out))|(with_reducible refine Kd.C_alloc ?_ _)|(with_reducible refine Kd.C_drewN ?_ _)|(with_reducible refine Kd.C_drew ?_)));(case aB=>exact(zb0 HB));(case aF=>exact(fun k_ hk=>⟨(.inr (Nat.le_trans (by first|exact HK.out.1|exact(show Kept w _ (fun k_=>P0_ k_) from by repeat(first|(with_reducible first|exact HK.out|apply Kept.alloc|apply Kept.drewN|apply Kept.drew)|exact HK.out)).1) hk)),Kd.fresh' (Kd.R_lt (zq4 HO_0)) k_ hk⟩));(case aO=>exact(by(with_reducible repeat(first|apply Kd.R_alloc|apply Kd.R_drewN|apply Kd.R_drew));exact Kd.R_mono HO401.out (fun _ hk=>⟨hk.1.1,hk.2⟩)));(case aS=>exact(below_size (zb0 HB)));(case aL=>have:=LMc26.out;omega);intro v407 w35 ho hb hg hat;rw [← Ny406.out] at ho;have n0_:=Aside0.mk (Kd.R_after (ok:=(fun k_=>(P0_ k_∨w.heap.size≤k_))) (zq4 HO_0) hg hat);have n1_:=Aside0.mk (hb);have n2_:=Aside0.mk (Kept.of_grown (S:=(fun k_=>P0_ k_)) hg (by repeat(first|(with_reducible first|exact HK.out|apply Kept.alloc|apply Kept.drewN|apply Kept.drew)|exact HK.out)) (fun k_ e_=>(HO401.out.1 k_ e_).1.1));have n3_:=Aside0.mk ((show Kd.C (Kd.int .i64) w35 Ao31 y402.length y402 from by rw [Ny402.out];exact Kd.C_take (m:=(x5_1:Int).toNat) ((Kd.R_reads' (Kd.R_after (ok:=(fun k_=>(P0_ k_∨w.heap.size≤k_))) (zq4 HO_0) hg hat)).2.2) KL34.out));have n4_:=Aside0.mk (ho);clear HO_0;clear HB;clear HK;clear HR405;clear HO401;have HO_0:=n0_;have HB:=n1_;have HK:=n2_;have HR405:=n3_;have HO408:=n4_;clear n0_ n1_ n2_ n3_ n4_;clear ho hb hg hat)|((with_reducible refine gate_builtin (b:= .append) (xs:= #[.tmp 39,.tmp 41]) rfl ?_);at_builtin;refine Kd.R_append (Kd.int .i64) (w0:=w0) w0.heap.size rfl (.tmp 39) (.tmp 41) 23 3 (.int .i64 0) 8 rfl Try.underlying23 info3 rfl (by decide) (by omega) v407 y406 a1 [.int .i64 a1] (fun k_=>(P0_ k_∨w.heap.size≤k_)∧some k_≠ (.slice Ao31 l0.length co31:Value).ownBlock) (fun _=>False) rfl rfl ?aP (fun _ hk=>hk.elim) ?aF ?aO ?aB ?aS ?aL ?_;(case aP=>exact rfl);(case aB=>exact(zb0 HB));(case aF=>exact(fun k_ hk=>⟨(.inr (Nat.le_trans (by first|exact HK.out.1|exact(show Kept w _ (fun k_=>P0_ k_) from by repeat(first|(with_reducible first|exact HK.out|apply Kept.alloc|apply Kept.drewN|apply Kept.drew)|exact HK.out)).1) hk)),Kd.fresh' (Kd.R_lt (zq4 HO_0)) k_ hk⟩));(case aO=>exact(zq4 HO408));(case aS=>exact(below_size (zb0 HB)));(case aL=>have:=LMc27.out;omega);intro v410 w36 ho hb hg hat;rw [← Ny409.out] at ho;have n0_:=Aside0.mk (Kd.R_after (ok:=(fun k_=>(P0_ k_∨w.heap.size≤k_))) (zq4 HO_0) hg hat);have n1_:=Aside0.mk (hb);have n2_:=Aside0.mk (Kept.of_grown (S:=(fun k_=>P0_ k_)) hg (by repeat(first|(with_reducible first|exact HK.out|apply Kept.alloc|apply Kept.drewN|apply Kept.drew)|exact HK.out)) (fun k_ e_=>(HO408.out.1 k_ e_).1));have n3_:=Aside0.mk ((show Kd.C (Kd.int .i64) w36 Ao31 y402.length y402 from by rw [Ny402.out];exact Kd.C_take (m:=(x5_1:Int).toNat) ((Kd.R_reads' (Kd.R_after (ok:=(fun k_=>(P0_ k_∨w.heap.size≤k_))) (zq4 HO_0) hg hat)).2.2) KL34.out));have n4_:=Aside0.mk (ho);clear HO_0;clear HB;clear HK;clear HR405;clear HO408;have HO_0:=n0_;have HB:=n1_;have HK:=n2_;have HR405:=n3_;have HO411:=n4_;clear n0_ n1_ n2_ n3_ n4_;clear ho hb hg hat;have q37:(x5_1:Int)≤ ((l0.length:Int):Int):=of_decide_eq_true zq1;obtain⟨i037,hi037,_,hsz37,_⟩:=info_parts info3;have hroom37:l0.length≤co31:=(Kd.R_reads' HO_0.out).2.1;have hC37:Kd.C (Kd.int .i64) _ Ao31 l0.length l0:=(Kd.R_reads' HO_0.out).2.2;have q037:(0:Int)≤ (x5_1:Int):=of_decide_eq_true zq1;have hcut37:=cut_from (P:=Try.prog) 23 3 .i64 Try.underlying23 hi037 1 hsz37 Ao31 l0.length co31 x5_1 q037 q37;have hr37:=Kd.C_drop (m:=(x5_1:Int).toNat) (c:=co31) hC37 (by omega) hroom37;obtain⟨A37,hA37⟩ :∃ A1,A1= (if co31= (x5_1:Int).toNat then Ao31 else(Ao31:Option Addr).map (·.add ((x5_1:Int).toNat * 1))):=⟨_,rfl⟩;obtain⟨c37,hc37⟩ :∃ c1,c1=co31 - (x5_1:Int).toNat:=⟨_,rfl⟩;have hy37:y412.length=l0.length - (x5_1:Int).toNat:=(by rw [Ny412.out,List.length_drop]<;>omega);rw [show (l0).drop (x5_1:Int).toNat=y412 from Ny412.out.symm] at hr37;replace hr37:Kd.C (Kd.int .i64) _ A37 y412.length y412:=(by rw [hA37];exact hr37);rw [← hy37,← hA37,← hc37] at hcut37;have HR415:=Aside0.mk hr37;have HC415:=Aside0.mk (show y412.length≤c37 from by rw [hy37,hc37];exact Nat.sub_le_sub_right hroom37 _);clear hr37 hC37 hroom37 hi037 hsz37 hc37;have KY37:=Aside0.mk hy37;have KA37:=Aside0.mk hA37;clear hy37 hA37;have KL37:=Aside0.mk (show (x5_1:Int).toNat≤l0.length from by omega);replace q37:=eq_true q37)|((with_reducible refine gate_builtin (b:= .append) (xs:= #[.tmp 43,.tmp 46]) rfl ?_);at_builtin;refine Kd.R_append_rows (Kd.int .i64) (w0:=w0) w0.heap.size rfl (.tmp 43) (.tmp 46) 23 3 (.int .i64 0) 8 rfl Try.underlying23 info3 rfl (by decide) (by omega) v410 y409 y412 _ _ _ (fun k_=>(P0_ k_∨w.heap.size≤k_)∧some k_≠ (.slice Ao31 l0.length co31:Value).ownBlock) (fun _=>False) rfl rfl ?aO ?aR (fun _ _ h=>h) (fun _ h=>h.elim) ?aF ?aB ?aS ?aL ?_;(case aR=>repeat(first|exact(by repeat(first|(with_reducible exact HR415.out)|(with_reducible refine Kd.C_alloc ?_ _)|(with_reducible refine Kd.C_drewN ?_ _)|(with_reducible refine Kd.C_drew ?_)|exact HR415.out))|(with_reducible refine Kd.C_alloc ?_ _)|(with_reducible refine Kd.C_drewN ?_ _)|(with_reducible refine Kd.C_drew ?_)));(case aB=>exact(zb0 HB));(case aF=>exact(fun k_ hk=>⟨(.inr (Nat.le_trans (by first|exact HK.out.1|exact(show Kept w _ (fun k_=>P0_ k_) from by repeat(first|(with_reducible first|exact HK.out|apply Kept.alloc|apply Kept.drewN|apply Kept.drew)|exact HK.out)).1) hk)),Kd.fresh' (Kd.R_lt (zq4 HO_0)) k_ hk⟩));(case aO=>exact(zq4 HO411));(case aS=>exact(below_size (zb0 HB)));(case aL=>have:=LMc30.out;omega);intro v417 w38 ho hb hg hat;rw [← Ny416.out] at ho;have n0_:=Aside0.mk (Kd.R_after (ok:=(fun k_=>(P0_ k_∨w.heap.size≤k_))) (zq4 HO_0) hg hat);have n1_:=Aside0.mk (hb);have n2_:=Aside0.mk (Kept.of_grown (S:=(fun k_=>P0_ k_)) hg (by repeat(first|(with_reducible first|exact HK.out|apply Kept.alloc|apply Kept.drewN|apply Kept.drew)|exact HK.out)) (fun k_ e_=>(HO411.out.1 k_ e_).1));have n3_:=Aside0.mk ((show Kd.C (Kd.int .i64) w38 Ao31 y402.length y402 from by rw [Ny402.out];exact Kd.C_take (m:=(x5_1:Int).toNat) ((Kd.R_reads' (Kd.R_after (ok:=(fun k_=>(P0_ k_∨w.heap.size≤k_))) (zq4 HO_0) hg hat)).2.2) KL34.out));have n4_:=Aside0.mk ((show Kd.C (Kd.int .i64) w38 A37 y412.length y412 from by rw [Ny412.out,KA37.out];exact Kd.C_drop (m:=(x5_1:Int).toNat) (c:=co31) ((Kd.R_reads' (Kd.R_after (ok:=(fun k_=>(P0_ k_∨w.heap.size≤k_))) (zq4 HO_0) hg hat)).2.2) KL37.out ((Kd.R_reads' (Kd.R_after (ok:=(fun k_=>(P0_ k_∨w.heap.size≤k_))) (zq4 HO_0) hg hat)).2.1)));have n5_:=Aside0.mk (ho);clear HO_0;clear HB;clear HK;clear HR405;clear HR415;clear HO411;have HO_0:=n0_;have HB:=n1_;have HK:=n2_;have HR405:=n3_;have HR415:=n4_;have HO418:=n5_;clear n0_ n1_ n2_ n3_ n4_ n5_;clear ho hb hg hat))
         go_ret
         exact⟨_,by first|rfl|(simp [errW_none,errW_some]<;>rfl)|(simp [*,errW_none,errW_some]<;>rfl),by(with_reducible repeat(first|apply Kd.R_alloc|apply Kd.R_drewN|apply Kd.R_drew));exact Kd.R_mono HO418.out (fun _ hk=>hk.1),by repeat(first|(with_reducible first|exact HB.out|apply below_alloc|apply pw_below_drewN|apply below_drew1)|exact HB.out),by repeat(first|(with_reducible first|exact HK.out|apply Kept.alloc|apply Kept.drewN|apply Kept.drew)|exact HK.out)⟩
        ·rw [if_neg c30] at H
         exact absurd H (by simp)
       ·rw [if_neg c27] at H
        exact absurd H (by simp)
      ·rw [if_neg c26] at H
       exact absurd H (by simp)
     ·rw [if_neg c25] at H
      exact absurd H (by simp)
    ·rw [if_neg c24] at H
     exact absurd H (by simp)
end Go.Proofs.Ytklecgkjoofipaa.P
