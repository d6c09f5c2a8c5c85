/- Functions, walks and plain lemmas that the law FnBothWays reaches, part 4. -/
import Derived.Test.YtpbnpepikkocmaaCFnBothWays3
import Derived.Below
import Derived.Deep.Draws
import Derived.Deep.AppendLies
import Derived.Maps.AppendAt
import Derived.OwnWalk
import Derived.Laws.BytesArg
import Derived.Laws.MakeOwn
import Derived.Laws.OwnMore
import Derived.Deep.OwnRows
import Derived.Tactics
import Derived.Lib.ConvBytes
import Derived.Laws.Slices
import Derived.WalkKit
import Derived.KernelRfl
import Derived.RowKit3
import Derived.Deep.LoopGhost
import Derived.Deep.QuietTactic
import Derived.BigQuiet
import Derived.WideLaws
import Derived.Deep.DeepCutAuto
import Derived.Deep.CutBlock
import Derived.Deep.RegionHeld3
import Derived.Laws.Rows
import Derived.Lib.AppendStr
import Derived.ArgAppend
import Derived.Laws.IdiomCopy
import Derived.OrdersHeld
import Derived.Laws.BitsLemmas
import Derived.RowKit
import Derived.WalkSpells
import Derived.Lib.SliceRun
import Derived.Shelf.Abstract
import Derived.ProofKit
import Derived.OpenShut
import Derived.ShutString
import Derived.ChangeOld
import Derived.SizedLaws
namespace Go.Proofs.Ytpbnpepikkocmaa.P
open Go.RowKit Go.Proofs.YtpbnpepikkocmaaW.PrintWords Go.Proofs.YtpbnpepikkocmaaW.PrintLast Go.Proofs.YtpbnpepikkocmaaW.PrintMore
attribute [local go_sem] max2_int min2_int max_two min_two max_three min_three max_four min_four   -- for this text's walks alone
set_option linter.unusedVariables false
set_option linter.unusedSimpArgs false
def impl_cost.l0:Nat→Int→Int→List (S52)→Int→Int→Option (Int)
 | 0,_,_,_,_,_=>none
 |k+1,x1,x2,x9,x10,x11=>if x11<x10 then(if 0≤x11 then(if x11< (x9.length:Int) then(if ((rd_T52 x9 x11).f0)= (mn x1 x2) then(if ((rd_T52 x9 x11).f1)= (mx x1 x2) then(some ((rd_T52 x9 x11).f2)) else(impl_cost.l0 k x1 x2 x9 x10 (wrap64 (x11+1)))) else(impl_cost.l0 k x1 x2 x9 x10 (wrap64 (x11+1)))) else(none)) else(none)) else(some 0)
def impl_cost.f (k:Nat) (l0:List (S52)) (a1:Int) (a2:Int):Option (Int):=impl_cost.l0 k a1 a2 l0 (l0.length:Int) 0
set_option maxHeartbeats 8000000 in
set_option maxRecDepth 100000 in
theorem impl_cost.calls (k:Nat) (A0:Option Addr) (c0:Nat) (l0:List (S52)) (a1:Int) (a2:Int) (r:Int) (w:World) (hr0:Kd.C k52 w A0 l0.length l0) (hc0:l0.length≤c0) (h:impl_cost.f k l0 a1 a2=some r):
  Calls Try.prog 71 #[.slice A0 l0.length c0,.int .i64 a1,.int .i64 a2] w fun e w'=>e= .returned (.int .i64 r)∧Below w.heap.size w w':=by
 have hu52:=Try.underlying52
 have HR0:=Aside0.mk hr0
 have HC0:=Aside0.mk hc0
 clear hr0 hc0
 have HB:=Aside0.mk (Below.refl w.heap.size w)
 have H:(impl_cost.l0 k a1 a2 l0 (l0.length:Int) 0)=some r:=h
 clear h
 have H':=Aside0.mk H
 clear H
 go_enter Try.func71,Try.ntmps71
 go_wp2
 go_loopg [11] k (fun kq v11 w'=> ∃ (x11_1:Int),v11= .int .i64 x11_1∧Aside0 (impl_cost.l0 kq a1 a2 l0 (l0.length:Int) x11_1=some r)∧Aside0 (kq≤k)∧Aside0 (Below w.heap.size w w'))
 case atStart=>exact⟨(0),zrs,H',⟨Nat.le_refl _⟩,⟨by exact zk1 HB⟩⟩
 case round=>
  clear H'
  try clear p2
  obtain⟨x11_1,rfl,HA,HK1,HB⟩:=hrel
  cases gk with
  |zero=>exact absurd HA.out (by simp [impl_cost.l0])
  |succ k1=>
   have H:=HA.out
   clear HA
   simp only [impl_cost.l0] at H
   by_cases c4:x11_1< (l0.length:Int)
   ·rw [if_pos c4] at H
    have c4b0:decide (x11_1< (l0.length:Int))=true:=decide_eq_true c4
    clear c4
    by_cases c5: 0≤x11_1
    case neg=>exact znn c5 H
    rw [if_pos c5] at H
    have c5b0:decide (0≤x11_1)=true:=decide_eq_true c5
    clear c5
    by_cases c6:x11_1< (l0.length:Int)
    case neg=>exact znn c6 H
    rw [if_pos c6] at H
    have c6b0:decide (x11_1< (l0.length:Int))=true:=decide_eq_true c6
    clear c6
    obtain⟨ji7,hji7⟩ :∃ j_:Int,(mn a1 a2)=j_:=⟨_,rfl⟩
    replace H:(if ((rd_T52 l0 x11_1).f0)= (ji7) then(if ((rd_T52 l0 x11_1).f1)= (mx a1 a2) then(some ((rd_T52 l0 x11_1).f2)) else(impl_cost.l0 k1 a1 a2 l0 (l0.length:Int) (wrap64 (x11_1+1)))) else(impl_cost.l0 k1 a1 a2 l0 (l0.length:Int) (wrap64 (x11_1+1))))=some r:=by first|(rw [hji7] at H;exact H)|(simp only [hji7] at H ⊢;exact H)
    have hji7_:(if a2<a1 then a2 else a1)=ji7:=hji7
    by_cases c8:((rd_T52 l0 x11_1).f0)= (ji7)
    ·rw [if_pos c8] at H
     have c8b0:(((rd_T52 l0 x11_1).f0)== (ji7))=true:=beq_iff_eq.mpr c8
     have c8b1:(((rd_T52 l0 x11_1).f0) != (ji7))=false:=bne_eq_false_iff_eq.mpr c8
     clear c8
     obtain⟨ji9,hji9⟩ :∃ j_:Int,(mx a1 a2)=j_:=⟨_,rfl⟩
     replace H:(if ((rd_T52 l0 x11_1).f1)= (ji9) then(some ((rd_T52 l0 x11_1).f2)) else(impl_cost.l0 k1 a1 a2 l0 (l0.length:Int) (wrap64 (x11_1+1))))=some r:=by first|(rw [hji9] at H;exact H)|(simp only [hji9] at H ⊢;exact H)
     have hji9_:(if a1<a2 then a2 else a1)=ji9:=hji9
     by_cases c10:((rd_T52 l0 x11_1).f1)= (ji9)
     ·rw [if_pos c10] at H
      have c10b0:(((rd_T52 l0 x11_1).f1)== (ji9))=true:=beq_iff_eq.mpr c10
      have c10b1:(((rd_T52 l0 x11_1).f1) != (ji9))=false:=bne_eq_false_iff_eq.mpr c10
      clear c10
      obtain rfl:=Option.some.inj H
      have p413: 0≤ (x11_1:Int):=of_decide_eq_true zq1
      have q413:x11_1< (l0.length:Int):=of_decide_eq_true zq1
      obtain⟨ad413,e413,hx413_0,hx413_1,hx413_2⟩:=at_T52 HR0.out x11_1 p413 q413
      cases e413
      replace hx413_0:=zhx HB hx413_0
      replace hx413_1:=zhx HB hx413_1
      replace hx413_2:=zhx HB hx413_2
      replace p413:=eq_true p413
      replace q413:=eq_true q413
      go_wp2_with (first|((with_reducible refine gate_dst (N:=8) rfl ?_);(try(refine gate_guard (by rfl) ?_;dsimp only));refine box_event ?hg (N:=8) ?hd (cs:= #[.int .i64 0,.int .i64 0,.int .i64 0]) (t:=52) ?hr ?_;(case hd=>rfl);(case hg=>rfl);(case hr=>first|(go_simp;done)|(go_simp;rfl));intro gb414 hg w11 hbox hb;have BK414:=Aside0.mk (hbox);have GW414:=Aside0.mk ((by rw [hg];exact(below_size (by exact zk1 HB)):w.heap.size≤gb414));have GE414:=GW414;replace HB:=Aside0.mk (below_step (by exact zk1 HB) hb);clear hb hbox hg;have hcz12_0:=zcz BK414 0 (.int .i64 0);have hcz12_1:=zcz BK414 1 (.int .i64 0);have hcz12_2:=zcz BK414 2 (.int .i64 0);have hfz12_0:=blk_frozen BK414.out 0;have hfz12_1:=blk_frozen BK414.out 1;have hfz12_2:=blk_frozen BK414.out 2))
      go_ret
      exact⟨by first|rfl|(simp [errW_none,errW_some]<;>rfl)|(simp only [← hji7,← hji9];first|rfl|(simp [errW_none,errW_some]<;>rfl))|(simp [*,errW_none,errW_some]<;>rfl),by exact zk2 HB GE414.out⟩
     ·rw [if_neg c10] at H
      have c10b0:(((rd_T52 l0 x11_1).f1)== (ji9))=false:=beq_eq_false_iff_ne.mpr c10
      have c10b1:(((rd_T52 l0 x11_1).f1) != (ji9))=true:=bne_iff_ne.mpr c10
      have H':=Aside0.mk H
      clear H
      have p413: 0≤ (x11_1:Int):=of_decide_eq_true zq1
      have q413:x11_1< (l0.length:Int):=of_decide_eq_true zq1
      obtain⟨ad413,e413,hx413_0,hx413_1,hx413_2⟩:=at_T52 HR0.out x11_1 p413 q413
      cases e413
      replace hx413_0:=zhx HB hx413_0
      replace hx413_1:=zhx HB hx413_1
      replace hx413_2:=zhx HB hx413_2
      replace p413:=eq_true p413
      replace q413:=eq_true q413
      go_wp2_with (first|((with_reducible refine gate_dst (N:=8) rfl ?_);(try(refine gate_guard (by rfl) ?_;dsimp only));refine box_event ?hg (N:=8) ?hd (cs:= #[.int .i64 0,.int .i64 0,.int .i64 0]) (t:=52) ?hr ?_;(case hd=>rfl);(case hg=>rfl);(case hr=>first|(go_simp;done)|(go_simp;rfl));intro gb414 hg w13 hbox hb;have BK414:=Aside0.mk (hbox);have GW414:=Aside0.mk ((by rw [hg];exact(below_size (by exact zk1 HB)):w.heap.size≤gb414));have GE414:=GW414;replace HB:=Aside0.mk (below_step (by exact zk1 HB) hb);clear hb hbox hg;have hcz14_0:=zcz BK414 0 (.int .i64 0);have hcz14_1:=zcz BK414 1 (.int .i64 0);have hcz14_2:=zcz BK414 2 (.int .i64 0);have hfz14_0:=blk_frozen BK414.out 0;have hfz14_1:=blk_frozen BK414.out 1;have hfz14_2:=blk_frozen BK414.out 2))
      go_roundg k1
      case measure=>have:=HK1.out;omega
      case rel=>exact⟨(wrap64 (x11_1+1)),zrs,H',⟨by have:=HK1.out;omega⟩,⟨by exact zk2 HB GE414.out⟩⟩
    ·rw [if_neg c8] at H
     have c8b0:(((rd_T52 l0 x11_1).f0)== (ji7))=false:=beq_eq_false_iff_ne.mpr c8
     have c8b1:(((rd_T52 l0 x11_1).f0) != (ji7))=true:=bne_iff_ne.mpr c8
     have H':=Aside0.mk H
     clear H
     have p413: 0≤ (x11_1:Int):=of_decide_eq_true zq1
     have q413:x11_1< (l0.length:Int):=of_decide_eq_true zq1
     obtain⟨ad413,e413,hx413_0,hx413_1,hx413_2⟩:=at_T52 HR0.out x11_1 p413 q413
     cases e413
     replace hx413_0:=zhx HB hx413_0
     replace hx413_1:=zhx HB hx413_1
     replace hx413_2:=zhx HB hx413_2
     replace p413:=eq_true p413
     replace q413:=eq_true q413
     go_wp2_with (first|((with_reducible refine gate_dst (N:=8) rfl ?_);(try(refine gate_guard (by rfl) ?_;dsimp only));refine box_event ?hg (N:=8) ?hd (cs:= #[.int .i64 0,.int .i64 0,.int .i64 0]) (t:=52) ?hr ?_;(case hd=>rfl);(case hg=>rfl);(case hr=>first|(go_simp;done)|(go_simp;rfl));intro gb414 hg w15 hbox hb;have BK414:=Aside0.mk (hbox);have GW414:=Aside0.mk ((by rw [hg];exact(below_size (by exact zk1 HB)):w.heap.size≤gb414));have GE414:=GW414;replace HB:=Aside0.mk (below_step (by exact zk1 HB) hb);clear hb hbox hg;have hcz16_0:=zcz BK414 0 (.int .i64 0);have hcz16_1:=zcz BK414 1 (.int .i64 0);have hcz16_2:=zcz BK414 2 (.int .i64 0);have hfz16_0:=blk_frozen BK414.out 0;have hfz16_1:=blk_frozen BK414.out 1;have hfz16_2:=blk_frozen BK414.out 2))
     go_roundg k1
     case measure=>have:=HK1.out;omega
     case rel=>exact⟨(wrap64 (x11_1+1)),zrs,H',⟨by have:=HK1.out;omega⟩,⟨by exact zk2 HB GE414.out⟩⟩
   ·rw [if_neg c4] at H
    have c4b0:decide (x11_1< (l0.length:Int))=false:=decide_eq_false c4
    clear c4
    obtain rfl:=Option.some.inj H
    go_wp2
    go_ret
    exact⟨zer,by exact zk1 HB⟩
def impl_near.l0:Nat→List (S52)→Int→List Int→Int→Int→Option (List Int)
 | 0,_,_,_,_,_=>none
 |k+1,x1,x2,x7,x9,x10=>if x10<x9 then((impl_cost.f k x1 x2 x10).bind fun t415=>(if t415 > 0 then(if x7.length< 17592186044416 then(impl_near.l0 k x1 x2 (x7++ [x10]) x9 (wrap64 (x10+1))) else(none)) else(impl_near.l0 k x1 x2 x7 x9 (wrap64 (x10+1))))) else(some x7)
def impl_near.f (k:Nat) (a0:Int) (l1:List (S52)) (a2:Int):Option (List Int):=impl_near.l0 k l1 a2 ([] :List Int) a0 0
set_option maxHeartbeats 8000000 in
set_option maxRecDepth 100000 in
theorem impl_near.calls (k:Nat) (a0:Int) (A1:Option Addr) (c1:Nat) (l1:List (S52)) (a2:Int) (r:List Int) (w:World) (hr1:Kd.C k52 w A1 l1.length l1) (hc1:l1.length≤c1) (h:impl_near.f k a0 l1 a2=some r):
  Calls Try.prog 57 #[.int .i64 a0,.slice A1 l1.length c1,.int .i64 a2] w fun e w'=> ∃ v0_:Value,e= .returned (v0_)∧Kd.R (Kd.int .i64) 3 w' w.heap.size (fun _=>True) v0_ r∧Below w.heap.size w w':=by
 have HR1:=Aside0.mk hr1
 have HC1:=Aside0.mk hc1
 clear hr1 hc1
 have HB:=Aside0.mk (Below.refl w.heap.size w)
 have H:(impl_near.l0 k l1 a2 ([] :List Int) a0 0)=some r:=h
 clear h
 have H':=Aside0.mk H
 clear H
 go_enter Try.func57,Try.ntmps57
 go_wp2
 go_loopg [7,10] k (fun kq v7 v10 w'=> ∃ (x7_1:List Int) (x10_1:Int),v10= .int .i64 x10_1∧Aside0 (impl_near.l0 kq l1 a2 x7_1 a0 x10_1=some r)∧Aside0 (kq≤k)∧Aside0 (Kd.R (Kd.int .i64) 3 w' w.heap.size (fun _=>True) v7 x7_1)∧Aside0 (Below w.heap.size w w'))
 case atStart=>exact⟨(([] :List Int)),(0),zrs,H',⟨Nat.le_refl _⟩,⟨by first|exact Kd.R_nil _ _ _ _ _|exact Kd.N_nil _ _ _ _ _|exact Kd.V_nil _ _ _ _ _|exact Kd.Q_nil _ _ _ _ _|exact Kd.S_nil _ _ _ _ _⟩,⟨by exact zk1 HB⟩⟩
 case round=>
  clear H'
  try clear c1
  try clear p2
  obtain⟨x7_1,x10_1,rfl,HA,HK1,HO_7,HB⟩:=hrel
  cases gk with
  |zero=>exact absurd HA.out (by simp [impl_near.l0])
  |succ k1=>
   have H:=HA.out
   clear HA
   simp only [impl_near.l0] at H
   by_cases c4:x10_1<a0
   ·rw [if_pos c4] at H
    have c4b0:decide (x10_1<a0)=true:=decide_eq_true c4
    clear c4
    replace H:=Option.bind_eq_some_iff.mp H
    obtain⟨t415,A50,H⟩:=H
    replace H:(if t415 > 0 then(if x7_1.length< 17592186044416 then(impl_near.l0 k1 l1 a2 (x7_1++ [x10_1]) a0 (wrap64 (x10_1+1))) else(none)) else(impl_near.l0 k1 l1 a2 x7_1 a0 (wrap64 (x10_1+1))))=some r:=H
    have A5:=Aside0.mk A50
    clear A50
    by_cases c6:t415 > 0
    ·rw [if_pos c6] at H
     have c6b0:decide (0<t415)=true:=decide_eq_true c6
     clear c6
     by_cases c7:x7_1.length< 17592186044416
     case neg=>exact znn c7 H
     rw [if_pos c7] at H
     have LMc7:=Aside0.mk c7
     clear c7
     obtain⟨y416,hy416⟩ :∃ y_:List Int,y_= (x7_1++ [x10_1]):=⟨_,rfl⟩
     replace H:(impl_near.l0 k1 l1 a2 y416 a0 (wrap64 (x10_1+1)))=some r:=zfh hy416 H
     have Ny416:=Aside0.mk hy416
     clear hy416
     have H':=Aside0.mk H
     clear H
     go_wp2_with (first|((with_reducible refine gate_callee (f:=71) rfl ?_);refine goesL_ (some 16) rfl rfl Try.func71 (by kernel_rfl) rfl #[.slice A1 l1.length c1,.int .i64 a2,.int .i64 x10_1] rfl zq2 ?_;(with_reducible refine(impl_cost.calls k1 _ _ l1 a2 x10_1 t415 _ ?side1 ?side2 A5.out).mono ?_);(case side1=>exact zcc ((Kd.C_below HR1.out HB.out)));(case side2=>exact HC1.out);rintro e w8 ⟨rfl,hb⟩;refine⟨_,rfl,?_⟩;replace HO_7:=Aside0.mk (Kd.R_below (zq4 HO_7) hb);replace HB:=Aside0.mk (below_step (by exact zk1 HB) hb);(try clear hb);(try clear hb2);(try clear hk);(try clear hi))|((with_reducible refine gate_builtin (b:= .append) (xs:= #[.tmp 18,.tmp 20]) rfl ?_);at_builtin;refine Kd.R_append (Kd.int .i64) (w0:=w) w.heap.size rfl (.tmp 18) (.tmp 20) 30 3 (.int .i64 0) 8 rfl Try.underlying30 info3 rfl (by decide) (by omega) u7 x7_1 x10_1 [.int .i64 x10_1] (fun _=>True) (fun _=>False) rfl rfl ?aP (fun _ hk=>hk.elim) ?aF ?aO ?aB ?aS ?aL ?_;(case aP=>exact rfl);(case aB=>exact(by exact zk1 HB));(case aF=>exact(fun _ _=>trivial));(case aO=>exact(zq4 HO_7));(case aS=>exact(below_size (by exact zk1 HB)));(case aL=>have:=LMc7.out;omega);intro v417 w9 ho hb hg hat;rw [← Ny416.out] at ho;have HO418:=Aside0.mk (ho);replace HB:=Aside0.mk (hb);clear HO_7;clear ho hb hg hat))
     go_roundg k1
     case measure=>have:=HK1.out;omega
     case rel=>exact⟨(y416),(wrap64 (x10_1+1)),zrs,H',⟨by have:=HK1.out;omega⟩,⟨zdr HO418⟩,⟨by exact zk1 HB⟩⟩
    ·rw [if_neg c6] at H
     have c6b0:decide (0<t415)=false:=decide_eq_false c6
     clear c6
     have H':=Aside0.mk H
     clear H
     go_wp2_with (first|((with_reducible refine gate_callee (f:=71) rfl ?_);refine goesL_ (some 16) rfl rfl Try.func71 (by kernel_rfl) rfl #[.slice A1 l1.length c1,.int .i64 a2,.int .i64 x10_1] rfl zq2 ?_;(with_reducible refine(impl_cost.calls k1 _ _ l1 a2 x10_1 t415 _ ?side1 ?side2 A5.out).mono ?_);(case side1=>exact zcc ((Kd.C_below HR1.out HB.out)));(case side2=>exact HC1.out);rintro e w10 ⟨rfl,hb⟩;refine⟨_,rfl,?_⟩;replace HO_7:=Aside0.mk (Kd.R_below (zq4 HO_7) hb);replace HB:=Aside0.mk (below_step (by exact zk1 HB) hb);(try clear hb);(try clear hb2);(try clear hk);(try clear hi)))
     go_roundg k1
     case measure=>have:=HK1.out;omega
     case rel=>exact⟨(x7_1),(wrap64 (x10_1+1)),zrs,H',⟨by have:=HK1.out;omega⟩,⟨zdr HO_7⟩,⟨by exact zk1 HB⟩⟩
   ·rw [if_neg c4] at H
    have c4b0:decide (x10_1<a0)=false:=decide_eq_false c4
    clear c4
    obtain rfl:=Option.some.inj H
    go_wp2
    go_ret
    exact⟨_,zer,zdr HO_7,by exact zk1 HB⟩
def spec_NearOf.f (k:Nat) (a0:Int) (l1:List (S52)) (a2:Int):Option (List Int × Bool):=(spec_GoodEdges.f k a0 l1).bind fun t461=>(if t461=true then((spec_l1In.f a2 0 (wrap64 (a0 - 1))).bind fun t462=>(if t462=true then((spec_l8Near.f k l1 a2).bind fun t463=>(some (t463,true))) else(some (([] :List Int),false)))) else(some (([] :List Int),false)))
set_option maxHeartbeats 8000000 in
set_option maxRecDepth 100000 in
theorem spec_NearOf.calls (k:Nat) (a0:Int) (A1:Option Addr) (c1:Nat) (l1:List (S52)) (a2:Int) (r1:List Int) (r2:Bool) (w:World) (hr1:Kd.C k52 w A1 l1.length l1) (hc1:l1.length≤c1) (h:spec_NearOf.f k a0 l1 a2=some (r1,r2)):
  Calls Try.prog 30 #[.int .i64 a0,.slice A1 l1.length c1,.int .i64 a2] w fun e w'=> ∃ v0_:Value,e= .returned (.tuple #[v0_,.bool r2])∧Kd.R (Kd.int .i64) 3 w' w.heap.size (fun _=>True) v0_ r1∧Below w.heap.size w w':=by
 have HR1:=Aside0.mk hr1
 have HC1:=Aside0.mk hc1
 clear hr1 hc1
 have HB:=Aside0.mk (Below.refl w.heap.size w)
 have H:((spec_GoodEdges.f k a0 l1).bind fun t461=>(if t461=true then((spec_l1In.f a2 0 (wrap64 (a0 - 1))).bind fun t462=>(if t462=true then((spec_l8Near.f k l1 a2).bind fun t463=>(some (t463,true))) else(some (([] :List Int),false)))) else(some (([] :List Int),false))))=some (r1,r2):=h
 clear h
 replace H:=Option.bind_eq_some_iff.mp H
 obtain⟨t461,A40,H⟩:=H
 replace H:(if t461=true then((spec_l1In.f a2 0 (wrap64 (a0 - 1))).bind fun t462=>(if t462=true then((spec_l8Near.f k l1 a2).bind fun t463=>(some (t463,true))) else(some (([] :List Int),false)))) else(some (([] :List Int),false)))=some (r1,r2):=H
 have A4:=Aside0.mk A40
 clear A40
 by_cases c5:t461=true
 ·subst c5
  have H1:((spec_l1In.f a2 0 (wrap64 (a0 - 1))).bind fun t462=>(if t462=true then((spec_l8Near.f k l1 a2).bind fun t463=>(some (t463,true))) else(some (([] :List Int),false))))=some (r1,r2):=by rw [if_pos rfl] at H;exact H
  clear H
  have H:=H1
  clear H1
  replace H:=Option.bind_eq_some_iff.mp H
  obtain⟨t462,A60,H⟩:=H
  replace H:(if t462=true then((spec_l8Near.f k l1 a2).bind fun t463=>(some (t463,true))) else(some (([] :List Int),false)))=some (r1,r2):=H
  have A6:=Aside0.mk A60
  clear A60
  by_cases c7:t462=true
  ·subst c7
   have H1:((spec_l8Near.f k l1 a2).bind fun t463=>(some (t463,true)))=some (r1,r2):=by rw [if_pos rfl] at H;exact H
   clear H
   have H:=H1
   clear H1
   replace H:=Option.bind_eq_some_iff.mp H
   obtain⟨t463,A80,H⟩:=H
   replace H:(some (t463,true))=some (r1,r2):=H
   have A8:=Aside0.mk A80
   clear A80
   simp only [Option.some.injEq,Prod.mk.injEq] at H
   obtain⟨rfl,rfl⟩:=H
   go_enter Try.func30,Try.ntmps30
   go_wp2_with (first|((with_reducible refine gate_callee (f:=43) rfl ?_);refine goesL_ (some 10) rfl rfl Try.func43 (by kernel_rfl) rfl #[.int .i64 a0,.slice A1 l1.length c1] rfl zq2 ?_;(with_reducible refine(spec_GoodEdges.calls k a0 _ _ l1 true _ ?side1 ?side2 A4.out).mono ?_);(case side1=>exact zcc (HR1.out));(case side2=>exact HC1.out);rintro e w9 ⟨rfl,hb⟩;refine⟨_,rfl,?_⟩;replace HB:=Aside0.mk (below_step (by exact zk1 HB) hb);(try clear hb);(try clear hb2);(try clear hk);(try clear hi))|(go_at_call 50;(with_reducible refine(spec_l1In.calls a2 0 (wrap64 (a0 - 1)) true _ A6.out).mono ?_);rintro e w' ⟨rfl,⟨nd,rfl⟩⟩)|((with_reducible refine gate_callee (f:=56) rfl ?_);refine goesL_ (some 21) rfl rfl Try.func56 (by kernel_rfl) rfl #[.slice A1 l1.length c1,.int .i64 a2] rfl zq2 ?_;(with_reducible refine(spec_l8Near.calls k _ _ l1 a2 t463 _ ?side1 ?side2 A8.out).mono ?_);(case side1=>repeat(first|exact(Kd.C_below HR1.out (by exact zk1 HB))|(with_reducible refine Kd.C_alloc ?_ _)|(with_reducible refine Kd.C_drewN ?_ _)|(with_reducible refine Kd.C_drew ?_)));(case side2=>exact HC1.out);rintro e w10 ⟨v464,rfl,ho0,hb⟩;refine⟨_,rfl,?_⟩;have HO465:=Aside0.mk (Kd.R_lower ho0 (below_size (by exact zk1 HB)));replace HB:=Aside0.mk (below_step (by exact zk1 HB) hb);(try clear hb);(try clear hb2);(try clear hk);(try clear hi);(try clear ho0)))
   go_ret2
   exact⟨_,zer,zdr HO465,by exact zk1 HB⟩
  ·replace c7:=Bool.eq_false_iff.mpr c7
   subst c7
   have H1:(some (([] :List Int),false))=some (r1,r2):=by rw [if_neg (show ¬ (false=true) by decide)] at H;exact H
   clear H
   have H:=H1
   clear H1
   simp only [Option.some.injEq,Prod.mk.injEq] at H
   obtain⟨rfl,rfl⟩:=H
   go_enter Try.func30,Try.ntmps30
   go_wp2_with (first|((with_reducible refine gate_callee (f:=43) rfl ?_);refine goesL_ (some 10) rfl rfl Try.func43 (by kernel_rfl) rfl #[.int .i64 a0,.slice A1 l1.length c1] rfl zq2 ?_;(with_reducible refine(spec_GoodEdges.calls k a0 _ _ l1 true _ ?side1 ?side2 A4.out).mono ?_);(case side1=>exact zcc (HR1.out));(case side2=>exact HC1.out);rintro e w11 ⟨rfl,hb⟩;refine⟨_,rfl,?_⟩;replace HB:=Aside0.mk (below_step (by exact zk1 HB) hb);(try clear hb);(try clear hb2);(try clear hk);(try clear hi))|(go_at_call 50;(with_reducible refine(spec_l1In.calls a2 0 (wrap64 (a0 - 1)) false _ A6.out).mono ?_);rintro e w' ⟨rfl,⟨nd,rfl⟩⟩))
   go_ret2
   exact⟨_,zer,by first|exact Kd.R_nil _ _ _ _ _|exact Kd.N_nil _ _ _ _ _|exact Kd.V_nil _ _ _ _ _|exact Kd.Q_nil _ _ _ _ _|exact Kd.S_nil _ _ _ _ _,by exact zk1 HB⟩
 ·replace c5:=Bool.eq_false_iff.mpr c5
  subst c5
  have H1:(some (([] :List Int),false))=some (r1,r2):=by rw [if_neg (show ¬ (false=true) by decide)] at H;exact H
  clear H
  have H:=H1
  clear H1
  simp only [Option.some.injEq,Prod.mk.injEq] at H
  obtain⟨rfl,rfl⟩:=H
  go_enter Try.func30,Try.ntmps30
  go_wp2_with (first|((with_reducible refine gate_callee (f:=43) rfl ?_);refine goesL_ (some 10) rfl rfl Try.func43 (by kernel_rfl) rfl #[.int .i64 a0,.slice A1 l1.length c1] rfl zq2 ?_;(with_reducible refine(spec_GoodEdges.calls k a0 _ _ l1 false _ ?side1 ?side2 A4.out).mono ?_);(case side1=>exact zcc (HR1.out));(case side2=>exact HC1.out);rintro e w12 ⟨rfl,hb⟩;refine⟨_,rfl,?_⟩;replace HB:=Aside0.mk (below_step (by exact zk1 HB) hb);(try clear hb);(try clear hb2);(try clear hk);(try clear hi)))
  go_ret2
  exact⟨_,zer,by first|exact Kd.R_nil _ _ _ _ _|exact Kd.N_nil _ _ _ _ _|exact Kd.V_nil _ _ _ _ _|exact Kd.Q_nil _ _ _ _ _|exact Kd.S_nil _ _ _ _ _,by exact zk1 HB⟩
def impl_goodAt.f (k:Nat) (a0:Int) (l1:List (S52)) (l2:List Int):Option (Bool):=(impl_GoodEdges.f k a0 l1).bind fun t466=>(if t466=true then((impl_allIn.f k l2 0 (wrap64 (a0 - 1))).bind fun t467=>(some t467)) else(some false))
set_option maxHeartbeats 8000000 in
set_option maxRecDepth 100000 in
theorem impl_goodAt.calls (k:Nat) (a0:Int) (A1:Option Addr) (c1:Nat) (l1:List (S52)) (A2:Option Addr) (c2:Nat) (l2:List Int) (r:Bool) (w:World) (hr1:Kd.C k52 w A1 l1.length l1) (hc1:l1.length≤c1) (hr2:Kd.C (Kd.int .i64) w A2 l2.length l2) (hc2:l2.length≤c2) (h:impl_goodAt.f k a0 l1 l2=some r):
  Calls Try.prog 58 #[.int .i64 a0,.slice A1 l1.length c1,.slice A2 l2.length c2] w fun e w'=>e= .returned (.bool r)∧Below w.heap.size w w':=by
 have HR1:=Aside0.mk hr1
 have HC1:=Aside0.mk hc1
 clear hr1 hc1
 have HR2:=Aside0.mk hr2
 have HC2:=Aside0.mk hc2
 clear hr2 hc2
 have HB:=Aside0.mk (Below.refl w.heap.size w)
 have H:((impl_GoodEdges.f k a0 l1).bind fun t466=>(if t466=true then((impl_allIn.f k l2 0 (wrap64 (a0 - 1))).bind fun t467=>(some t467)) else(some false)))=some r:=h
 clear h
 replace H:=Option.bind_eq_some_iff.mp H
 obtain⟨t466,A40,H⟩:=H
 replace H:(if t466=true then((impl_allIn.f k l2 0 (wrap64 (a0 - 1))).bind fun t467=>(some t467)) else(some false))=some r:=H
 have A4:=Aside0.mk A40
 clear A40
 by_cases c5:t466=true
 ·subst c5
  have H1:((impl_allIn.f k l2 0 (wrap64 (a0 - 1))).bind fun t467=>(some t467))=some r:=by rw [if_pos rfl] at H;exact H
  clear H
  have H:=H1
  clear H1
  replace H:=Option.bind_eq_some_iff.mp H
  obtain⟨t467,A60,H⟩:=H
  replace H:(some t467)=some r:=H
  have A6:=Aside0.mk A60
  clear A60
  obtain rfl:=Option.some.inj H
  go_enter Try.func58,Try.ntmps58
  go_wp2_with (first|((with_reducible refine gate_callee (f:=34) rfl ?_);refine goesL_ (some 9) rfl rfl Try.func34 (by kernel_rfl) rfl #[.int .i64 a0,.slice A1 l1.length c1] rfl zq2 ?_;(with_reducible refine(impl_GoodEdges.calls k a0 _ _ l1 true _ ?side1 ?side2 A4.out).mono ?_);(case side1=>exact zcc (HR1.out));(case side2=>exact HC1.out);rintro e w7 ⟨rfl,hb⟩;refine⟨_,rfl,?_⟩;replace HB:=Aside0.mk (below_step (by exact zk1 HB) hb);(try clear hb);(try clear hb2);(try clear hk);(try clear hi))|(go_at_call 68;(with_reducible refine(impl_allIn.calls k _ _ l2 0 (wrap64 (a0 - 1)) t467 _ ?side1 ?side2 A6.out).mono ?_);(case side1=>exact zcc ((Kd.C_below HR2.out HB.out)));(case side2=>exact HC2.out);rintro e w' ⟨rfl,⟨nd,rfl⟩⟩))
  go_ret
  exact⟨zer,by exact zk1 HB⟩
 ·replace c5:=Bool.eq_false_iff.mpr c5
  subst c5
  have H1:(some false)=some r:=by rw [if_neg (show ¬ (false=true) by decide)] at H;exact H
  clear H
  have H:=H1
  clear H1
  obtain rfl:=Option.some.inj H
  go_enter Try.func58,Try.ntmps58
  go_wp2_with (first|((with_reducible refine gate_callee (f:=34) rfl ?_);refine goesL_ (some 9) rfl rfl Try.func34 (by kernel_rfl) rfl #[.int .i64 a0,.slice A1 l1.length c1] rfl zq2 ?_;(with_reducible refine(impl_GoodEdges.calls k a0 _ _ l1 false _ ?side1 ?side2 A4.out).mono ?_);(case side1=>exact zcc (HR1.out));(case side2=>exact HC1.out);rintro e w8 ⟨rfl,hb⟩;refine⟨_,rfl,?_⟩;replace HB:=Aside0.mk (below_step (by exact zk1 HB) hb);(try clear hb);(try clear hb2);(try clear hk);(try clear hi)))
  go_ret
  exact⟨zer,by exact zk1 HB⟩
def impl_NearOf.f (k:Nat) (a0:Int) (l1:List (S52)) (a2:Int):Option (List Int × Bool):=(impl_goodAt.f k a0 l1 (([a2] :List Int))).bind fun t471=>(if t471=true then((impl_near.f k a0 l1 a2).bind fun t472=>(some (t472,true))) else(some (([] :List Int),false)))
set_option maxHeartbeats 8000000 in
set_option maxRecDepth 100000 in
theorem impl_NearOf.calls (k:Nat) (a0:Int) (A1:Option Addr) (c1:Nat) (l1:List (S52)) (a2:Int) (r1:List Int) (r2:Bool) (w:World) (hr1:Kd.C k52 w A1 l1.length l1) (hc1:l1.length≤c1) (h:impl_NearOf.f k a0 l1 a2=some (r1,r2)):
  Calls Try.prog 31 #[.int .i64 a0,.slice A1 l1.length c1,.int .i64 a2] w fun e w'=> ∃ v0_:Value,e= .returned (.tuple #[v0_,.bool r2])∧Kd.R (Kd.int .i64) 3 w' w.heap.size (fun _=>True) v0_ r1∧Below w.heap.size w w':=by
 have HR1:=Aside0.mk hr1
 have HC1:=Aside0.mk hc1
 clear hr1 hc1
 have HB:=Aside0.mk (Below.refl w.heap.size w)
 have H:((impl_goodAt.f k a0 l1 (([a2] :List Int))).bind fun t471=>(if t471=true then((impl_near.f k a0 l1 a2).bind fun t472=>(some (t472,true))) else(some (([] :List Int),false))))=some (r1,r2):=h
 clear h
 obtain⟨y468,hy468⟩ :∃ y_:List Int,y_= (([a2] :List Int)):=⟨_,rfl⟩
 replace H:((impl_goodAt.f k a0 l1 y468).bind fun t471=>(if t471=true then((impl_near.f k a0 l1 a2).bind fun t472=>(some (t472,true))) else(some (([] :List Int),false))))=some (r1,r2):=zfh hy468 H
 have Ny468:=Aside0.mk hy468
 clear hy468
 replace H:=Option.bind_eq_some_iff.mp H
 obtain⟨t471,A40,H⟩:=H
 replace H:(if t471=true then((impl_near.f k a0 l1 a2).bind fun t472=>(some (t472,true))) else(some (([] :List Int),false)))=some (r1,r2):=H
 have A4:=Aside0.mk A40
 clear A40
 by_cases c5:t471=true
 ·subst c5
  have H1:((impl_near.f k a0 l1 a2).bind fun t472=>(some (t472,true)))=some (r1,r2):=by rw [if_pos rfl] at H;exact H
  clear H
  have H:=H1
  clear H1
  replace H:=Option.bind_eq_some_iff.mp H
  obtain⟨t472,A60,H⟩:=H
  replace H:(some (t472,true))=some (r1,r2):=H
  have A6:=Aside0.mk A60
  clear A60
  simp only [Option.some.injEq,Prod.mk.injEq] at H
  obtain⟨rfl,rfl⟩:=H
  go_enter Try.func31,Try.ntmps31
  go_wp2_with (first|((with_reducible refine gate_dst (N:=11) rfl ?_);refine Kd.R_lit (Kd.int .i64) _ 3 ?hg (N:=11) ?hd (xs:=([a2] :List Int)) (inner:= [.int .i64 a2]) (ok:=fun _=>True) (okp:=fun _=>True) ?hr ?hp (fun _ hk=>hk) trivial (Below.refl _ _) (Nat.le_refl _) (by simp) ?_;(case hd=>rfl);(case hg=>rfl);(case hr=>first|(go_simp;done)|(go_simp;rfl));(case hp=>exact(Reps.one (show Kd.M (Kd.int .i64) _ _ _ a2 [.int .i64 a2] from rfl) (Reps.none _ _)));intro v469 w7 ho8 hb hg_ hnew_;clear hg_ hnew_;(first|rw [← Ny468.out] at ho8|(simp only [Int.reduceToNat] at ho8;rw [← Ny468.out] at ho8));have HO470:=Aside0.mk (Kd.R_lower ho8 (below_size (by exact zk1 HB)));replace HB:=Aside0.mk (below_step (by exact zk1 HB) hb);clear hb ho8;obtain⟨Ao9,co9,eo9⟩:=Kd.R_slice HO470.out;subst eo9)|((with_reducible refine gate_callee (f:=58) rfl ?_);refine goesL_ (some 12) rfl rfl Try.func58 (by kernel_rfl) rfl #[.int .i64 a0,.slice A1 l1.length c1,.slice Ao9 y468.length co9] rfl zq2 ?_;(with_reducible refine(impl_goodAt.calls k a0 _ _ l1 _ _ y468 true _ ?side1 ?side2 ?side3 ?side4 A4.out).mono ?_);(case side1=>exact zcc ((Kd.C_below HR1.out HB.out)));(case side2=>exact HC1.out);(case side3=>exact zcc ((Kd.R_reads' HO470.out).2.2));(case side4=>exact(Kd.R_reads' HO470.out).2.1);rintro e w10 ⟨rfl,hb⟩;refine⟨_,rfl,?_⟩;replace HO470:=Aside0.mk (Kd.R_below (zq4 HO470) hb);replace HB:=Aside0.mk (below_step (by exact zk1 HB) hb);(try clear hb);(try clear hb2);(try clear hk);(try clear hi))|((with_reducible refine gate_callee (f:=57) rfl ?_);refine goesL_ (some 17) rfl rfl Try.func57 (by kernel_rfl) rfl #[.int .i64 a0,.slice A1 l1.length c1,.int .i64 a2] rfl zq2 ?_;(with_reducible refine(impl_near.calls k a0 _ _ l1 a2 t472 _ ?side1 ?side2 A6.out).mono ?_);(case side1=>exact zcc ((Kd.C_below HR1.out HB.out)));(case side2=>exact HC1.out);rintro e w11 ⟨v473,rfl,ho0,hb⟩;refine⟨_,rfl,?_⟩;have HO474:=Aside0.mk (Kd.R_lower (Kd.R_new' ho0 (Kd.R_lt (zq4 HO470))) (below_size (by exact zk1 HB)));replace HO470:=Aside0.mk (Kd.R_elder' (zq4 HO470) (Kd.R_base ho0) hb);replace HB:=Aside0.mk (below_step (by exact zk1 HB) hb);(try clear hb);(try clear hb2);(try clear hk);(try clear hi);(try clear ho0)))
  go_ret2
  exact⟨_,zer,by(with_reducible repeat(first|apply Kd.R_alloc|apply Kd.R_drewN|apply Kd.R_drew));exact Kd.R_mono HO474.out (fun _ hk=>trivial),by exact zk1 HB⟩
 ·replace c5:=Bool.eq_false_iff.mpr c5
  subst c5
  have H1:(some (([] :List Int),false))=some (r1,r2):=by rw [if_neg (show ¬ (false=true) by decide)] at H;exact H
  clear H
  have H:=H1
  clear H1
  simp only [Option.some.injEq,Prod.mk.injEq] at H
  obtain⟨rfl,rfl⟩:=H
  go_enter Try.func31,Try.ntmps31
  go_wp2_with (first|((with_reducible refine gate_dst (N:=11) rfl ?_);refine Kd.R_lit (Kd.int .i64) _ 3 ?hg (N:=11) ?hd (xs:=([a2] :List Int)) (inner:= [.int .i64 a2]) (ok:=fun _=>True) (okp:=fun _=>True) ?hr ?hp (fun _ hk=>hk) trivial (Below.refl _ _) (Nat.le_refl _) (by simp) ?_;(case hd=>rfl);(case hg=>rfl);(case hr=>first|(go_simp;done)|(go_simp;rfl));(case hp=>exact(Reps.one (show Kd.M (Kd.int .i64) _ _ _ a2 [.int .i64 a2] from rfl) (Reps.none _ _)));intro v469 w12 ho13 hb hg_ hnew_;clear hg_ hnew_;(first|rw [← Ny468.out] at ho13|(simp only [Int.reduceToNat] at ho13;rw [← Ny468.out] at ho13));have HO470:=Aside0.mk (Kd.R_lower ho13 (below_size (by exact zk1 HB)));replace HB:=Aside0.mk (below_step (by exact zk1 HB) hb);clear hb ho13;obtain⟨Ao14,co14,eo14⟩:=Kd.R_slice HO470.out;subst eo14)|((with_reducible refine gate_callee (f:=58) rfl ?_);refine goesL_ (some 12) rfl rfl Try.func58 (by kernel_rfl) rfl #[.int .i64 a0,.slice A1 l1.length c1,.slice Ao14 y468.length co14] rfl zq2 ?_;(with_reducible refine(impl_goodAt.calls k a0 _ _ l1 _ _ y468 false _ ?side1 ?side2 ?side3 ?side4 A4.out).mono ?_);(case side1=>exact zcc ((Kd.C_below HR1.out HB.out)));(case side2=>exact HC1.out);(case side3=>exact zcc ((Kd.R_reads' HO470.out).2.2));(case side4=>exact(Kd.R_reads' HO470.out).2.1);rintro e w15 ⟨rfl,hb⟩;refine⟨_,rfl,?_⟩;replace HO470:=Aside0.mk (Kd.R_below (zq4 HO470) hb);replace HB:=Aside0.mk (below_step (by exact zk1 HB) hb);(try clear hb);(try clear hb2);(try clear hk);(try clear hi)))
  go_ret2
  exact⟨_,zer,by first|exact Kd.R_nil _ _ _ _ _|exact Kd.N_nil _ _ _ _ _|exact Kd.V_nil _ _ _ _ _|exact Kd.Q_nil _ _ _ _ _|exact Kd.S_nil _ _ _ _ _,by exact zk1 HB⟩
/-- A state of type 82 at block g of W; what its slices lead to came in by w0. -/
def IsS82 (w0 W:World) (g:Nat) (f0:List Int) (f1:Int) (f2:Int):Prop:= ∃ A0 c0,W.heap[g]?=some (.cells #[.slice A0 f0.length c0,.int .i64 f1,.int .u64 f2] 82 (0,0))∧w0.heap.size≤g∧Kd.C (Kd.int .u8) w0 A0 f0.length f0
theorem IsS82.grown {w0 W:World} {g:Nat} {f0:List Int} {f1:Int} {f2:Int} {W1:World} {row:Option Nat} (h:IsS82 w0 W g f0 f1 f2) (hw:W.grownBy W1 row) (hne:some g≠row):IsS82 w0 W1 g f0 f1 f2:=by
 obtain⟨A0,c0,hb,hg,hr0⟩:=h
 exact⟨A0,c0,blk_grown hb hw hne,hg,hr0⟩
theorem IsS82.below {w0 W:World} {g:Nat} {f0:List Int} {f1:Int} {f2:Int} {W1:World} (h:IsS82 w0 W g f0 f1 f2) (hw:Below W.heap.size W W1):IsS82 w0 W1 g f0 f1 f2:=h.grown (grown_of_below hw none) (by simp)
theorem IsS82.drewN {w0 W:World} {g:Nat} {f0:List Int} {f1:Int} {f2:Int} (h:IsS82 w0 W g f0 f1 f2) (m:Nat):IsS82 w0 (W.drewN m) g f0 f1 f2:=h
theorem IsS82.apart {w0 W:World} {g:Nat} {f0:List Int} {f1:Int} {f2:Int} {α :Type} {d:Kd α} {e:Nat} {base:Nat} {ok:Nat→Prop} {v:Value} {xs:List α} (h:IsS82 w0 W g f0 f1 f2) (ho:d.R e W base ok v xs) (ht:∀ q,q ∈ e::d.E→q≠82):d.R e W base (fun k=>ok k∧k≠g) v xs:=by
 obtain⟨A0,c0,hb,hg,hr0⟩:=h
 exact Kd.R_types ho hb ht
theorem IsS82.own_ne {w0 W:World} {g:Nat} {f0:List Int} {f1:Int} {f2:Int} {α :Type} {d:Kd α} {e:Nat} {base:Nat} {ok:Nat→Prop} {v:Value} {xs:List α} (h:IsS82 w0 W g f0 f1 f2) (ho:d.R e W base ok v xs) (ht:e≠82):some g≠v.ownBlock:=by
 obtain⟨A0,c0,hb,hg,hr0⟩:=h
 exact Kd.R_ne ho hb ht
theorem IsS82.ge {w0 W:World} {g:Nat} {f0:List Int} {f1:Int} {f2:Int} (h:IsS82 w0 W g f0 f1 f2):w0.heap.size≤g:=by
 obtain⟨A0,c0,hb,hg,hr0⟩:=h
 exact hg
theorem cellS82_0 {W:World} {g:Nat} {A0:Option Addr} {c0:Nat} {f0:List Int} {f1:Int} {f2:Int} (h:W.heap[g]?=some (.cells #[.slice A0 f0.length c0,.int .i64 f1,.int .u64 f2] 82 (0,0))):W.cell? ⟨g,0,none⟩=some (.slice A0 f0.length c0):=(blk_cell h 0).trans rfl
theorem cellS82_1 {W:World} {g:Nat} {A0:Option Addr} {c0:Nat} {f0:List Int} {f1:Int} {f2:Int} (h:W.heap[g]?=some (.cells #[.slice A0 f0.length c0,.int .i64 f1,.int .u64 f2] 82 (0,0))):W.cell? ⟨g,1,none⟩=some (.int .i64 f1):=(blk_cell h 1).trans rfl
theorem IsS82.set_1 {w0 W:World} {g:Nat} {f0:List Int} {f1:Int} {f2:Int} (h:IsS82 w0 W g f0 f1 f2) (x:Int):IsS82 w0 (W.setCell ⟨g,1,none⟩ (.int .i64 x)) g f0 x f2:=by
 obtain⟨A0,c0,hb,hg,hr0⟩:=h
 exact⟨A0,c0,by simpa using blk_set hb 1 (.int .i64 x),hg,hr0⟩
theorem cellS82_2 {W:World} {g:Nat} {A0:Option Addr} {c0:Nat} {f0:List Int} {f1:Int} {f2:Int} (h:W.heap[g]?=some (.cells #[.slice A0 f0.length c0,.int .i64 f1,.int .u64 f2] 82 (0,0))):W.cell? ⟨g,2,none⟩=some (.int .u64 f2):=(blk_cell h 2).trans rfl
theorem IsS82.set_2 {w0 W:World} {g:Nat} {f0:List Int} {f1:Int} {f2:Int} (h:IsS82 w0 W g f0 f1 f2) (x:Int):IsS82 w0 (W.setCell ⟨g,2,none⟩ (.int .u64 x)) g f0 f1 x:=by
 obtain⟨A0,c0,hb,hg,hr0⟩:=h
 exact⟨A0,c0,by simpa using blk_set hb 2 (.int .u64 x),hg,hr0⟩
def spec_l1Cur_next.f (s0_0:List Int) (s0_1:Int) (s0_2:Int):Option (Int × Int × Int):=if s0_1< (s0_0.length:Int) then(if 0≤s0_1 then(if (wrap64 (s0_1+1))≤ (s0_0.length:Int) then(some (wrap64 (rd s0_0 s0_1),wrap64 (s0_1+1),IntKind.u64.wrap ((IntKind.u64.wrap ((IntKind.u64.wrap (s0_2 * 6364136223846793005))+ (IntKind.u64.wrap (wrap64 (rd s0_0 s0_1)))))+1442695040888963407))) else(some (wrap64 (Go.bits .and .u64 ((IntKind.u64.wrap ((IntKind.u64.wrap ((IntKind.u64.wrap (s0_2 * 6364136223846793005))+ (IntKind.u64.wrap (wrap64 (rd s0_0 s0_1)))))+1442695040888963407)) / 1099511627776) 255),wrap64 (s0_1+1),IntKind.u64.wrap ((IntKind.u64.wrap ((IntKind.u64.wrap (s0_2 * 6364136223846793005))+ (IntKind.u64.wrap (wrap64 (rd s0_0 s0_1)))))+1442695040888963407)))) else(none)) else(if (wrap64 (s0_1+1))≤ (s0_0.length:Int) then(some (0,wrap64 (s0_1+1),IntKind.u64.wrap ((IntKind.u64.wrap ((IntKind.u64.wrap (s0_2 * 6364136223846793005))))+1442695040888963407))) else(some (wrap64 (Go.bits .and .u64 ((IntKind.u64.wrap ((IntKind.u64.wrap ((IntKind.u64.wrap (s0_2 * 6364136223846793005))))+1442695040888963407)) / 1099511627776) 255),wrap64 (s0_1+1),IntKind.u64.wrap ((IntKind.u64.wrap ((IntKind.u64.wrap (s0_2 * 6364136223846793005))))+1442695040888963407))))
theorem zk5 {q p:Prop} (b:Aside0 q) (h:q→p:=by intro z;repeat(first|(with_reducible first|exact z|apply IsS82.alloc|apply IsS82.drewN|apply IsS82.drew|apply IsS82.set_1|apply IsS82.set_2)|exact z)):p:=h b.out
theorem zk6 {q p:Prop} (b:Aside0 q) (h:q→p:=by intro z;repeat(first|(with_reducible first|exact z|apply KeepBut.set_|apply keep_drewN|apply keep_drew|apply keep_alloc)|exact z)):p:=h b.out
set_option maxHeartbeats 8000000 in
set_option maxRecDepth 100000 in
theorem spec_l1Cur_next.calls (g:Nat) (s0_0:List Int) (s0_1:Int) (s0_2:Int) (r1:Int) (r2:Int) (r3:Int) (w0 w:World) (hI:IsS82 w0 w g s0_0 s0_1 s0_2) (hB:Below w0.heap.size w0 w) (h:spec_l1Cur_next.f s0_0 s0_1 s0_2=some (r1,r2,r3)):
  Calls Try.prog 72 #[.pointer (some ⟨g,0,none⟩)] w fun e w'=>e= .returned (.int .i64 r1)∧IsS82 w0 w' g s0_0 r2 r3∧Below w0.heap.size w0 w'∧KeepBut w w' g none:=by
 have HI0:=Aside0.mk hI
 have HK:=Aside0.mk (KeepBut.refl w g none)
 have HL:=Aside0.mk hB.size
 clear hI
 have HW0:=Aside0.mk hB.size
 have HB:=Aside0.mk hB
 clear hB
 have H:(if s0_1< (s0_0.length:Int) then(if 0≤s0_1 then(if (wrap64 (s0_1+1))≤ (s0_0.length:Int) then(some (wrap64 (rd s0_0 s0_1),wrap64 (s0_1+1),IntKind.u64.wrap ((IntKind.u64.wrap ((IntKind.u64.wrap (s0_2 * 6364136223846793005))+ (IntKind.u64.wrap (wrap64 (rd s0_0 s0_1)))))+1442695040888963407))) else(some (wrap64 (Go.bits .and .u64 ((IntKind.u64.wrap ((IntKind.u64.wrap ((IntKind.u64.wrap (s0_2 * 6364136223846793005))+ (IntKind.u64.wrap (wrap64 (rd s0_0 s0_1)))))+1442695040888963407)) / 1099511627776) 255),wrap64 (s0_1+1),IntKind.u64.wrap ((IntKind.u64.wrap ((IntKind.u64.wrap (s0_2 * 6364136223846793005))+ (IntKind.u64.wrap (wrap64 (rd s0_0 s0_1)))))+1442695040888963407)))) else(none)) else(if (wrap64 (s0_1+1))≤ (s0_0.length:Int) then(some (0,wrap64 (s0_1+1),IntKind.u64.wrap ((IntKind.u64.wrap ((IntKind.u64.wrap (s0_2 * 6364136223846793005))))+1442695040888963407))) else(some (wrap64 (Go.bits .and .u64 ((IntKind.u64.wrap ((IntKind.u64.wrap ((IntKind.u64.wrap (s0_2 * 6364136223846793005))))+1442695040888963407)) / 1099511627776) 255),wrap64 (s0_1+1),IntKind.u64.wrap ((IntKind.u64.wrap ((IntKind.u64.wrap (s0_2 * 6364136223846793005))))+1442695040888963407)))))=some (r1,r2,r3):=h
 clear h
 by_cases c2:s0_1< (s0_0.length:Int)
 ·rw [if_pos c2] at H
  have c2b0:decide (s0_1< (s0_0.length:Int))=true:=decide_eq_true c2
  clear c2
  by_cases c3: 0≤s0_1
  case neg=>exact znn c3 H
  rw [if_pos c3] at H
  have c3b0:decide (0≤s0_1)=true:=decide_eq_true c3
  clear c3
  by_cases c4:(wrap64 (s0_1+1))≤ (s0_0.length:Int)
  ·rw [if_pos c4] at H
   have c4b0:decide ((wrap64 (s0_1+1))≤ (s0_0.length:Int))=true:=decide_eq_true c4
   clear c4
   simp only [Option.some.injEq,Prod.mk.injEq] at H
   obtain⟨rfl,rfl,rfl⟩:=H
   obtain⟨ASz5_0,cSz5_0,HGz5,hgz5,HSz5_0⟩:=HI0.out
   have hcz5_0:=cellS82_0 HGz5
   have hcz5_1:=cellS82_1 HGz5
   have hcz5_2:=cellS82_2 HGz5
   have hfz5_1:=blk_frozen HGz5 1
   have hfz5_2:=blk_frozen HGz5 2
   clear HGz5 hgz5
   have p510: 0≤ (s0_1:Int):=of_decide_eq_true zq1
   have q510:s0_1< (s0_0.length:Int):=of_decide_eq_true zq1
   obtain⟨ad510,e510,hx510_0⟩:=Kd.at_int HSz5_0 s0_1 p510 q510
   cases e510
   replace hx510_0:=pw_cell_below HB.out hx510_0
   replace p510:=eq_true p510
   replace q510:=eq_true q510
   go_enter Try.func72,Try.ntmps72
   go_wp2
   repeat(go_quiet (fail);try go_wp2)
   go_ret
   exact⟨zer,by exact zk5 HI0,by exact zk2 HB (IsS82.ge HI0.out),by exact zk6 HK⟩
  ·rw [if_neg c4] at H
   have c4b0:decide ((wrap64 (s0_1+1))≤ (s0_0.length:Int))=false:=decide_eq_false c4
   clear c4
   simp only [Option.some.injEq,Prod.mk.injEq] at H
   obtain⟨rfl,rfl,rfl⟩:=H
   obtain⟨ASz6_0,cSz6_0,HGz6,hgz6,HSz6_0⟩:=HI0.out
   have hcz6_0:=cellS82_0 HGz6
   have hcz6_1:=cellS82_1 HGz6
   have hcz6_2:=cellS82_2 HGz6
   have hfz6_1:=blk_frozen HGz6 1
   have hfz6_2:=blk_frozen HGz6 2
   clear HGz6 hgz6
   have p510: 0≤ (s0_1:Int):=of_decide_eq_true zq1
   have q510:s0_1< (s0_0.length:Int):=of_decide_eq_true zq1
   obtain⟨ad510,e510,hx510_0⟩:=Kd.at_int HSz6_0 s0_1 p510 q510
   cases e510
   replace hx510_0:=pw_cell_below HB.out hx510_0
   replace p510:=eq_true p510
   replace q510:=eq_true q510
   go_enter Try.func72,Try.ntmps72
   go_wp2
   repeat(go_quiet (fail);try go_wp2)
   go_ret
   exact⟨zer,by exact zk5 HI0,by exact zk2 HB (IsS82.ge HI0.out),by exact zk6 HK⟩
 ·rw [if_neg c2] at H
  have c2b0:decide (s0_1< (s0_0.length:Int))=false:=decide_eq_false c2
  clear c2
  by_cases c7:(wrap64 (s0_1+1))≤ (s0_0.length:Int)
  ·rw [if_pos c7] at H
   have c7b0:decide ((wrap64 (s0_1+1))≤ (s0_0.length:Int))=true:=decide_eq_true c7
   clear c7
   simp only [Option.some.injEq,Prod.mk.injEq] at H
   obtain⟨rfl,rfl,rfl⟩:=H
   obtain⟨ASz8_0,cSz8_0,HGz8,hgz8,HSz8_0⟩:=HI0.out
   have hcz8_0:=cellS82_0 HGz8
   have hcz8_1:=cellS82_1 HGz8
   have hcz8_2:=cellS82_2 HGz8
   have hfz8_1:=blk_frozen HGz8 1
   have hfz8_2:=blk_frozen HGz8 2
   clear HGz8 hgz8
   go_enter Try.func72,Try.ntmps72
   go_wp2
   repeat(go_quiet (fail);try go_wp2)
   go_ret
   exact⟨zer,by exact zk5 HI0,by exact zk2 HB (IsS82.ge HI0.out),by exact zk6 HK⟩
  ·rw [if_neg c7] at H
   have c7b0:decide ((wrap64 (s0_1+1))≤ (s0_0.length:Int))=false:=decide_eq_false c7
   clear c7
   simp only [Option.some.injEq,Prod.mk.injEq] at H
   obtain⟨rfl,rfl,rfl⟩:=H
   obtain⟨ASz9_0,cSz9_0,HGz9,hgz9,HSz9_0⟩:=HI0.out
   have hcz9_0:=cellS82_0 HGz9
   have hcz9_1:=cellS82_1 HGz9
   have hcz9_2:=cellS82_2 HGz9
   have hfz9_1:=blk_frozen HGz9 1
   have hfz9_2:=blk_frozen HGz9 2
   clear HGz9 hgz9
   go_enter Try.func72,Try.ntmps72
   go_wp2
   repeat(go_quiet (fail);try go_wp2)
   go_ret
   exact⟨zer,by exact zk5 HI0,by exact zk2 HB (IsS82.ge HI0.out),by exact zk6 HK⟩
def spec_l1Cur_pick.f (s0_0:List Int) (s0_1:Int) (s0_2:Int) (a1:Int):Option (Int × Int × Int):=if a1≤1 then(some (0,s0_1,s0_2)) else((spec_l1Cur_next.f s0_0 s0_1 s0_2).bind fun bt511=>(if a1 > 200 then((spec_l1Cur_next.f s0_0 bt511.2.1 bt511.2.2).bind fun bt514=>(if a1=0 then(none) else(some (Int.tmod (wrap64 ((wrap64 (bt511.1 * 256))+bt514.1)) a1,bt514.2.1,bt514.2.2)))) else(if a1=0 then(none) else(some (Int.tmod bt511.1 a1,bt511.2.1,bt511.2.2)))))
set_option maxHeartbeats 8000000 in
set_option maxRecDepth 100000 in
theorem spec_l1Cur_pick.calls (g:Nat) (s0_0:List Int) (s0_1:Int) (s0_2:Int) (a1:Int) (r1:Int) (r2:Int) (r3:Int) (w0 w:World) (hI:IsS82 w0 w g s0_0 s0_1 s0_2) (hB:Below w0.heap.size w0 w) (h:spec_l1Cur_pick.f s0_0 s0_1 s0_2 a1=some (r1,r2,r3)):
  Calls Try.prog 61 #[.pointer (some ⟨g,0,none⟩),.int .i64 a1] w fun e w'=>e= .returned (.int .i64 r1)∧IsS82 w0 w' g s0_0 r2 r3∧Below w0.heap.size w0 w'∧KeepBut w w' g none:=by
 have HI0:=Aside0.mk hI
 have HK:=Aside0.mk (KeepBut.refl w g none)
 have HL:=Aside0.mk hB.size
 clear hI
 have HW0:=Aside0.mk hB.size
 have HB:=Aside0.mk hB
 clear hB
 have H:(if a1≤1 then(some (0,s0_1,s0_2)) else((spec_l1Cur_next.f s0_0 s0_1 s0_2).bind fun bt511=>(if a1 > 200 then((spec_l1Cur_next.f s0_0 bt511.2.1 bt511.2.2).bind fun bt514=>(if a1=0 then(none) else(some (Int.tmod (wrap64 ((wrap64 (bt511.1 * 256))+bt514.1)) a1,bt514.2.1,bt514.2.2)))) else(if a1=0 then(none) else(some (Int.tmod bt511.1 a1,bt511.2.1,bt511.2.2))))))=some (r1,r2,r3):=h
 clear h
 by_cases c3:a1≤1
 ·rw [if_pos c3] at H
  have c3b0:decide (a1≤1)=true:=decide_eq_true c3
  clear c3
  simp only [Option.some.injEq,Prod.mk.injEq] at H
  obtain⟨rfl,rfl,rfl⟩:=H
  go_enter Try.func61,Try.ntmps61
  go_wp2
  go_ret
  exact⟨zer,by exact zk5 HI0,by exact zk2 HB (IsS82.ge HI0.out),by exact zk6 HK⟩
 ·rw [if_neg c3] at H
  have c3b0:decide (a1≤1)=false:=decide_eq_false c3
  clear c3
  replace H:=Option.bind_eq_some_iff.mp H
  obtain⟨⟨t511,t512,t513⟩,A40,H⟩:=H
  replace H:(if a1 > 200 then((spec_l1Cur_next.f s0_0 t512 t513).bind fun bt514=>(if a1=0 then(none) else(some (Int.tmod (wrap64 ((wrap64 (t511 * 256))+bt514.1)) a1,bt514.2.1,bt514.2.2)))) else(if a1=0 then(none) else(some (Int.tmod t511 a1,t512,t513))))=some (r1,r2,r3):=H
  have A4:=Aside0.mk A40
  clear A40
  by_cases c5:a1 > 200
  ·rw [if_pos c5] at H
   have c5b0:decide (200<a1)=true:=decide_eq_true c5
   clear c5
   replace H:=Option.bind_eq_some_iff.mp H
   obtain⟨⟨t514,t515,t516⟩,A60,H⟩:=H
   replace H:(if a1=0 then(none) else(some (Int.tmod (wrap64 ((wrap64 (t511 * 256))+t514)) a1,t515,t516)))=some (r1,r2,r3):=H
   have A6:=Aside0.mk A60
   clear A60
   by_cases c7:a1=0
   ·rw [if_pos c7] at H
    exact absurd H (by simp)
   ·rw [if_neg c7] at H
    have c7b0:(a1==0)=false:=beq_eq_false_iff_ne.mpr c7
    have c7b1:(a1 !=0)=true:=bne_iff_ne.mpr c7
    simp only [Option.some.injEq,Prod.mk.injEq] at H
    obtain⟨rfl,rfl,rfl⟩:=H
    go_enter Try.func61,Try.ntmps61
    go_wp2_with (first|((with_reducible refine gate_callee (f:=72) rfl ?_);refine goesL_ (some 9) rfl rfl Try.func72 (by kernel_rfl) rfl #[.pointer (some ⟨g,0,none⟩)] rfl zq2 ?_;(with_reducible refine(spec_l1Cur_next.calls g s0_0 s0_1 s0_2 t511 t512 t513 w0 _ ?side1 ?side2 A4.out).mono ?_);(case side1=>exact zk5 HI0);(case side2=>exact zk2 HB (IsS82.ge HI0.out));rintro e w8 ⟨rfl,hi,hb,hk⟩;refine⟨_,rfl,?_⟩;replace HK:=Aside0.mk (KeepBut.trans (by exact zk6 HK) hk (.inl rfl));replace HB:=Aside0.mk (hb);replace HI0:=Aside0.mk (hi);(try clear hb);(try clear hb2);(try clear hk);(try clear hi))|((with_reducible refine gate_callee (f:=72) rfl ?_);refine goesL_ (some 15) rfl rfl Try.func72 (by kernel_rfl) rfl #[.pointer (some ⟨g,0,none⟩)] rfl zq2 ?_;(with_reducible refine(spec_l1Cur_next.calls g s0_0 t512 t513 t514 t515 t516 w0 _ ?side1 ?side2 A6.out).mono ?_);(case side1=>exact zk5 HI0);(case side2=>exact zk2 HB (IsS82.ge HI0.out));rintro e w9 ⟨rfl,hi,hb,hk⟩;refine⟨_,rfl,?_⟩;replace HK:=Aside0.mk (KeepBut.trans (by exact zk6 HK) hk (.inl rfl));replace HB:=Aside0.mk (hb);replace HI0:=Aside0.mk (hi);(try clear hb);(try clear hb2);(try clear hk);(try clear hi)))
    go_ret
    exact⟨zer,by exact zk5 HI0,by exact zk2 HB (IsS82.ge HI0.out),by exact zk6 HK⟩
  ·rw [if_neg c5] at H
   have c5b0:decide (200<a1)=false:=decide_eq_false c5
   clear c5
   by_cases c10:a1=0
   ·rw [if_pos c10] at H
    exact absurd H (by simp)
   ·rw [if_neg c10] at H
    have c10b0:(a1==0)=false:=beq_eq_false_iff_ne.mpr c10
    have c10b1:(a1 !=0)=true:=bne_iff_ne.mpr c10
    simp only [Option.some.injEq,Prod.mk.injEq] at H
    obtain⟨rfl,rfl,rfl⟩:=H
    go_enter Try.func61,Try.ntmps61
    go_wp2_with (first|((with_reducible refine gate_callee (f:=72) rfl ?_);refine goesL_ (some 9) rfl rfl Try.func72 (by kernel_rfl) rfl #[.pointer (some ⟨g,0,none⟩)] rfl zq2 ?_;(with_reducible refine(spec_l1Cur_next.calls g s0_0 s0_1 s0_2 t511 t512 t513 w0 _ ?side1 ?side2 A4.out).mono ?_);(case side1=>exact zk5 HI0);(case side2=>exact zk2 HB (IsS82.ge HI0.out));rintro e w11 ⟨rfl,hi,hb,hk⟩;refine⟨_,rfl,?_⟩;replace HK:=Aside0.mk (KeepBut.trans (by exact zk6 HK) hk (.inl rfl));replace HB:=Aside0.mk (hb);replace HI0:=Aside0.mk (hi);(try clear hb);(try clear hb2);(try clear hk);(try clear hi)))
    go_ret
    exact⟨zer,by exact zk5 HI0,by exact zk2 HB (IsS82.ge HI0.out),by exact zk6 HK⟩
def spec_l1Cur_one.f (s0_0:List Int) (s0_1:Int) (s0_2:Int) (a1:Int):Option (Bool × Int × Int):=(spec_l1Cur_pick.f s0_0 s0_1 s0_2 a1).bind fun bt517=>(some ((bt517.1==0),bt517.2.1,bt517.2.2))
set_option maxHeartbeats 8000000 in
set_option maxRecDepth 100000 in
theorem spec_l1Cur_one.calls (g:Nat) (s0_0:List Int) (s0_1:Int) (s0_2:Int) (a1:Int) (r1:Bool) (r2:Int) (r3:Int) (w0 w:World) (hI:IsS82 w0 w g s0_0 s0_1 s0_2) (hB:Below w0.heap.size w0 w) (h:spec_l1Cur_one.f s0_0 s0_1 s0_2 a1=some (r1,r2,r3)):
  Calls Try.prog 62 #[.pointer (some ⟨g,0,none⟩),.int .i64 a1] w fun e w'=>e= .returned (.bool r1)∧IsS82 w0 w' g s0_0 r2 r3∧Below w0.heap.size w0 w'∧KeepBut w w' g none:=by
 have HI0:=Aside0.mk hI
 have HK:=Aside0.mk (KeepBut.refl w g none)
 have HL:=Aside0.mk hB.size
 clear hI
 have HW0:=Aside0.mk hB.size
 have HB:=Aside0.mk hB
 clear hB
 have H:((spec_l1Cur_pick.f s0_0 s0_1 s0_2 a1).bind fun bt517=>(some ((bt517.1==0),bt517.2.1,bt517.2.2)))=some (r1,r2,r3):=h
 clear h
 replace H:=Option.bind_eq_some_iff.mp H
 obtain⟨⟨t517,t518,t519⟩,A30,H⟩:=H
 replace H:(some ((t517==0),t518,t519))=some (r1,r2,r3):=H
 have A3:=Aside0.mk A30
 clear A30
 simp only [Option.some.injEq,Prod.mk.injEq] at H
 obtain⟨rfl,rfl,rfl⟩:=H
 go_enter Try.func62,Try.ntmps62
 go_wp2_with (first|((with_reducible refine gate_callee (f:=61) rfl ?_);refine goesL_ (some 7) rfl rfl Try.func61 (by kernel_rfl) rfl #[.pointer (some ⟨g,0,none⟩),.int .i64 a1] rfl zq2 ?_;(with_reducible refine(spec_l1Cur_pick.calls g s0_0 s0_1 s0_2 a1 t517 t518 t519 w0 _ ?side1 ?side2 A3.out).mono ?_);(case side1=>exact zk5 HI0);(case side2=>exact zk2 HB (IsS82.ge HI0.out));rintro e w4 ⟨rfl,hi,hb,hk⟩;refine⟨_,rfl,?_⟩;replace HK:=Aside0.mk (KeepBut.trans (by exact zk6 HK) hk (.inl rfl));replace HB:=Aside0.mk (hb);replace HI0:=Aside0.mk (hi);(try clear hb);(try clear hb2);(try clear hk);(try clear hi)))
 go_ret
 exact⟨zer,by exact zk5 HI0,by exact zk2 HB (IsS82.ge HI0.out),by exact zk6 HK⟩
def spec_l1Cur_among.f (s0_0:List Int) (s0_1:Int) (s0_2:Int) (l1:List Int):Option (Int × Int × Int):=(spec_l1Cur_pick.f s0_0 s0_1 s0_2 (l1.length:Int)).bind fun bt520=>(if 0≤bt520.1 then(if bt520.1< (l1.length:Int) then(some (rd l1 bt520.1,bt520.2.1,bt520.2.2)) else(none)) else(none))
set_option maxHeartbeats 8000000 in
set_option maxRecDepth 100000 in
theorem spec_l1Cur_among.calls (g:Nat) (s0_0:List Int) (s0_1:Int) (s0_2:Int) (A1:Option Addr) (c1:Nat) (l1:List Int) (r1:Int) (r2:Int) (r3:Int) (w0 w:World) (hI:IsS82 w0 w g s0_0 s0_1 s0_2) (hB:Below w0.heap.size w0 w) (hr1:Kd.C (Kd.int .i64) w A1 l1.length l1) (hc1:l1.length≤c1) (hf1:∀ ad,A1=some ad→0<l1.length→ad.block≠g) (h:spec_l1Cur_among.f s0_0 s0_1 s0_2 l1=some (r1,r2,r3)):
  Calls Try.prog 63 #[.pointer (some ⟨g,0,none⟩),.slice A1 l1.length c1] w fun e w'=>e= .returned (.int .i64 r1)∧IsS82 w0 w' g s0_0 r2 r3∧Below w0.heap.size w0 w'∧KeepBut w w' g none:=by
 have HR1:=Aside0.mk hr1
 have HC1:=Aside0.mk hc1
 clear hr1 hc1
 have HI0:=Aside0.mk hI
 have HK:=Aside0.mk (KeepBut.refl w g none)
 have HL:=Aside0.mk hB.size
 clear hI
 have HW0:=Aside0.mk hB.size
 have HB:=Aside0.mk hB
 clear hB
 have H:((spec_l1Cur_pick.f s0_0 s0_1 s0_2 (l1.length:Int)).bind fun bt520=>(if 0≤bt520.1 then(if bt520.1< (l1.length:Int) then(some (rd l1 bt520.1,bt520.2.1,bt520.2.2)) else(none)) else(none)))=some (r1,r2,r3):=h
 clear h
 replace H:=Option.bind_eq_some_iff.mp H
 obtain⟨⟨t520,t521,t522⟩,A30,H⟩:=H
 replace H:(if 0≤t520 then(if t520< (l1.length:Int) then(some (rd l1 t520,t521,t522)) else(none)) else(none))=some (r1,r2,r3):=H
 have A3:=Aside0.mk A30
 clear A30
 by_cases c4: 0≤t520
 case neg=>exact znn c4 H
 rw [if_pos c4] at H
 have c4b0:decide (0≤t520)=true:=decide_eq_true c4
 clear c4
 by_cases c5:t520< (l1.length:Int)
 case neg=>exact znn c5 H
 rw [if_pos c5] at H
 have c5b0:decide (t520< (l1.length:Int))=true:=decide_eq_true c5
 clear c5
 simp only [Option.some.injEq,Prod.mk.injEq] at H
 obtain⟨rfl,rfl,rfl⟩:=H
 go_enter Try.func63,Try.ntmps63
 go_wp2_with (first|((with_reducible refine gate_callee (f:=61) rfl ?_);refine goesL_ (some 9) rfl rfl Try.func61 (by kernel_rfl) rfl #[.pointer (some ⟨g,0,none⟩),.int .i64 (l1.length:Int)] rfl zq2 ?_;(with_reducible refine(spec_l1Cur_pick.calls g s0_0 s0_1 s0_2 (l1.length:Int) t520 t521 t522 w0 _ ?side1 ?side2 A3.out).mono ?_);(case side1=>exact zk5 HI0);(case side2=>exact zk2 HB (IsS82.ge HI0.out));rintro e w6 ⟨rfl,hi,hb,hk⟩;refine⟨_,rfl,?_⟩;replace HK:=Aside0.mk (KeepBut.trans (by exact zk6 HK) hk (.inl rfl));replace HB:=Aside0.mk (hb);replace HI0:=Aside0.mk (hi);(try clear hb);(try clear hb2);(try clear hk);(try clear hi);have p523: 0≤ (t520:Int):=of_decide_eq_true zq1;have q523:t520< (l1.length:Int):=of_decide_eq_true zq1;obtain⟨ad523,e523,hx523_0⟩:=Kd.at_int HR1.out t520 p523 q523;cases e523;replace hx523_0:=keep_cell HK.out hx523_0 (by first|(rw [add_block];exact hf1 _ rfl (by omega))|exact hf1 _ rfl (by omega)|exact hf1 ad523 rfl (by omega));replace p523:=eq_true p523;replace q523:=eq_true q523))
 go_ret
 exact⟨zer,by exact zk5 HI0,by exact zk2 HB (IsS82.ge HI0.out),by exact zk6 HK⟩
mutual
def spec_l1Cur_edges.j0:Nat→Int→List Int→Int→Int→Option (Int × (List (S52)) × Int × Int)
 | 0,_,_,_,_=>none
 |k+1,x4,x1000,x1001,x1002=>(spec_l1Cur_pick.f x1000 x1001 x1002 3).bind fun bt536=>(spec_l1Cur_edges.l0 k x4 ([] :List (S52)) (wrap64 (1+bt536.1)) 0 x1000 bt536.2.1 bt536.2.2)
def spec_l1Cur_edges.l0:Nat→Int→List (S52)→Int→Int→List Int→Int→Int→Option (Int × (List (S52)) × Int × Int)
 | 0,_,_,_,_,_,_,_=>none
 |k+1,x4,x5,x6,x7,x1000,x1001,x1002=>if x7<x4 then(spec_l1Cur_edges.l1 k x4 x5 x6 x7 (wrap64 (x7+1)) x1000 x1001 x1002) else(if (x5.length:Int) > 0 then((spec_l1Cur_one.f x1000 x1001 x1002 30).bind fun bt548=>(if bt548.1=true then((spec_l1Cur_among.f x1000 bt548.2.1 bt548.2.2 (([0,100,101] :List Int))).bind fun bt554=>(if 0< (x5.length:Int) then(some (x4,(x5.set (0:Int).toNat (⟨(rd_T52 x5 0).f0,(rd_T52 x5 0).f1,bt554.1⟩ :S52)),bt554.2.1,bt554.2.2)) else(none))) else(some (x4,x5,bt548.2.1,bt548.2.2)))) else(some (x4,x5,x1001,x1002)))
def spec_l1Cur_edges.l1:Nat→Int→List (S52)→Int→Int→Int→List Int→Int→Int→Option (Int × (List (S52)) × Int × Int)
 | 0,_,_,_,_,_,_,_,_=>none
 |k+1,x4,x5,x6,x7,x8,x1000,x1001,x1002=>if x8<x4 then((spec_l1Cur_one.f x1000 x1001 x1002 (wrap64 (1+x6))).bind fun bt539=>(if bt539.1=true then(if (x5.length:Int)< 40 then((spec_l1Cur_pick.f x1000 bt539.2.1 bt539.2.2 5).bind fun bt542=>(if x5.length< 5864062014805 then(spec_l1Cur_edges.l1 k x4 (x5++ [(⟨x7,x8,wrap64 (1+bt542.1)⟩ :S52)]) x6 x7 (wrap64 (x8+1)) x1000 bt542.2.1 bt542.2.2) else(none))) else(spec_l1Cur_edges.l1 k x4 x5 x6 x7 (wrap64 (x8+1)) x1000 bt539.2.1 bt539.2.2)) else(spec_l1Cur_edges.l1 k x4 x5 x6 x7 (wrap64 (x8+1)) x1000 bt539.2.1 bt539.2.2))) else(spec_l1Cur_edges.l0 k x4 x5 x6 (wrap64 (x7+1)) x1000 x1001 x1002)
end
def spec_l1Cur_edges.f (k:Nat) (s0_0:List Int) (s0_1:Int) (s0_2:Int):Option (Int × (List (S52)) × Int × Int):=(spec_l1Cur_pick.f s0_0 s0_1 s0_2 8).bind fun bt524=>((spec_l1Cur_one.f s0_0 bt524.2.1 bt524.2.2 30).bind fun bt527=>(if bt527.1=true then((spec_l1Cur_among.f s0_0 bt527.2.1 bt527.2.2 (([0,12,13] :List Int))).bind fun bt533=>(spec_l1Cur_edges.j0 k bt533.1 s0_0 bt533.2.1 bt533.2.2)) else(spec_l1Cur_edges.j0 k (wrap64 (1+bt524.1)) s0_0 bt527.2.1 bt527.2.2)))
set_option maxHeartbeats 8000000 in
set_option maxRecDepth 100000 in
theorem spec_l1Cur_edges.calls (k:Nat) (g:Nat) (s0_0:List Int) (s0_1:Int) (s0_2:Int) (r1:Int) (r2:List (S52)) (r3:Int) (r4:Int) (w0 w:World) (hI:IsS82 w0 w g s0_0 s0_1 s0_2) (hB:Below w0.heap.size w0 w) (h:spec_l1Cur_edges.f k s0_0 s0_1 s0_2=some (r1,r2,r3,r4)):
  Calls Try.prog 64 #[.pointer (some ⟨g,0,none⟩)] w fun e w'=> ∃ v1_:Value,e= .returned (.tuple #[.int .i64 r1,v1_])∧Kd.R k52 52 w' w.heap.size (fun _=>True) v1_ r2∧IsS82 w0 w' g s0_0 r3 r4∧Below w0.heap.size w0 w'∧KeepBut w w' g none:=by
 have hu52:=Try.underlying52
 have HI0:=Aside0.mk hI
 have HK:=Aside0.mk (KeepBut.refl w g none)
 have HL:=Aside0.mk hB.size
 clear hI
 have HW0:=Aside0.mk hB.size
 have HB:=Aside0.mk hB
 clear hB
 have H:((spec_l1Cur_pick.f s0_0 s0_1 s0_2 8).bind fun bt524=>((spec_l1Cur_one.f s0_0 bt524.2.1 bt524.2.2 30).bind fun bt527=>(if bt527.1=true then((spec_l1Cur_among.f s0_0 bt527.2.1 bt527.2.2 (([0,12,13] :List Int))).bind fun bt533=>(spec_l1Cur_edges.j0 k bt533.1 s0_0 bt533.2.1 bt533.2.2)) else(spec_l1Cur_edges.j0 k (wrap64 (1+bt524.1)) s0_0 bt527.2.1 bt527.2.2))))=some (r1,r2,r3,r4):=h
 clear h
 replace H:=Option.bind_eq_some_iff.mp H
 obtain⟨⟨t524,t525,t526⟩,A20,H⟩:=H
 replace H:((spec_l1Cur_one.f s0_0 t525 t526 30).bind fun bt527=>(if bt527.1=true then((spec_l1Cur_among.f s0_0 bt527.2.1 bt527.2.2 (([0,12,13] :List Int))).bind fun bt533=>(spec_l1Cur_edges.j0 k bt533.1 s0_0 bt533.2.1 bt533.2.2)) else(spec_l1Cur_edges.j0 k (wrap64 (1+t524)) s0_0 bt527.2.1 bt527.2.2)))=some (r1,r2,r3,r4):=H
 have A2:=Aside0.mk A20
 clear A20
 replace H:=Option.bind_eq_some_iff.mp H
 obtain⟨⟨t527,t528,t529⟩,A30,H⟩:=H
 replace H:(if t527=true then((spec_l1Cur_among.f s0_0 t528 t529 (([0,12,13] :List Int))).bind fun bt533=>(spec_l1Cur_edges.j0 k bt533.1 s0_0 bt533.2.1 bt533.2.2)) else(spec_l1Cur_edges.j0 k (wrap64 (1+t524)) s0_0 t528 t529))=some (r1,r2,r3,r4):=H
 have A3:=Aside0.mk A30
 clear A30
 have HC4:=Aside0.mk H
 clear H
 go_enter Try.func64,Try.ntmps64
 go_upto_if 13 with (first|((with_reducible refine gate_callee (f:=61) rfl ?_);refine goesL_ (some 10) rfl rfl Try.func61 (by kernel_rfl) rfl #[.pointer (some ⟨g,0,none⟩),.int .i64 8] rfl zq2 ?_;(with_reducible refine(spec_l1Cur_pick.calls g s0_0 s0_1 s0_2 8 t524 t525 t526 w0 _ ?side1 ?side2 A2.out).mono ?_);(case side1=>exact zk5 HI0);(case side2=>exact zk2 HB (IsS82.ge HI0.out));rintro e w5 ⟨rfl,hi,hb,hk⟩;refine⟨_,rfl,?_⟩;replace HK:=Aside0.mk (KeepBut.trans (by exact zk6 HK) hk (.inl rfl));replace HB:=Aside0.mk (hb);replace HI0:=Aside0.mk (hi);(try clear hb);(try clear hb2);(try clear hk);(try clear hi))|((with_reducible refine gate_callee (f:=62) rfl ?_);refine goesL_ (some 13) rfl rfl Try.func62 (by kernel_rfl) rfl #[.pointer (some ⟨g,0,none⟩),.int .i64 30] rfl zq2 ?_;(with_reducible refine(spec_l1Cur_one.calls g s0_0 t525 t526 30 t527 t528 t529 w0 _ ?side1 ?side2 A3.out).mono ?_);(case side1=>exact zk5 HI0);(case side2=>exact zk2 HB (IsS82.ge HI0.out));rintro e w6 ⟨rfl,hi,hb,hk⟩;refine⟨_,rfl,?_⟩;replace HK:=Aside0.mk (KeepBut.trans (by exact zk6 HK) hk (.inl rfl));replace HB:=Aside0.mk (hb);replace HI0:=Aside0.mk (hi);(try clear hb);(try clear hb2);(try clear hk);(try clear hi)))
 (try simp only [Act.put,List.setIfInBounds_toArray,List.set_cons_zero,List.set_cons_succ])
 go_cut [4] (fun v4 wc=> ∃ (kq:Nat) (x4_3:Int) (x1001_3:Int) (x1002_3:Int),v4= .int .i64 x4_3∧Aside0 (spec_l1Cur_edges.j0 kq x4_3 s0_0 x1001_3 x1002_3=some (r1,r2,r3,r4))∧Aside0 (kq≤k)∧Aside0 (IsS82 w0 wc g s0_0 x1001_3 x1002_3)∧Aside0 (KeepBut w wc g none)∧Aside0 (Below w0.heap.size w0 wc))
 case first=>
  have H:=HC4.out
  clear HC4
  by_cases c7:t527=true
  ·subst c7
   have H1:((spec_l1Cur_among.f s0_0 t528 t529 (([0,12,13] :List Int))).bind fun bt533=>(spec_l1Cur_edges.j0 k bt533.1 s0_0 bt533.2.1 bt533.2.2))=some (r1,r2,r3,r4):=by rw [if_pos rfl] at H;exact H
   clear H
   have H:=H1
   clear H1
   obtain⟨y530,hy530⟩ :∃ y_:List Int,y_= (([0,12,13] :List Int)):=⟨_,rfl⟩
   replace H:((spec_l1Cur_among.f s0_0 t528 t529 y530).bind fun bt533=>(spec_l1Cur_edges.j0 k bt533.1 s0_0 bt533.2.1 bt533.2.2))=some (r1,r2,r3,r4):=zfh hy530 H
   have Ny530:=Aside0.mk hy530
   clear hy530
   replace H:=Option.bind_eq_some_iff.mp H
   obtain⟨⟨t533,t534,t535⟩,A80,H⟩:=H
   replace H:(spec_l1Cur_edges.j0 k t533 s0_0 t534 t535)=some (r1,r2,r3,r4):=H
   have A8:=Aside0.mk A80
   clear A80
   have H':=Aside0.mk H
   clear H
   go_wp2_with (first|((with_reducible refine gate_dst (N:=15) rfl ?_);(try(refine gate_guard (by rfl) ?_;dsimp only));refine Kd.R_lit (Kd.int .i64) _ 3 ?hg (N:=15) ?hd (xs:=([0,12,13] :List Int)) (inner:= [.int .i64 0,.int .i64 12,.int .i64 13]) (ok:=fun _=>True) (okp:=fun _=>True) ?hr ?hp (fun _ hk=>hk) trivial (Below.refl _ _) (Nat.le_refl _) (by simp) ?_;(case hd=>rfl);(case hg=>rfl);(case hr=>first|(go_simp;done)|(go_simp;rfl));(case hp=>exact(Reps.one (show Kd.M (Kd.int .i64) _ _ _ 0 [.int .i64 0] from rfl) (Reps.one (show Kd.M (Kd.int .i64) _ _ _ 12 [.int .i64 12] from rfl) (Reps.one (show Kd.M (Kd.int .i64) _ _ _ 13 [.int .i64 13] from rfl) (Reps.none _ _)))));intro v531 w9 ho10 hb hg_ hnew_;clear hg_ hnew_;(first|rw [← Ny530.out] at ho10|(simp only [Int.reduceToNat] at ho10;rw [← Ny530.out] at ho10));have HO532:=Aside0.mk (Kd.R_lower ho10 (keep_size (w:=w) (g:=g) (row:=none) (by exact zk6 HK)));replace HK:=Aside0.mk (KeepBut.trans (by exact zk6 HK) (KeepBut.of_below hb g none) (.inl rfl));replace HB:=Aside0.mk (below_step (by exact zk2 HB (IsS82.ge HI0.out)) hb);replace HI0:=Aside0.mk (IsS82.below (by exact zk5 HI0) hb);clear hb ho10;obtain⟨Ao11,co11,eo11⟩:=Kd.R_slice HO532.out;subst eo11)|((with_reducible refine gate_callee (f:=63) rfl ?_);refine goesL_ (some 16) rfl rfl Try.func63 (by kernel_rfl) rfl #[.pointer (some ⟨g,0,none⟩),.slice Ao11 y530.length co11] rfl zq2 ?_;(with_reducible refine(spec_l1Cur_among.calls g s0_0 t528 t529 _ _ y530 t533 t534 t535 w0 _ ?side1 ?side2 ?side3 ?side4 ?side5 A8.out).mono ?_);(case side1=>exact zk5 HI0);(case side2=>exact zk2 HB (IsS82.ge HI0.out));(case side3=>exact zcc ((Kd.R_reads' HO532.out).2.2));(case side4=>exact(Kd.R_reads' HO532.out).2.1);(case side5=>exact far_slice (IsS82.own_ne HI0.out HO532.out (by decide)));rintro e w12 ⟨rfl,hi,hb,hk⟩;refine⟨_,rfl,?_⟩;replace HO532:=Aside0.mk (Kd.R_mono (Kd.R_keep (IsS82.apart (show IsS82 w0 _ g s0_0 t528 t529 from by exact zk5 HI0) (zq4 HO532) (by decide)) hk (fun _ h=>h.2)) (fun _ h=>h.1));replace HK:=Aside0.mk (KeepBut.trans (by exact zk6 HK) hk (.inl rfl));replace HB:=Aside0.mk (hb);replace HI0:=Aside0.mk (hi);(try clear hb);(try clear hb2);(try clear hk);(try clear hi)))
   go_meet
   case rel=>exact⟨_,(t533),(t534),(t535),zrs,H',⟨by first|omega|exact Nat.le_refl _⟩,⟨by exact zk5 HI0⟩,⟨by exact zk6 HK⟩,⟨by exact zk2 HB (IsS82.ge HI0.out)⟩⟩
  ·replace c7:=Bool.eq_false_iff.mpr c7
   subst c7
   have H1:(spec_l1Cur_edges.j0 k (wrap64 (1+t524)) s0_0 t528 t529)=some (r1,r2,r3,r4):=by rw [if_neg (show ¬ (false=true) by decide)] at H;exact H
   clear H
   have H:=H1
   clear H1
   have H':=Aside0.mk H
   clear H
   go_wp2
   go_meet
   case rel=>exact⟨_,(wrap64 (1+t524)),(t528),(t529),zrs,H',⟨by first|omega|exact Nat.le_refl _⟩,⟨by exact zk5 HI0⟩,⟨by exact zk6 HK⟩,⟨by exact zk2 HB (IsS82.ge HI0.out)⟩⟩
 case rest=>
  clear HC4
  try clear p2
  try clear c6
  try clear p6
  try clear c7
  obtain⟨kq,x4_3,x1001_3,x1002_3,rfl,HA,HJ3,HI0,HK,HB⟩:=hcut
  cases kq with
  |zero=>exact absurd HA.out (by simp [spec_l1Cur_edges.j0])
  |succ kj3=>
   have H:=HA.out
   clear HA
   simp only [spec_l1Cur_edges.j0] at H
   replace H:=Option.bind_eq_some_iff.mp H
   obtain⟨⟨t536,t537,t538⟩,A130,H⟩:=H
   replace H:(spec_l1Cur_edges.l0 kj3 x4_3 ([] :List (S52)) (wrap64 (1+t536)) 0 s0_0 t537 t538)=some (r1,r2,r3,r4):=H
   have A13:=Aside0.mk A130
   clear A130
   have H':=Aside0.mk H
   clear H
   go_wp2_with (first|((with_reducible refine gate_callee (f:=61) rfl ?_);refine goesL_ (some 18) rfl rfl Try.func61 (by kernel_rfl) rfl #[.pointer (some ⟨g,0,none⟩),.int .i64 3] rfl zq2 ?_;(with_reducible refine(spec_l1Cur_pick.calls g s0_0 x1001_3 x1002_3 3 t536 t537 t538 w0 _ ?side1 ?side2 A13.out).mono ?_);(case side1=>exact zk5 HI0);(case side2=>exact zk2 HB (IsS82.ge HI0.out));rintro e w14 ⟨rfl,hi,hb,hk⟩;refine⟨_,rfl,?_⟩;replace HK:=Aside0.mk (KeepBut.trans (by exact zk6 HK) hk (.inl rfl));replace HB:=Aside0.mk (hb);replace HI0:=Aside0.mk (hi);(try clear hb);(try clear hb2);(try clear hk);(try clear hi)))
   go_loopg [5,7] kj3 (fun kq v5 v7 w'=> ∃ (x5_2:List (S52)) (x7_2:Int) (x1001_2:Int) (x1002_2:Int),v7= .int .i64 x7_2∧Aside0 (spec_l1Cur_edges.l0 kq x4_3 x5_2 (wrap64 (1+t536)) x7_2 s0_0 x1001_2 x1002_2=some (r1,r2,r3,r4))∧Aside0 (kq≤kj3)∧Aside0 (Kd.R k52 52 w' w.heap.size (fun _=>True) v5 x5_2)∧Aside0 (IsS82 w0 w' g s0_0 x1001_2 x1002_2)∧Aside0 (KeepBut w w' g none)∧Aside0 (Below w0.heap.size w0 w'))
   case atStart=>exact⟨(([] :List (S52))),(0),(t537),(t538),zrs,H',⟨Nat.le_refl _⟩,⟨by first|exact Kd.R_nil _ _ _ _ _|exact Kd.N_nil _ _ _ _ _|exact Kd.V_nil _ _ _ _ _|exact Kd.Q_nil _ _ _ _ _|exact Kd.S_nil _ _ _ _ _⟩,⟨by exact zk5 HI0⟩,⟨by exact zk6 HK⟩,⟨by exact zk2 HB (IsS82.ge HI0.out)⟩⟩
   case round=>
    clear H'
    try clear p2
    try clear c6
    try clear p6
    try clear c7
    try clear p2
    try clear p6
    obtain⟨x5_2,x7_2,x1001_2,x1002_2,rfl,HA,HK2,HO_5,HI0,HK,HB⟩:=hrel
    cases gk with
    |zero=>exact absurd HA.out (by simp [spec_l1Cur_edges.l0])
    |succ k2=>
     have H:=HA.out
     clear HA
     simp only [spec_l1Cur_edges.l0] at H
     by_cases c15:x7_2<x4_3
     ·rw [if_pos c15] at H
      have c15b0:decide (x7_2<x4_3)=true:=decide_eq_true c15
      clear c15
      have H':=Aside0.mk H
      clear H
      go_wp2
      go_loopg [5,8] k2 (fun kq v5 v8 w'=> ∃ (x5_3:List (S52)) (x8_3:Int) (x1001_3:Int) (x1002_3:Int),v8= .int .i64 x8_3∧Aside0 (spec_l1Cur_edges.l1 kq x4_3 x5_3 (wrap64 (1+t536)) x7_2 x8_3 s0_0 x1001_3 x1002_3=some (r1,r2,r3,r4))∧Aside0 (kq≤k2)∧Aside0 (Kd.R k52 52 w' w.heap.size (fun _=>True) v5 x5_3)∧Aside0 (IsS82 w0 w' g s0_0 x1001_3 x1002_3)∧Aside0 (KeepBut w w' g none)∧Aside0 (Below w0.heap.size w0 w'))
      case atStart=>exact⟨(x5_2),(wrap64 (x7_2+1)),(x1001_2),(x1002_2),zrs,H',⟨Nat.le_refl _⟩,⟨zdr HO_5⟩,⟨by exact zk5 HI0⟩,⟨by exact zk6 HK⟩,⟨by exact zk2 HB (IsS82.ge HI0.out)⟩⟩
      case round=>
       clear H'
       try clear c1
       try clear p2
       try clear c6
       try clear p6
       try clear c7
       try clear c15
       try clear c15b0
       try clear p2
       try clear p6
       obtain⟨x5_3,x8_3,x1001_3,x1002_3,rfl,HA,HK3,HO_5,HI0,HK,HB⟩:=hrel
       cases gk with
       |zero=>exact absurd HA.out (by simp [spec_l1Cur_edges.l1])
       |succ k3=>
        have H:=HA.out
        clear HA
        simp only [spec_l1Cur_edges.l1] at H
        by_cases c16:x8_3<x4_3
        ·rw [if_pos c16] at H
         have c16b0:decide (x8_3<x4_3)=true:=decide_eq_true c16
         clear c16
         replace H:=Option.bind_eq_some_iff.mp H
         obtain⟨⟨t539,t540,t541⟩,A170,H⟩:=H
         replace H:(if t539=true then(if (x5_3.length:Int)< 40 then((spec_l1Cur_pick.f s0_0 t540 t541 5).bind fun bt542=>(if x5_3.length< 5864062014805 then(spec_l1Cur_edges.l1 k3 x4_3 (x5_3++ [(⟨x7_2,x8_3,wrap64 (1+bt542.1)⟩ :S52)]) (wrap64 (1+t536)) x7_2 (wrap64 (x8_3+1)) s0_0 bt542.2.1 bt542.2.2) else(none))) else(spec_l1Cur_edges.l1 k3 x4_3 x5_3 (wrap64 (1+t536)) x7_2 (wrap64 (x8_3+1)) s0_0 t540 t541)) else(spec_l1Cur_edges.l1 k3 x4_3 x5_3 (wrap64 (1+t536)) x7_2 (wrap64 (x8_3+1)) s0_0 t540 t541))=some (r1,r2,r3,r4):=H
         have A17:=Aside0.mk A170
         clear A170
         by_cases c18:t539=true
         ·subst c18
          have H1:(if (x5_3.length:Int)< 40 then((spec_l1Cur_pick.f s0_0 t540 t541 5).bind fun bt542=>(if x5_3.length< 5864062014805 then(spec_l1Cur_edges.l1 k3 x4_3 (x5_3++ [(⟨x7_2,x8_3,wrap64 (1+bt542.1)⟩ :S52)]) (wrap64 (1+t536)) x7_2 (wrap64 (x8_3+1)) s0_0 bt542.2.1 bt542.2.2) else(none))) else(spec_l1Cur_edges.l1 k3 x4_3 x5_3 (wrap64 (1+t536)) x7_2 (wrap64 (x8_3+1)) s0_0 t540 t541))=some (r1,r2,r3,r4):=by rw [if_pos rfl] at H;exact H
          clear H
          have H:=H1
          clear H1
          by_cases c19:(x5_3.length:Int)< 40
          ·rw [if_pos c19] at H
           have c19b0:decide ((x5_3.length:Int)< 40)=true:=decide_eq_true c19
           have c19b1:decide (x5_3.length< 40)=true:=decide_eq_true (by omega)
           clear c19
           replace H:=Option.bind_eq_some_iff.mp H
           obtain⟨⟨t542,t543,t544⟩,A200,H⟩:=H
           replace H:(if x5_3.length< 5864062014805 then(spec_l1Cur_edges.l1 k3 x4_3 (x5_3++ [(⟨x7_2,x8_3,wrap64 (1+t542)⟩ :S52)]) (wrap64 (1+t536)) x7_2 (wrap64 (x8_3+1)) s0_0 t543 t544) else(none))=some (r1,r2,r3,r4):=H
           have A20:=Aside0.mk A200
           clear A200
           by_cases c21:x5_3.length< 5864062014805
           case neg=>exact znn c21 H
           rw [if_pos c21] at H
           have LMc21:=Aside0.mk c21
           clear c21
           obtain⟨y545,hy545⟩ :∃ y_:List (S52),y_= (x5_3++ [(⟨x7_2,x8_3,wrap64 (1+t542)⟩ :S52)]):=⟨_,rfl⟩
           replace H:(spec_l1Cur_edges.l1 k3 x4_3 y545 (wrap64 (1+t536)) x7_2 (wrap64 (x8_3+1)) s0_0 t543 t544)=some (r1,r2,r3,r4):=zfh hy545 H
           have Ny545:=Aside0.mk hy545
           clear hy545
           have H':=Aside0.mk H
           clear H
           go_wp2_with (first|((with_reducible refine gate_callee (f:=62) rfl ?_);refine goesL_ (some 35) rfl rfl Try.func62 (by kernel_rfl) rfl #[.pointer (some ⟨g,0,none⟩),.int .i64 (wrap64 (1+ (wrap64 (1+t536))))] rfl zq2 ?_;(with_reducible refine(spec_l1Cur_one.calls g s0_0 x1001_3 x1002_3 (wrap64 (1+ (wrap64 (1+t536)))) true t540 t541 w0 _ ?side1 ?side2 A17.out).mono ?_);(case side1=>exact zk5 HI0);(case side2=>exact zk2 HB (IsS82.ge HI0.out));rintro e w22 ⟨rfl,hi,hb,hk⟩;refine⟨_,rfl,?_⟩;replace HO_5:=Aside0.mk (Kd.R_mono (Kd.R_keep (IsS82.apart (show IsS82 w0 _ g s0_0 x1001_3 x1002_3 from by exact zk5 HI0) (zq4 HO_5) (by decide)) hk (fun _ h=>h.2)) (fun _ h=>h.1));replace HK:=Aside0.mk (KeepBut.trans (by exact zk6 HK) hk (.inl rfl));replace HB:=Aside0.mk (hb);replace HI0:=Aside0.mk (hi);(try clear hb);(try clear hb2);(try clear hk);(try clear hi);obtain⟨Ao23,co23,eo23⟩:=Kd.R_slice HO_5.out;subst eo23)|((with_reducible refine gate_callee (f:=61) rfl ?_);refine goesL_ (some 45) rfl rfl Try.func61 (by kernel_rfl) rfl #[.pointer (some ⟨g,0,none⟩),.int .i64 5] rfl zq2 ?_;(with_reducible refine(spec_l1Cur_pick.calls g s0_0 t540 t541 5 t542 t543 t544 w0 _ ?side1 ?side2 A20.out).mono ?_);(case side1=>exact zk5 HI0);(case side2=>exact zk2 HB (IsS82.ge HI0.out));rintro e w24 ⟨rfl,hi,hb,hk⟩;refine⟨_,rfl,?_⟩;replace HO_5:=Aside0.mk (Kd.R_mono (Kd.R_keep (IsS82.apart (show IsS82 w0 _ g s0_0 t540 t541 from by exact zk5 HI0) (zq4 HO_5) (by decide)) hk (fun _ h=>h.2)) (fun _ h=>h.1));replace HK:=Aside0.mk (KeepBut.trans (by exact zk6 HK) hk (.inl rfl));replace HB:=Aside0.mk (hb);replace HI0:=Aside0.mk (hi);(try clear hb);(try clear hb2);(try clear hk);(try clear hi))|((with_reducible refine gate_builtin (b:= .append) (xs:= #[.tmp 41,.tmp 48]) rfl ?_);(try(refine gate_guard (by rfl) ?_;dsimp only));at_builtin;refine Kd.R_append k52 w.heap.size rfl (.tmp 41) (.tmp 48) 26 52 (.agg #[(.int .i64 0),(.int .i64 0),(.int .i64 0)]) 24 rfl Try.underlying26 info52 rfl (by decide) (by omega) (.slice Ao23 x5_3.length co23) x5_3 (⟨x7_2,x8_3,wrap64 (1+t542)⟩ :S52) [.int .i64 x7_2,.int .i64 x8_3,.int .i64 (wrap64 (1+t542))] (fun _=>True) (fun _=>False) rfl rfl ?aP (fun _ hk=>hk.elim) ?aF ?aO (Below.refl _ _) ?aS ?aL ?_;(case aP=>exact k52_mkM _ _ _ (⟨x7_2,x8_3,wrap64 (1+t542)⟩ :S52));(case aF=>exact(fun _ _=>trivial));(case aO=>exact(zq4 HO_5));(case aS=>exact(keep_size (w:=w) (g:=g) (row:=none) (by exact zk6 HK)));(case aL=>have:=LMc21.out;omega);intro v546 w25 ho hb hg hat;rw [← Ny545.out] at ho;have HO547:=Aside0.mk (ho);replace HB:=Aside0.mk (below_weaken (by exact zk2 HB (IsS82.ge HI0.out)) HL.out hb);replace HI0:=Aside0.mk (IsS82.grown (by exact zk5 HI0) hg (IsS82.own_ne HI0.out HO_5.out (by decide)));replace HK:=Aside0.mk (KeepBut.trans (by exact zk6 HK) (KeepBut.of_grown hg g) (Kd.R_base2 HO_5.out));clear HO_5;clear ho hb hg hat))
           go_roundg k3
           case measure=>have:=HJ3.out;have:=HK2.out;have:=HK3.out;omega
           case rel=>exact⟨(y545),(wrap64 (x8_3+1)),(t543),(t544),zrs,H',⟨by have:=HJ3.out;have:=HK2.out;have:=HK3.out;omega⟩,⟨zdr HO547⟩,⟨by exact zk5 HI0⟩,⟨by exact zk6 HK⟩,⟨by exact zk2 HB (IsS82.ge HI0.out)⟩⟩
          ·rw [if_neg c19] at H
           have c19b0:decide ((x5_3.length:Int)< 40)=false:=decide_eq_false c19
           have c19b1:decide (x5_3.length< 40)=false:=decide_eq_false (by omega)
           clear c19
           have H':=Aside0.mk H
           clear H
           go_wp2_with (first|((with_reducible refine gate_callee (f:=62) rfl ?_);refine goesL_ (some 35) rfl rfl Try.func62 (by kernel_rfl) rfl #[.pointer (some ⟨g,0,none⟩),.int .i64 (wrap64 (1+ (wrap64 (1+t536))))] rfl zq2 ?_;(with_reducible refine(spec_l1Cur_one.calls g s0_0 x1001_3 x1002_3 (wrap64 (1+ (wrap64 (1+t536)))) true t540 t541 w0 _ ?side1 ?side2 A17.out).mono ?_);(case side1=>exact zk5 HI0);(case side2=>exact zk2 HB (IsS82.ge HI0.out));rintro e w26 ⟨rfl,hi,hb,hk⟩;refine⟨_,rfl,?_⟩;replace HO_5:=Aside0.mk (Kd.R_mono (Kd.R_keep (IsS82.apart (show IsS82 w0 _ g s0_0 x1001_3 x1002_3 from by exact zk5 HI0) (zq4 HO_5) (by decide)) hk (fun _ h=>h.2)) (fun _ h=>h.1));replace HK:=Aside0.mk (KeepBut.trans (by exact zk6 HK) hk (.inl rfl));replace HB:=Aside0.mk (hb);replace HI0:=Aside0.mk (hi);(try clear hb);(try clear hb2);(try clear hk);(try clear hi);obtain⟨Ao27,co27,eo27⟩:=Kd.R_slice HO_5.out;subst eo27))
           go_roundg k3
           case measure=>have:=HJ3.out;have:=HK2.out;have:=HK3.out;omega
           case rel=>exact⟨(x5_3),(wrap64 (x8_3+1)),(t540),(t541),zrs,H',⟨by have:=HJ3.out;have:=HK2.out;have:=HK3.out;omega⟩,⟨zdr HO_5⟩,⟨by exact zk5 HI0⟩,⟨by exact zk6 HK⟩,⟨by exact zk2 HB (IsS82.ge HI0.out)⟩⟩
         ·replace c18:=Bool.eq_false_iff.mpr c18
          subst c18
          have H1:(spec_l1Cur_edges.l1 k3 x4_3 x5_3 (wrap64 (1+t536)) x7_2 (wrap64 (x8_3+1)) s0_0 t540 t541)=some (r1,r2,r3,r4):=by rw [if_neg (show ¬ (false=true) by decide)] at H;exact H
          clear H
          have H:=H1
          clear H1
          have H':=Aside0.mk H
          clear H
          go_wp2_with (first|((with_reducible refine gate_callee (f:=62) rfl ?_);refine goesL_ (some 35) rfl rfl Try.func62 (by kernel_rfl) rfl #[.pointer (some ⟨g,0,none⟩),.int .i64 (wrap64 (1+ (wrap64 (1+t536))))] rfl zq2 ?_;(with_reducible refine(spec_l1Cur_one.calls g s0_0 x1001_3 x1002_3 (wrap64 (1+ (wrap64 (1+t536)))) false t540 t541 w0 _ ?side1 ?side2 A17.out).mono ?_);(case side1=>exact zk5 HI0);(case side2=>exact zk2 HB (IsS82.ge HI0.out));rintro e w28 ⟨rfl,hi,hb,hk⟩;refine⟨_,rfl,?_⟩;replace HO_5:=Aside0.mk (Kd.R_mono (Kd.R_keep (IsS82.apart (show IsS82 w0 _ g s0_0 x1001_3 x1002_3 from by exact zk5 HI0) (zq4 HO_5) (by decide)) hk (fun _ h=>h.2)) (fun _ h=>h.1));replace HK:=Aside0.mk (KeepBut.trans (by exact zk6 HK) hk (.inl rfl));replace HB:=Aside0.mk (hb);replace HI0:=Aside0.mk (hi);(try clear hb);(try clear hb2);(try clear hk);(try clear hi)))
          go_roundg k3
          case measure=>have:=HJ3.out;have:=HK2.out;have:=HK3.out;omega
          case rel=>exact⟨(x5_3),(wrap64 (x8_3+1)),(t540),(t541),zrs,H',⟨by have:=HJ3.out;have:=HK2.out;have:=HK3.out;omega⟩,⟨zdr HO_5⟩,⟨by exact zk5 HI0⟩,⟨by exact zk6 HK⟩,⟨by exact zk2 HB (IsS82.ge HI0.out)⟩⟩
        ·rw [if_neg c16] at H
         have c16b0:decide (x8_3<x4_3)=false:=decide_eq_false c16
         clear c16
         have H':=Aside0.mk H
         clear H
         go_wp2
         go_roundg k3
         case measure=>have:=HJ3.out;have:=HK2.out;have:=HK3.out;omega
         case rel=>exact⟨(x5_3),(wrap64 (x7_2+1)),(x1001_3),(x1002_3),zrs,H',⟨by have:=HJ3.out;have:=HK2.out;have:=HK3.out;omega⟩,⟨zdr HO_5⟩,⟨by exact zk5 HI0⟩,⟨by exact zk6 HK⟩,⟨by exact zk2 HB (IsS82.ge HI0.out)⟩⟩
     ·rw [if_neg c15] at H
      have c15b0:decide (x7_2<x4_3)=false:=decide_eq_false c15
      clear c15
      by_cases c29:(x5_2.length:Int) > 0
      ·rw [if_pos c29] at H
       have c29b0:decide (0< (x5_2.length:Int))=true:=decide_eq_true c29
       have c29b1:decide (0<x5_2.length)=true:=decide_eq_true (by omega)
       clear c29
       replace H:=Option.bind_eq_some_iff.mp H
       obtain⟨⟨t548,t549,t550⟩,A300,H⟩:=H
       replace H:(if t548=true then((spec_l1Cur_among.f s0_0 t549 t550 (([0,100,101] :List Int))).bind fun bt554=>(if 0< (x5_2.length:Int) then(some (x4_3,(x5_2.set (0:Int).toNat (⟨(rd_T52 x5_2 0).f0,(rd_T52 x5_2 0).f1,bt554.1⟩ :S52)),bt554.2.1,bt554.2.2)) else(none))) else(some (x4_3,x5_2,t549,t550)))=some (r1,r2,r3,r4):=H
       have A30:=Aside0.mk A300
       clear A300
       by_cases c31:t548=true
       ·subst c31
        have H1:((spec_l1Cur_among.f s0_0 t549 t550 (([0,100,101] :List Int))).bind fun bt554=>(if 0< (x5_2.length:Int) then(some (x4_3,(x5_2.set (0:Int).toNat (⟨(rd_T52 x5_2 0).f0,(rd_T52 x5_2 0).f1,bt554.1⟩ :S52)),bt554.2.1,bt554.2.2)) else(none)))=some (r1,r2,r3,r4):=by rw [if_pos rfl] at H;exact H
        clear H
        have H:=H1
        clear H1
        obtain⟨y551,hy551⟩ :∃ y_:List Int,y_= (([0,100,101] :List Int)):=⟨_,rfl⟩
        replace H:((spec_l1Cur_among.f s0_0 t549 t550 y551).bind fun bt554=>(if 0< (x5_2.length:Int) then(some (x4_3,(x5_2.set (0:Int).toNat (⟨(rd_T52 x5_2 0).f0,(rd_T52 x5_2 0).f1,bt554.1⟩ :S52)),bt554.2.1,bt554.2.2)) else(none)))=some (r1,r2,r3,r4):=zfh hy551 H
        have Ny551:=Aside0.mk hy551
        clear hy551
        replace H:=Option.bind_eq_some_iff.mp H
        obtain⟨⟨t554,t555,t556⟩,A320,H⟩:=H
        replace H:(if 0< (x5_2.length:Int) then(some (x4_3,(x5_2.set (0:Int).toNat (⟨(rd_T52 x5_2 0).f0,(rd_T52 x5_2 0).f1,t554⟩ :S52)),t555,t556)) else(none))=some (r1,r2,r3,r4):=H
        have A32:=Aside0.mk A320
        clear A320
        by_cases c33: 0< (x5_2.length:Int)
        case neg=>exact znn c33 H
        rw [if_pos c33] at H
        have c33b0:decide (0< (x5_2.length:Int))=true:=decide_eq_true c33
        have c33b1:decide (0<x5_2.length)=true:=decide_eq_true (by omega)
        clear c33
        obtain⟨y557,hy557⟩ :∃ y_:List (S52),y_= (x5_2.set (0:Int).toNat (⟨(rd_T52 x5_2 0).f0,(rd_T52 x5_2 0).f1,t554⟩ :S52)):=⟨_,rfl⟩
        replace H:(some (x4_3,y557,t555,t556))=some (r1,r2,r3,r4):=zfh hy557 H
        have Ny557:=Aside0.mk hy557
        clear hy557
        simp only [Option.some.injEq,Prod.mk.injEq] at H
        obtain⟨rfl,rfl,rfl,rfl⟩:=H
        obtain⟨Ao35,co35,eo35⟩:=Kd.R_slice HO_5.out
        subst eo35
        go_wp2_with (first|(go_at_call 62;(with_reducible refine(spec_l1Cur_one.calls g s0_0 x1001_2 x1002_2 30 true t549 t550 w0 _ ?side1 ?side2 A30.out).mono ?_);(case side1=>exact zk5 HI0);(case side2=>exact zk2 HB (IsS82.ge HI0.out));rintro e w36 ⟨rfl,hi,hb,hk⟩;replace HO_5:=Aside0.mk (Kd.R_mono (Kd.R_keep (IsS82.apart (show IsS82 w0 _ g s0_0 x1001_2 x1002_2 from by exact zk5 HI0) (zq4 HO_5) (by decide)) hk (fun _ h=>h.2)) (fun _ h=>h.1));replace HK:=Aside0.mk (KeepBut.trans (by exact zk6 HK) hk (.inl rfl));replace HB:=Aside0.mk (hb);replace HI0:=Aside0.mk (hi);(try clear hb);(try clear hb2);(try clear hk);(try clear hi))|((with_reducible refine gate_dst (N:=59) rfl ?_);(try(refine gate_guard (by rfl) ?_;dsimp only));refine Kd.R_lit (Kd.int .i64) _ 3 ?hg (N:=59) ?hd (xs:=([0,100,101] :List Int)) (inner:= [.int .i64 0,.int .i64 100,.int .i64 101]) (ok:=fun _=>True) (okp:=fun _=>True) ?hr ?hp (fun _ hk=>hk) trivial (Below.refl _ _) (Nat.le_refl _) (by simp) ?_;(case hd=>rfl);(case hg=>rfl);(case hr=>first|(go_simp;done)|(go_simp;rfl));(case hp=>exact(Reps.one (show Kd.M (Kd.int .i64) _ _ _ 0 [.int .i64 0] from rfl) (Reps.one (show Kd.M (Kd.int .i64) _ _ _ 100 [.int .i64 100] from rfl) (Reps.one (show Kd.M (Kd.int .i64) _ _ _ 101 [.int .i64 101] from rfl) (Reps.none _ _)))));intro v552 w37 ho38 hb hg_ hnew_;clear hg_ hnew_;(first|rw [← Ny551.out] at ho38|(simp only [Int.reduceToNat] at ho38;rw [← Ny551.out] at ho38));have HO553:=Aside0.mk (Kd.R_lower ho38 (keep_size (w:=w) (g:=g) (row:=none) (by exact zk6 HK)));replace HO_5:=Aside0.mk (Kd.R_below (zq4 HO_5) hb);replace HK:=Aside0.mk (KeepBut.trans (by exact zk6 HK) (KeepBut.of_below hb g none) (.inl rfl));replace HB:=Aside0.mk (below_step (by exact zk2 HB (IsS82.ge HI0.out)) hb);replace HI0:=Aside0.mk (IsS82.below (by exact zk5 HI0) hb);clear hb ho38;obtain⟨Ao39,co39,eo39⟩:=Kd.R_slice HO553.out;subst eo39)|((with_reducible refine gate_callee (f:=63) rfl ?_);refine goesL_ (some 60) rfl rfl Try.func63 (by kernel_rfl) rfl #[.pointer (some ⟨g,0,none⟩),.slice Ao39 y551.length co39] rfl zq2 ?_;(with_reducible refine(spec_l1Cur_among.calls g s0_0 t549 t550 _ _ y551 t554 t555 t556 w0 _ ?side1 ?side2 ?side3 ?side4 ?side5 A32.out).mono ?_);(case side1=>exact zk5 HI0);(case side2=>exact zk2 HB (IsS82.ge HI0.out));(case side3=>exact zcc ((Kd.R_reads' HO553.out).2.2));(case side4=>exact(Kd.R_reads' HO553.out).2.1);(case side5=>exact far_slice (IsS82.own_ne HI0.out HO553.out (by decide)));rintro e w40 ⟨rfl,hi,hb,hk⟩;refine⟨_,rfl,?_⟩;replace HO_5:=Aside0.mk (Kd.R_mono (Kd.R_keep (IsS82.apart (show IsS82 w0 _ g s0_0 t549 t550 from by exact zk5 HI0) (zq4 HO_5) (by decide)) hk (fun _ h=>h.2)) (fun _ h=>h.1));replace HO553:=Aside0.mk (Kd.R_mono (Kd.R_keep (IsS82.apart (show IsS82 w0 _ g s0_0 t549 t550 from by exact zk5 HI0) (zq4 HO553) (by decide)) hk (fun _ h=>h.2)) (fun _ h=>h.1));replace HK:=Aside0.mk (KeepBut.trans (by exact zk6 HK) hk (.inl rfl));replace HB:=Aside0.mk (hb);replace HI0:=Aside0.mk (hi);(try clear hb);(try clear hb2);(try clear hk);(try clear hi);have p34: 0≤ (0:Int):=(by omega);have q34:(0:Int)< ((x5_2.length:Int):Int):=of_decide_eq_true zq1;have qi34:(0<x5_2.length)=True:=eq_true (by omega);obtain⟨go34,co34,eo34,gb34,gl34,cl34,HG34⟩:=Kd.R_form HO_5.out (by omega);(first|cases eo34|(injection eo34 with ea_ en_ ec_;(first|subst ea_|(injection ea_ with ea_;subst ea_));subst ec_;clear en_));have GB34:=Aside0.mk gb34;have GG34:=Aside0.mk HG34;clear gb34 gl34 HG34;obtain⟨ce34,hcl34,hM34,hcc34,hfr34⟩:=Kd.R_elem HO_5.out z52 (0:Int) p34 q34;obtain rfl:=k52_openM hM34;have hx34_0:w40.cell? ⟨go34,(0:Int).toNat * 3,none⟩=some (.int .i64 ((rd_T52 x5_2 0).f0)):=hcc34 0 _ rfl;have hx34_1:w40.cell? ⟨go34,(0:Int).toNat * 3+1,none⟩=some (.int .i64 ((rd_T52 x5_2 0).f1)):=hcc34 1 _ rfl;have hx34_2:w40.cell? ⟨go34,(0:Int).toNat * 3+2,none⟩=some (.int .i64 ((rd_T52 x5_2 0).f2)):=hcc34 2 _ rfl;have hf34_0:w40.frozen? ⟨go34,(0:Int).toNat * 3,none⟩=false:=hfr34 0;have hf34_1:w40.frozen? ⟨go34,(0:Int).toNat * 3+1,none⟩=false:=hfr34 1;have hf34_2:w40.frozen? ⟨go34,(0:Int).toNat * 3+2,none⟩=false:=hfr34 2;clear hcl34 hcc34 hfr34 hM34;(try rw [show ((0:Int)).toNat=0 from rfl] at hx34_0);(try simp only [Nat.reduceMul,Nat.zero_mul,Nat.zero_add,Nat.reduceAdd] at hx34_0);(try rw [show ((0:Int)).toNat=0 from rfl] at hf34_0);(try simp only [Nat.reduceMul,Nat.zero_mul,Nat.zero_add,Nat.reduceAdd] at hf34_0);(try rw [show ((0:Int)).toNat=0 from rfl] at hx34_1);(try simp only [Nat.reduceMul,Nat.zero_mul,Nat.zero_add,Nat.reduceAdd] at hx34_1);(try rw [show ((0:Int)).toNat=0 from rfl] at hf34_1);(try simp only [Nat.reduceMul,Nat.zero_mul,Nat.zero_add,Nat.reduceAdd] at hf34_1);(try rw [show ((0:Int)).toNat=0 from rfl] at hx34_2);(try simp only [Nat.reduceMul,Nat.zero_mul,Nat.zero_add,Nat.reduceAdd] at hx34_2);(try rw [show ((0:Int)).toNat=0 from rfl] at hf34_2);(try simp only [Nat.reduceMul,Nat.zero_mul,Nat.zero_add,Nat.reduceAdd] at hf34_2);replace p34:=eq_true p34;replace q34:=eq_true q34;have HX41:=Aside0.mk (show Kd.R k52 52 w40 w.heap.size (fun _=>True) (.slice (some ⟨go34,0,none⟩) x5_2.length co35) x5_2 from (zq4 HO_5));obtain⟨ce41,hcl41,hM41,hcc41,hfr41⟩:=Kd.R_elem HX41.out z52 (0:Int) (by omega) (by have h_:(0:Int)< ((x5_2.length:Int):Int):=of_decide_eq_true zq1;first|exact h_|(have e_:=(Kd.R_reads' HO_5.out).1;omega)|simpa using h_);obtain rfl:=k52_openM hM41;have HP41:=Kd.R_seg HX41.out (0:Int) (by omega) (by have h_:(0:Int)< ((x5_2.length:Int):Int):=of_decide_eq_true zq1;first|exact h_|(have e_:=(Kd.R_reads' HO_5.out).1;omega)|simpa using h_) (seg:= [.int .i64 t554]) (j:=2) hcl41 hcc41 (show 3≤3 from by decide) (x':=(⟨(rd_T52 x5_2 0).f0,(rd_T52 x5_2 0).f1,t554⟩ :S52)) (k52_mkM _ _ _ (⟨(rd_T52 x5_2 0).f0,(rd_T52 x5_2 0).f1,t554⟩ :S52) ) (fun _ hk=>hk);have hx41_2:=hcc41 2 _ rfl;(try simp only [show (k52).sz=3 from rfl,Nat.mul_one,Nat.add_zero] at hx41_2);(try rw [show ((0:Int)).toNat=0 from rfl] at hx41_2);(try simp only [Nat.reduceMul,Nat.zero_mul,Nat.zero_add,Nat.reduceAdd] at hx41_2);have hf41_2:=hfr41 2;(try simp only [show (k52).sz=3 from rfl,Nat.mul_one,Nat.add_zero] at hf41_2);(try rw [show ((0:Int)).toNat=0 from rfl] at hf41_2);(try simp only [Nat.reduceMul,Nat.zero_mul,Nat.zero_add,Nat.reduceAdd] at hf41_2);clear hcl41 hcc41 hfr41 hM41)|((with_reducible refine gate_store (t:=3) (p:=62) rfl ?_);refine store_event (t:=3) (p:=62) (v:=?vo_w42) (w1:=(w40.setCell ⟨go34,2,none⟩ (.int .i64 t554))) ?hg ?ho ?hn ?hr ?_;(case ho=>rfl);(case hg=>rfl);(case hn=>rfl);(case hr=>first|(go_simp;done)|(go_simp;rfl));intro w42 hw;have hg:w40.grownBy w42 (some go34):=(by rw [hw];exact HP41.2);have hp_:Kd.R k52 52 w42 w.heap.size (fun _=>True) (.slice (some ⟨go34,0,none⟩) x5_2.length co35) y557:=(by rw [hw,Ny557.out];exact HP41.1);clear HP41;replace HI0:=Aside0.mk (IsS82.grown (by exact zk5 HI0) hg (IsS82.own_ne HI0.out HO_5.out (by decide)));replace HO553:=Aside0.mk (Kd.R_over' (v:=(.slice (some ⟨go34,0,none⟩) x5_2.length co35)) (zq4 HO553) (Kd.R_typed HO_5.out) (by decide) hg);replace HB:=Aside0.mk ((by rw [hw];exact below_set (HB.out) (Nat.le_trans HL.out GB34.out):Below w0.heap.size w0 w42));replace HK:=Aside0.mk (KeepBut.trans (by exact zk6 HK) (KeepBut.of_grown hg g) (Kd.R_base2 HO_5.out));replace HO_5:=Aside0.mk (hp_);clear hg hw hp_))
        go_ret2
        exact⟨_,zer,zdr HO_5,by exact zk5 HI0,by exact zk2 HB (IsS82.ge HI0.out),by exact zk6 HK⟩
       ·replace c31:=Bool.eq_false_iff.mpr c31
        subst c31
        have H1:(some (x4_3,x5_2,t549,t550))=some (r1,r2,r3,r4):=by rw [if_neg (show ¬ (false=true) by decide)] at H;exact H
        clear H
        have H:=H1
        clear H1
        simp only [Option.some.injEq,Prod.mk.injEq] at H
        obtain⟨rfl,rfl,rfl,rfl⟩:=H
        obtain⟨Ao43,co43,eo43⟩:=Kd.R_slice HO_5.out
        subst eo43
        go_wp2_with (first|(go_at_call 62;(with_reducible refine(spec_l1Cur_one.calls g s0_0 x1001_2 x1002_2 30 false t549 t550 w0 _ ?side1 ?side2 A30.out).mono ?_);(case side1=>exact zk5 HI0);(case side2=>exact zk2 HB (IsS82.ge HI0.out));rintro e w44 ⟨rfl,hi,hb,hk⟩;replace HO_5:=Aside0.mk (Kd.R_mono (Kd.R_keep (IsS82.apart (show IsS82 w0 _ g s0_0 x1001_2 x1002_2 from by exact zk5 HI0) (zq4 HO_5) (by decide)) hk (fun _ h=>h.2)) (fun _ h=>h.1));replace HK:=Aside0.mk (KeepBut.trans (by exact zk6 HK) hk (.inl rfl));replace HB:=Aside0.mk (hb);replace HI0:=Aside0.mk (hi);(try clear hb);(try clear hb2);(try clear hk);(try clear hi)))
        go_ret2
        exact⟨_,zer,zdr HO_5,by exact zk5 HI0,by exact zk2 HB (IsS82.ge HI0.out),by exact zk6 HK⟩
      ·rw [if_neg c29] at H
       have c29b0:decide (0< (x5_2.length:Int))=false:=decide_eq_false c29
       have c29b1:decide (0<x5_2.length)=false:=decide_eq_false (by omega)
       clear c29
       simp only [Option.some.injEq,Prod.mk.injEq] at H
       obtain⟨rfl,rfl,rfl,rfl⟩:=H
       obtain⟨Ao45,co45,eo45⟩:=Kd.R_slice HO_5.out
       subst eo45
       go_wp2
       go_ret2
       exact⟨_,zer,zdr HO_5,by exact zk5 HI0,by exact zk2 HB (IsS82.ge HI0.out),by exact zk6 HK⟩
def laws_sameInts.l0:Nat→List Int→List Int→Int→Int→Option (Bool)
 | 0,_,_,_,_=>none
 |k+1,x0,x1,x12,x13=>if x13<x12 then(if 0≤x13 then(if x13< (x0.length:Int) then(if x13< (x1.length:Int) then(if (rd x0 x13)= (rd x1 x13) then(laws_sameInts.l0 k x0 x1 x12 (wrap64 (x13+1))) else(some false)) else(none)) else(none)) else(none)) else(some true)
def laws_sameInts.f (k:Nat) (l0:List Int) (l1:List Int):Option (Bool):=if (l0.length:Int)= (l1.length:Int) then(laws_sameInts.l0 k l0 l1 (l0.length:Int) 0) else(some false)
set_option maxHeartbeats 8000000 in
set_option maxRecDepth 100000 in
theorem laws_sameInts.calls (k:Nat) (A0:Option Addr) (c0:Nat) (l0:List Int) (A1:Option Addr) (c1:Nat) (l1:List Int) (r:Bool) (w:World) (hr0:Kd.C (Kd.int .i64) w A0 l0.length l0) (hc0:l0.length≤c0) (hr1:Kd.C (Kd.int .i64) w A1 l1.length l1) (hc1:l1.length≤c1) (h:laws_sameInts.f k l0 l1=some r):
  Calls Try.prog 33 #[.slice A0 l0.length c0,.slice A1 l1.length c1] w fun e w'=>e= .returned (.bool r)∧Drawn0 w w':=by
 have HR0:=Aside0.mk hr0
 have HC0:=Aside0.mk hc0
 clear hr0 hc0
 have HR1:=Aside0.mk hr1
 have HC1:=Aside0.mk hc1
 clear hr1 hc1
 have H:(if (l0.length:Int)= (l1.length:Int) then(laws_sameInts.l0 k l0 l1 (l0.length:Int) 0) else(some false))=some r:=h
 clear h
 by_cases c3:(l0.length:Int)= (l1.length:Int)
 ·rw [if_pos c3] at H
  have c3b0:((l0.length:Int)== (l1.length:Int))=true:=beq_iff_eq.mpr c3
  have c3b1:((l0.length:Int) != (l1.length:Int))=false:=bne_eq_false_iff_eq.mpr c3
  have c3b2:(l0.length==l1.length)=true:=by first|simpa using c3|(simp at c3 ⊢;omega)
  clear c3
  have H':=Aside0.mk H
  clear H
  go_enter Try.func33,Try.ntmps33
  go_wp2
  repeat(go_quiet (fail);try go_wp2)
  go_loopg [13] k (fun kq v13 w'=> ∃ (x13_1:Int),v13= .int .i64 x13_1∧Aside0 (laws_sameInts.l0 kq l0 l1 (l0.length:Int) x13_1=some r)∧Aside0 (kq≤k)∧Drawn0 w w')
  case atStart=>exact⟨(0),zrs,H',⟨Nat.le_refl _⟩,by repeat(first|exact Drawn0.refl _|apply Drawn0.step)⟩
  case round=>
   clear H'
   try clear c1
   try clear p2
   try clear c3
   try clear c3b0
   try clear c3b1
   try clear c3b2
   obtain⟨x13_1,rfl,HA,HK1,⟨m1,rfl⟩⟩:=hrel
   cases gk with
   |zero=>exact absurd HA.out (by simp [laws_sameInts.l0])
   |succ k1=>
    have H:=HA.out
    clear HA
    simp only [laws_sameInts.l0] at H
    by_cases c4:x13_1< (l0.length:Int)
    ·rw [if_pos c4] at H
     have c4b0:decide (x13_1< (l0.length:Int))=true:=decide_eq_true c4
     clear c4
     by_cases c5: 0≤x13_1
     case neg=>exact znn c5 H
     rw [if_pos c5] at H
     have c5b0:decide (0≤x13_1)=true:=decide_eq_true c5
     clear c5
     by_cases c6:x13_1< (l0.length:Int)
     case neg=>exact znn c6 H
     rw [if_pos c6] at H
     have c6b0:decide (x13_1< (l0.length:Int))=true:=decide_eq_true c6
     clear c6
     by_cases c7:x13_1< (l1.length:Int)
     case neg=>exact znn c7 H
     rw [if_pos c7] at H
     have c7b0:decide (x13_1< (l1.length:Int))=true:=decide_eq_true c7
     clear c7
     by_cases c8:(rd l0 x13_1)= (rd l1 x13_1)
     ·rw [if_pos c8] at H
      have c8b0:((rd l0 x13_1)== (rd l1 x13_1))=true:=beq_iff_eq.mpr c8
      have c8b1:((rd l0 x13_1) != (rd l1 x13_1))=false:=bne_eq_false_iff_eq.mpr c8
      clear c8
      have H':=Aside0.mk H
      clear H
      have p569: 0≤ (x13_1:Int):=of_decide_eq_true zq1
      have q569:x13_1< (l0.length:Int):=of_decide_eq_true zq1
      obtain⟨ad569,e569,hx569_0⟩:=Kd.at_int HR0.out x13_1 p569 q569
      cases e569
      replace p569:=eq_true p569
      replace q569:=eq_true q569
      have p570: 0≤ (x13_1:Int):=of_decide_eq_true zq1
      have q570:x13_1< (l1.length:Int):=of_decide_eq_true zq1
      obtain⟨ad570,e570,hx570_0⟩:=Kd.at_int HR1.out x13_1 p570 q570
      cases e570
      replace p570:=eq_true p570
      replace q570:=eq_true q570
      go_wp2
      repeat(go_quiet (fail);try go_wp2)
      go_roundg k1
      case measure=>have:=HK1.out;omega
      case rel=>exact⟨(wrap64 (x13_1+1)),zrs,H',⟨by have:=HK1.out;omega⟩,by repeat(first|exact Drawn0.refl _|apply Drawn0.step)⟩
     ·rw [if_neg c8] at H
      have c8b0:((rd l0 x13_1)== (rd l1 x13_1))=false:=beq_eq_false_iff_ne.mpr c8
      have c8b1:((rd l0 x13_1) != (rd l1 x13_1))=true:=bne_iff_ne.mpr c8
      obtain rfl:=Option.some.inj H
      have p569: 0≤ (x13_1:Int):=of_decide_eq_true zq1
      have q569:x13_1< (l0.length:Int):=of_decide_eq_true zq1
      obtain⟨ad569,e569,hx569_0⟩:=Kd.at_int HR0.out x13_1 p569 q569
      cases e569
      replace p569:=eq_true p569
      replace q569:=eq_true q569
      have p570: 0≤ (x13_1:Int):=of_decide_eq_true zq1
      have q570:x13_1< (l1.length:Int):=of_decide_eq_true zq1
      obtain⟨ad570,e570,hx570_0⟩:=Kd.at_int HR1.out x13_1 p570 q570
      cases e570
      replace p570:=eq_true p570
      replace q570:=eq_true q570
      go_wp2
      repeat(go_quiet (fail);try go_wp2)
      go_ret
      exact⟨by first|rfl|(simp;done)|(simp [*];done),by repeat(first|exact Drawn0.refl _|apply Drawn0.step)⟩
    ·rw [if_neg c4] at H
     have c4b0:decide (x13_1< (l0.length:Int))=false:=decide_eq_false c4
     clear c4
     obtain rfl:=Option.some.inj H
     go_wp2
     repeat(go_quiet (fail);try go_wp2)
     go_ret
     exact⟨by first|rfl|(simp;done)|(simp [*];done),by repeat(first|exact Drawn0.refl _|apply Drawn0.step)⟩
 ·rw [if_neg c3] at H
  have c3b0:((l0.length:Int)== (l1.length:Int))=false:=beq_eq_false_iff_ne.mpr c3
  have c3b1:((l0.length:Int) != (l1.length:Int))=true:=bne_iff_ne.mpr c3
  have c3b2:(l0.length==l1.length)=false:=by first|simpa using c3|(simp at c3 ⊢;omega)
  obtain rfl:=Option.some.inj H
  go_enter Try.func33,Try.ntmps33
  go_wp2
  repeat(go_quiet (fail);try go_wp2)
  go_ret
  exact⟨by first|rfl|(simp;done)|(simp [*];done),by repeat(first|exact Drawn0.refl _|apply Drawn0.step)⟩
theorem eqA52 (d:Nat) (w:World) (x0 y0:Int) (x1 y1:Int) (x2 y2:Int):
  (Op.equalIn (d+2) 52 (.agg #[.int .i64 x0,.int .i64 x1,.int .i64 x2]) (.agg #[.int .i64 y0,.int .i64 y1,.int .i64 y2])).run Try.prog w= .ok (x0==y0 && (x1==y1 && (x2==y2))) w:=by
 refine eqA_of Try.underlying52 (by kernel_rfl) ?_
 refine eqf_cons (by rfl) (by go_simp;rfl) (by go_simp;rfl) (by go_simp) ?_
 refine eqf_cons (by rfl) (by go_simp;rfl) (by go_simp;rfl) (by go_simp) ?_
 exact eqf_last (by rfl) (by go_simp;rfl) (by go_simp;rfl) (by go_simp)
attribute [local go_sem high] eqA52
mutual
def spec_DrawBothWays.l0:Nat→Int→List (S57)→Int→List Int→Int→Int→Option (Int × (List (S57)))
 | 0,_,_,_,_,_,_=>none
 |k+1,x5,x6,x7,x637000,x637001,x637002=>if x7<x5 then(spec_DrawBothWays.l1 k x5 x6 x7 0 x637000 x637001 x637002) else(if (x6.length:Int) > 0 then((spec_l1Cur_one.f x637000 x637001 x637002 20).bind fun bt649=>(spec_DrawBothWays.j2 k x5 x6 bt649.1 x637000 bt649.2.1 bt649.2.2)) else(spec_DrawBothWays.j2 k x5 x6 false x637000 x637001 x637002))
def spec_DrawBothWays.l1:Nat→Int→List (S57)→Int→Int→List Int→Int→Int→Option (Int × (List (S57)))
 | 0,_,_,_,_,_,_,_=>none
 |k+1,x5,x6,x7,x8,x637000,x637001,x637002=>if x8<x5 then(if x7=x8 then(spec_DrawBothWays.l1 k x5 x6 x7 (wrap64 (x8+1)) x637000 x637001 x637002) else((spec_l1Cur_one.f x637000 x637001 x637002 3).bind fun bt640=>(if bt640.1=true then(spec_DrawBothWays.l1 k x5 x6 x7 (wrap64 (x8+1)) x637000 bt640.2.1 bt640.2.2) else((spec_l1Cur_pick.f x637000 bt640.2.1 bt640.2.2 9).bind fun bt643=>(if x6.length< 5864062014805 then(spec_DrawBothWays.l1 k x5 (x6++ [(⟨x7,x8,wrap64 (1+bt643.1)⟩ :S57)]) x7 (wrap64 (x8+1)) x637000 bt643.2.1 bt643.2.2) else(none)))))) else(spec_DrawBothWays.l0 k x5 x6 (wrap64 (x7+1)) x637000 x637001 x637002)
def spec_DrawBothWays.j2:Nat→Int→List (S57)→Bool→List Int→Int→Int→Option (Int × (List (S57)))
 | 0,_,_,_,_,_,_=>none
 |k+1,x5,x6,x48,x637000,x637001,x637002=>if x48=true then((spec_l1Cur_pick.f x637000 x637001 x637002 3).bind fun bt652=>((spec_l1Cur_pick.f x637000 bt652.2.1 bt652.2.2 3).bind fun bt655=>((spec_l1Cur_among.f x637000 bt655.2.1 bt655.2.2 (([0,100,101] :List Int))).bind fun bt661=>(if 0< (x6.length:Int) then(some (x5,(x6.set (0:Int).toNat (⟨bt652.1,bt655.1,bt661.1⟩ :S57)))) else(none))))) else(some (x5,x6))
end
def spec_DrawBothWays.f (k:Nat) (l0:List Int):Option (Int × (List (S57))):=(spec_l1Cur_pick.f l0 0 0 6).bind fun bt637=>(spec_DrawBothWays.l0 k (wrap64 (1+bt637.1)) ([] :List (S57)) 0 l0 bt637.2.1 bt637.2.2)
set_option maxHeartbeats 8000000 in
set_option maxRecDepth 100000 in
theorem spec_DrawBothWays.calls (k:Nat) (A0:Option Addr) (c0:Nat) (l0:List Int) (r1:Int) (r2:List (S57)) (w:World) (hr0:Kd.C (Kd.int .u8) w A0 l0.length l0) (hc0:l0.length≤c0) (h:spec_DrawBothWays.f k l0=some (r1,r2)):
  Calls Try.prog 36 #[.slice A0 l0.length c0] w fun e w'=> ∃ v1_:Value,e= .returned (.tuple #[.int .i64 r1,v1_])∧Kd.R k57 57 w' w.heap.size (fun _=>True) v1_ r2∧Below w.heap.size w w':=by
 have hu82:=Try.underlying82
 have hu57:=Try.underlying57
 have HR0:=Aside0.mk hr0
 have HC0:=Aside0.mk hc0
 clear hr0 hc0
 have HB:=Aside0.mk (Below.refl w.heap.size w)
 have H:((spec_l1Cur_pick.f l0 0 0 6).bind fun bt637=>(spec_DrawBothWays.l0 k (wrap64 (1+bt637.1)) ([] :List (S57)) 0 l0 bt637.2.1 bt637.2.2))=some (r1,r2):=h
 clear h
 replace H:=Option.bind_eq_some_iff.mp H
 obtain⟨⟨t637,t638,t639⟩,A20,H⟩:=H
 replace H:(spec_DrawBothWays.l0 k (wrap64 (1+t637)) ([] :List (S57)) 0 l0 t638 t639)=some (r1,r2):=H
 have A2:=Aside0.mk A20
 clear A20
 have H':=Aside0.mk H
 clear H
 go_enter Try.func36,Try.ntmps36
 go_wp2_with (first|((with_reducible refine gate_dst (N:=11) rfl ?_);refine box_event ?hg (N:=11) ?hd (cs:= #[.slice A0 l0.length c0,.int .i64 0,.int .u64 0]) (t:=82) ?hr ?_;(case hd=>rfl);(case hg=>rfl);(case hr=>first|(go_simp;done)|(go_simp;rfl));intro gb636 hg w3 hbox hb;have GW636:=Aside0.mk ((by rw [hg];exact(below_size (by exact zk1 HB)):w.heap.size≤gb636));have GE636:=GW636;have HI636:=Aside0.mk ((show IsS82 w _ gb636 l0 0 0 from ⟨_,_,hbox,(by rw [hg];exact(below_size (by exact zk1 HB)):w.heap.size≤gb636),HR0.out⟩));replace HB:=Aside0.mk (below_step (by exact zk1 HB) hb);clear hb hbox hg)|((with_reducible refine gate_callee (f:=61) rfl ?_);refine goesL_ (some 13) rfl rfl Try.func61 (by kernel_rfl) rfl #[.pointer (some ⟨gb636,0,none⟩),.int .i64 6] rfl zq2 ?_;(with_reducible refine(spec_l1Cur_pick.calls gb636 l0 0 0 6 t637 t638 t639 w _ ?side1 ?side2 A2.out).mono ?_);(case side1=>exact zk5 HI636);(case side2=>exact zk2 HB (IsS82.ge HI636.out));rintro e w4 ⟨rfl,hi,hb,hk⟩;refine⟨_,rfl,?_⟩;replace HB:=Aside0.mk (hb);replace HI636:=Aside0.mk (hi);(try clear hb);(try clear hb2);(try clear hk);(try clear hi)))
 go_loopg [6,7] k (fun kq v6 v7 w'=> ∃ (x6_1:List (S57)) (x7_1:Int) (x637001_1:Int) (x637002_1:Int),v7= .int .i64 x7_1∧Aside0 (spec_DrawBothWays.l0 kq (wrap64 (1+t637)) x6_1 x7_1 l0 x637001_1 x637002_1=some (r1,r2))∧Aside0 (kq≤k)∧Aside0 (Kd.R k57 57 w' w.heap.size (fun _=>True) v6 x6_1)∧Aside0 (IsS82 w w' gb636 l0 x637001_1 x637002_1)∧Aside0 (Below w.heap.size w w'))
 case atStart=>exact⟨(([] :List (S57))),(0),(t638),(t639),zrs,H',⟨Nat.le_refl _⟩,⟨by first|exact Kd.R_nil _ _ _ _ _|exact Kd.N_nil _ _ _ _ _|exact Kd.V_nil _ _ _ _ _|exact Kd.Q_nil _ _ _ _ _|exact Kd.S_nil _ _ _ _ _⟩,⟨by exact zk5 HI636⟩,⟨by exact zk2 HB (IsS82.ge HI636.out)⟩⟩
 case round=>
  clear H'
  try clear p2
  try clear c3
  obtain⟨x6_1,x7_1,x637001_1,x637002_1,rfl,HA,HK1,HO_6,HI636,HB⟩:=hrel
  cases gk with
  |zero=>exact absurd HA.out (by simp [spec_DrawBothWays.l0])
  |succ k1=>
   have H:=HA.out
   clear HA
   simp only [spec_DrawBothWays.l0] at H
   by_cases c5:x7_1< (wrap64 (1+t637))
   ·rw [if_pos c5] at H
    have c5b0:decide (x7_1< (wrap64 (1+t637)))=true:=decide_eq_true c5
    clear c5
    have H':=Aside0.mk H
    clear H
    go_wp2
    go_loopg [6,8] k1 (fun kq v6 v8 w'=> ∃ (x6_2:List (S57)) (x8_2:Int) (x637001_2:Int) (x637002_2:Int),v8= .int .i64 x8_2∧Aside0 (spec_DrawBothWays.l1 kq (wrap64 (1+t637)) x6_2 x7_1 x8_2 l0 x637001_2 x637002_2=some (r1,r2))∧Aside0 (kq≤k1)∧Aside0 (Kd.R k57 57 w' w.heap.size (fun _=>True) v6 x6_2)∧Aside0 (IsS82 w w' gb636 l0 x637001_2 x637002_2)∧Aside0 (Below w.heap.size w w'))
    case atStart=>exact⟨(x6_1),(0),(x637001_1),(x637002_1),zrs,H',⟨Nat.le_refl _⟩,⟨zdr HO_6⟩,⟨by exact zk5 HI636⟩,⟨by exact zk2 HB (IsS82.ge HI636.out)⟩⟩
    case round=>
     clear H'
     try clear p2
     try clear c3
     try clear c5
     try clear c5b0
     try clear p2
     obtain⟨x6_2,x8_2,x637001_2,x637002_2,rfl,HA,HK2,HO_6,HI636,HB⟩:=hrel
     cases gk with
     |zero=>exact absurd HA.out (by simp [spec_DrawBothWays.l1])
     |succ k2=>
      have H:=HA.out
      clear HA
      simp only [spec_DrawBothWays.l1] at H
      by_cases c6:x8_2< (wrap64 (1+t637))
      ·rw [if_pos c6] at H
       have c6b0:decide (x8_2< (wrap64 (1+t637)))=true:=decide_eq_true c6
       clear c6
       by_cases c7:x7_1=x8_2
       ·rw [if_pos c7] at H
        have c7b0:(x7_1==x8_2)=true:=beq_iff_eq.mpr c7
        have c7b1:(x7_1 !=x8_2)=false:=bne_eq_false_iff_eq.mpr c7
        clear c7
        have H':=Aside0.mk H
        clear H
        go_wp2
        go_roundg k2
        case measure=>have:=HK1.out;have:=HK2.out;omega
        case rel=>exact⟨(x6_2),(wrap64 (x8_2+1)),(x637001_2),(x637002_2),zrs,H',⟨by have:=HK1.out;have:=HK2.out;omega⟩,⟨zdr HO_6⟩,⟨by exact zk5 HI636⟩,⟨by exact zk2 HB (IsS82.ge HI636.out)⟩⟩
       ·rw [if_neg c7] at H
        have c7b0:(x7_1==x8_2)=false:=beq_eq_false_iff_ne.mpr c7
        have c7b1:(x7_1 !=x8_2)=true:=bne_iff_ne.mpr c7
        replace H:=Option.bind_eq_some_iff.mp H
        obtain⟨⟨t640,t641,t642⟩,A80,H⟩:=H
        replace H:(if t640=true then(spec_DrawBothWays.l1 k2 (wrap64 (1+t637)) x6_2 x7_1 (wrap64 (x8_2+1)) l0 t641 t642) else((spec_l1Cur_pick.f l0 t641 t642 9).bind fun bt643=>(if x6_2.length< 5864062014805 then(spec_DrawBothWays.l1 k2 (wrap64 (1+t637)) (x6_2++ [(⟨x7_1,x8_2,wrap64 (1+bt643.1)⟩ :S57)]) x7_1 (wrap64 (x8_2+1)) l0 bt643.2.1 bt643.2.2) else(none))))=some (r1,r2):=H
        have A8:=Aside0.mk A80
        clear A80
        by_cases c9:t640=true
        ·subst c9
         have H1:(spec_DrawBothWays.l1 k2 (wrap64 (1+t637)) x6_2 x7_1 (wrap64 (x8_2+1)) l0 t641 t642)=some (r1,r2):=by rw [if_pos rfl] at H;exact H
         clear H
         have H:=H1
         clear H1
         have H':=Aside0.mk H
         clear H
         go_wp2_with (first|(go_at_call 62;(with_reducible refine(spec_l1Cur_one.calls gb636 l0 x637001_2 x637002_2 3 true t641 t642 w _ ?side1 ?side2 A8.out).mono ?_);(case side1=>exact zk5 HI636);(case side2=>exact zk2 HB (IsS82.ge HI636.out));rintro e w10 ⟨rfl,hi,hb,hk⟩;replace HO_6:=Aside0.mk (Kd.R_mono (Kd.R_keep (IsS82.apart (show IsS82 w _ gb636 l0 x637001_2 x637002_2 from by exact zk5 HI636) (zq4 HO_6) (by decide)) hk (fun _ h=>h.2)) (fun _ h=>h.1));replace HB:=Aside0.mk (hb);replace HI636:=Aside0.mk (hi);(try clear hb);(try clear hb2);(try clear hk);(try clear hi)))
         go_roundg k2
         case measure=>have:=HK1.out;have:=HK2.out;omega
         case rel=>exact⟨(x6_2),(wrap64 (x8_2+1)),(t641),(t642),zrs,H',⟨by have:=HK1.out;have:=HK2.out;omega⟩,⟨zdr HO_6⟩,⟨by exact zk5 HI636⟩,⟨by exact zk2 HB (IsS82.ge HI636.out)⟩⟩
        ·replace c9:=Bool.eq_false_iff.mpr c9
         subst c9
         have H1:((spec_l1Cur_pick.f l0 t641 t642 9).bind fun bt643=>(if x6_2.length< 5864062014805 then(spec_DrawBothWays.l1 k2 (wrap64 (1+t637)) (x6_2++ [(⟨x7_1,x8_2,wrap64 (1+bt643.1)⟩ :S57)]) x7_1 (wrap64 (x8_2+1)) l0 bt643.2.1 bt643.2.2) else(none)))=some (r1,r2):=by rw [if_neg (show ¬ (false=true) by decide)] at H;exact H
         clear H
         have H:=H1
         clear H1
         replace H:=Option.bind_eq_some_iff.mp H
         obtain⟨⟨t643,t644,t645⟩,A110,H⟩:=H
         replace H:(if x6_2.length< 5864062014805 then(spec_DrawBothWays.l1 k2 (wrap64 (1+t637)) (x6_2++ [(⟨x7_1,x8_2,wrap64 (1+t643)⟩ :S57)]) x7_1 (wrap64 (x8_2+1)) l0 t644 t645) else(none))=some (r1,r2):=H
         have A11:=Aside0.mk A110
         clear A110
         by_cases c12:x6_2.length< 5864062014805
         case neg=>exact znn c12 H
         rw [if_pos c12] at H
         have LMc12:=Aside0.mk c12
         clear c12
         obtain⟨y646,hy646⟩ :∃ y_:List (S57),y_= (x6_2++ [(⟨x7_1,x8_2,wrap64 (1+t643)⟩ :S57)]):=⟨_,rfl⟩
         replace H:(spec_DrawBothWays.l1 k2 (wrap64 (1+t637)) y646 x7_1 (wrap64 (x8_2+1)) l0 t644 t645)=some (r1,r2):=zfh hy646 H
         have Ny646:=Aside0.mk hy646
         clear hy646
         have H':=Aside0.mk H
         clear H
         go_wp2_with (first|(go_at_call 62;(with_reducible refine(spec_l1Cur_one.calls gb636 l0 x637001_2 x637002_2 3 false t641 t642 w _ ?side1 ?side2 A8.out).mono ?_);(case side1=>exact zk5 HI636);(case side2=>exact zk2 HB (IsS82.ge HI636.out));rintro e w13 ⟨rfl,hi,hb,hk⟩;replace HO_6:=Aside0.mk (Kd.R_mono (Kd.R_keep (IsS82.apart (show IsS82 w _ gb636 l0 x637001_2 x637002_2 from by exact zk5 HI636) (zq4 HO_6) (by decide)) hk (fun _ h=>h.2)) (fun _ h=>h.1));replace HB:=Aside0.mk (hb);replace HI636:=Aside0.mk (hi);(try clear hb);(try clear hb2);(try clear hk);(try clear hi))|((with_reducible refine gate_callee (f:=61) rfl ?_);refine goesL_ (some 37) rfl rfl Try.func61 (by kernel_rfl) rfl #[.pointer (some ⟨gb636,0,none⟩),.int .i64 9] rfl zq2 ?_;(with_reducible refine(spec_l1Cur_pick.calls gb636 l0 t641 t642 9 t643 t644 t645 w _ ?side1 ?side2 A11.out).mono ?_);(case side1=>exact zk5 HI636);(case side2=>exact zk2 HB (IsS82.ge HI636.out));rintro e w14 ⟨rfl,hi,hb,hk⟩;refine⟨_,rfl,?_⟩;replace HO_6:=Aside0.mk (Kd.R_mono (Kd.R_keep (IsS82.apart (show IsS82 w _ gb636 l0 t641 t642 from by exact zk5 HI636) (zq4 HO_6) (by decide)) hk (fun _ h=>h.2)) (fun _ h=>h.1));replace HB:=Aside0.mk (hb);replace HI636:=Aside0.mk (hi);(try clear hb);(try clear hb2);(try clear hk);(try clear hi))|((with_reducible refine gate_builtin (b:= .append) (xs:= #[.tmp 33,.tmp 40]) rfl ?_);at_builtin;refine Kd.R_append k57 (w0:=w) w.heap.size rfl (.tmp 33) (.tmp 40) 40 57 (.agg #[(.int .i64 0),(.int .i64 0),(.int .i64 0)]) 24 rfl Try.underlying40 info57 rfl (by decide) (by omega) u6 x6_2 (⟨x7_1,x8_2,wrap64 (1+t643)⟩ :S57) [.int .i64 x7_1,.int .i64 x8_2,.int .i64 (wrap64 (1+t643))] (fun _=>True) (fun _=>False) rfl rfl ?aP (fun _ hk=>hk.elim) ?aF ?aO ?aB ?aS ?aL ?_;(case aP=>exact k57_mkM _ _ _ (⟨x7_1,x8_2,wrap64 (1+t643)⟩ :S57));(case aB=>exact(by exact zk2 HB (IsS82.ge HI636.out)));(case aF=>exact(fun _ _=>trivial));(case aO=>exact(zq4 HO_6));(case aS=>exact(below_size (by exact zk2 HB (IsS82.ge HI636.out))));(case aL=>have:=LMc12.out;omega);intro v647 w15 ho hb hg hat;rw [← Ny646.out] at ho;have HO648:=Aside0.mk (ho);replace HI636:=Aside0.mk (IsS82.grown (by exact zk5 HI636) hg (IsS82.own_ne HI636.out HO_6.out (by decide)));replace HB:=Aside0.mk (hb);clear HO_6;clear ho hb hg hat))
         go_roundg k2
         case measure=>have:=HK1.out;have:=HK2.out;omega
         case rel=>exact⟨(y646),(wrap64 (x8_2+1)),(t644),(t645),zrs,H',⟨by have:=HK1.out;have:=HK2.out;omega⟩,⟨zdr HO648⟩,⟨by exact zk5 HI636⟩,⟨by exact zk2 HB (IsS82.ge HI636.out)⟩⟩
      ·rw [if_neg c6] at H
       have c6b0:decide (x8_2< (wrap64 (1+t637)))=false:=decide_eq_false c6
       clear c6
       have H':=Aside0.mk H
       clear H
       go_wp2
       go_roundg k2
       case measure=>have:=HK1.out;have:=HK2.out;omega
       case rel=>exact⟨(x6_2),(wrap64 (x7_1+1)),(x637001_2),(x637002_2),zrs,H',⟨by have:=HK1.out;have:=HK2.out;omega⟩,⟨zdr HO_6⟩,⟨by exact zk5 HI636⟩,⟨by exact zk2 HB (IsS82.ge HI636.out)⟩⟩
   ·rw [if_neg c5] at H
    have c5b0:decide (x7_1< (wrap64 (1+t637)))=false:=decide_eq_false c5
    clear c5
    have HC16:=Aside0.mk H
    clear H
    go_upto_region 12 with (fail)
    go_cut [48] (fun v48 wc=> ∃ (kq:Nat) (x48_15:Bool) (x637001_15:Int) (x637002_15:Int),v48= .bool x48_15∧Aside0 (spec_DrawBothWays.j2 kq (wrap64 (1+t637)) x6_1 x48_15 l0 x637001_15 x637002_15=some (r1,r2))∧Aside0 (kq≤k1)∧Aside0 (Kd.R k57 57 wc w.heap.size (fun _=>True) u6 x6_1)∧Aside0 (IsS82 w wc gb636 l0 x637001_15 x637002_15)∧Aside0 (Below w.heap.size w wc))
    case first=>
     have H:=HC16.out
     clear HC16
     by_cases c17:(x6_1.length:Int) > 0
     ·rw [if_pos c17] at H
      have c17b0:decide (0< (x6_1.length:Int))=true:=decide_eq_true c17
      have c17b1:decide (0<x6_1.length)=true:=decide_eq_true (by omega)
      clear c17
      (first|rw [c17b0]|(simp only [i64_w,i32_w];rw [c17b0])|skip)
      replace H:=Option.bind_eq_some_iff.mp H
      obtain⟨⟨t649,t650,t651⟩,A180,H⟩:=H
      replace H:(spec_DrawBothWays.j2 k1 (wrap64 (1+t637)) x6_1 t649 l0 t650 t651)=some (r1,r2):=H
      have A18:=Aside0.mk A180
      clear A180
      have H':=Aside0.mk H
      clear H
      obtain⟨Ao19,co19,eo19⟩:=Kd.R_slice HO_6.out
      subst eo19
      go_wp2_with (first|(go_at_call 62;(with_reducible refine(spec_l1Cur_one.calls gb636 l0 x637001_1 x637002_1 20 t649 t650 t651 w _ ?side1 ?side2 A18.out).mono ?_);(case side1=>exact zk5 HI636);(case side2=>exact zk2 HB (IsS82.ge HI636.out));rintro e w20 ⟨rfl,hi,hb,hk⟩;replace HO_6:=Aside0.mk (Kd.R_mono (Kd.R_keep (IsS82.apart (show IsS82 w _ gb636 l0 x637001_1 x637002_1 from by exact zk5 HI636) (zq4 HO_6) (by decide)) hk (fun _ h=>h.2)) (fun _ h=>h.1));replace HB:=Aside0.mk (hb);replace HI636:=Aside0.mk (hi);(try clear hb);(try clear hb2);(try clear hk);(try clear hi)))
      go_meet
      case rel=>exact⟨_,(t649),(t650),(t651),zrs,H',⟨by have:=HK1.out;first|omega|exact Nat.le_refl _⟩,⟨zdr HO_6⟩,⟨by exact zk5 HI636⟩,⟨by exact zk2 HB (IsS82.ge HI636.out)⟩⟩
     ·rw [if_neg c17] at H
      have c17b0:decide (0< (x6_1.length:Int))=false:=decide_eq_false c17
      have c17b1:decide (0<x6_1.length)=false:=decide_eq_false (by omega)
      clear c17
      (first|rw [c17b0]|(simp only [i64_w,i32_w];rw [c17b0])|skip)
      have H':=Aside0.mk H
      clear H
      obtain⟨Ao21,co21,eo21⟩:=Kd.R_slice HO_6.out
      subst eo21
      go_wp2
      go_meet
      case rel=>exact⟨_,(false),(x637001_1),(x637002_1),zrs,H',⟨by have:=HK1.out;first|omega|exact Nat.le_refl _⟩,⟨zdr HO_6⟩,⟨by exact zk5 HI636⟩,⟨by exact zk2 HB (IsS82.ge HI636.out)⟩⟩
    case rest=>
     clear HC16
     try clear c1
     try clear p2
     try clear c3
     try clear c5
     try clear c5b0
     try clear c6
     try clear c6b0
     try clear p6
     try clear c7
     try clear c7b0
     try clear c7b1
     try clear c9
     try clear c12
     try clear c17
     try clear c17b0
     try clear c17b1
     try clear p2
     obtain⟨kq,x48_15,x637001_15,x637002_15,rfl,HA,HJ15,HO_6,HI636,HB⟩:=hcut
     cases kq with
     |zero=>exact absurd HA.out (by simp [spec_DrawBothWays.j2])
     |succ kj15=>
      have H:=HA.out
      clear HA
      simp only [spec_DrawBothWays.j2] at H
      by_cases c22:x48_15=true
      ·subst c22
       have H1:((spec_l1Cur_pick.f l0 x637001_15 x637002_15 3).bind fun bt652=>((spec_l1Cur_pick.f l0 bt652.2.1 bt652.2.2 3).bind fun bt655=>((spec_l1Cur_among.f l0 bt655.2.1 bt655.2.2 (([0,100,101] :List Int))).bind fun bt661=>(if 0< (x6_1.length:Int) then(some ((wrap64 (1+t637)),(x6_1.set (0:Int).toNat (⟨bt652.1,bt655.1,bt661.1⟩ :S57)))) else(none)))))=some (r1,r2):=by rw [if_pos rfl] at H;exact H
       clear H
       have H:=H1
       clear H1
       replace H:=Option.bind_eq_some_iff.mp H
       obtain⟨⟨t652,t653,t654⟩,A230,H⟩:=H
       replace H:((spec_l1Cur_pick.f l0 t653 t654 3).bind fun bt655=>((spec_l1Cur_among.f l0 bt655.2.1 bt655.2.2 (([0,100,101] :List Int))).bind fun bt661=>(if 0< (x6_1.length:Int) then(some ((wrap64 (1+t637)),(x6_1.set (0:Int).toNat (⟨t652,bt655.1,bt661.1⟩ :S57)))) else(none))))=some (r1,r2):=H
       have A23:=Aside0.mk A230
       clear A230
       replace H:=Option.bind_eq_some_iff.mp H
       obtain⟨⟨t655,t656,t657⟩,A240,H⟩:=H
       replace H:((spec_l1Cur_among.f l0 t656 t657 (([0,100,101] :List Int))).bind fun bt661=>(if 0< (x6_1.length:Int) then(some ((wrap64 (1+t637)),(x6_1.set (0:Int).toNat (⟨t652,t655,bt661.1⟩ :S57)))) else(none)))=some (r1,r2):=H
       have A24:=Aside0.mk A240
       clear A240
       obtain⟨y658,hy658⟩ :∃ y_:List Int,y_= (([0,100,101] :List Int)):=⟨_,rfl⟩
       replace H:((spec_l1Cur_among.f l0 t656 t657 y658).bind fun bt661=>(if 0< (x6_1.length:Int) then(some ((wrap64 (1+t637)),(x6_1.set (0:Int).toNat (⟨t652,t655,bt661.1⟩ :S57)))) else(none)))=some (r1,r2):=zfh hy658 H
       have Ny658:=Aside0.mk hy658
       clear hy658
       replace H:=Option.bind_eq_some_iff.mp H
       obtain⟨⟨t661,t662,t663⟩,A250,H⟩:=H
       replace H:(if 0< (x6_1.length:Int) then(some ((wrap64 (1+t637)),(x6_1.set (0:Int).toNat (⟨t652,t655,t661⟩ :S57)))) else(none))=some (r1,r2):=H
       have A25:=Aside0.mk A250
       clear A250
       by_cases c26: 0< (x6_1.length:Int)
       case neg=>exact znn c26 H
       rw [if_pos c26] at H
       have c26b0:decide (0< (x6_1.length:Int))=true:=decide_eq_true c26
       have c26b1:decide (0<x6_1.length)=true:=decide_eq_true (by omega)
       clear c26
       obtain⟨y664,hy664⟩ :∃ y_:List (S57),y_= (x6_1.set (0:Int).toNat (⟨t652,t655,t661⟩ :S57)):=⟨_,rfl⟩
       replace H:(some ((wrap64 (1+t637)),y664))=some (r1,r2):=zfh hy664 H
       have Ny664:=Aside0.mk hy664
       clear hy664
       simp only [Option.some.injEq,Prod.mk.injEq] at H
       obtain⟨rfl,rfl⟩:=H
       go_wp2_with (first|((with_reducible refine gate_callee (f:=61) rfl ?_);refine goesL_ (some 51) rfl rfl Try.func61 (by kernel_rfl) rfl #[.pointer (some ⟨gb636,0,none⟩),.int .i64 3] rfl zq2 ?_;(with_reducible refine(spec_l1Cur_pick.calls gb636 l0 x637001_15 x637002_15 3 t652 t653 t654 w _ ?side1 ?side2 A23.out).mono ?_);(case side1=>exact zk5 HI636);(case side2=>exact zk2 HB (IsS82.ge HI636.out));rintro e w28 ⟨rfl,hi,hb,hk⟩;refine⟨_,rfl,?_⟩;replace HO_6:=Aside0.mk (Kd.R_mono (Kd.R_keep (IsS82.apart (show IsS82 w _ gb636 l0 x637001_15 x637002_15 from by exact zk5 HI636) (zq4 HO_6) (by decide)) hk (fun _ h=>h.2)) (fun _ h=>h.1));replace HB:=Aside0.mk (hb);replace HI636:=Aside0.mk (hi);(try clear hb);(try clear hb2);(try clear hk);(try clear hi))|((with_reducible refine gate_callee (f:=61) rfl ?_);refine goesL_ (some 53) rfl rfl Try.func61 (by kernel_rfl) rfl #[.pointer (some ⟨gb636,0,none⟩),.int .i64 3] rfl zq2 ?_;(with_reducible refine(spec_l1Cur_pick.calls gb636 l0 t653 t654 3 t655 t656 t657 w _ ?side1 ?side2 A24.out).mono ?_);(case side1=>exact zk5 HI636);(case side2=>exact zk2 HB (IsS82.ge HI636.out));rintro e w29 ⟨rfl,hi,hb,hk⟩;refine⟨_,rfl,?_⟩;replace HO_6:=Aside0.mk (Kd.R_mono (Kd.R_keep (IsS82.apart (show IsS82 w _ gb636 l0 t653 t654 from by exact zk5 HI636) (zq4 HO_6) (by decide)) hk (fun _ h=>h.2)) (fun _ h=>h.1));replace HB:=Aside0.mk (hb);replace HI636:=Aside0.mk (hi);(try clear hb);(try clear hb2);(try clear hk);(try clear hi))|((with_reducible refine gate_dst (N:=55) rfl ?_);refine Kd.R_lit (Kd.int .i64) _ 3 ?hg (N:=55) ?hd (xs:=([0,100,101] :List Int)) (inner:= [.int .i64 0,.int .i64 100,.int .i64 101]) (ok:=fun _=>True) (okp:=fun _=>True) ?hr ?hp (fun _ hk=>hk) trivial (Below.refl _ _) (Nat.le_refl _) (by simp) ?_;(case hd=>rfl);(case hg=>rfl);(case hr=>first|(go_simp;done)|(go_simp;rfl));(case hp=>exact(Reps.one (show Kd.M (Kd.int .i64) _ _ _ 0 [.int .i64 0] from rfl) (Reps.one (show Kd.M (Kd.int .i64) _ _ _ 100 [.int .i64 100] from rfl) (Reps.one (show Kd.M (Kd.int .i64) _ _ _ 101 [.int .i64 101] from rfl) (Reps.none _ _)))));intro v659 w30 ho31 hb hg_ hnew_;clear hg_ hnew_;(first|rw [← Ny658.out] at ho31|(simp only [Int.reduceToNat] at ho31;rw [← Ny658.out] at ho31));have HO660:=Aside0.mk (Kd.R_lower ho31 (below_size (by exact zk2 HB (IsS82.ge HI636.out))));replace HO_6:=Aside0.mk (Kd.R_below (zq4 HO_6) hb);replace HB:=Aside0.mk (below_step (by exact zk2 HB (IsS82.ge HI636.out)) hb);replace HI636:=Aside0.mk (IsS82.below (by exact zk5 HI636) hb);clear hb ho31;obtain⟨Ao32,co32,eo32⟩:=Kd.R_slice HO660.out;subst eo32)|((with_reducible refine gate_callee (f:=63) rfl ?_);refine goesL_ (some 56) rfl rfl Try.func63 (by kernel_rfl) rfl #[.pointer (some ⟨gb636,0,none⟩),.slice Ao32 y658.length co32] rfl zq2 ?_;(with_reducible refine(spec_l1Cur_among.calls gb636 l0 t656 t657 _ _ y658 t661 t662 t663 w _ ?side1 ?side2 ?side3 ?side4 ?side5 A25.out).mono ?_);(case side1=>exact zk5 HI636);(case side2=>exact zk2 HB (IsS82.ge HI636.out));(case side3=>exact zcc ((Kd.R_reads' HO660.out).2.2));(case side4=>exact(Kd.R_reads' HO660.out).2.1);(case side5=>exact far_slice (IsS82.own_ne HI636.out HO660.out (by decide)));rintro e w33 ⟨rfl,hi,hb,hk⟩;refine⟨_,rfl,?_⟩;replace HO_6:=Aside0.mk (Kd.R_mono (Kd.R_keep (IsS82.apart (show IsS82 w _ gb636 l0 t656 t657 from by exact zk5 HI636) (zq4 HO_6) (by decide)) hk (fun _ h=>h.2)) (fun _ h=>h.1));replace HO660:=Aside0.mk (Kd.R_mono (Kd.R_keep (IsS82.apart (show IsS82 w _ gb636 l0 t656 t657 from by exact zk5 HI636) (zq4 HO660) (by decide)) hk (fun _ h=>h.2)) (fun _ h=>h.1));replace HB:=Aside0.mk (hb);replace HI636:=Aside0.mk (hi);(try clear hb);(try clear hb2);(try clear hk);(try clear hi);have p27: 0≤ (0:Int):=(by omega);have q27:(0:Int)< ((x6_1.length:Int):Int):=of_decide_eq_true zq1;have qi27:(0<x6_1.length)=True:=eq_true (by omega);obtain⟨go27,co27,eo27,gb27,gl27,cl27,HG27⟩:=Kd.R_form HO_6.out (by omega);(first|cases eo27|(injection eo27 with ea_ en_ ec_;(first|subst ea_|(injection ea_ with ea_;subst ea_));subst ec_;clear en_));have GB27:=Aside0.mk gb27;have GG27:=Aside0.mk HG27;clear gb27 gl27 HG27;obtain⟨ce27,hcl27,hM27,hcc27,hfr27⟩:=Kd.R_elem HO_6.out z57 (0:Int) p27 q27;obtain rfl:=k57_openM hM27;have hx27_0:w33.cell? ⟨go27,(0:Int).toNat * 3,none⟩=some (.int .i64 ((rd_T57 x6_1 0).f0)):=hcc27 0 _ rfl;have hx27_1:w33.cell? ⟨go27,(0:Int).toNat * 3+1,none⟩=some (.int .i64 ((rd_T57 x6_1 0).f1)):=hcc27 1 _ rfl;have hx27_2:w33.cell? ⟨go27,(0:Int).toNat * 3+2,none⟩=some (.int .i64 ((rd_T57 x6_1 0).f2)):=hcc27 2 _ rfl;have hf27_0:w33.frozen? ⟨go27,(0:Int).toNat * 3,none⟩=false:=hfr27 0;have hf27_1:w33.frozen? ⟨go27,(0:Int).toNat * 3+1,none⟩=false:=hfr27 1;have hf27_2:w33.frozen? ⟨go27,(0:Int).toNat * 3+2,none⟩=false:=hfr27 2;clear hcl27 hcc27 hfr27 hM27;(try rw [show ((0:Int)).toNat=0 from rfl] at hx27_0);(try simp only [Nat.reduceMul,Nat.zero_mul,Nat.zero_add,Nat.reduceAdd] at hx27_0);(try rw [show ((0:Int)).toNat=0 from rfl] at hf27_0);(try simp only [Nat.reduceMul,Nat.zero_mul,Nat.zero_add,Nat.reduceAdd] at hf27_0);(try rw [show ((0:Int)).toNat=0 from rfl] at hx27_1);(try simp only [Nat.reduceMul,Nat.zero_mul,Nat.zero_add,Nat.reduceAdd] at hx27_1);(try rw [show ((0:Int)).toNat=0 from rfl] at hf27_1);(try simp only [Nat.reduceMul,Nat.zero_mul,Nat.zero_add,Nat.reduceAdd] at hf27_1);(try rw [show ((0:Int)).toNat=0 from rfl] at hx27_2);(try simp only [Nat.reduceMul,Nat.zero_mul,Nat.zero_add,Nat.reduceAdd] at hx27_2);(try rw [show ((0:Int)).toNat=0 from rfl] at hf27_2);(try simp only [Nat.reduceMul,Nat.zero_mul,Nat.zero_add,Nat.reduceAdd] at hf27_2);replace p27:=eq_true p27;replace q27:=eq_true q27;have HX34:=Aside0.mk (show Kd.R k57 57 w33 w.heap.size (fun _=>True) (.slice (some ⟨go27,0,none⟩) x6_1.length co27) x6_1 from (zq4 HO_6));obtain⟨ce34,hcl34,hM34,hcc34,hfr34⟩:=Kd.R_elem HX34.out z57 (0:Int) (by omega) (by have h_:(0:Int)< ((x6_1.length:Int):Int):=of_decide_eq_true zq1;first|exact h_|(have e_:=(Kd.R_reads' HO_6.out).1;omega)|simpa using h_);obtain rfl:=k57_openM hM34;have HP34:=Kd.R_seg HX34.out (0:Int) (by omega) (by have h_:(0:Int)< ((x6_1.length:Int):Int):=of_decide_eq_true zq1;first|exact h_|(have e_:=(Kd.R_reads' HO_6.out).1;omega)|simpa using h_) (seg:= [.int .i64 t652,.int .i64 t655,.int .i64 t661]) (j:=0) hcl34 hcc34 (show 3≤3 from by decide) (x':=(⟨t652,t655,t661⟩ :S57)) (k57_mkM _ _ _ (⟨t652,t655,t661⟩ :S57) ) (fun _ hk=>hk);have hx34_0:=hcc34 0 _ rfl;(try simp only [show (k57).sz=3 from rfl,Nat.mul_one,Nat.add_zero] at hx34_0);(try rw [show ((0:Int)).toNat=0 from rfl] at hx34_0);(try simp only [Nat.reduceMul,Nat.zero_mul,Nat.zero_add,Nat.reduceAdd] at hx34_0);have hf34_0:=hfr34 0;(try simp only [show (k57).sz=3 from rfl,Nat.mul_one,Nat.add_zero] at hf34_0);(try rw [show ((0:Int)).toNat=0 from rfl] at hf34_0);(try simp only [Nat.reduceMul,Nat.zero_mul,Nat.zero_add,Nat.reduceAdd] at hf34_0);have hx34_1:=hcc34 1 _ rfl;(try simp only [show (k57).sz=3 from rfl,Nat.mul_one,Nat.add_zero] at hx34_1);(try rw [show ((0:Int)).toNat=0 from rfl] at hx34_1);(try simp only [Nat.reduceMul,Nat.zero_mul,Nat.zero_add,Nat.reduceAdd] at hx34_1);have hf34_1:=hfr34 1;(try simp only [show (k57).sz=3 from rfl,Nat.mul_one,Nat.add_zero] at hf34_1);(try rw [show ((0:Int)).toNat=0 from rfl] at hf34_1);(try simp only [Nat.reduceMul,Nat.zero_mul,Nat.zero_add,Nat.reduceAdd] at hf34_1);have hx34_2:=hcc34 2 _ rfl;(try simp only [show (k57).sz=3 from rfl,Nat.mul_one,Nat.add_zero] at hx34_2);(try rw [show ((0:Int)).toNat=0 from rfl] at hx34_2);(try simp only [Nat.reduceMul,Nat.zero_mul,Nat.zero_add,Nat.reduceAdd] at hx34_2);have hf34_2:=hfr34 2;(try simp only [show (k57).sz=3 from rfl,Nat.mul_one,Nat.add_zero] at hf34_2);(try rw [show ((0:Int)).toNat=0 from rfl] at hf34_2);(try simp only [Nat.reduceMul,Nat.zero_mul,Nat.zero_add,Nat.reduceAdd] at hf34_2);clear hcl34 hcc34 hfr34 hM34)|((with_reducible refine gate_store (t:=57) (p:=58) rfl ?_);refine store_event (t:=57) (p:=58) (v:=?vo_w35) (w1:=(((w33.setCell ⟨go27,0,none⟩ (.int .i64 t652)).setCell ⟨go27,1,none⟩ (.int .i64 t655)).setCell ⟨go27,2,none⟩ (.int .i64 t661))) ?hg ?ho ?hn ?hr ?_;(case ho=>rfl);(case hg=>rfl);(case hn=>rfl);(case hr=>first|(go_simp;done)|(go_simp;rfl));intro w35 hw;have hg:w33.grownBy w35 (some go27):=(by rw [hw];exact HP34.2);have hp_:Kd.R k57 57 w35 w.heap.size (fun _=>True) (.slice (some ⟨go27,0,none⟩) x6_1.length co27) y664:=(by rw [hw,Ny664.out];exact HP34.1);clear HP34;replace HI636:=Aside0.mk (IsS82.grown (by exact zk5 HI636) hg (IsS82.own_ne HI636.out HO_6.out (by decide)));replace HO660:=Aside0.mk (Kd.R_over' (v:=(.slice (some ⟨go27,0,none⟩) x6_1.length co27)) (zq4 HO660) (Kd.R_typed HO_6.out) (by decide) hg);replace HO_6:=Aside0.mk (hp_);replace HB:=Aside0.mk ((by rw [hw];exact below_set (below_set (below_set (HB.out) GB27.out) GB27.out) GB27.out:Below w.heap.size w w35));clear hg hw hp_))
       go_ret2
       exact⟨_,zer,zdr HO_6,by exact zk2 HB (IsS82.ge HI636.out)⟩
      ·replace c22:=Bool.eq_false_iff.mpr c22
       subst c22
       have H1:(some ((wrap64 (1+t637)),x6_1))=some (r1,r2):=by rw [if_neg (show ¬ (false=true) by decide)] at H;exact H
       clear H
       have H:=H1
       clear H1
       simp only [Option.some.injEq,Prod.mk.injEq] at H
       obtain⟨rfl,rfl⟩:=H
       go_wp2
       go_ret2
       exact⟨_,zer,zdr HO_6,by exact zk2 HB (IsS82.ge HI636.out)⟩
def laws_sameEdges.l0:Nat→List (S52)→List (S52)→Int→Int→Option (Bool)
 | 0,_,_,_,_=>none
 |k+1,x0,x1,x12,x13=>if x13<x12 then(if 0≤x13 then(if x13< (x0.length:Int) then(if x13< (x1.length:Int) then(if (!(((rd_T52 x0 x13).f0)== ((rd_T52 x1 x13).f0)) || (!(((rd_T52 x0 x13).f1)== ((rd_T52 x1 x13).f1)) || (!(((rd_T52 x0 x13).f2)== ((rd_T52 x1 x13).f2)))))=true then(some false) else(laws_sameEdges.l0 k x0 x1 x12 (wrap64 (x13+1)))) else(none)) else(none)) else(none)) else(some true)
def laws_sameEdges.f (k:Nat) (l0:List (S52)) (l1:List (S52)):Option (Bool):=if (l0.length:Int)= (l1.length:Int) then(laws_sameEdges.l0 k l0 l1 (l0.length:Int) 0) else(some false)
set_option maxHeartbeats 8000000 in
set_option maxRecDepth 100000 in
theorem laws_sameEdges.calls (k:Nat) (A0:Option Addr) (c0:Nat) (l0:List (S52)) (A1:Option Addr) (c1:Nat) (l1:List (S52)) (r:Bool) (w:World) (hr0:Kd.C k52 w A0 l0.length l0) (hc0:l0.length≤c0) (hr1:Kd.C k52 w A1 l1.length l1) (hc1:l1.length≤c1) (h:laws_sameEdges.f k l0 l1=some r):
  Calls Try.prog 37 #[.slice A0 l0.length c0,.slice A1 l1.length c1] w fun e w'=>e= .returned (.bool r)∧Drawn0 w w':=by
 have hu52:=Try.underlying52
 have HR0:=Aside0.mk hr0
 have HC0:=Aside0.mk hc0
 clear hr0 hc0
 have HR1:=Aside0.mk hr1
 have HC1:=Aside0.mk hc1
 clear hr1 hc1
 have H:(if (l0.length:Int)= (l1.length:Int) then(laws_sameEdges.l0 k l0 l1 (l0.length:Int) 0) else(some false))=some r:=h
 clear h
 by_cases c3:(l0.length:Int)= (l1.length:Int)
 ·rw [if_pos c3] at H
  have c3b0:((l0.length:Int)== (l1.length:Int))=true:=beq_iff_eq.mpr c3
  have c3b1:((l0.length:Int) != (l1.length:Int))=false:=bne_eq_false_iff_eq.mpr c3
  have c3b2:(l0.length==l1.length)=true:=by first|simpa using c3|(simp at c3 ⊢;omega)
  clear c3
  have H':=Aside0.mk H
  clear H
  go_enter Try.func37,Try.ntmps37
  go_wp2
  repeat(go_quiet (fail);try go_wp2)
  go_loopg [13] k (fun kq v13 w'=> ∃ (x13_1:Int),v13= .int .i64 x13_1∧Aside0 (laws_sameEdges.l0 kq l0 l1 (l0.length:Int) x13_1=some r)∧Aside0 (kq≤k)∧Drawn0 w w')
  case atStart=>exact⟨(0),zrs,H',⟨Nat.le_refl _⟩,by repeat(first|exact Drawn0.refl _|apply Drawn0.step)⟩
  case round=>
   clear H'
   try clear c1
   try clear p2
   try clear c3
   try clear c3b0
   try clear c3b1
   try clear c3b2
   obtain⟨x13_1,rfl,HA,HK1,⟨m1,rfl⟩⟩:=hrel
   cases gk with
   |zero=>exact absurd HA.out (by simp [laws_sameEdges.l0])
   |succ k1=>
    have H:=HA.out
    clear HA
    simp only [laws_sameEdges.l0] at H
    by_cases c4:x13_1< (l0.length:Int)
    ·rw [if_pos c4] at H
     have c4b0:decide (x13_1< (l0.length:Int))=true:=decide_eq_true c4
     clear c4
     by_cases c5: 0≤x13_1
     case neg=>exact znn c5 H
     rw [if_pos c5] at H
     have c5b0:decide (0≤x13_1)=true:=decide_eq_true c5
     clear c5
     by_cases c6:x13_1< (l0.length:Int)
     case neg=>exact znn c6 H
     rw [if_pos c6] at H
     have c6b0:decide (x13_1< (l0.length:Int))=true:=decide_eq_true c6
     clear c6
     by_cases c7:x13_1< (l1.length:Int)
     case neg=>exact znn c7 H
     rw [if_pos c7] at H
     have c7b0:decide (x13_1< (l1.length:Int))=true:=decide_eq_true c7
     clear c7
     by_cases c8:(!(((rd_T52 l0 x13_1).f0)== ((rd_T52 l1 x13_1).f0)) || (!(((rd_T52 l0 x13_1).f1)== ((rd_T52 l1 x13_1).f1)) || (!(((rd_T52 l0 x13_1).f2)== ((rd_T52 l1 x13_1).f2)))))=true
     ·rw [if_pos c8] at H
      have c8b0:(!(((rd_T52 l0 x13_1).f0)== ((rd_T52 l1 x13_1).f0)) || (!(((rd_T52 l0 x13_1).f1)== ((rd_T52 l1 x13_1).f1)) || (!(((rd_T52 l0 x13_1).f2)== ((rd_T52 l1 x13_1).f2)))))=true:=c8
      clear c8
      obtain rfl:=Option.some.inj H
      have p665: 0≤ (x13_1:Int):=of_decide_eq_true zq1
      have q665:x13_1< (l0.length:Int):=of_decide_eq_true zq1
      obtain⟨ad665,e665,hx665_0,hx665_1,hx665_2⟩:=at_T52 HR0.out x13_1 p665 q665
      cases e665
      replace p665:=eq_true p665
      replace q665:=eq_true q665
      have p666: 0≤ (x13_1:Int):=of_decide_eq_true zq1
      have q666:x13_1< (l1.length:Int):=of_decide_eq_true zq1
      obtain⟨ad666,e666,hx666_0,hx666_1,hx666_2⟩:=at_T52 HR1.out x13_1 p666 q666
      cases e666
      replace p666:=eq_true p666
      replace q666:=eq_true q666
      go_wp2
      repeat(go_quiet (fail);try go_wp2)
      go_ret
      exact⟨by first|rfl|(simp;done)|(simp [*];done),by repeat(first|exact Drawn0.refl _|apply Drawn0.step)⟩
     ·rw [if_neg c8] at H
      have c8b0:(!(((rd_T52 l0 x13_1).f0)== ((rd_T52 l1 x13_1).f0)) || (!(((rd_T52 l0 x13_1).f1)== ((rd_T52 l1 x13_1).f1)) || (!(((rd_T52 l0 x13_1).f2)== ((rd_T52 l1 x13_1).f2)))))=false:=by simpa using c8
      clear c8
      have H':=Aside0.mk H
      clear H
      have p665: 0≤ (x13_1:Int):=of_decide_eq_true zq1
      have q665:x13_1< (l0.length:Int):=of_decide_eq_true zq1
      obtain⟨ad665,e665,hx665_0,hx665_1,hx665_2⟩:=at_T52 HR0.out x13_1 p665 q665
      cases e665
      replace p665:=eq_true p665
      replace q665:=eq_true q665
      have p666: 0≤ (x13_1:Int):=of_decide_eq_true zq1
      have q666:x13_1< (l1.length:Int):=of_decide_eq_true zq1
      obtain⟨ad666,e666,hx666_0,hx666_1,hx666_2⟩:=at_T52 HR1.out x13_1 p666 q666
      cases e666
      replace p666:=eq_true p666
      replace q666:=eq_true q666
      go_wp2
      repeat(go_quiet (fail);try go_wp2)
      go_roundg k1
      case measure=>have:=HK1.out;omega
      case rel=>exact⟨(wrap64 (x13_1+1)),zrs,H',⟨by have:=HK1.out;omega⟩,by repeat(first|exact Drawn0.refl _|apply Drawn0.step)⟩
    ·rw [if_neg c4] at H
     have c4b0:decide (x13_1< (l0.length:Int))=false:=decide_eq_false c4
     clear c4
     obtain rfl:=Option.some.inj H
     go_wp2
     repeat(go_quiet (fail);try go_wp2)
     go_ret
     exact⟨by first|rfl|(simp;done)|(simp [*];done),by repeat(first|exact Drawn0.refl _|apply Drawn0.step)⟩
 ·rw [if_neg c3] at H
  have c3b0:((l0.length:Int)== (l1.length:Int))=false:=beq_eq_false_iff_ne.mpr c3
  have c3b1:((l0.length:Int) != (l1.length:Int))=true:=bne_iff_ne.mpr c3
  have c3b2:(l0.length==l1.length)=false:=by first|simpa using c3|(simp at c3 ⊢;omega)
  obtain rfl:=Option.some.inj H
  go_enter Try.func37,Try.ntmps37
  go_wp2
  repeat(go_quiet (fail);try go_wp2)
  go_ret
  exact⟨by first|rfl|(simp;done)|(simp [*];done),by repeat(first|exact Drawn0.refl _|apply Drawn0.step)⟩
def spec_DrawNearOf.f (k:Nat) (l0:List Int):Option (Int × (List (S52)) × Int):=(spec_l1Cur_edges.f k l0 0 0).bind fun bt668=>((spec_l1Cur_pick.f l0 bt668.2.2.1 bt668.2.2.2 (wrap64 (bt668.1+2))).bind fun bt674=>(some (bt668.1,bt668.2.1,wrap64 (bt674.1 - 1))))
set_option maxHeartbeats 8000000 in
set_option maxRecDepth 100000 in
theorem spec_DrawNearOf.calls (k:Nat) (A0:Option Addr) (c0:Nat) (l0:List Int) (r1:Int) (r2:List (S52)) (r3:Int) (w:World) (hr0:Kd.C (Kd.int .u8) w A0 l0.length l0) (hc0:l0.length≤c0) (h:spec_DrawNearOf.f k l0=some (r1,r2,r3)):
  Calls Try.prog 38 #[.slice A0 l0.length c0] w fun e w'=> ∃ v1_:Value,e= .returned (.tuple #[.int .i64 r1,v1_,.int .i64 r3])∧Kd.R k52 52 w' w.heap.size (fun _=>True) v1_ r2∧Below w.heap.size w w':=by
 have hu82:=Try.underlying82
 have HR0:=Aside0.mk hr0
 have HC0:=Aside0.mk hc0
 clear hr0 hc0
 have HB:=Aside0.mk (Below.refl w.heap.size w)
 have H:((spec_l1Cur_edges.f k l0 0 0).bind fun bt668=>((spec_l1Cur_pick.f l0 bt668.2.2.1 bt668.2.2.2 (wrap64 (bt668.1+2))).bind fun bt674=>(some (bt668.1,bt668.2.1,wrap64 (bt674.1 - 1)))))=some (r1,r2,r3):=h
 clear h
 replace H:=Option.bind_eq_some_iff.mp H
 obtain⟨⟨t668,t669,t672,t673⟩,A20,H⟩:=H
 replace H:((spec_l1Cur_pick.f l0 t672 t673 (wrap64 (t668+2))).bind fun bt674=>(some (t668,t669,wrap64 (bt674.1 - 1))))=some (r1,r2,r3):=H
 have A2:=Aside0.mk A20
 clear A20
 replace H:=Option.bind_eq_some_iff.mp H
 obtain⟨⟨t674,t675,t676⟩,A30,H⟩:=H
 replace H:(some (t668,t669,wrap64 (t674 - 1)))=some (r1,r2,r3):=H
 have A3:=Aside0.mk A30
 clear A30
 simp only [Option.some.injEq,Prod.mk.injEq] at H
 obtain⟨rfl,rfl,rfl⟩:=H
 go_enter Try.func38,Try.ntmps38
 go_wp2_with (first|((with_reducible refine gate_dst (N:=10) rfl ?_);refine box_event ?hg (N:=10) ?hd (cs:= #[.slice A0 l0.length c0,.int .i64 0,.int .u64 0]) (t:=82) ?hr ?_;(case hd=>rfl);(case hg=>rfl);(case hr=>first|(go_simp;done)|(go_simp;rfl));intro gb667 hg w4 hbox hb;have GW667:=Aside0.mk ((by rw [hg];exact(below_size (by exact zk1 HB)):w.heap.size≤gb667));have GE667:=GW667;have HI667:=Aside0.mk ((show IsS82 w _ gb667 l0 0 0 from ⟨_,_,hbox,(by rw [hg];exact(below_size (by exact zk1 HB)):w.heap.size≤gb667),HR0.out⟩));replace HB:=Aside0.mk (below_step (by exact zk1 HB) hb);clear hb hbox hg)|((with_reducible refine gate_callee (f:=64) rfl ?_);refine goesL_ (some 13) rfl rfl Try.func64 (by kernel_rfl) rfl #[.pointer (some ⟨gb667,0,none⟩)] rfl zq2 ?_;(with_reducible refine(spec_l1Cur_edges.calls k gb667 l0 0 0 t668 t669 t672 t673 w _ ?side1 ?side2 A2.out).mono ?_);(case side1=>exact zk5 HI667);(case side2=>exact zk2 HB (IsS82.ge HI667.out));rintro e w5 ⟨v670,rfl,ho0,hi,hb,hk⟩;refine⟨_,rfl,?_⟩;have HO671:=Aside0.mk (Kd.R_lower ho0 (below_size (by exact zk2 HB (IsS82.ge HI667.out))));replace HB:=Aside0.mk (hb);replace HI667:=Aside0.mk (hi);(try clear hb);(try clear hb2);(try clear hk);(try clear hi);(try clear ho0))|((with_reducible refine gate_callee (f:=61) rfl ?_);refine goesL_ (some 21) rfl rfl Try.func61 (by kernel_rfl) rfl #[.pointer (some ⟨gb667,0,none⟩),.int .i64 (wrap64 (t668+2))] rfl zq2 ?_;(with_reducible refine(spec_l1Cur_pick.calls gb667 l0 t672 t673 (wrap64 (t668+2)) t674 t675 t676 w _ ?side1 ?side2 A3.out).mono ?_);(case side1=>exact zk5 HI667);(case side2=>exact zk2 HB (IsS82.ge HI667.out));rintro e w6 ⟨rfl,hi,hb,hk⟩;refine⟨_,rfl,?_⟩;replace HO671:=Aside0.mk (Kd.R_mono (Kd.R_keep (IsS82.apart (show IsS82 w _ gb667 l0 t672 t673 from by exact zk5 HI667) (zq4 HO671) (by decide)) hk (fun _ h=>h.2)) (fun _ h=>h.1));replace HB:=Aside0.mk (hb);replace HI667:=Aside0.mk (hi);(try clear hb);(try clear hb2);(try clear hk);(try clear hi)))
 go_ret3
 exact⟨_,zer,zdr HO671,by exact zk2 HB (IsS82.ge HI667.out)⟩
def spec_DrawWithoutEdge.f (k:Nat) (l0:List Int):Option (Int × (List (S52)) × Int):=(spec_l1Cur_edges.f k l0 0 0).bind fun bt678=>((spec_l1Cur_pick.f l0 bt678.2.2.1 bt678.2.2.2 (wrap64 ((bt678.2.1.length:Int)+2))).bind fun bt684=>(some (bt678.1,bt678.2.1,wrap64 (bt684.1 - 1))))
set_option maxHeartbeats 8000000 in
set_option maxRecDepth 100000 in
theorem spec_DrawWithoutEdge.calls (k:Nat) (A0:Option Addr) (c0:Nat) (l0:List Int) (r1:Int) (r2:List (S52)) (r3:Int) (w:World) (hr0:Kd.C (Kd.int .u8) w A0 l0.length l0) (hc0:l0.length≤c0) (h:spec_DrawWithoutEdge.f k l0=some (r1,r2,r3)):
  Calls Try.prog 39 #[.slice A0 l0.length c0] w fun e w'=> ∃ v1_:Value,e= .returned (.tuple #[.int .i64 r1,v1_,.int .i64 r3])∧Kd.R k52 52 w' w.heap.size (fun _=>True) v1_ r2∧Below w.heap.size w w':=by
 have hu82:=Try.underlying82
 have HR0:=Aside0.mk hr0
 have HC0:=Aside0.mk hc0
 clear hr0 hc0
 have HB:=Aside0.mk (Below.refl w.heap.size w)
 have H:((spec_l1Cur_edges.f k l0 0 0).bind fun bt678=>((spec_l1Cur_pick.f l0 bt678.2.2.1 bt678.2.2.2 (wrap64 ((bt678.2.1.length:Int)+2))).bind fun bt684=>(some (bt678.1,bt678.2.1,wrap64 (bt684.1 - 1)))))=some (r1,r2,r3):=h
 clear h
 replace H:=Option.bind_eq_some_iff.mp H
 obtain⟨⟨t678,t679,t682,t683⟩,A20,H⟩:=H
 replace H:((spec_l1Cur_pick.f l0 t682 t683 (wrap64 ((t679.length:Int)+2))).bind fun bt684=>(some (t678,t679,wrap64 (bt684.1 - 1))))=some (r1,r2,r3):=H
 have A2:=Aside0.mk A20
 clear A20
 replace H:=Option.bind_eq_some_iff.mp H
 obtain⟨⟨t684,t685,t686⟩,A30,H⟩:=H
 replace H:(some (t678,t679,wrap64 (t684 - 1)))=some (r1,r2,r3):=H
 have A3:=Aside0.mk A30
 clear A30
 simp only [Option.some.injEq,Prod.mk.injEq] at H
 obtain⟨rfl,rfl,rfl⟩:=H
 go_enter Try.func39,Try.ntmps39
 go_wp2_with (first|((with_reducible refine gate_dst (N:=10) rfl ?_);refine box_event ?hg (N:=10) ?hd (cs:= #[.slice A0 l0.length c0,.int .i64 0,.int .u64 0]) (t:=82) ?hr ?_;(case hd=>rfl);(case hg=>rfl);(case hr=>first|(go_simp;done)|(go_simp;rfl));intro gb677 hg w4 hbox hb;have GW677:=Aside0.mk ((by rw [hg];exact(below_size (by exact zk1 HB)):w.heap.size≤gb677));have GE677:=GW677;have HI677:=Aside0.mk ((show IsS82 w _ gb677 l0 0 0 from ⟨_,_,hbox,(by rw [hg];exact(below_size (by exact zk1 HB)):w.heap.size≤gb677),HR0.out⟩));replace HB:=Aside0.mk (below_step (by exact zk1 HB) hb);clear hb hbox hg)|((with_reducible refine gate_callee (f:=64) rfl ?_);refine goesL_ (some 13) rfl rfl Try.func64 (by kernel_rfl) rfl #[.pointer (some ⟨gb677,0,none⟩)] rfl zq2 ?_;(with_reducible refine(spec_l1Cur_edges.calls k gb677 l0 0 0 t678 t679 t682 t683 w _ ?side1 ?side2 A2.out).mono ?_);(case side1=>exact zk5 HI677);(case side2=>exact zk2 HB (IsS82.ge HI677.out));rintro e w5 ⟨v680,rfl,ho0,hi,hb,hk⟩;refine⟨_,rfl,?_⟩;have HO681:=Aside0.mk (Kd.R_lower ho0 (below_size (by exact zk2 HB (IsS82.ge HI677.out))));replace HB:=Aside0.mk (hb);replace HI677:=Aside0.mk (hi);(try clear hb);(try clear hb2);(try clear hk);(try clear hi);(try clear ho0);obtain⟨Ao6,co6,eo6⟩:=Kd.R_slice HO681.out;subst eo6)|((with_reducible refine gate_callee (f:=61) rfl ?_);refine goesL_ (some 22) rfl rfl Try.func61 (by kernel_rfl) rfl #[.pointer (some ⟨gb677,0,none⟩),.int .i64 (wrap64 ((t679.length:Int)+2))] rfl zq2 ?_;(with_reducible refine(spec_l1Cur_pick.calls gb677 l0 t682 t683 (wrap64 ((t679.length:Int)+2)) t684 t685 t686 w _ ?side1 ?side2 A3.out).mono ?_);(case side1=>exact zk5 HI677);(case side2=>exact zk2 HB (IsS82.ge HI677.out));rintro e w7 ⟨rfl,hi,hb,hk⟩;refine⟨_,rfl,?_⟩;replace HO681:=Aside0.mk (Kd.R_mono (Kd.R_keep (IsS82.apart (show IsS82 w _ gb677 l0 t682 t683 from by exact zk5 HI677) (zq4 HO681) (by decide)) hk (fun _ h=>h.2)) (fun _ h=>h.1));replace HB:=Aside0.mk (hb);replace HI677:=Aside0.mk (hi);(try clear hb);(try clear hb2);(try clear hk);(try clear hi)))
 go_ret3
 exact⟨_,zer,zdr HO681,by exact zk2 HB (IsS82.ge HI677.out)⟩
def slices_Index_int.l0:Nat→List Int→Int→Int→Int→Option (Int)
 | 0,_,_,_,_=>none
 |k+1,x0,x1,x7,x8=>if x8<x7 then(if 0≤x8 then(if x8< (x0.length:Int) then(if x1= (rd x0 x8) then(some x8) else(slices_Index_int.l0 k x0 x1 x7 (wrap64 (x8+1)))) else(none)) else(none)) else(some (-1))
def slices_Index_int.f (k:Nat) (l0:List Int) (a1:Int):Option (Int):=slices_Index_int.l0 k l0 a1 (l0.length:Int) 0
set_option maxHeartbeats 8000000 in
set_option maxRecDepth 100000 in
theorem slices_Index_int.calls (k:Nat) (A0:Option Addr) (c0:Nat) (l0:List Int) (a1:Int) (r:Int) (w:World) (hr0:Kd.C (Kd.int .i64) w A0 l0.length l0) (hc0:l0.length≤c0) (h:slices_Index_int.f k l0 a1=some r):
  Calls Try.prog 74 #[.slice A0 l0.length c0,.int .i64 a1] w fun e w'=>e= .returned (.int .i64 r)∧Drawn0 w w':=by
 have HR0:=Aside0.mk hr0
 have HC0:=Aside0.mk hc0
 clear hr0 hc0
 have H:(slices_Index_int.l0 k l0 a1 (l0.length:Int) 0)=some r:=h
 clear h
 have H':=Aside0.mk H
 clear H
 go_enter Try.func74,Try.ntmps74
 go_wp2
 go_loopg [8] k (fun kq v8 w'=> ∃ (x8_1:Int),v8= .int .i64 x8_1∧Aside0 (slices_Index_int.l0 kq l0 a1 (l0.length:Int) x8_1=some r)∧Aside0 (kq≤k)∧Drawn0 w w')
 case atStart=>exact⟨(0),zrs,H',⟨Nat.le_refl _⟩,by repeat(first|exact Drawn0.refl _|apply Drawn0.step)⟩
 case round=>
  clear H'
  try clear p2
  obtain⟨x8_1,rfl,HA,HK1,⟨m1,rfl⟩⟩:=hrel
  cases gk with
  |zero=>exact absurd HA.out (by simp [slices_Index_int.l0])
  |succ k1=>
   have H:=HA.out
   clear HA
   simp only [slices_Index_int.l0] at H
   by_cases c3:x8_1< (l0.length:Int)
   ·rw [if_pos c3] at H
    have c3b0:decide (x8_1< (l0.length:Int))=true:=decide_eq_true c3
    clear c3
    by_cases c4: 0≤x8_1
    case neg=>exact znn c4 H
    rw [if_pos c4] at H
    have c4b0:decide (0≤x8_1)=true:=decide_eq_true c4
    clear c4
    by_cases c5:x8_1< (l0.length:Int)
    case neg=>exact znn c5 H
    rw [if_pos c5] at H
    have c5b0:decide (x8_1< (l0.length:Int))=true:=decide_eq_true c5
    clear c5
    by_cases c6:a1= (rd l0 x8_1)
    ·rw [if_pos c6] at H
     have c6b0:(a1== (rd l0 x8_1))=true:=beq_iff_eq.mpr c6
     have c6b1:(a1 != (rd l0 x8_1))=false:=bne_eq_false_iff_eq.mpr c6
     clear c6
     obtain rfl:=Option.some.inj H
     have p687: 0≤ (x8_1:Int):=of_decide_eq_true zq1
     have q687:x8_1< (l0.length:Int):=of_decide_eq_true zq1
     obtain⟨ad687,e687,hx687_0⟩:=Kd.at_int HR0.out x8_1 p687 q687
     cases e687
     replace p687:=eq_true p687
     replace q687:=eq_true q687
     go_wp2
     go_ret
     exact⟨by first|rfl|(simp;done)|(simp [*];done),by repeat(first|exact Drawn0.refl _|apply Drawn0.step)⟩
    ·rw [if_neg c6] at H
     have c6b0:(a1== (rd l0 x8_1))=false:=beq_eq_false_iff_ne.mpr c6
     have c6b1:(a1 != (rd l0 x8_1))=true:=bne_iff_ne.mpr c6
     have H':=Aside0.mk H
     clear H
     have p687: 0≤ (x8_1:Int):=of_decide_eq_true zq1
     have q687:x8_1< (l0.length:Int):=of_decide_eq_true zq1
     obtain⟨ad687,e687,hx687_0⟩:=Kd.at_int HR0.out x8_1 p687 q687
     cases e687
     replace p687:=eq_true p687
     replace q687:=eq_true q687
     go_wp2
     go_roundg k1
     case measure=>have:=HK1.out;omega
     case rel=>exact⟨(wrap64 (x8_1+1)),zrs,H',⟨by have:=HK1.out;omega⟩,by repeat(first|exact Drawn0.refl _|apply Drawn0.step)⟩
   ·rw [if_neg c3] at H
    have c3b0:decide (x8_1< (l0.length:Int))=false:=decide_eq_false c3
    clear c3
    obtain rfl:=Option.some.inj H
    go_wp2
    go_ret
    exact⟨by first|rfl|(simp;done)|(simp [*];done),by repeat(first|exact Drawn0.refl _|apply Drawn0.step)⟩
def slices_Contains_int.f (k:Nat) (l0:List Int) (a1:Int):Option (Bool):=(slices_Index_int.f k l0 a1).bind fun t688=>(some (decide (t688≥0)))
set_option maxHeartbeats 8000000 in
set_option maxRecDepth 100000 in
theorem slices_Contains_int.calls (k:Nat) (A0:Option Addr) (c0:Nat) (l0:List Int) (a1:Int) (r:Bool) (w:World) (hr0:Kd.C (Kd.int .i64) w A0 l0.length l0) (hc0:l0.length≤c0) (h:slices_Contains_int.f k l0 a1=some r):
  Calls Try.prog 73 #[.slice A0 l0.length c0,.int .i64 a1] w fun e w'=>e= .returned (.bool r)∧Drawn0 w w':=by
 have HR0:=Aside0.mk hr0
 have HC0:=Aside0.mk hc0
 clear hr0 hc0
 have H:((slices_Index_int.f k l0 a1).bind fun t688=>(some (decide (t688≥0))))=some r:=h
 clear h
 replace H:=Option.bind_eq_some_iff.mp H
 obtain⟨t688,A30,H⟩:=H
 replace H:(some (decide (t688≥0)))=some r:=H
 have A3:=Aside0.mk A30
 clear A30
 obtain rfl:=Option.some.inj H
 go_enter Try.func73,Try.ntmps73
 go_wp2_with (first|((with_reducible refine gate_callee (f:=74) rfl ?_);refine goesL_ (some 7) rfl rfl Try.func74 (by kernel_rfl) rfl #[.slice A0 l0.length c0,.int .i64 a1] rfl zq2 ?_;(with_reducible refine(slices_Index_int.calls k _ _ l0 a1 t688 _ ?side1 ?side2 A3.out).mono ?_);(case side1=>exact zcc (HR0.out));(case side2=>exact HC0.out);rintro e w' ⟨rfl,⟨nd,rfl⟩⟩;refine⟨_,rfl,?_⟩))
 go_ret
 exact⟨by first|rfl|(simp;done)|(simp [*];done),by repeat(first|exact Drawn0.refl _|apply Drawn0.step)⟩
def impl_without.l0:Nat→List Int→List (S52)→List (S52)→Int→Int→Option ((List (S52)))
 | 0,_,_,_,_,_=>none
 |k+1,x1,x5,x8,x9,x10=>if x10<x9 then(if 0≤x10 then(if x10< (x8.length:Int) then((slices_Contains_int.f k x1 x10).bind fun t691=>(if t691=true then(impl_without.l0 k x1 x5 x8 x9 (wrap64 (x10+1))) else(if x5.length< 5864062014805 then(impl_without.l0 k x1 (x5++ [(⟨(rd_T52 x8 x10).f0,(rd_T52 x8 x10).f1,(rd_T52 x8 x10).f2⟩ :S52)]) x8 x9 (wrap64 (x10+1))) else(none)))) else(none)) else(none)) else(some x5)
def impl_without.f (k:Nat) (l0:List (S52)) (l1:List Int):Option ((List (S52))):=impl_without.l0 k l1 ([] :List (S52)) l0 (l0.length:Int) 0
set_option maxHeartbeats 8000000 in
set_option maxRecDepth 100000 in
theorem impl_without.calls (k:Nat) (A0:Option Addr) (c0:Nat) (l0:List (S52)) (A1:Option Addr) (c1:Nat) (l1:List Int) (r:List (S52)) (w:World) (hr0:Kd.C k52 w A0 l0.length l0) (hc0:l0.length≤c0) (hr1:Kd.C (Kd.int .i64) w A1 l1.length l1) (hc1:l1.length≤c1) (h:impl_without.f k l0 l1=some r):
  Calls Try.prog 65 #[.slice A0 l0.length c0,.slice A1 l1.length c1] w fun e w'=> ∃ v0_:Value,e= .returned (v0_)∧Kd.R k52 52 w' w.heap.size (fun _=>True) v0_ r∧Below w.heap.size w w':=by
 have hu52:=Try.underlying52
 have HR0:=Aside0.mk hr0
 have HC0:=Aside0.mk hc0
 clear hr0 hc0
 have HR1:=Aside0.mk hr1
 have HC1:=Aside0.mk hc1
 clear hr1 hc1
 have HB:=Aside0.mk (Below.refl w.heap.size w)
 have H:(impl_without.l0 k l1 ([] :List (S52)) l0 (l0.length:Int) 0)=some r:=h
 clear h
 have H':=Aside0.mk H
 clear H
 go_enter Try.func65,Try.ntmps65
 go_wp2
 go_loopg [5,10] k (fun kq v5 v10 w'=> ∃ (x5_1:List (S52)) (x10_1:Int),v10= .int .i64 x10_1∧Aside0 (impl_without.l0 kq l1 x5_1 l0 (l0.length:Int) x10_1=some r)∧Aside0 (kq≤k)∧Aside0 (Kd.R k52 52 w' w.heap.size (fun _=>True) v5 x5_1)∧Aside0 (Below w.heap.size w w'))
 case atStart=>exact⟨(([] :List (S52))),(0),zrs,H',⟨Nat.le_refl _⟩,⟨by first|exact Kd.R_nil _ _ _ _ _|exact Kd.N_nil _ _ _ _ _|exact Kd.V_nil _ _ _ _ _|exact Kd.Q_nil _ _ _ _ _|exact Kd.S_nil _ _ _ _ _⟩,⟨by exact zk1 HB⟩⟩
 case round=>
  clear H'
  try clear c1
  try clear p2
  obtain⟨x5_1,x10_1,rfl,HA,HK1,HO_5,HB⟩:=hrel
  cases gk with
  |zero=>exact absurd HA.out (by simp [impl_without.l0])
  |succ k1=>
   have H:=HA.out
   clear HA
   simp only [impl_without.l0] at H
   by_cases c3:x10_1< (l0.length:Int)
   ·rw [if_pos c3] at H
    have c3b0:decide (x10_1< (l0.length:Int))=true:=decide_eq_true c3
    clear c3
    by_cases c4: 0≤x10_1
    case neg=>exact znn c4 H
    rw [if_pos c4] at H
    have c4b0:decide (0≤x10_1)=true:=decide_eq_true c4
    clear c4
    by_cases c5:x10_1< (l0.length:Int)
    case neg=>exact znn c5 H
    rw [if_pos c5] at H
    have c5b0:decide (x10_1< (l0.length:Int))=true:=decide_eq_true c5
    clear c5
    replace H:=Option.bind_eq_some_iff.mp H
    obtain⟨t691,A60,H⟩:=H
    replace H:(if t691=true then(impl_without.l0 k1 l1 x5_1 l0 (l0.length:Int) (wrap64 (x10_1+1))) else(if x5_1.length< 5864062014805 then(impl_without.l0 k1 l1 (x5_1++ [(⟨(rd_T52 l0 x10_1).f0,(rd_T52 l0 x10_1).f1,(rd_T52 l0 x10_1).f2⟩ :S52)]) l0 (l0.length:Int) (wrap64 (x10_1+1))) else(none)))=some r:=H
    have A6:=Aside0.mk A60
    clear A60
    by_cases c7:t691=true
    ·subst c7
     have H1:(impl_without.l0 k1 l1 x5_1 l0 (l0.length:Int) (wrap64 (x10_1+1)))=some r:=by rw [if_pos rfl] at H;exact H
     clear H
     have H:=H1
     clear H1
     have H':=Aside0.mk H
     clear H
     have p689: 0≤ (x10_1:Int):=of_decide_eq_true zq1
     have q689:x10_1< (l0.length:Int):=of_decide_eq_true zq1
     obtain⟨ad689,e689,hx689_0,hx689_1,hx689_2⟩:=at_T52 HR0.out x10_1 p689 q689
     cases e689
     replace hx689_0:=zhx HB hx689_0
     replace hx689_1:=zhx HB hx689_1
     replace hx689_2:=zhx HB hx689_2
     replace p689:=eq_true p689
     replace q689:=eq_true q689
     go_wp2_with (first|((with_reducible refine gate_dst (N:=7) rfl ?_);refine box_event ?hg (N:=7) ?hd (cs:= #[.int .i64 0,.int .i64 0,.int .i64 0]) (t:=52) ?hr ?_;(case hd=>rfl);(case hg=>rfl);(case hr=>first|(go_simp;done)|(go_simp;rfl));intro gb690 hg w8 hbox hb;have BK690:=Aside0.mk (hbox);have GW690:=Aside0.mk ((by rw [hg];exact(below_size (by exact zk1 HB)):w.heap.size≤gb690));have GE690:=GW690;replace HO_5:=Aside0.mk (Kd.R_below (Kd.R_elderB (zq4 HO_5) gb690 (Nat.le_of_eq hg.symm)) hb);replace HB:=Aside0.mk (below_step (by exact zk1 HB) hb);clear hb hbox hg;have hcz9_0:=zcz BK690 0 (.int .i64 0);have hcz9_1:=zcz BK690 1 (.int .i64 0);have hcz9_2:=zcz BK690 2 (.int .i64 0);have hfz9_0:=blk_frozen BK690.out 0;have hfz9_1:=blk_frozen BK690.out 1;have hfz9_2:=blk_frozen BK690.out 2)|((with_reducible refine gate_callee (f:=73) rfl ?_);refine goesL_ (some 17) rfl rfl Try.func73 (by kernel_rfl) rfl #[.slice A1 l1.length c1,.int .i64 x10_1] rfl zq2 ?_;(with_reducible refine(slices_Contains_int.calls k1 _ _ l1 x10_1 true _ ?side1 ?side2 A6.out).mono ?_);(case side1=>exact Kd.C_below HR1.out (by exact zk2 HB GE690.out));(case side2=>exact HC1.out);rintro e w' ⟨rfl,⟨nd,rfl⟩⟩;refine⟨_,rfl,?_⟩))
     go_roundg k1
     case measure=>have:=HK1.out;omega
     case rel=>exact⟨(x5_1),(wrap64 (x10_1+1)),zrs,H',⟨by have:=HK1.out;omega⟩,⟨by(with_reducible repeat(first|apply Kd.R_alloc|apply Kd.R_drewN|apply Kd.R_drew));exact Kd.R_mono (Kd.R_far (p:=⟨gb690,2,none⟩) (Kd.R_far (p:=⟨gb690,1,none⟩) (Kd.R_far (p:=⟨gb690,0,none⟩) (Kd.R_mono HO_5.out (fun k_ hk=>(⟨hk,hk.2⟩ :_∧k_≠gb690))) (fun _ hk=>hk.2) (.int .i64 ((rd_T52 l0 x10_1).f0))) (fun _ hk=>hk.2) (.int .i64 ((rd_T52 l0 x10_1).f1))) (fun _ hk=>hk.2) (.int .i64 ((rd_T52 l0 x10_1).f2))) (fun _ hk=>trivial)⟩,⟨by exact zk2 HB GE690.out⟩⟩
    ·replace c7:=Bool.eq_false_iff.mpr c7
     subst c7
     have H1:(if x5_1.length< 5864062014805 then(impl_without.l0 k1 l1 (x5_1++ [(⟨(rd_T52 l0 x10_1).f0,(rd_T52 l0 x10_1).f1,(rd_T52 l0 x10_1).f2⟩ :S52)]) l0 (l0.length:Int) (wrap64 (x10_1+1))) else(none))=some r:=by rw [if_neg (show ¬ (false=true) by decide)] at H;exact H
     clear H
     have H:=H1
     clear H1
     by_cases c10:x5_1.length< 5864062014805
     case neg=>exact znn c10 H
     rw [if_pos c10] at H
     have LMc10:=Aside0.mk c10
     clear c10
     obtain⟨y692,hy692⟩ :∃ y_:List (S52),y_= (x5_1++ [(⟨(rd_T52 l0 x10_1).f0,(rd_T52 l0 x10_1).f1,(rd_T52 l0 x10_1).f2⟩ :S52)]):=⟨_,rfl⟩
     replace H:(impl_without.l0 k1 l1 y692 l0 (l0.length:Int) (wrap64 (x10_1+1)))=some r:=zfh hy692 H
     have Ny692:=Aside0.mk hy692
     clear hy692
     have H':=Aside0.mk H
     clear H
     have p689: 0≤ (x10_1:Int):=of_decide_eq_true zq1
     have q689:x10_1< (l0.length:Int):=of_decide_eq_true zq1
     obtain⟨ad689,e689,hx689_0,hx689_1,hx689_2⟩:=at_T52 HR0.out x10_1 p689 q689
     cases e689
     replace hx689_0:=zhx HB hx689_0
     replace hx689_1:=zhx HB hx689_1
     replace hx689_2:=zhx HB hx689_2
     replace p689:=eq_true p689
     replace q689:=eq_true q689
     go_wp2_with (first|((with_reducible refine gate_dst (N:=7) rfl ?_);refine box_event ?hg (N:=7) ?hd (cs:= #[.int .i64 0,.int .i64 0,.int .i64 0]) (t:=52) ?hr ?_;(case hd=>rfl);(case hg=>rfl);(case hr=>first|(go_simp;done)|(go_simp;rfl));intro gb690 hg w11 hbox hb;have BK690:=Aside0.mk (hbox);have GW690:=Aside0.mk ((by rw [hg];exact(below_size (by exact zk1 HB)):w.heap.size≤gb690));have GE690:=GW690;replace HO_5:=Aside0.mk (Kd.R_below (Kd.R_elderB (zq4 HO_5) gb690 (Nat.le_of_eq hg.symm)) hb);replace HB:=Aside0.mk (below_step (by exact zk1 HB) hb);clear hb hbox hg;have hcz12_0:=zcz BK690 0 (.int .i64 0);have hcz12_1:=zcz BK690 1 (.int .i64 0);have hcz12_2:=zcz BK690 2 (.int .i64 0);have hfz12_0:=blk_frozen BK690.out 0;have hfz12_1:=blk_frozen BK690.out 1;have hfz12_2:=blk_frozen BK690.out 2)|((with_reducible refine gate_callee (f:=73) rfl ?_);refine goesL_ (some 17) rfl rfl Try.func73 (by kernel_rfl) rfl #[.slice A1 l1.length c1,.int .i64 x10_1] rfl zq2 ?_;(with_reducible refine(slices_Contains_int.calls k1 _ _ l1 x10_1 false _ ?side1 ?side2 A6.out).mono ?_);(case side1=>exact Kd.C_below HR1.out (by exact zk2 HB GE690.out));(case side2=>exact HC1.out);rintro e w' ⟨rfl,⟨nd,rfl⟩⟩;refine⟨_,rfl,?_⟩)|((with_reducible refine gate_builtin (b:= .append) (xs:= #[.tmp 19,.tmp 21]) rfl ?_);at_builtin;refine Kd.R_append k52 (w0:=w) w.heap.size rfl (.tmp 19) (.tmp 21) 26 52 (.agg #[(.int .i64 0),(.int .i64 0),(.int .i64 0)]) 24 rfl Try.underlying26 info52 rfl (by decide) (by omega) u5 x5_1 (⟨(rd_T52 l0 x10_1).f0,(rd_T52 l0 x10_1).f1,(rd_T52 l0 x10_1).f2⟩ :S52) [.int .i64 ((rd_T52 l0 x10_1).f0),.int .i64 ((rd_T52 l0 x10_1).f1),.int .i64 ((rd_T52 l0 x10_1).f2)] (fun k_=>k_≠gb690) (fun _=>False) rfl (by first|(go_simp;done)|(go_simp;rfl)) ?aP (fun _ hk=>hk.elim) ?aF ?aO ?aB ?aS ?aL ?_;(case aP=>exact k52_mkM _ _ _ (⟨(rd_T52 l0 x10_1).f0,(rd_T52 l0 x10_1).f1,(rd_T52 l0 x10_1).f2⟩ :S52));(case aB=>exact(by exact zk2 HB GE690.out));(case aF=>exact(fun k_ hk=>Kd.freshB (g:=gb690) (o:= .cells #[.int .i64 ((rd_T52 l0 x10_1).f0),.int .i64 ((rd_T52 l0 x10_1).f1),.int .i64 ((rd_T52 l0 x10_1).f2)] 52 (0,0)) (by(with_reducible repeat(first|refine blk_drewN ?_ _|refine blk_drew ?_ |refine blk_alloc ?_ _));refine blk_put (cs:= #[.int .i64 ((rd_T52 l0 x10_1).f0),.int .i64 ((rd_T52 l0 x10_1).f1),.int .i64 0]) ?_ 2 _ rfl;(with_reducible repeat(first|refine blk_drewN ?_ _|refine blk_drew ?_ |refine blk_alloc ?_ _));refine blk_put (cs:= #[.int .i64 ((rd_T52 l0 x10_1).f0),.int .i64 0,.int .i64 0]) ?_ 1 _ rfl;(with_reducible repeat(first|refine blk_drewN ?_ _|refine blk_drew ?_ |refine blk_alloc ?_ _));refine blk_put (cs:= #[.int .i64 0,.int .i64 0,.int .i64 0]) ?_ 0 _ rfl;(with_reducible repeat(first|refine blk_drewN ?_ _|refine blk_drew ?_ |refine blk_alloc ?_ _));exact BK690.out) k_ hk));(case aO=>exact(by(with_reducible repeat(first|apply Kd.R_alloc|apply Kd.R_drewN|apply Kd.R_drew));exact Kd.R_mono (Kd.R_far (p:=⟨gb690,2,none⟩) (Kd.R_far (p:=⟨gb690,1,none⟩) (Kd.R_far (p:=⟨gb690,0,none⟩) (Kd.R_mono HO_5.out (fun k_ hk=>(⟨hk,hk.2⟩ :_∧k_≠gb690))) (fun _ hk=>hk.2) (.int .i64 ((rd_T52 l0 x10_1).f0))) (fun _ hk=>hk.2) (.int .i64 ((rd_T52 l0 x10_1).f1))) (fun _ hk=>hk.2) (.int .i64 ((rd_T52 l0 x10_1).f2))) (fun _ hk=>hk.1.2)));(case aS=>exact(below_size (by exact zk2 HB GE690.out)));(case aL=>have:=LMc10.out;omega);intro v693 w13 ho hb hg hat;rw [← Ny692.out] at ho;have HO694:=Aside0.mk (ho);replace BK690:=Aside0.mk (blk_grown (g:=gb690) (o:= .cells #[.int .i64 ((rd_T52 l0 x10_1).f0),.int .i64 ((rd_T52 l0 x10_1).f1),.int .i64 ((rd_T52 l0 x10_1).f2)] 52 (0,0)) (by(with_reducible repeat(first|refine blk_drewN ?_ _|refine blk_drew ?_ |refine blk_alloc ?_ _));refine blk_put (cs:= #[.int .i64 ((rd_T52 l0 x10_1).f0),.int .i64 ((rd_T52 l0 x10_1).f1),.int .i64 0]) ?_ 2 _ rfl;(with_reducible repeat(first|refine blk_drewN ?_ _|refine blk_drew ?_ |refine blk_alloc ?_ _));refine blk_put (cs:= #[.int .i64 ((rd_T52 l0 x10_1).f0),.int .i64 0,.int .i64 0]) ?_ 1 _ rfl;(with_reducible repeat(first|refine blk_drewN ?_ _|refine blk_drew ?_ |refine blk_alloc ?_ _));refine blk_put (cs:= #[.int .i64 0,.int .i64 0,.int .i64 0]) ?_ 0 _ rfl;(with_reducible repeat(first|refine blk_drewN ?_ _|refine blk_drew ?_ |refine blk_alloc ?_ _));exact BK690.out) hg (Kd.R_away HO_5.out (fun _ hk=>hk.2)));replace HB:=Aside0.mk (hb);clear HO_5;clear ho hb hg hat))
     go_roundg k1
     case measure=>have:=HK1.out;omega
     case rel=>exact⟨(y692),(wrap64 (x10_1+1)),zrs,H',⟨by have:=HK1.out;omega⟩,⟨by(with_reducible repeat(first|apply Kd.R_alloc|apply Kd.R_drewN|apply Kd.R_drew));exact Kd.R_mono HO694.out (fun _ hk=>trivial)⟩,⟨by exact zk2 HB GE690.out⟩⟩
   ·rw [if_neg c3] at H
    have c3b0:decide (x10_1< (l0.length:Int))=false:=decide_eq_false c3
    clear c3
    obtain rfl:=Option.some.inj H
    go_wp2
    go_ret
    exact⟨_,zer,zdr HO_5,by exact zk1 HB⟩
def impl_WithoutEdge.f (k:Nat) (a0:Int) (l1:List (S52)) (a2:Int):Option ((List (S52)) × Bool):=(impl_GoodEdges.f k a0 l1).bind fun t695=>(if t695=true then((impl_in.f a2 0 (wrap64 ((l1.length:Int) - 1))).bind fun t696=>(if t696=true then((impl_without.f k l1 (([a2] :List Int))).bind fun t700=>(some (t700,true))) else(some (([] :List (S52)),false)))) else(some (([] :List (S52)),false)))
set_option maxHeartbeats 8000000 in
set_option maxRecDepth 100000 in
theorem impl_WithoutEdge.calls (k:Nat) (a0:Int) (A1:Option Addr) (c1:Nat) (l1:List (S52)) (a2:Int) (r1:List (S52)) (r2:Bool) (w:World) (hr1:Kd.C k52 w A1 l1.length l1) (hc1:l1.length≤c1) (h:impl_WithoutEdge.f k a0 l1 a2=some (r1,r2)):
  Calls Try.prog 40 #[.int .i64 a0,.slice A1 l1.length c1,.int .i64 a2] w fun e w'=> ∃ v0_:Value,e= .returned (.tuple #[v0_,.bool r2])∧Kd.R k52 52 w' w.heap.size (fun _=>True) v0_ r1∧Below w.heap.size w w':=by
 have HR1:=Aside0.mk hr1
 have HC1:=Aside0.mk hc1
 clear hr1 hc1
 have HB:=Aside0.mk (Below.refl w.heap.size w)
 have H:((impl_GoodEdges.f k a0 l1).bind fun t695=>(if t695=true then((impl_in.f a2 0 (wrap64 ((l1.length:Int) - 1))).bind fun t696=>(if t696=true then((impl_without.f k l1 (([a2] :List Int))).bind fun t700=>(some (t700,true))) else(some (([] :List (S52)),false)))) else(some (([] :List (S52)),false))))=some (r1,r2):=h
 clear h
 replace H:=Option.bind_eq_some_iff.mp H
 obtain⟨t695,A40,H⟩:=H
 replace H:(if t695=true then((impl_in.f a2 0 (wrap64 ((l1.length:Int) - 1))).bind fun t696=>(if t696=true then((impl_without.f k l1 (([a2] :List Int))).bind fun t700=>(some (t700,true))) else(some (([] :List (S52)),false)))) else(some (([] :List (S52)),false)))=some (r1,r2):=H
 have A4:=Aside0.mk A40
 clear A40
 by_cases c5:t695=true
 ·subst c5
  have H1:((impl_in.f a2 0 (wrap64 ((l1.length:Int) - 1))).bind fun t696=>(if t696=true then((impl_without.f k l1 (([a2] :List Int))).bind fun t700=>(some (t700,true))) else(some (([] :List (S52)),false))))=some (r1,r2):=by rw [if_pos rfl] at H;exact H
  clear H
  have H:=H1
  clear H1
  replace H:=Option.bind_eq_some_iff.mp H
  obtain⟨t696,A60,H⟩:=H
  replace H:(if t696=true then((impl_without.f k l1 (([a2] :List Int))).bind fun t700=>(some (t700,true))) else(some (([] :List (S52)),false)))=some (r1,r2):=H
  have A6:=Aside0.mk A60
  clear A60
  by_cases c7:t696=true
  ·subst c7
   have H1:((impl_without.f k l1 (([a2] :List Int))).bind fun t700=>(some (t700,true)))=some (r1,r2):=by rw [if_pos rfl] at H;exact H
   clear H
   have H:=H1
   clear H1
   obtain⟨y697,hy697⟩ :∃ y_:List Int,y_= (([a2] :List Int)):=⟨_,rfl⟩
   replace H:((impl_without.f k l1 y697).bind fun t700=>(some (t700,true)))=some (r1,r2):=zfh hy697 H
   have Ny697:=Aside0.mk hy697
   clear hy697
   replace H:=Option.bind_eq_some_iff.mp H
   obtain⟨t700,A80,H⟩:=H
   replace H:(some (t700,true))=some (r1,r2):=H
   have A8:=Aside0.mk A80
   clear A80
   simp only [Option.some.injEq,Prod.mk.injEq] at H
   obtain⟨rfl,rfl⟩:=H
   go_enter Try.func40,Try.ntmps40
   go_wp2_with (first|((with_reducible refine gate_callee (f:=34) rfl ?_);refine goesL_ (some 10) rfl rfl Try.func34 (by kernel_rfl) rfl #[.int .i64 a0,.slice A1 l1.length c1] rfl zq2 ?_;(with_reducible refine(impl_GoodEdges.calls k a0 _ _ l1 true _ ?side1 ?side2 A4.out).mono ?_);(case side1=>exact zcc (HR1.out));(case side2=>exact HC1.out);rintro e w9 ⟨rfl,hb⟩;refine⟨_,rfl,?_⟩;replace HB:=Aside0.mk (below_step (by exact zk1 HB) hb);(try clear hb);(try clear hb2);(try clear hk);(try clear hi))|(go_at_call 54;(with_reducible refine(impl_in.calls a2 0 (wrap64 ((l1.length:Int) - 1)) true _ A6.out).mono ?_);rintro e w' ⟨rfl,⟨nd,rfl⟩⟩)|((with_reducible refine gate_dst (N:=22) rfl ?_);(try(refine gate_guard (by rfl) ?_;dsimp only));refine Kd.R_lit (Kd.int .i64) _ 3 ?hg (N:=22) ?hd (xs:=([a2] :List Int)) (inner:= [.int .i64 a2]) (ok:=fun _=>True) (okp:=fun _=>True) ?hr ?hp (fun _ hk=>hk) trivial (Below.refl _ _) (Nat.le_refl _) (by simp) ?_;(case hd=>rfl);(case hg=>rfl);(case hr=>first|(go_simp;done)|(go_simp;rfl));(case hp=>exact(Reps.one (show Kd.M (Kd.int .i64) _ _ _ a2 [.int .i64 a2] from rfl) (Reps.none _ _)));intro v698 w10 ho11 hb hg_ hnew_;clear hg_ hnew_;(first|rw [← Ny697.out] at ho11|(simp only [Int.reduceToNat] at ho11;rw [← Ny697.out] at ho11));have HO699:=Aside0.mk (Kd.R_lower ho11 (below_size (by exact zk1 HB)));replace HB:=Aside0.mk (below_step (by exact zk1 HB) hb);clear hb ho11;obtain⟨Ao12,co12,eo12⟩:=Kd.R_slice HO699.out;subst eo12)|((with_reducible refine gate_callee (f:=65) rfl ?_);refine goesL_ (some 23) rfl rfl Try.func65 (by kernel_rfl) rfl #[.slice A1 l1.length c1,.slice Ao12 y697.length co12] rfl zq2 ?_;(with_reducible refine(impl_without.calls k _ _ l1 _ _ y697 t700 _ ?side1 ?side2 ?side3 ?side4 A8.out).mono ?_);(case side1=>exact zcc ((Kd.C_below HR1.out HB.out)));(case side2=>exact HC1.out);(case side3=>exact zcc ((Kd.R_reads' HO699.out).2.2));(case side4=>exact(Kd.R_reads' HO699.out).2.1);rintro e w13 ⟨v701,rfl,ho0,hb⟩;refine⟨_,rfl,?_⟩;have HO702:=Aside0.mk (Kd.R_lower ho0 (below_size (by exact zk1 HB)));replace HO699:=Aside0.mk (Kd.R_below (zq4 HO699) hb);replace HB:=Aside0.mk (below_step (by exact zk1 HB) hb);(try clear hb);(try clear hb2);(try clear hk);(try clear hi);(try clear ho0)))
   go_ret2
   exact⟨_,zer,zdr HO702,by exact zk1 HB⟩
  ·replace c7:=Bool.eq_false_iff.mpr c7
   subst c7
   have H1:(some (([] :List (S52)),false))=some (r1,r2):=by rw [if_neg (show ¬ (false=true) by decide)] at H;exact H
   clear H
   have H:=H1
   clear H1
   simp only [Option.some.injEq,Prod.mk.injEq] at H
   obtain⟨rfl,rfl⟩:=H
   go_enter Try.func40,Try.ntmps40
   go_wp2_with (first|((with_reducible refine gate_callee (f:=34) rfl ?_);refine goesL_ (some 10) rfl rfl Try.func34 (by kernel_rfl) rfl #[.int .i64 a0,.slice A1 l1.length c1] rfl zq2 ?_;(with_reducible refine(impl_GoodEdges.calls k a0 _ _ l1 true _ ?side1 ?side2 A4.out).mono ?_);(case side1=>exact zcc (HR1.out));(case side2=>exact HC1.out);rintro e w14 ⟨rfl,hb⟩;refine⟨_,rfl,?_⟩;replace HB:=Aside0.mk (below_step (by exact zk1 HB) hb);(try clear hb);(try clear hb2);(try clear hk);(try clear hi))|(go_at_call 54;(with_reducible refine(impl_in.calls a2 0 (wrap64 ((l1.length:Int) - 1)) false _ A6.out).mono ?_);rintro e w' ⟨rfl,⟨nd,rfl⟩⟩))
   go_ret2
   exact⟨_,zer,by first|exact Kd.R_nil _ _ _ _ _|exact Kd.N_nil _ _ _ _ _|exact Kd.V_nil _ _ _ _ _|exact Kd.Q_nil _ _ _ _ _|exact Kd.S_nil _ _ _ _ _,by exact zk1 HB⟩
 ·replace c5:=Bool.eq_false_iff.mpr c5
  subst c5
  have H1:(some (([] :List (S52)),false))=some (r1,r2):=by rw [if_neg (show ¬ (false=true) by decide)] at H;exact H
  clear H
  have H:=H1
  clear H1
  simp only [Option.some.injEq,Prod.mk.injEq] at H
  obtain⟨rfl,rfl⟩:=H
  go_enter Try.func40,Try.ntmps40
  go_wp2_with (first|((with_reducible refine gate_callee (f:=34) rfl ?_);refine goesL_ (some 10) rfl rfl Try.func34 (by kernel_rfl) rfl #[.int .i64 a0,.slice A1 l1.length c1] rfl zq2 ?_;(with_reducible refine(impl_GoodEdges.calls k a0 _ _ l1 false _ ?side1 ?side2 A4.out).mono ?_);(case side1=>exact zcc (HR1.out));(case side2=>exact HC1.out);rintro e w15 ⟨rfl,hb⟩;refine⟨_,rfl,?_⟩;replace HB:=Aside0.mk (below_step (by exact zk1 HB) hb);(try clear hb);(try clear hb2);(try clear hk);(try clear hi)))
  go_ret2
  exact⟨_,zer,by first|exact Kd.R_nil _ _ _ _ _|exact Kd.N_nil _ _ _ _ _|exact Kd.V_nil _ _ _ _ _|exact Kd.Q_nil _ _ _ _ _|exact Kd.S_nil _ _ _ _ _,by exact zk1 HB⟩
def spec_l8Without.f (l0:List (S52)) (a1:Int):Option ((List (S52))):=(some (([] :List (S52)):List (S52))).bind fun y703=>(if 0≤a1 then(if a1≤ (l0.length:Int) then((some (l0.take (a1:Int).toNat:List (S52))).bind fun y706=>(if y703.length+y706.length< 5864062014805 then((some (y703++y706:List (S52))).bind fun y710=>(if 0≤ (wrap64 (a1+1)) then(if (wrap64 (a1+1))≤ (l0.length:Int) then((some (l0.drop ((wrap64 (a1+1)):Int).toNat:List (S52))).bind fun y713=>(if y710.length+y713.length< 5864062014805 then(some (y710++y713)) else(none))) else(none)) else(none))) else(none))) else(none)) else(none))
set_option maxHeartbeats 8000000 in
set_option maxRecDepth 100000 in
theorem spec_l8Without.calls (A0:Option Addr) (c0:Nat) (l0:List (S52)) (a1:Int) (r:List (S52)) (w:World) (hr0:Kd.C k52 w A0 l0.length l0) (hc0:l0.length≤c0) (h:spec_l8Without.f l0 a1=some r):
  Calls Try.prog 66 #[.slice A0 l0.length c0,.int .i64 a1] w fun e w'=> ∃ v0_:Value,e= .returned (v0_)∧Kd.R k52 52 w' w.heap.size (fun _=>True) v0_ r∧Below w.heap.size w w':=by
 have HR0:=Aside0.mk hr0
 have HC0:=Aside0.mk hc0
 clear hr0 hc0
 have HB:=Aside0.mk (Below.refl w.heap.size w)
 have H:((some (([] :List (S52)):List (S52))).bind fun y703=>(if 0≤a1 then(if a1≤ (l0.length:Int) then((some (l0.take (a1:Int).toNat:List (S52))).bind fun y706=>(if y703.length+y706.length< 5864062014805 then((some (y703++y706:List (S52))).bind fun y710=>(if 0≤ (wrap64 (a1+1)) then(if (wrap64 (a1+1))≤ (l0.length:Int) then((some (l0.drop ((wrap64 (a1+1)):Int).toNat:List (S52))).bind fun y713=>(if y710.length+y713.length< 5864062014805 then(some (y710++y713)) else(none))) else(none)) else(none))) else(none))) else(none)) else(none)))=some r:=h
 clear h
 obtain⟨y703,hy703⟩ :∃ y_:List (S52),y_= (([] :List (S52))):=⟨_,rfl⟩
 replace H:(if 0≤a1 then(if a1≤ (l0.length:Int) then((some (l0.take (a1:Int).toNat:List (S52))).bind fun y706=>(if y703.length+y706.length< 5864062014805 then((some (y703++y706:List (S52))).bind fun y710=>(if 0≤ (wrap64 (a1+1)) then(if (wrap64 (a1+1))≤ (l0.length:Int) then((some (l0.drop ((wrap64 (a1+1)):Int).toNat:List (S52))).bind fun y713=>(if y710.length+y713.length< 5864062014805 then(some (y710++y713)) else(none))) else(none)) else(none))) else(none))) else(none)) else(none))=some r:=zfh hy703 H
 have Ny703:=Aside0.mk hy703
 clear hy703
 by_cases c3: 0≤a1
 case neg=>exact znn c3 H
 rw [if_pos c3] at H
 have c3b0:=eq_true c3
 have c3b1:decide (0≤a1)=true:=decide_eq_true c3
 clear c3
 by_cases c4:a1≤ (l0.length:Int)
 case neg=>exact znn c4 H
 rw [if_pos c4] at H
 have c4b0:=eq_true c4
 have c4b1:decide (a1≤ (l0.length:Int))=true:=decide_eq_true c4
 clear c4
 obtain⟨y706,hy706⟩ :∃ y_:List (S52),y_= (l0.take (a1:Int).toNat):=⟨_,rfl⟩
 replace H:(if y703.length+y706.length< 5864062014805 then((some (y703++y706:List (S52))).bind fun y710=>(if 0≤ (wrap64 (a1+1)) then(if (wrap64 (a1+1))≤ (l0.length:Int) then((some (l0.drop ((wrap64 (a1+1)):Int).toNat:List (S52))).bind fun y713=>(if y710.length+y713.length< 5864062014805 then(some (y710++y713)) else(none))) else(none)) else(none))) else(none))=some r:=zfh hy706 H
 have Ny706:=Aside0.mk hy706
 clear hy706
 by_cases c5:y703.length+y706.length< 5864062014805
 case neg=>exact znn c5 H
 rw [if_pos c5] at H
 have LMc5:=Aside0.mk c5
 clear c5
 obtain⟨y710,hy710⟩ :∃ y_:List (S52),y_= (y703++y706):=⟨_,rfl⟩
 replace H:(if 0≤ (wrap64 (a1+1)) then(if (wrap64 (a1+1))≤ (l0.length:Int) then((some (l0.drop ((wrap64 (a1+1)):Int).toNat:List (S52))).bind fun y713=>(if y710.length+y713.length< 5864062014805 then(some (y710++y713)) else(none))) else(none)) else(none))=some r:=zfh hy710 H
 have Ny710:=Aside0.mk hy710
 clear hy710
 obtain⟨ji6,hji6⟩ :∃ j_:Int,(wrap64 (a1+1))=j_:=⟨_,rfl⟩
 replace H:(if 0≤ (ji6) then(if (ji6)≤ (l0.length:Int) then((some (l0.drop ((ji6):Int).toNat:List (S52))).bind fun y713=>(if y710.length+y713.length< 5864062014805 then(some (y710++y713)) else(none))) else(none)) else(none))=some r:=by first|(rw [hji6] at H;exact H)|(simp only [hji6] at H ⊢;exact H)
 have hji6w:(IntKind.i64.wrap (a1+1))=ji6:=(i64_w _).trans hji6
 by_cases c7: 0≤ (ji6)
 case neg=>exact znn c7 H
 rw [if_pos c7] at H
 have c7b0:=eq_true c7
 have c7b1:decide (0≤ (ji6))=true:=decide_eq_true c7
 clear c7
 by_cases c8:(ji6)≤ (l0.length:Int)
 case neg=>exact znn c8 H
 rw [if_pos c8] at H
 have c8b0:=eq_true c8
 have c8b1:decide ((ji6)≤ (l0.length:Int))=true:=decide_eq_true c8
 clear c8
 obtain⟨y713,hy713⟩ :∃ y_:List (S52),y_= (l0.drop ((ji6):Int).toNat):=⟨_,rfl⟩
 replace H:(if y710.length+y713.length< 5864062014805 then(some (y710++y713)) else(none))=some r:=zfh hy713 H
 have Ny713:=Aside0.mk hy713
 clear hy713
 by_cases c9:y710.length+y713.length< 5864062014805
 case neg=>exact znn c9 H
 rw [if_pos c9] at H
 have LMc9:=Aside0.mk c9
 clear c9
 obtain⟨y717,hy717⟩ :∃ y_:List (S52),y_= (y710++y713):=⟨_,rfl⟩
 replace H:(some y717)=some r:=zfh hy717 H
 have Ny717:=Aside0.mk hy717
 clear hy717
 obtain rfl:=Option.some.inj H
 go_enter Try.func66,Try.ntmps66
 go_wp2_with (first|((with_reducible refine gate_dst (N:=6) rfl ?_);refine Kd.R_lit k52 _ 52 ?hg (N:=6) ?hd (xs:=([] :List (S52))) (inner:= []) (ok:=fun _=>True) (okp:=fun _=>True) ?hr ?hp (fun _ hk=>hk) trivial (Below.refl _ _) (Nat.le_refl _) (by simp) ?_;(case hd=>rfl);(case hg=>rfl);(case hr=>first|(go_simp;done)|(go_simp;rfl));(case hp=>exact(Reps.none _ _));intro v704 w10 ho11 hb hg_ hnew_;clear hg_ hnew_;(first|rw [← Ny703.out] at ho11|(simp only [Int.reduceToNat] at ho11;rw [← Ny703.out] at ho11));have HO705:=Aside0.mk (Kd.R_lower ho11 (below_size (by exact zk1 HB)));replace HB:=Aside0.mk (below_step (by exact zk1 HB) hb);clear hb ho11;have q12:(a1:Int)≤ ((l0.length:Int):Int):=of_decide_eq_true zq1;obtain⟨i012,hi012,_,hsz12,_⟩:=info_parts info52;have hroom12:l0.length≤c0:=HC0.out;have hC12:Kd.C k52 _ A0 l0.length l0:=HR0.out;have hcut12:=cut_to (P:=Try.prog) 26 52 .i64 Try.underlying26 hi012 A0 l0.length c0 a1 (of_decide_eq_true zq1) q12 hroom12;have hr12:=Kd.C_take (m:=(a1:Int).toNat) hC12 (by omega);have hy12:y706.length= (a1:Int).toNat:=(by rw [Ny706.out,List.length_take];omega);rw [← Ny706.out] at hr12;rw [← hy12] at hcut12;have HR709:=Aside0.mk hr12;have HC709:=Aside0.mk (show y706.length≤c0 from by omega);clear hr12 hC12 hroom12 hi012 hsz12;have KY12:=Aside0.mk hy12;clear hy12;replace q12:=eq_true q12)|((with_reducible refine gate_builtin (b:= .append) (xs:= #[.tmp 6,.tmp 9]) rfl ?_);at_builtin;refine Kd.R_append_rows k52 (w0:=w) w.heap.size rfl (.tmp 6) (.tmp 9) 26 52 (.agg #[(.int .i64 0),(.int .i64 0),(.int .i64 0)]) 24 rfl Try.underlying26 info52 rfl (by decide) (by omega) v704 y703 y706 _ _ _ (fun _=>True) (fun _=>False) rfl rfl ?aO ?aR (fun _ _ h=>h) (fun _ h=>h.elim) ?aF ?aB ?aS ?aL ?_;(case aR=>exact zcc ((Kd.C_below HR709.out HB.out)));(case aB=>exact(by exact zk1 HB));(case aF=>exact(fun _ _=>trivial));(case aO=>exact(zq4 HO705));(case aS=>exact(below_size (by exact zk1 HB)));(case aL=>have:=LMc5.out;omega);intro v711 w13 ho hb hg hat;rw [← Ny710.out] at ho;have HO712:=Aside0.mk (ho);replace HB:=Aside0.mk (hb);clear HO705;clear ho hb hg hat;have q14:((ji6):Int)≤ ((l0.length:Int):Int):=of_decide_eq_true zq1;obtain⟨i014,hi014,_,hsz14,_⟩:=info_parts info52;have hroom14:l0.length≤c0:=HC0.out;have hC14:Kd.C k52 _ A0 l0.length l0:=HR0.out;have q014:(0:Int)≤ ((ji6):Int):=of_decide_eq_true zq1;have hcut14:=cut_from (P:=Try.prog) 26 52 .i64 Try.underlying26 hi014 3 hsz14 A0 l0.length c0 (ji6) q014 q14;have hr14:=Kd.C_drop (m:=((ji6):Int).toNat) (c:=c0) hC14 (by omega) hroom14;obtain⟨A14,hA14⟩ :∃ A1,A1= (if c0= ((ji6):Int).toNat then A0 else(A0:Option Addr).map (·.add (((ji6):Int).toNat * 3))):=⟨_,rfl⟩;obtain⟨c14,hc14⟩ :∃ c1,c1=c0 - ((ji6):Int).toNat:=⟨_,rfl⟩;have hy14:y713.length=l0.length - ((ji6):Int).toNat:=(by rw [Ny713.out,List.length_drop]<;>omega);rw [show (l0).drop ((ji6):Int).toNat=y713 from Ny713.out.symm] at hr14;replace hr14:Kd.C k52 _ A14 y713.length y713:=(by rw [hA14];exact hr14);rw [← hy14,← hA14,← hc14] at hcut14;have HR716:=Aside0.mk hr14;have HC716:=Aside0.mk (show y713.length≤c14 from by rw [hy14,hc14];exact Nat.sub_le_sub_right hroom14 _);clear hr14 hC14 hroom14 hi014 hsz14 hc14;have KY14:=Aside0.mk hy14;have KA14:=Aside0.mk hA14;clear hy14 hA14;replace q14:=eq_true q14)|((with_reducible refine gate_builtin (b:= .append) (xs:= #[.tmp 11,.tmp 15]) rfl ?_);at_builtin;refine Kd.R_append_rows k52 (w0:=w) w.heap.size rfl (.tmp 11) (.tmp 15) 26 52 (.agg #[(.int .i64 0),(.int .i64 0),(.int .i64 0)]) 24 rfl Try.underlying26 info52 rfl (by decide) (by omega) v711 y710 y713 _ _ _ (fun _=>True) (fun _=>False) rfl rfl ?aO ?aR (fun _ _ h=>h) (fun _ h=>h.elim) ?aF ?aB ?aS ?aL ?_;(case aR=>exact zcc ((Kd.C_below HR716.out HB.out)));(case aB=>exact(by exact zk1 HB));(case aF=>exact(fun _ _=>trivial));(case aO=>exact(zq4 HO712));(case aS=>exact(below_size (by exact zk1 HB)));(case aL=>have:=LMc9.out;omega);intro v718 w15 ho hb hg hat;rw [← Ny717.out] at ho;have HO719:=Aside0.mk (ho);replace HB:=Aside0.mk (hb);clear HO712;clear ho hb hg hat))
 go_ret
 exact⟨_,by first|rfl|(simp [errW_none,errW_some]<;>rfl)|(simp only [← hji6];first|rfl|(simp [errW_none,errW_some]<;>rfl))|(simp [*,errW_none,errW_some]<;>rfl),zdr HO719,by exact zk1 HB⟩
def spec_WithoutEdge.f (k:Nat) (a0:Int) (l1:List (S52)) (a2:Int):Option ((List (S52)) × Bool):=(spec_GoodEdges.f k a0 l1).bind fun t720=>(if t720=true then(if a2< 0 then(some (([] :List (S52)),false)) else(if a2≥ (l1.length:Int) then(some (([] :List (S52)),false)) else((spec_l8Without.f l1 a2).bind fun t721=>(some (t721,true))))) else(some (([] :List (S52)),false)))
set_option maxHeartbeats 8000000 in
set_option maxRecDepth 100000 in
theorem spec_WithoutEdge.calls (k:Nat) (a0:Int) (A1:Option Addr) (c1:Nat) (l1:List (S52)) (a2:Int) (r1:List (S52)) (r2:Bool) (w:World) (hr1:Kd.C k52 w A1 l1.length l1) (hc1:l1.length≤c1) (h:spec_WithoutEdge.f k a0 l1 a2=some (r1,r2)):
  Calls Try.prog 41 #[.int .i64 a0,.slice A1 l1.length c1,.int .i64 a2] w fun e w'=> ∃ v0_:Value,e= .returned (.tuple #[v0_,.bool r2])∧Kd.R k52 52 w' w.heap.size (fun _=>True) v0_ r1∧Below w.heap.size w w':=by
 have HR1:=Aside0.mk hr1
 have HC1:=Aside0.mk hc1
 clear hr1 hc1
 have HB:=Aside0.mk (Below.refl w.heap.size w)
 have H:((spec_GoodEdges.f k a0 l1).bind fun t720=>(if t720=true then(if a2< 0 then(some (([] :List (S52)),false)) else(if a2≥ (l1.length:Int) then(some (([] :List (S52)),false)) else((spec_l8Without.f l1 a2).bind fun t721=>(some (t721,true))))) else(some (([] :List (S52)),false))))=some (r1,r2):=h
 clear h
 replace H:=Option.bind_eq_some_iff.mp H
 obtain⟨t720,A40,H⟩:=H
 replace H:(if t720=true then(if a2< 0 then(some (([] :List (S52)),false)) else(if a2≥ (l1.length:Int) then(some (([] :List (S52)),false)) else((spec_l8Without.f l1 a2).bind fun t721=>(some (t721,true))))) else(some (([] :List (S52)),false)))=some (r1,r2):=H
 have A4:=Aside0.mk A40
 clear A40
 by_cases c5:t720=true
 ·subst c5
  have H1:(if a2< 0 then(some (([] :List (S52)),false)) else(if a2≥ (l1.length:Int) then(some (([] :List (S52)),false)) else((spec_l8Without.f l1 a2).bind fun t721=>(some (t721,true)))))=some (r1,r2):=by rw [if_pos rfl] at H;exact H
  clear H
  have H:=H1
  clear H1
  by_cases c6:a2< 0
  ·rw [if_pos c6] at H
   have c6b0:decide (a2< 0)=true:=decide_eq_true c6
   clear c6
   simp only [Option.some.injEq,Prod.mk.injEq] at H
   obtain⟨rfl,rfl⟩:=H
   go_enter Try.func41,Try.ntmps41
   go_wp2_with (first|((with_reducible refine gate_callee (f:=43) rfl ?_);refine goesL_ (some 10) rfl rfl Try.func43 (by kernel_rfl) rfl #[.int .i64 a0,.slice A1 l1.length c1] rfl zq2 ?_;(with_reducible refine(spec_GoodEdges.calls k a0 _ _ l1 true _ ?side1 ?side2 A4.out).mono ?_);(case side1=>exact zcc (HR1.out));(case side2=>exact HC1.out);rintro e w7 ⟨rfl,hb⟩;refine⟨_,rfl,?_⟩;replace HB:=Aside0.mk (below_step (by exact zk1 HB) hb);(try clear hb);(try clear hb2);(try clear hk);(try clear hi)))
   go_ret2
   exact⟨_,zer,by first|exact Kd.R_nil _ _ _ _ _|exact Kd.N_nil _ _ _ _ _|exact Kd.V_nil _ _ _ _ _|exact Kd.Q_nil _ _ _ _ _|exact Kd.S_nil _ _ _ _ _,by exact zk1 HB⟩
  ·rw [if_neg c6] at H
   have c6b0:decide (a2< 0)=false:=decide_eq_false c6
   clear c6
   by_cases c8:a2≥ (l1.length:Int)
   ·rw [if_pos c8] at H
    have c8b0:decide ((l1.length:Int)≤a2)=true:=decide_eq_true c8
    clear c8
    simp only [Option.some.injEq,Prod.mk.injEq] at H
    obtain⟨rfl,rfl⟩:=H
    go_enter Try.func41,Try.ntmps41
    go_wp2_with (first|((with_reducible refine gate_callee (f:=43) rfl ?_);refine goesL_ (some 10) rfl rfl Try.func43 (by kernel_rfl) rfl #[.int .i64 a0,.slice A1 l1.length c1] rfl zq2 ?_;(with_reducible refine(spec_GoodEdges.calls k a0 _ _ l1 true _ ?side1 ?side2 A4.out).mono ?_);(case side1=>exact zcc (HR1.out));(case side2=>exact HC1.out);rintro e w9 ⟨rfl,hb⟩;refine⟨_,rfl,?_⟩;replace HB:=Aside0.mk (below_step (by exact zk1 HB) hb);(try clear hb);(try clear hb2);(try clear hk);(try clear hi)))
    go_ret2
    exact⟨_,zer,by first|exact Kd.R_nil _ _ _ _ _|exact Kd.N_nil _ _ _ _ _|exact Kd.V_nil _ _ _ _ _|exact Kd.Q_nil _ _ _ _ _|exact Kd.S_nil _ _ _ _ _,by exact zk1 HB⟩
   ·rw [if_neg c8] at H
    have c8b0:decide ((l1.length:Int)≤a2)=false:=decide_eq_false c8
    clear c8
    replace H:=Option.bind_eq_some_iff.mp H
    obtain⟨t721,A100,H⟩:=H
    replace H:(some (t721,true))=some (r1,r2):=H
    have A10:=Aside0.mk A100
    clear A100
    simp only [Option.some.injEq,Prod.mk.injEq] at H
    obtain⟨rfl,rfl⟩:=H
    go_enter Try.func41,Try.ntmps41
    go_wp2_with (first|((with_reducible refine gate_callee (f:=43) rfl ?_);refine goesL_ (some 10) rfl rfl Try.func43 (by kernel_rfl) rfl #[.int .i64 a0,.slice A1 l1.length c1] rfl zq2 ?_;(with_reducible refine(spec_GoodEdges.calls k a0 _ _ l1 true _ ?side1 ?side2 A4.out).mono ?_);(case side1=>exact zcc (HR1.out));(case side2=>exact HC1.out);rintro e w11 ⟨rfl,hb⟩;refine⟨_,rfl,?_⟩;replace HB:=Aside0.mk (below_step (by exact zk1 HB) hb);(try clear hb);(try clear hb2);(try clear hk);(try clear hi))|((with_reducible refine gate_callee (f:=66) rfl ?_);refine goesL_ (some 24) rfl rfl Try.func66 (by kernel_rfl) rfl #[.slice A1 l1.length c1,.int .i64 a2] rfl zq2 ?_;(with_reducible refine(spec_l8Without.calls _ _ l1 a2 t721 _ ?side1 ?side2 A10.out).mono ?_);(case side1=>exact zcc ((Kd.C_below HR1.out HB.out)));(case side2=>exact HC1.out);rintro e w12 ⟨v722,rfl,ho0,hb⟩;refine⟨_,rfl,?_⟩;have HO723:=Aside0.mk (Kd.R_lower ho0 (below_size (by exact zk1 HB)));replace HB:=Aside0.mk (below_step (by exact zk1 HB) hb);(try clear hb);(try clear hb2);(try clear hk);(try clear hi);(try clear ho0)))
    go_ret2
    exact⟨_,zer,zdr HO723,by exact zk1 HB⟩
 ·replace c5:=Bool.eq_false_iff.mpr c5
  subst c5
  have H1:(some (([] :List (S52)),false))=some (r1,r2):=by rw [if_neg (show ¬ (false=true) by decide)] at H;exact H
  clear H
  have H:=H1
  clear H1
  simp only [Option.some.injEq,Prod.mk.injEq] at H
  obtain⟨rfl,rfl⟩:=H
  go_enter Try.func41,Try.ntmps41
  go_wp2_with (first|((with_reducible refine gate_callee (f:=43) rfl ?_);refine goesL_ (some 10) rfl rfl Try.func43 (by kernel_rfl) rfl #[.int .i64 a0,.slice A1 l1.length c1] rfl zq2 ?_;(with_reducible refine(spec_GoodEdges.calls k a0 _ _ l1 false _ ?side1 ?side2 A4.out).mono ?_);(case side1=>exact zcc (HR1.out));(case side2=>exact HC1.out);rintro e w13 ⟨rfl,hb⟩;refine⟨_,rfl,?_⟩;replace HB:=Aside0.mk (below_step (by exact zk1 HB) hb);(try clear hb);(try clear hb2);(try clear hk);(try clear hi)))
  go_ret2
  exact⟨_,zer,by first|exact Kd.R_nil _ _ _ _ _|exact Kd.N_nil _ _ _ _ _|exact Kd.V_nil _ _ _ _ _|exact Kd.Q_nil _ _ _ _ _|exact Kd.S_nil _ _ _ _ _,by exact zk1 HB⟩
def laws_has.l0:Nat→Int→List Int→Int→Int→Option (Bool)
 | 0,_,_,_,_=>none
 |k+1,x1,x7,x8,x9=>if x9<x8 then(if 0≤x9 then(if x9< (x7.length:Int) then(if (rd x7 x9)=x1 then(some true) else(laws_has.l0 k x1 x7 x8 (wrap64 (x9+1)))) else(none)) else(none)) else(some false)
def laws_has.f (k:Nat) (l0:List Int) (a1:Int):Option (Bool):=laws_has.l0 k a1 l0 (l0.length:Int) 0
set_option maxHeartbeats 8000000 in
set_option maxRecDepth 100000 in
theorem laws_has.calls (k:Nat) (A0:Option Addr) (c0:Nat) (l0:List Int) (a1:Int) (r:Bool) (w:World) (hr0:Kd.C (Kd.int .i64) w A0 l0.length l0) (hc0:l0.length≤c0) (h:laws_has.f k l0 a1=some r):
  Calls Try.prog 42 #[.slice A0 l0.length c0,.int .i64 a1] w fun e w'=>e= .returned (.bool r)∧Drawn0 w w':=by
 have HR0:=Aside0.mk hr0
 have HC0:=Aside0.mk hc0
 clear hr0 hc0
 have H:(laws_has.l0 k a1 l0 (l0.length:Int) 0)=some r:=h
 clear h
 have H':=Aside0.mk H
 clear H
 go_enter Try.func42,Try.ntmps42
 go_wp2
 go_loopg [9] k (fun kq v9 w'=> ∃ (x9_1:Int),v9= .int .i64 x9_1∧Aside0 (laws_has.l0 kq a1 l0 (l0.length:Int) x9_1=some r)∧Aside0 (kq≤k)∧Drawn0 w w')
 case atStart=>exact⟨(0),zrs,H',⟨Nat.le_refl _⟩,by repeat(first|exact Drawn0.refl _|apply Drawn0.step)⟩
 case round=>
  clear H'
  try clear p2
  obtain⟨x9_1,rfl,HA,HK1,⟨m1,rfl⟩⟩:=hrel
  cases gk with
  |zero=>exact absurd HA.out (by simp [laws_has.l0])
  |succ k1=>
   have H:=HA.out
   clear HA
   simp only [laws_has.l0] at H
   by_cases c3:x9_1< (l0.length:Int)
   ·rw [if_pos c3] at H
    have c3b0:decide (x9_1< (l0.length:Int))=true:=decide_eq_true c3
    clear c3
    by_cases c4: 0≤x9_1
    case neg=>exact znn c4 H
    rw [if_pos c4] at H
    have c4b0:decide (0≤x9_1)=true:=decide_eq_true c4
    clear c4
    by_cases c5:x9_1< (l0.length:Int)
    case neg=>exact znn c5 H
    rw [if_pos c5] at H
    have c5b0:decide (x9_1< (l0.length:Int))=true:=decide_eq_true c5
    clear c5
    by_cases c6:(rd l0 x9_1)=a1
    ·rw [if_pos c6] at H
     have c6b0:((rd l0 x9_1)==a1)=true:=beq_iff_eq.mpr c6
     have c6b1:((rd l0 x9_1) !=a1)=false:=bne_eq_false_iff_eq.mpr c6
     clear c6
     obtain rfl:=Option.some.inj H
     have p724: 0≤ (x9_1:Int):=of_decide_eq_true zq1
     have q724:x9_1< (l0.length:Int):=of_decide_eq_true zq1
     obtain⟨ad724,e724,hx724_0⟩:=Kd.at_int HR0.out x9_1 p724 q724
     cases e724
     replace p724:=eq_true p724
     replace q724:=eq_true q724
     go_wp2
     go_ret
     exact⟨by first|rfl|(simp;done)|(simp [*];done),by repeat(first|exact Drawn0.refl _|apply Drawn0.step)⟩
    ·rw [if_neg c6] at H
     have c6b0:((rd l0 x9_1)==a1)=false:=beq_eq_false_iff_ne.mpr c6
     have c6b1:((rd l0 x9_1) !=a1)=true:=bne_iff_ne.mpr c6
     have H':=Aside0.mk H
     clear H
     have p724: 0≤ (x9_1:Int):=of_decide_eq_true zq1
     have q724:x9_1< (l0.length:Int):=of_decide_eq_true zq1
     obtain⟨ad724,e724,hx724_0⟩:=Kd.at_int HR0.out x9_1 p724 q724
     cases e724
     replace p724:=eq_true p724
     replace q724:=eq_true q724
     go_wp2
     go_roundg k1
     case measure=>have:=HK1.out;omega
     case rel=>exact⟨(wrap64 (x9_1+1)),zrs,H',⟨by have:=HK1.out;omega⟩,by repeat(first|exact Drawn0.refl _|apply Drawn0.step)⟩
   ·rw [if_neg c3] at H
    have c3b0:decide (x9_1< (l0.length:Int))=false:=decide_eq_false c3
    clear c3
    obtain rfl:=Option.some.inj H
    go_wp2
    go_ret
    exact⟨by first|rfl|(simp;done)|(simp [*];done),by repeat(first|exact Drawn0.refl _|apply Drawn0.step)⟩
end Go.Proofs.Ytpbnpepikkocmaa.P
