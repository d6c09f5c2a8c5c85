/- Functions, walks and plain lemmas that the law FnSpread reaches, part 5. -/
import Derived.Test.YtedegfbheihopaaCFnSpread4
import Derived.Below
import Derived.Deep.Draws
import Derived.Deep.AppendLies
import Derived.Maps.AppendAt
import Derived.OwnWalk
import Derived.Laws.BytesArg
import Derived.Laws.MakeOwn
import Derived.Laws.OwnMore
import Derived.Deep.OwnRows
import Derived.Tactics
import Derived.Lib.ConvBytes
import Derived.Laws.Slices
import Derived.WalkKit
import Derived.KernelRfl
import Derived.RowKit3
import Derived.Deep.LoopGhost
import Derived.Deep.QuietTactic
import Derived.BigQuiet
import Derived.WideLaws
import Derived.Deep.DeepCutAuto
import Derived.Deep.CutBlock
import Derived.Deep.RegionHeld3
import Derived.Laws.Rows
import Derived.Lib.AppendStr
import Derived.ArgAppend
import Derived.Laws.IdiomCopy
import Derived.OrdersHeld
import Derived.Laws.BitsLemmas
import Derived.RowKit
import Derived.WalkSpells
import Derived.Lib.SliceRun
import Derived.Shelf.Abstract
import Derived.Maps.OwnSet
import Derived.Maps.OwnOps
import Derived.ProofKit
import Derived.OpenShut
import Derived.ShutString
import Derived.ChangeOld
import Derived.SizedLaws
namespace Go.Proofs.Ytedegfbheihopaa.P
open Go.RowKit Go.Proofs.YtedegfbheihopaaW.PrintWords Go.Proofs.YtedegfbheihopaaW.PrintLast Go.Proofs.YtedegfbheihopaaW.PrintMore
attribute [local go_sem] max2_int min2_int max_two min_two max_three min_three max_four min_four   -- for this text's walks alone
set_option linter.unusedVariables false
set_option linter.unusedSimpArgs false
def impl_cost.l0:Nat→Int→Int→List (S79)→Int→Int→Option (Int)
 | 0,_,_,_,_,_=>none
 |k+1,x1,x2,x9,x10,x11=>if x11<x10 then(if 0≤x11 then(if x11< (x9.length:Int) then(if ((rd_T79 x9 x11).f0)= (mn x1 x2) then(if ((rd_T79 x9 x11).f1)= (mx x1 x2) then(some ((rd_T79 x9 x11).f2)) else(impl_cost.l0 k x1 x2 x9 x10 (wrap64 (x11+1)))) else(impl_cost.l0 k x1 x2 x9 x10 (wrap64 (x11+1)))) else(none)) else(none)) else(some 0)
def impl_cost.f (k:Nat) (l0:List (S79)) (a1:Int) (a2:Int):Option (Int):=impl_cost.l0 k a1 a2 l0 (l0.length:Int) 0
set_option maxHeartbeats 8000000 in
set_option maxRecDepth 100000 in
theorem impl_cost.calls (k:Nat) (A0:Option Addr) (c0:Nat) (l0:List (S79)) (a1:Int) (a2:Int) (r:Int) (w:World) (hr0:Kd.C k79 w A0 l0.length l0) (hc0:l0.length≤c0) (h:impl_cost.f k l0 a1 a2=some r):
  Calls Try.prog 70 #[.slice A0 l0.length c0,.int .i64 a1,.int .i64 a2] w fun e w'=>e= .returned (.int .i64 r)∧Below w.heap.size w w':=by
 have hu79:=Try.underlying79
 have HR0:=Aside0.mk hr0
 have HC0:=Aside0.mk hc0
 clear hr0 hc0
 have HB:=Aside0.mk (Below.refl w.heap.size w)
 have H:(impl_cost.l0 k a1 a2 l0 (l0.length:Int) 0)=some r:=h
 clear h
 have H':=Aside0.mk H
 clear H
 go_enter Try.func70,Try.ntmps70
 go_wp2
 go_loopg [11] k (fun kq v11 w'=> ∃ (x11_1:Int),v11= .int .i64 x11_1∧Aside0 (impl_cost.l0 kq a1 a2 l0 (l0.length:Int) x11_1=some r)∧Aside0 (kq≤k)∧Aside0 (Below w.heap.size w w'))
 case atStart=>exact⟨(0),(by first|rfl|(simp;done)|(simp [*];done)),H',⟨Nat.le_refl _⟩,⟨by exact zk1 HB⟩⟩
 case round=>
  clear H'
  try clear p2
  obtain⟨x11_1,rfl,HA,HK1,HB⟩:=hrel
  cases gk with
  |zero=>exact absurd HA.out (by simp [impl_cost.l0])
  |succ k1=>
   have H:=HA.out
   clear HA
   simp only [impl_cost.l0] at H
   by_cases c4:x11_1< (l0.length:Int)
   ·rw [if_pos c4] at H
    have c4b0:decide (x11_1< (l0.length:Int))=true:=decide_eq_true c4
    clear c4
    by_cases c5: 0≤x11_1
    case neg=>rw [if_neg c5] at H;exact absurd H (by simp)
    rw [if_pos c5] at H
    have c5b0:decide (0≤x11_1)=true:=decide_eq_true c5
    clear c5
    by_cases c6:x11_1< (l0.length:Int)
    case neg=>rw [if_neg c6] at H;exact absurd H (by simp)
    rw [if_pos c6] at H
    have c6b0:decide (x11_1< (l0.length:Int))=true:=decide_eq_true c6
    clear c6
    obtain⟨ji7,hji7⟩ :∃ j_:Int,(mn a1 a2)=j_:=⟨_,rfl⟩
    replace H:(if ((rd_T79 l0 x11_1).f0)= (ji7) then(if ((rd_T79 l0 x11_1).f1)= (mx a1 a2) then(some ((rd_T79 l0 x11_1).f2)) else(impl_cost.l0 k1 a1 a2 l0 (l0.length:Int) (wrap64 (x11_1+1)))) else(impl_cost.l0 k1 a1 a2 l0 (l0.length:Int) (wrap64 (x11_1+1))))=some r:=by first|(rw [hji7] at H;exact H)|(simp only [hji7] at H ⊢;exact H)
    have hji7_:(if a2<a1 then a2 else a1)=ji7:=hji7
    by_cases c8:((rd_T79 l0 x11_1).f0)= (ji7)
    ·rw [if_pos c8] at H
     have c8b0:(((rd_T79 l0 x11_1).f0)== (ji7))=true:=beq_iff_eq.mpr c8
     have c8b1:(((rd_T79 l0 x11_1).f0) != (ji7))=false:=bne_eq_false_iff_eq.mpr c8
     clear c8
     obtain⟨ji9,hji9⟩ :∃ j_:Int,(mx a1 a2)=j_:=⟨_,rfl⟩
     replace H:(if ((rd_T79 l0 x11_1).f1)= (ji9) then(some ((rd_T79 l0 x11_1).f2)) else(impl_cost.l0 k1 a1 a2 l0 (l0.length:Int) (wrap64 (x11_1+1))))=some r:=by first|(rw [hji9] at H;exact H)|(simp only [hji9] at H ⊢;exact H)
     have hji9_:(if a1<a2 then a2 else a1)=ji9:=hji9
     by_cases c10:((rd_T79 l0 x11_1).f1)= (ji9)
     ·rw [if_pos c10] at H
      have c10b0:(((rd_T79 l0 x11_1).f1)== (ji9))=true:=beq_iff_eq.mpr c10
      have c10b1:(((rd_T79 l0 x11_1).f1) != (ji9))=false:=bne_eq_false_iff_eq.mpr c10
      clear c10
      obtain rfl:=Option.some.inj H
      have p316: 0≤ (x11_1:Int):=of_decide_eq_true zq1
      have q316:x11_1< (l0.length:Int):=of_decide_eq_true zq1
      obtain⟨ad316,e316,hx316_0,hx316_1,hx316_2⟩:=at_T79 HR0.out x11_1 p316 q316
      cases e316
      replace hx316_0:=zhx HB hx316_0
      replace hx316_1:=zhx HB hx316_1
      replace hx316_2:=zhx HB hx316_2
      replace p316:=eq_true p316
      replace q316:=eq_true q316
      go_wp2_with (first|((with_reducible refine gate_dst (N:=8) rfl ?_);(try(refine gate_guard (by rfl) ?_;dsimp only));refine box_event ?hg (N:=8) ?hd (cs:= #[.int .i64 0,.int .i64 0,.int .i64 0]) (t:=79) ?hr ?_;(case hd=>rfl);(case hg=>rfl);(case hr=>first|(go_simp;done)|(go_simp;rfl));intro gb317 hg w11 hbox hb;have BK317:=Aside0.mk (hbox);have GW317:=Aside0.mk ((by rw [hg];exact(below_size (by exact zk1 HB)):w.heap.size≤gb317));have GE317:=Aside0.mk ((by rw [hg];exact(below_size (by exact zk1 HB)):w.heap.size≤gb317));replace HB:=Aside0.mk (below_step (by exact zk1 HB) hb);clear hb hbox hg;have hcz12_0:w11.cell? ⟨gb317,0,none⟩=some (.int .i64 0):=(blk_cell BK317.out 0).trans rfl;have hcz12_1:w11.cell? ⟨gb317,1,none⟩=some (.int .i64 0):=(blk_cell BK317.out 1).trans rfl;have hcz12_2:w11.cell? ⟨gb317,2,none⟩=some (.int .i64 0):=(blk_cell BK317.out 2).trans rfl;have hfz12_0:=blk_frozen BK317.out 0;have hfz12_1:=blk_frozen BK317.out 1;have hfz12_2:=blk_frozen BK317.out 2))
      go_ret
      exact⟨by first|rfl|(simp [errW_none,errW_some]<;>rfl)|(simp only [← hji7,← hji9];first|rfl|(simp [errW_none,errW_some]<;>rfl))|(simp [*,errW_none,errW_some]<;>rfl),by exact zk2 HB GE317.out⟩
     ·rw [if_neg c10] at H
      have c10b0:(((rd_T79 l0 x11_1).f1)== (ji9))=false:=beq_eq_false_iff_ne.mpr c10
      have c10b1:(((rd_T79 l0 x11_1).f1) != (ji9))=true:=bne_iff_ne.mpr c10
      have H':=Aside0.mk H
      clear H
      have p316: 0≤ (x11_1:Int):=of_decide_eq_true zq1
      have q316:x11_1< (l0.length:Int):=of_decide_eq_true zq1
      obtain⟨ad316,e316,hx316_0,hx316_1,hx316_2⟩:=at_T79 HR0.out x11_1 p316 q316
      cases e316
      replace hx316_0:=zhx HB hx316_0
      replace hx316_1:=zhx HB hx316_1
      replace hx316_2:=zhx HB hx316_2
      replace p316:=eq_true p316
      replace q316:=eq_true q316
      go_wp2_with (first|((with_reducible refine gate_dst (N:=8) rfl ?_);(try(refine gate_guard (by rfl) ?_;dsimp only));refine box_event ?hg (N:=8) ?hd (cs:= #[.int .i64 0,.int .i64 0,.int .i64 0]) (t:=79) ?hr ?_;(case hd=>rfl);(case hg=>rfl);(case hr=>first|(go_simp;done)|(go_simp;rfl));intro gb317 hg w13 hbox hb;have BK317:=Aside0.mk (hbox);have GW317:=Aside0.mk ((by rw [hg];exact(below_size (by exact zk1 HB)):w.heap.size≤gb317));have GE317:=Aside0.mk ((by rw [hg];exact(below_size (by exact zk1 HB)):w.heap.size≤gb317));replace HB:=Aside0.mk (below_step (by exact zk1 HB) hb);clear hb hbox hg;have hcz14_0:w13.cell? ⟨gb317,0,none⟩=some (.int .i64 0):=(blk_cell BK317.out 0).trans rfl;have hcz14_1:w13.cell? ⟨gb317,1,none⟩=some (.int .i64 0):=(blk_cell BK317.out 1).trans rfl;have hcz14_2:w13.cell? ⟨gb317,2,none⟩=some (.int .i64 0):=(blk_cell BK317.out 2).trans rfl;have hfz14_0:=blk_frozen BK317.out 0;have hfz14_1:=blk_frozen BK317.out 1;have hfz14_2:=blk_frozen BK317.out 2))
      go_roundg k1
      case measure=>have:=HK1.out;omega
      case rel=>exact⟨(wrap64 (x11_1+1)),(by first|rfl|(simp;done)|(simp [*];done)),H',⟨by have:=HK1.out;omega⟩,⟨by exact zk2 HB GE317.out⟩⟩
    ·rw [if_neg c8] at H
     have c8b0:(((rd_T79 l0 x11_1).f0)== (ji7))=false:=beq_eq_false_iff_ne.mpr c8
     have c8b1:(((rd_T79 l0 x11_1).f0) != (ji7))=true:=bne_iff_ne.mpr c8
     have H':=Aside0.mk H
     clear H
     have p316: 0≤ (x11_1:Int):=of_decide_eq_true zq1
     have q316:x11_1< (l0.length:Int):=of_decide_eq_true zq1
     obtain⟨ad316,e316,hx316_0,hx316_1,hx316_2⟩:=at_T79 HR0.out x11_1 p316 q316
     cases e316
     replace hx316_0:=zhx HB hx316_0
     replace hx316_1:=zhx HB hx316_1
     replace hx316_2:=zhx HB hx316_2
     replace p316:=eq_true p316
     replace q316:=eq_true q316
     go_wp2_with (first|((with_reducible refine gate_dst (N:=8) rfl ?_);(try(refine gate_guard (by rfl) ?_;dsimp only));refine box_event ?hg (N:=8) ?hd (cs:= #[.int .i64 0,.int .i64 0,.int .i64 0]) (t:=79) ?hr ?_;(case hd=>rfl);(case hg=>rfl);(case hr=>first|(go_simp;done)|(go_simp;rfl));intro gb317 hg w15 hbox hb;have BK317:=Aside0.mk (hbox);have GW317:=Aside0.mk ((by rw [hg];exact(below_size (by exact zk1 HB)):w.heap.size≤gb317));have GE317:=Aside0.mk ((by rw [hg];exact(below_size (by exact zk1 HB)):w.heap.size≤gb317));replace HB:=Aside0.mk (below_step (by exact zk1 HB) hb);clear hb hbox hg;have hcz16_0:w15.cell? ⟨gb317,0,none⟩=some (.int .i64 0):=(blk_cell BK317.out 0).trans rfl;have hcz16_1:w15.cell? ⟨gb317,1,none⟩=some (.int .i64 0):=(blk_cell BK317.out 1).trans rfl;have hcz16_2:w15.cell? ⟨gb317,2,none⟩=some (.int .i64 0):=(blk_cell BK317.out 2).trans rfl;have hfz16_0:=blk_frozen BK317.out 0;have hfz16_1:=blk_frozen BK317.out 1;have hfz16_2:=blk_frozen BK317.out 2))
     go_roundg k1
     case measure=>have:=HK1.out;omega
     case rel=>exact⟨(wrap64 (x11_1+1)),(by first|rfl|(simp;done)|(simp [*];done)),H',⟨by have:=HK1.out;omega⟩,⟨by exact zk2 HB GE317.out⟩⟩
   ·rw [if_neg c4] at H
    have c4b0:decide (x11_1< (l0.length:Int))=false:=decide_eq_false c4
    clear c4
    obtain rfl:=Option.some.inj H
    go_wp2
    go_ret
    exact⟨by first|rfl|(simp [errW_none,errW_some]<;>rfl)|(simp [*,errW_none,errW_some]<;>rfl),by exact zk1 HB⟩
def impl_relaxed.l0:Nat→List Int→List Int→List (S79)→Int→Int→Option (List Int)
 | 0,_,_,_,_,_=>none
 |k+1,x1,x5,x11,x12,x13=>if x13<x12 then(if 0≤x13 then(if x13< (x11.length:Int) then(if 0≤ ((rd_T79 x11 x13).f0) then(if ((rd_T79 x11 x13).f0)< (x5.length:Int) then(if 0≤ ((rd_T79 x11 x13).f1) then(if ((rd_T79 x11 x13).f1)< (x1.length:Int) then((some (x5.set (((rd_T79 x11 x13).f0):Int).toNat (mn (rd x5 ((rd_T79 x11 x13).f0)) (wrap64 ((rd x1 ((rd_T79 x11 x13).f1))+ ((rd_T79 x11 x13).f2)))):List Int)).bind fun y540=>(if ((rd_T79 x11 x13).f1)< (x5.length:Int) then(if ((rd_T79 x11 x13).f0)< (x1.length:Int) then(impl_relaxed.l0 k x1 (y540.set (((rd_T79 x11 x13).f1):Int).toNat (mn (rd y540 ((rd_T79 x11 x13).f1)) (wrap64 ((rd x1 ((rd_T79 x11 x13).f0))+ ((rd_T79 x11 x13).f2))))) x11 x12 (wrap64 (x13+1))) else(none)) else(none))) else(none)) else(none)) else(none)) else(none)) else(none)) else(none)) else(some x5)
def impl_relaxed.f (k:Nat) (l0:List (S79)) (l1:List Int):Option (List Int):=(some (([] :List Int):List Int)).bind fun y530=>(if y530.length+l1.length< 17592186044416 then(impl_relaxed.l0 k l1 (y530++l1) l0 (l0.length:Int) 0) else(none))
def impl_relaxed.T5:Bool × List (List Nat × List Nat):=(true,[([],[]),([],[]),([1],[1]),([],[]),([],[]),([4],[4]),([3,5],[3,5]),([6],[6]),([],[]),([],[]),([9],[9]),([8,10],[8,10]),([11],[11]),([],[]),([13],[13]),([12,14],[12,14]),([7,15],[7,15]),([0,2,0,1,2,3,4,5,6,7,8,9,10,11,12,13,14,15,16],[0,2]),([17,16,0,1,2,3,4,5,6,7,8,9,10,11,12,13,14,15,16],[16,17])])
def impl_relaxed.B5:List Nat:= [0,0,2,0,0,16,56,120,0,0,512,1792,3840,0,8192,32512,65528,131071,262143]
theorem impl_relaxed.tab5:rtab .any (opsOf Try.f102 5)=impl_relaxed.T5:=by kernel_rfl
theorem impl_relaxed.bits5:waitsOk impl_relaxed.T5.2 impl_relaxed.B5=true:=by kernel_rfl
def impl_relaxed.T6:Bool × List (List Nat × List Nat):=(true,[([],[]),([],[]),([1],[1]),([],[]),([],[]),([4],[4]),([3,5],[3,5]),([6],[6]),([],[]),([],[]),([9],[9]),([8,10],[8,10]),([11],[11]),([],[]),([13],[13]),([12,14],[12,14]),([7,15],[7,15]),([0,2,0,1,2,3,4,5,6,7,8,9,10,11,12,13,14,15,16],[0,2]),([17,16,0,1,2,3,4,5,6,7,8,9,10,11,12,13,14,15,16],[16,17])])
def impl_relaxed.B6:List Nat:= [0,0,2,0,0,16,56,120,0,0,512,1792,3840,0,8192,32512,65528,131071,262143]
theorem impl_relaxed.tab6:rtab .any (opsOf Try.f102 6)=impl_relaxed.T6:=by kernel_rfl
theorem impl_relaxed.bits6:waitsOk impl_relaxed.T6.2 impl_relaxed.B6=true:=by kernel_rfl
set_option maxHeartbeats 8000000 in
set_option maxRecDepth 100000 in
theorem impl_relaxed.calls (k:Nat) (A0:Option Addr) (c0:Nat) (l0:List (S79)) (A1:Option Addr) (c1:Nat) (l1:List Int) (r:List Int) (w:World) (hr0:Kd.C k79 w A0 l0.length l0) (hc0:l0.length≤c0) (hr1:Kd.C (Kd.int .i64) w A1 l1.length l1) (hc1:l1.length≤c1) (h:impl_relaxed.f k l0 l1=some r):
  Calls Try.prog 102 #[.slice A0 l0.length c0,.slice A1 l1.length c1] w fun e w'=> ∃ v0_:Value,e= .returned (v0_)∧Kd.R (Kd.int .i64) 3 w' w.heap.size (fun _=>True) v0_ r∧Below w.heap.size w w':=by
 have hu79:=Try.underlying79
 have HR0:=Aside0.mk hr0
 have HC0:=Aside0.mk hc0
 clear hr0 hc0
 have HR1:=Aside0.mk hr1
 have HC1:=Aside0.mk hc1
 clear hr1 hc1
 have HB:=Aside0.mk (Below.refl w.heap.size w)
 have H:((some (([] :List Int):List Int)).bind fun y530=>(if y530.length+l1.length< 17592186044416 then(impl_relaxed.l0 k l1 (y530++l1) l0 (l0.length:Int) 0) else(none)))=some r:=h
 clear h
 obtain⟨y530,hy530⟩ :∃ y_:List Int,y_= (([] :List Int)):=⟨_,rfl⟩
 replace H:(if y530.length+l1.length< 17592186044416 then(impl_relaxed.l0 k l1 (y530++l1) l0 (l0.length:Int) 0) else(none))=some r:=zfh hy530 H
 have Ny530:=Aside0.mk hy530
 clear hy530
 by_cases c3:y530.length+l1.length< 17592186044416
 case neg=>rw [if_neg c3] at H;exact absurd H (by simp)
 rw [if_pos c3] at H
 have LMc3:=Aside0.mk c3
 clear c3
 obtain⟨y533,hy533⟩ :∃ y_:List Int,y_= (y530++l1):=⟨_,rfl⟩
 replace H:(impl_relaxed.l0 k l1 y533 l0 (l0.length:Int) 0)=some r:=zfh hy533 H
 have Ny533:=Aside0.mk hy533
 clear hy533
 have H':=Aside0.mk H
 clear H
 go_enter Try.func102,Try.ntmps102
 go_wp2_with (first|((with_reducible refine gate_dst (N:=8) rfl ?_);refine Kd.R_lit (Kd.int .i64) _ 3 ?hg (N:=8) ?hd (xs:=([] :List Int)) (inner:= []) (ok:=fun _=>True) (okp:=fun _=>True) ?hr ?hp (fun _ hk=>hk) trivial (Below.refl _ _) (Nat.le_refl _) (by simp) ?_;(case hd=>rfl);(case hg=>rfl);(case hr=>first|(go_simp;done)|(go_simp;rfl));(case hp=>exact(Reps.none _ _));intro v531 w4 ho5 hb hg_ hnew_;clear hg_ hnew_;(first|rw [← Ny530.out] at ho5|(simp only [Int.reduceToNat] at ho5;rw [← Ny530.out] at ho5));have HO532:=Aside0.mk (Kd.R_lower ho5 (below_size (by exact zk1 HB)));replace HB:=Aside0.mk (below_step (by exact zk1 HB) hb);clear hb ho5)|((with_reducible refine gate_builtin (b:= .append) (xs:= #[.tmp 8,.tmp 9]) rfl ?_);at_builtin;refine Kd.R_append_rows (Kd.int .i64) (w0:=w) w.heap.size rfl (.tmp 8) (.tmp 9) 22 3 (.int .i64 0) 8 rfl Try.underlying22 info3 rfl (by decide) (by omega) v531 y530 l1 _ _ _ (fun _=>True) (fun _=>False) rfl rfl ?aO ?aR (fun _ _ h=>h) (fun _ h=>h.elim) ?aF ?aB ?aS ?aL ?_;(case aR=>exact zcc ((Kd.C_below HR1.out HB.out)));(case aB=>exact(by exact zk1 HB));(case aF=>exact(fun _ _=>trivial));(case aO=>exact(zq4 HO532));(case aS=>exact(below_size (by exact zk1 HB)));(case aL=>have:=LMc3.out;omega);intro v534 w6 ho hb hg hat;rw [← Ny533.out] at ho;have HO535:=Aside0.mk (ho);replace HB:=Aside0.mk (hb);clear HO532;clear ho hb hg hat))
 go_loopg [13] k (fun kq v13 w'=> ∃ (x5_1:List Int) (x13_1:Int),v13= .int .i64 x13_1∧Aside0 (impl_relaxed.l0 kq l1 x5_1 l0 (l0.length:Int) x13_1=some r)∧Aside0 (kq≤k)∧Aside0 (Kd.R (Kd.int .i64) 3 w' w.heap.size (fun _=>True) v534 x5_1)∧Aside0 (Below w.heap.size w w'))
 case atStart=>exact⟨(y533),(0),(by first|rfl|(simp;done)|(simp [*];done)),H',⟨Nat.le_refl _⟩,⟨by(with_reducible repeat(first|apply Kd.R_alloc|apply Kd.R_drewN|apply Kd.R_drew));exact HO535.out⟩,⟨by exact zk1 HB⟩⟩
 case round=>
  clear H'
  try clear c1
  try clear p2
  try clear c3
  obtain⟨x5_1,x13_1,rfl,HA,HK1,HO_5,HB⟩:=hrel
  cases gk with
  |zero=>exact absurd HA.out (by simp [impl_relaxed.l0])
  |succ k1=>
   have H:=HA.out
   clear HA
   simp only [impl_relaxed.l0] at H
   by_cases c7:x13_1< (l0.length:Int)
   ·rw [if_pos c7] at H
    have c7b0:decide (x13_1< (l0.length:Int))=true:=decide_eq_true c7
    clear c7
    by_cases c8: 0≤x13_1
    case neg=>rw [if_neg c8] at H;exact absurd H (by simp)
    rw [if_pos c8] at H
    have c8b0:decide (0≤x13_1)=true:=decide_eq_true c8
    clear c8
    by_cases c9:x13_1< (l0.length:Int)
    case neg=>rw [if_neg c9] at H;exact absurd H (by simp)
    rw [if_pos c9] at H
    have c9b0:decide (x13_1< (l0.length:Int))=true:=decide_eq_true c9
    clear c9
    by_cases c10: 0≤ ((rd_T79 l0 x13_1).f0)
    case neg=>rw [if_neg c10] at H;exact absurd H (by simp)
    rw [if_pos c10] at H
    have c10b0:decide (0≤ ((rd_T79 l0 x13_1).f0))=true:=decide_eq_true c10
    clear c10
    by_cases c11:((rd_T79 l0 x13_1).f0)< (x5_1.length:Int)
    case neg=>rw [if_neg c11] at H;exact absurd H (by simp)
    rw [if_pos c11] at H
    have c11b0:decide (((rd_T79 l0 x13_1).f0)< (x5_1.length:Int))=true:=decide_eq_true c11
    clear c11
    by_cases c12: 0≤ ((rd_T79 l0 x13_1).f1)
    case neg=>rw [if_neg c12] at H;exact absurd H (by simp)
    rw [if_pos c12] at H
    have c12b0:decide (0≤ ((rd_T79 l0 x13_1).f1))=true:=decide_eq_true c12
    clear c12
    by_cases c13:((rd_T79 l0 x13_1).f1)< (l1.length:Int)
    case neg=>rw [if_neg c13] at H;exact absurd H (by simp)
    rw [if_pos c13] at H
    have c13b0:decide (((rd_T79 l0 x13_1).f1)< (l1.length:Int))=true:=decide_eq_true c13
    clear c13
    obtain⟨ji14,hji14⟩ :∃ j_:Int,(mn (rd x5_1 ((rd_T79 l0 x13_1).f0)) (wrap64 ((rd l1 ((rd_T79 l0 x13_1).f1))+ ((rd_T79 l0 x13_1).f2))))=j_:=⟨_,rfl⟩
    replace H:((some (x5_1.set (((rd_T79 l0 x13_1).f0):Int).toNat (ji14):List Int)).bind fun y540=>(if ((rd_T79 l0 x13_1).f1)< (x5_1.length:Int) then(if ((rd_T79 l0 x13_1).f0)< (l1.length:Int) then(impl_relaxed.l0 k1 l1 (y540.set (((rd_T79 l0 x13_1).f1):Int).toNat (mn (rd y540 ((rd_T79 l0 x13_1).f1)) (wrap64 ((rd l1 ((rd_T79 l0 x13_1).f0))+ ((rd_T79 l0 x13_1).f2))))) l0 (l0.length:Int) (wrap64 (x13_1+1))) else(none)) else(none)))=some r:=by first|(rw [hji14] at H;exact H)|(simp only [hji14] at H ⊢;exact H)
    have hji14_:(if (wrap64 ((rd l1 ((rd_T79 l0 x13_1).f1))+ ((rd_T79 l0 x13_1).f2)))< (rd x5_1 ((rd_T79 l0 x13_1).f0)) then(wrap64 ((rd l1 ((rd_T79 l0 x13_1).f1))+ ((rd_T79 l0 x13_1).f2))) else(rd x5_1 ((rd_T79 l0 x13_1).f0)))=ji14:=hji14
    obtain⟨y540,hy540⟩ :∃ y_:List Int,y_= (x5_1.set (((rd_T79 l0 x13_1).f0):Int).toNat (ji14)):=⟨_,rfl⟩
    replace H:(if ((rd_T79 l0 x13_1).f1)< (x5_1.length:Int) then(if ((rd_T79 l0 x13_1).f0)< (l1.length:Int) then(impl_relaxed.l0 k1 l1 (y540.set (((rd_T79 l0 x13_1).f1):Int).toNat (mn (rd y540 ((rd_T79 l0 x13_1).f1)) (wrap64 ((rd l1 ((rd_T79 l0 x13_1).f0))+ ((rd_T79 l0 x13_1).f2))))) l0 (l0.length:Int) (wrap64 (x13_1+1))) else(none)) else(none))=some r:=zfh hy540 H
    have Ny540:=Aside0.mk hy540
    clear hy540
    by_cases c16:((rd_T79 l0 x13_1).f1)< (x5_1.length:Int)
    case neg=>rw [if_neg c16] at H;exact absurd H (by simp)
    rw [if_pos c16] at H
    have c16b0:decide (((rd_T79 l0 x13_1).f1)< (x5_1.length:Int))=true:=decide_eq_true c16
    clear c16
    by_cases c17:((rd_T79 l0 x13_1).f0)< (l1.length:Int)
    case neg=>rw [if_neg c17] at H;exact absurd H (by simp)
    rw [if_pos c17] at H
    have c17b0:decide (((rd_T79 l0 x13_1).f0)< (l1.length:Int))=true:=decide_eq_true c17
    clear c17
    obtain⟨ji18,hji18⟩ :∃ j_:Int,(mn (rd y540 ((rd_T79 l0 x13_1).f1)) (wrap64 ((rd l1 ((rd_T79 l0 x13_1).f0))+ ((rd_T79 l0 x13_1).f2))))=j_:=⟨_,rfl⟩
    replace H:(impl_relaxed.l0 k1 l1 (y540.set (((rd_T79 l0 x13_1).f1):Int).toNat (ji18)) l0 (l0.length:Int) (wrap64 (x13_1+1)))=some r:=by first|(rw [hji18] at H;exact H)|(simp only [hji18] at H ⊢;exact H)
    have hji18_:(if (wrap64 ((rd l1 ((rd_T79 l0 x13_1).f0))+ ((rd_T79 l0 x13_1).f2)))< (rd y540 ((rd_T79 l0 x13_1).f1)) then(wrap64 ((rd l1 ((rd_T79 l0 x13_1).f0))+ ((rd_T79 l0 x13_1).f2))) else(rd y540 ((rd_T79 l0 x13_1).f1)))=ji18:=hji18
    obtain⟨y543,hy543⟩ :∃ y_:List Int,y_= (y540.set (((rd_T79 l0 x13_1).f1):Int).toNat (ji18)):=⟨_,rfl⟩
    replace H:(impl_relaxed.l0 k1 l1 y543 l0 (l0.length:Int) (wrap64 (x13_1+1)))=some r:=zfh hy543 H
    have Ny543:=Aside0.mk hy543
    clear hy543
    have H':=Aside0.mk H
    clear H
    have p536: 0≤ (x13_1:Int):=of_decide_eq_true zq1
    have q536:x13_1< (l0.length:Int):=of_decide_eq_true zq1
    obtain⟨ad536,e536,hx536_0,hx536_1,hx536_2⟩:=at_T79 HR0.out x13_1 p536 q536
    cases e536
    replace hx536_0:=zhx HB hx536_0
    replace hx536_1:=zhx HB hx536_1
    replace hx536_2:=zhx HB hx536_2
    replace p536:=eq_true p536
    replace q536:=eq_true q536
    try go_wp2_with (first|((with_reducible refine gate_dst (N:=7) rfl ?_);refine box_event ?hg (N:=7) ?hd (cs:= #[.int .i64 0,.int .i64 0,.int .i64 0]) (t:=79) ?hr ?_;(case hd=>rfl);(case hg=>rfl);(case hr=>first|(go_simp;done)|(go_simp;rfl));intro gb537 hg w20 hbox hb;have BK537:=Aside0.mk (hbox);have GW537:=Aside0.mk ((by rw [hg];exact(below_size (by exact zk1 HB)):w.heap.size≤gb537));have GE537:=Aside0.mk ((by rw [hg];exact(below_size (by exact zk1 HB)):w.heap.size≤gb537));replace HO_5:=Aside0.mk (Kd.R_below (zq4 HO_5) hb);replace HB:=Aside0.mk (below_step (by exact zk1 HB) hb);clear hb hbox hg;have hcz21_0:w20.cell? ⟨gb537,0,none⟩=some (.int .i64 0):=(blk_cell BK537.out 0).trans rfl;have hcz21_1:w20.cell? ⟨gb537,1,none⟩=some (.int .i64 0):=(blk_cell BK537.out 1).trans rfl;have hcz21_2:w20.cell? ⟨gb537,2,none⟩=some (.int .i64 0):=(blk_cell BK537.out 2).trans rfl;have hfz21_0:=blk_frozen BK537.out 0;have hfz21_1:=blk_frozen BK537.out 1;have hfz21_2:=blk_frozen BK537.out 2))
    have n0_:Aside0 (Kd.R (Kd.int .i64) 3 (((w20.setCell ⟨gb537,0,none⟩ (.int .i64 ((rd_T79 l0 x13_1).f0))).setCell ⟨gb537,1,none⟩ (.int .i64 ((rd_T79 l0 x13_1).f1))).setCell ⟨gb537,2,none⟩ (.int .i64 ((rd_T79 l0 x13_1).f2))) w.heap.size (fun _=>True) v534 x5_1):=⟨by(with_reducible repeat(first|apply Kd.R_alloc|apply Kd.R_drewN|apply Kd.R_drew));exact Kd.R_mono (Kd.R_far (p:=⟨gb537,2,none⟩) (Kd.R_far (p:=⟨gb537,1,none⟩) (Kd.R_far (p:=⟨gb537,0,none⟩) (Kd.R_types HO_5.out BK537.out (by decide)) (fun _ hk=>hk.2) (.int .i64 ((rd_T79 l0 x13_1).f0))) (fun _ hk=>hk.2) (.int .i64 ((rd_T79 l0 x13_1).f1))) (fun _ hk=>hk.2) (.int .i64 ((rd_T79 l0 x13_1).f2))) (fun _ hk=>trivial)⟩
    have n1_:Aside0 ((((w20.setCell ⟨gb537,0,none⟩ (.int .i64 ((rd_T79 l0 x13_1).f0))).setCell ⟨gb537,1,none⟩ (.int .i64 ((rd_T79 l0 x13_1).f1))).setCell ⟨gb537,2,none⟩ (.int .i64 ((rd_T79 l0 x13_1).f2))).heap[gb537]?=some (.cells #[.int .i64 ((rd_T79 l0 x13_1).f0),.int .i64 ((rd_T79 l0 x13_1).f1),.int .i64 ((rd_T79 l0 x13_1).f2)] 79 (0,0))):=⟨by(with_reducible repeat(first|refine blk_drewN ?_ _|refine blk_drew ?_ |refine blk_alloc ?_ _));refine blk_put (cs:= #[.int .i64 ((rd_T79 l0 x13_1).f0),.int .i64 ((rd_T79 l0 x13_1).f1),.int .i64 0]) ?_ 2 _ rfl;(with_reducible repeat(first|refine blk_drewN ?_ _|refine blk_drew ?_ |refine blk_alloc ?_ _));refine blk_put (cs:= #[.int .i64 ((rd_T79 l0 x13_1).f0),.int .i64 0,.int .i64 0]) ?_ 1 _ rfl;(with_reducible repeat(first|refine blk_drewN ?_ _|refine blk_drew ?_ |refine blk_alloc ?_ _));refine blk_put (cs:= #[.int .i64 0,.int .i64 0,.int .i64 0]) ?_ 0 _ rfl;(with_reducible repeat(first|refine blk_drewN ?_ _|refine blk_drew ?_ |refine blk_alloc ?_ _));exact BK537.out⟩
    have n2_:Aside0 (Below w.heap.size w (((w20.setCell ⟨gb537,0,none⟩ (.int .i64 ((rd_T79 l0 x13_1).f0))).setCell ⟨gb537,1,none⟩ (.int .i64 ((rd_T79 l0 x13_1).f1))).setCell ⟨gb537,2,none⟩ (.int .i64 ((rd_T79 l0 x13_1).f2)))):=⟨by exact zk2 HB GE537.out⟩
    (try clear HO_5)
    (try clear BK537)
    (try clear HB)
    (try simp only [show ∀ (W_:World) (n_:Nat) (a_:Addr) (v_:Value),(World.drewN W_ n_).setCell a_ v_= (World.setCell W_ a_ v_).drewN n_ from fun _ _ _ _=>rfl])
    generalize (((w20.setCell ⟨gb537,0,none⟩ (.int .i64 ((rd_T79 l0 x13_1).f0))).setCell ⟨gb537,1,none⟩ (.int .i64 ((rd_T79 l0 x13_1).f1))).setCell ⟨gb537,2,none⟩ (.int .i64 ((rd_T79 l0 x13_1).f2)))=w22 at n0_ n1_ n2_ ⊢
    have HO_5:=n0_
    have BK537:=n1_
    have HB:=n2_
    clear n0_ n1_ n2_
    replace HO_5:=Aside0.mk (Kd.R_drew HO_5.out)
    replace BK537:=Aside0.mk (blk_drew BK537.out)
    replace HB:=Aside0.mk (below_drew1 HB.out)
    obtain⟨Ao24,co24,eo24⟩:=Kd.R_slice HO_5.out
    (first|subst eo24|(injection eo24 with f1_ f2_ f3_;have f4_:=f1_.symm;have f5_:=f3_.symm;clear f1_ f2_ f3_;subst f4_;subst f5_))
    have p538: 0≤ (((rd_T79 l0 x13_1).f0):Int):=of_decide_eq_true zq1
    have q538:((rd_T79 l0 x13_1).f0)< (x5_1.length:Int):=of_decide_eq_true zq1
    obtain⟨ad538,e538,hx538_0⟩:=Kd.at_int (Kd.R_reads' HO_5.out).2.2 ((rd_T79 l0 x13_1).f0) p538 q538
    cases e538
    replace p538:=eq_true p538
    replace q538:=eq_true q538
    have p539: 0≤ (((rd_T79 l0 x13_1).f1):Int):=of_decide_eq_true zq1
    have q539:((rd_T79 l0 x13_1).f1)< (l1.length:Int):=of_decide_eq_true zq1
    obtain⟨ad539,e539,hx539_0⟩:=Kd.at_int HR1.out ((rd_T79 l0 x13_1).f1) p539 q539
    have hw539_0:=hx539_0
    cases e539
    replace hx539_0:=zhx HB hx539_0
    replace p539:=eq_true p539
    replace q539:=eq_true q539
    have p15: 0≤ (((rd_T79 l0 x13_1).f0):Int):=of_decide_eq_true zq1
    have q15:(((rd_T79 l0 x13_1).f0):Int)< ((x5_1.length:Int):Int):=of_decide_eq_true zq1
    obtain⟨go15,co15,eo15,gb15,gl15,cl15,HG15⟩:=Kd.R_form HO_5.out (by omega)
    (first|cases eo15|(injection eo15 with ea_ en_ ec_;(first|subst ea_|(injection ea_ with ea_;subst ea_));subst ec_;clear en_))
    have GB15:=Aside0.mk gb15
    have GG15:=Aside0.mk HG15
    clear gb15 gl15 HG15
    (first|simp only [add_plain] at hx538_0|skip)
    obtain⟨hx15_0,hf15_0⟩:=Kd.R_celln 0 HO_5.out (((rd_T79 l0 x13_1).f0):Int) p15 q15
    replace p15:=eq_true p15
    replace q15:=eq_true q15
    have HP25:=Kd.R_putn HO_5.out (((rd_T79 l0 x13_1).f0):Int) ji14
    rw [← Ny540.out] at HP25
    have HQ25:=Aside0.mk HP25
    clear HP25
    refine start_ (n:=19) (S:=fun w'=>w'.cell? ⟨gb537,0,none⟩=some (.int .i64 ((rd_T79 l0 x13_1).f0))∧w'.cell? ⟨gb537,1,none⟩=some (.int .i64 ((rd_T79 l0 x13_1).f1))∧w'.cell? ⟨gb537,2,none⟩=some (.int .i64 ((rd_T79 l0 x13_1).f2))∧w'.cell? ⟨go15,(((rd_T79 l0 x13_1).f0)).toNat,none⟩=some (.int .i64 (rd x5_1 ((rd_T79 l0 x13_1).f0)))∧w'.cell? (ad539.add (((rd_T79 l0 x13_1).f1)).toNat)=some (.int .i64 (rd l1 ((rd_T79 l0 x13_1).f1)))) (ds:= [18]) (mb' 19 0) (by kernel_rfl) rfl rfl ⟨(blk_cell BK537.out 0).trans rfl,(blk_cell BK537.out 1).trans rfl,(blk_cell BK537.out 2).trans rfl,hx538_0,((zhx HB hw539_0).trans rfl)⟩ (fun hHeld=>?_);refine with_tabW impl_relaxed.tab5 impl_relaxed.bits5 (fun HT_ HW_=>?_)
    generalize w22.drew=w23 at HO_5 BK537 HB GG15 HQ25 hf15_0 hx15_0 hx538_0 hx539_0 hHeld ⊢
    refine zp1 HT_ (v:=?_) (a':=?_) 0 17 (mb' 19 1) rfl ?_ ?_ ?_;rotate_left;exact zr1;rotate_left;exact zpa
    refine zp1 HT_ (v:=?_) (a':=?_) 1 18 (mb' 19 3) rfl ?_ ?_ ?_;rotate_left;exact zr1;rotate_left;exact zpa
    refine zp1 HT_ (v:=?_) (a':=?_) 3 20 (mb' 19 11) rfl ?_ ?_ ?_;rotate_left;exact zr1;rotate_left;exact zpa
    refine zp1 HT_ (v:=?_) (a':=?_) 4 21 (mb' 19 27) rfl ?_ ?_ ?_;rotate_left;exact zr1;rotate_left;exact zpa
    refine zp1 HT_ (v:=?_) (a':=?_) 8 25 (mb' 19 283) rfl ?_ ?_ ?_;rotate_left;exact zr1;rotate_left;exact zpa
    refine zp1 HT_ (v:=?_) (a':=?_) 9 26 (mb' 19 795) rfl ?_ ?_ ?_;rotate_left;exact zr1;rotate_left;exact zpa
    refine zp1 HT_ (v:=?_) (a':=?_) 13 30 (mb' 19 8987) rfl ?_ ?_ ?_;rotate_left;exact zr1;rotate_left;exact zpa
    refine zt1 HT_ HW_ (v:=?_) (a':=?_) 2 19 (mb' 19 8991) rfl ?_ hHeld ?_ ?_;rotate_left;(rintro w' ⟨s0,s1,s2,s3,s4⟩;go_simp;with_reducible rfl);rotate_left;exact zpa
    refine zt1 HT_ HW_ (v:=?_) (a':=?_) 5 22 (mb' 19 9023) rfl ?_ hHeld ?_ ?_;rotate_left;(rintro w' ⟨s0,s1,s2,s3,s4⟩;go_simp;with_reducible rfl);rotate_left;exact zpa
    refine zp1 HT_ (v:=?_) (a':=?_) 6 23 (mb' 19 9087) rfl ?_ ?_ ?_;rotate_left;exact zr1;rotate_left;exact zpa
    refine zt1 HT_ HW_ (v:=?_) (a':=?_) 7 24 (mb' 19 9215) rfl ?_ hHeld ?_ ?_;rotate_left;(rintro w' ⟨s0,s1,s2,s3,s4⟩;go_simp;with_reducible rfl);rotate_left;exact zpa
    refine zt1 HT_ HW_ (v:=?_) (a':=?_) 10 27 (mb' 19 10239) rfl ?_ hHeld ?_ ?_;rotate_left;(rintro w' ⟨s0,s1,s2,s3,s4⟩;go_simp;with_reducible rfl);rotate_left;exact zpa
    refine zp1 HT_ (v:=?_) (a':=?_) 11 28 (mb' 19 12287) rfl ?_ ?_ ?_;rotate_left;exact zr1;rotate_left;exact zpa
    refine zt1 HT_ HW_ (v:=?_) (a':=?_) 12 29 (mb' 19 16383) rfl ?_ hHeld ?_ ?_;rotate_left;(rintro w' ⟨s0,s1,s2,s3,s4⟩;go_simp;with_reducible rfl);rotate_left;exact zpa
    refine zt1 HT_ HW_ (v:=?_) (a':=?_) 14 31 (mb' 19 32767) rfl ?_ hHeld ?_ ?_;rotate_left;(rintro w' ⟨s0,s1,s2,s3,s4⟩;go_simp;with_reducible rfl);rotate_left;exact zpa
    refine zp1 HT_ (v:=?_) (a':=?_) 15 32 (mb' 19 65535) rfl ?_ ?_ ?_;rotate_left;exact zr1;rotate_left;exact zpa
    refine zp1 HT_ (v:=?_) (a':=?_) 16 33 (mb' 19 131071) rfl ?_ ?_ ?_;rotate_left;exact zr1;rotate_left;exact zpa
    refine zp1 HT_ (v:=?_) (a':=?_) 17 34 (mb' 19 262143) rfl ?_ ?_ ?_;rotate_left;exact zr1;rotate_left;exact zpa
    refine last_ (i:=18) (N:=none) (mb' 19 524287) rfl rfl (one_of HT_.out (by kernel_rfl)) (by decide) (fun K hK=>?_)
    refine skip_ (w1:=?_) (by rfl) rfl ?_ ?_
    rotate_left
    ·go_simp
     rfl
    refine hK.out _ _ ?_
    clear hK K
    refine done_ (done_of HT_.out (by kernel_rfl)) ?_
    try go_wp2
    have n0_:Aside0 (Kd.R (Kd.int .i64) 3 (w23.setCell ⟨go15,(((rd_T79 l0 x13_1).f0):Int).toNat,none⟩ (.int .i64 ji14)) w.heap.size (fun _=>True) (.slice (some ⟨go15,0,none⟩) x5_1.length co24) y540):=⟨by(with_reducible repeat(first|apply Kd.R_alloc|apply Kd.R_drewN|apply Kd.R_drew));exact HQ25.out⟩
    have n1_:Aside0 ((w23.setCell ⟨go15,(((rd_T79 l0 x13_1).f0):Int).toNat,none⟩ (.int .i64 ji14)).heap[gb537]?=some (.cells #[.int .i64 ((rd_T79 l0 x13_1).f0),.int .i64 ((rd_T79 l0 x13_1).f1),.int .i64 ((rd_T79 l0 x13_1).f2)] 79 (0,0))):=⟨by(with_reducible repeat(first|refine blk_drewN ?_ _|refine blk_drew ?_ |refine blk_alloc ?_ _));refine blk_far ?_ (by have h_:=Kd.R_ne HO_5.out BK537.out (by decide);intro e_;exact h_ (by rw [e_];rfl)) _;(with_reducible repeat(first|refine blk_drewN ?_ _|refine blk_drew ?_ |refine blk_alloc ?_ _));exact BK537.out⟩
    have n2_:Aside0 (Below w.heap.size w (w23.setCell ⟨go15,(((rd_T79 l0 x13_1).f0):Int).toNat,none⟩ (.int .i64 ji14))):=⟨by exact zk4 HB GB15.out GE537.out⟩
    (try clear HO_5)
    (try clear BK537)
    (try clear HB)
    (try simp only [show ∀ (W_:World) (n_:Nat) (a_:Addr) (v_:Value),(World.drewN W_ n_).setCell a_ v_= (World.setCell W_ a_ v_).drewN n_ from fun _ _ _ _=>rfl])
    generalize (w23.setCell ⟨go15,(((rd_T79 l0 x13_1).f0):Int).toNat,none⟩ (.int .i64 ji14))=w26 at n0_ n1_ n2_ ⊢
    have HO_5:=n0_
    have BK537:=n1_
    have HB:=n2_
    clear n0_ n1_ n2_
    replace HO_5:=Aside0.mk (Kd.R_drew HO_5.out)
    replace BK537:=Aside0.mk (blk_drew BK537.out)
    replace HB:=Aside0.mk (below_drew1 HB.out)
    have p541: 0≤ (((rd_T79 l0 x13_1).f1):Int):=of_decide_eq_true zq1
    have q541:((rd_T79 l0 x13_1).f1)< (y540.length:Int):=(by have h_:(((rd_T79 l0 x13_1).f1):Int)< ((x5_1.length:Int):Int):=of_decide_eq_true zq1;first|(have e_:=(Kd.R_reads' HO_5.out).1;omega)|simpa only [Ny540.out,List.length_set] using h_)
    have ql541:((((rd_T79 l0 x13_1).f1):Int)< ((x5_1.length:Int):Int))=True:=eq_true (of_decide_eq_true zq1)
    obtain⟨ad541,e541,hx541_0⟩:=Kd.at_int (Kd.R_reads' HO_5.out).2.2 ((rd_T79 l0 x13_1).f1) p541 q541
    obtain rfl:(⟨go15,0,none⟩ :Addr)=ad541:=(by injection e541)
    (first|simp only [add_plain] at hx541_0|simp only [add_at] at hx541_0|simp only [Addr.add,Nat.zero_add] at hx541_0|skip)
    replace p541:=eq_true p541
    replace q541:=eq_true q541
    have p542: 0≤ (((rd_T79 l0 x13_1).f0):Int):=of_decide_eq_true zq1
    have q542:((rd_T79 l0 x13_1).f0)< (l1.length:Int):=of_decide_eq_true zq1
    obtain⟨ad542,e542,hx542_0⟩:=Kd.at_int HR1.out ((rd_T79 l0 x13_1).f0) p542 q542
    have hw542_0:=hx542_0
    obtain rfl:ad539=ad542:=(by injection e542)
    replace hx542_0:=zhx HB hx542_0
    replace p542:=eq_true p542
    replace q542:=eq_true q542
    have p19: 0≤ (((rd_T79 l0 x13_1).f1):Int):=of_decide_eq_true zq1
    have q19:(((rd_T79 l0 x13_1).f1):Int)< ((x5_1.length:Int):Int):=of_decide_eq_true zq1
    obtain⟨hx19_0,hf19_0⟩:=Kd.R_celln 0 HO_5.out (((rd_T79 l0 x13_1).f1):Int) p19 q19
    replace p19:=eq_true p19
    replace q19:=eq_true q19
    have HP28:=Kd.R_putn HO_5.out (((rd_T79 l0 x13_1).f1):Int) ji18
    rw [← Ny543.out] at HP28
    have HQ28:=Aside0.mk HP28
    clear HP28
    refine start_ (n:=19) (S:=fun w'=>w'.cell? ⟨gb537,0,none⟩=some (.int .i64 ((rd_T79 l0 x13_1).f0))∧w'.cell? ⟨gb537,1,none⟩=some (.int .i64 ((rd_T79 l0 x13_1).f1))∧w'.cell? ⟨gb537,2,none⟩=some (.int .i64 ((rd_T79 l0 x13_1).f2))∧w'.cell? ⟨go15,(((rd_T79 l0 x13_1).f1)).toNat,none⟩=some (.int .i64 (rd y540 ((rd_T79 l0 x13_1).f1)))∧w'.cell? (ad539.add (((rd_T79 l0 x13_1).f0)).toNat)=some (.int .i64 (rd l1 ((rd_T79 l0 x13_1).f0)))) (ds:= [18]) (mb' 19 0) (by kernel_rfl) rfl rfl ⟨(blk_cell BK537.out 0).trans rfl,(blk_cell BK537.out 1).trans rfl,(blk_cell BK537.out 2).trans rfl,hx541_0,((zhx HB hw542_0).trans rfl)⟩ (fun hHeld=>?_);refine with_tabW impl_relaxed.tab6 impl_relaxed.bits6 (fun HT_ HW_=>?_)
    generalize w26.drew=w27 at HO_5 BK537 HB HQ25 HQ28 hf19_0 hx19_0 hx541_0 hx542_0 hHeld ⊢
    refine zp1 HT_ (v:=?_) (a':=?_) 0 35 (mb' 19 1) rfl ?_ ?_ ?_;rotate_left;exact zr1;rotate_left;exact zpa
    refine zp1 HT_ (v:=?_) (a':=?_) 1 36 (mb' 19 3) rfl ?_ ?_ ?_;rotate_left;exact zr1;rotate_left;exact zpa
    refine zp1 HT_ (v:=?_) (a':=?_) 3 38 (mb' 19 11) rfl ?_ ?_ ?_;rotate_left;exact zr1;rotate_left;exact zpa
    refine zp1 HT_ (v:=?_) (a':=?_) 4 39 (mb' 19 27) rfl ?_ ?_ ?_;rotate_left;exact zr1;rotate_left;exact zpa
    refine zp1 HT_ (v:=?_) (a':=?_) 8 43 (mb' 19 283) rfl ?_ ?_ ?_;rotate_left;exact zr1;rotate_left;exact zpa
    refine zp1 HT_ (v:=?_) (a':=?_) 9 44 (mb' 19 795) rfl ?_ ?_ ?_;rotate_left;exact zr1;rotate_left;exact zpa
    refine zp1 HT_ (v:=?_) (a':=?_) 13 48 (mb' 19 8987) rfl ?_ ?_ ?_;rotate_left;exact zr1;rotate_left;exact zpa
    refine zt1 HT_ HW_ (v:=?_) (a':=?_) 2 37 (mb' 19 8991) rfl ?_ hHeld ?_ ?_;rotate_left;(rintro w' ⟨s0,s1,s2,s3,s4⟩;go_simp;with_reducible rfl);rotate_left;exact zpa
    refine zt1 HT_ HW_ (v:=?_) (a':=?_) 5 40 (mb' 19 9023) rfl ?_ hHeld ?_ ?_;rotate_left;(rintro w' ⟨s0,s1,s2,s3,s4⟩;go_simp;with_reducible rfl);rotate_left;exact zpa
    refine zp1 HT_ (v:=?_) (a':=?_) 6 41 (mb' 19 9087) rfl ?_ ?_ ?_;rotate_left;exact zr1;rotate_left;exact zpa
    refine zt1 HT_ HW_ (v:=?_) (a':=?_) 7 42 (mb' 19 9215) rfl ?_ hHeld ?_ ?_;rotate_left;(rintro w' ⟨s0,s1,s2,s3,s4⟩;go_simp;with_reducible rfl);rotate_left;exact zpa
    refine zt1 HT_ HW_ (v:=?_) (a':=?_) 10 45 (mb' 19 10239) rfl ?_ hHeld ?_ ?_;rotate_left;(rintro w' ⟨s0,s1,s2,s3,s4⟩;go_simp;with_reducible rfl);rotate_left;exact zpa
    refine zp1 HT_ (v:=?_) (a':=?_) 11 46 (mb' 19 12287) rfl ?_ ?_ ?_;rotate_left;exact zr1;rotate_left;exact zpa
    refine zt1 HT_ HW_ (v:=?_) (a':=?_) 12 47 (mb' 19 16383) rfl ?_ hHeld ?_ ?_;rotate_left;(rintro w' ⟨s0,s1,s2,s3,s4⟩;go_simp;with_reducible rfl);rotate_left;exact zpa
    refine zt1 HT_ HW_ (v:=?_) (a':=?_) 14 49 (mb' 19 32767) rfl ?_ hHeld ?_ ?_;rotate_left;(rintro w' ⟨s0,s1,s2,s3,s4⟩;go_simp;with_reducible rfl);rotate_left;exact zpa
    refine zp1 HT_ (v:=?_) (a':=?_) 15 50 (mb' 19 65535) rfl ?_ ?_ ?_;rotate_left;exact zr1;rotate_left;exact zpa
    refine zp1 HT_ (v:=?_) (a':=?_) 16 51 (mb' 19 131071) rfl ?_ ?_ ?_;rotate_left;exact zr1;rotate_left;exact zpa
    refine zp1 HT_ (v:=?_) (a':=?_) 17 52 (mb' 19 262143) rfl ?_ ?_ ?_;rotate_left;exact zr1;rotate_left;exact zpa
    refine last_ (i:=18) (N:=none) (mb' 19 524287) rfl rfl (one_of HT_.out (by kernel_rfl)) (by decide) (fun K hK=>?_)
    refine skip_ (w1:=?_) (by rfl) rfl ?_ ?_
    rotate_left
    ·go_simp
     rfl
    refine hK.out _ _ ?_
    clear hK K
    refine done_ (done_of HT_.out (by kernel_rfl)) ?_
    try go_wp2
    go_roundg k1
    case measure=>have:=HK1.out;omega
    case rel=>exact⟨(y543),(wrap64 (x13_1+1)),(by first|rfl|(simp;done)|(simp [*];done)),H',⟨by have:=HK1.out;omega⟩,⟨by(with_reducible repeat(first|apply Kd.R_alloc|apply Kd.R_drewN|apply Kd.R_drew));exact HQ28.out⟩,⟨by exact zk4 HB GB15.out GE537.out⟩⟩
   ·rw [if_neg c7] at H
    have c7b0:decide (x13_1< (l0.length:Int))=false:=decide_eq_false c7
    clear c7
    obtain rfl:=Option.some.inj H
    go_wp2
    go_ret
    exact⟨_,by first|rfl|(simp [errW_none,errW_some]<;>rfl)|(simp [*,errW_none,errW_some]<;>rfl),by(with_reducible repeat(first|apply Kd.R_alloc|apply Kd.R_drewN|apply Kd.R_drew));exact HO_5.out,by exact zk1 HB⟩
mutual
def impl_fars.l0:Nat→Int→List (S79)→Int→List Int→Int→Int→Option (List Int)
 | 0,_,_,_,_,_,_=>none
 |k+1,x0,x1,x2,x7,x12,x13=>if x13<x12 then(if 0≤x13 then(if x13< (x7.length:Int) then(impl_fars.l0 k x0 x1 x2 (x7.set (x13:Int).toNat 100000) x12 (wrap64 (x13+1))) else(none)) else(none)) else(if 0≤x2 then(if x2< (x7.length:Int) then(impl_fars.l1 k x1 (x7.set (x2:Int).toNat 0) x0 0) else(none)) else(none))
def impl_fars.l1:Nat→List (S79)→List Int→Int→Int→Option (List Int)
 | 0,_,_,_,_=>none
 |k+1,x1,x7,x23,x24=>if x24<x23 then((impl_relaxed.f k x1 x7).bind fun t549=>(impl_fars.l1 k x1 t549 x23 (wrap64 (x24+1)))) else(some x7)
end
def impl_fars.f (k:Nat) (a0:Int) (l1:List (S79)) (a2:Int):Option (List Int):=if 0≤a0 then(if (a0:Int).toNat≤35184372088832 then((some (List.replicate (a0:Int).toNat 0:List Int)).bind fun y544=>(impl_fars.l0 k a0 l1 a2 y544 (y544.length:Int) 0)) else(none)) else(none)
set_option maxHeartbeats 8000000 in
set_option maxRecDepth 100000 in
theorem impl_fars.calls (k:Nat) (a0:Int) (A1:Option Addr) (c1:Nat) (l1:List (S79)) (a2:Int) (r:List Int) (w:World) (hr1:Kd.C k79 w A1 l1.length l1) (hc1:l1.length≤c1) (h:impl_fars.f k a0 l1 a2=some r):
  Calls Try.prog 85 #[.int .i64 a0,.slice A1 l1.length c1,.int .i64 a2] w fun e w'=> ∃ v0_:Value,e= .returned (v0_)∧Kd.R (Kd.int .i64) 3 w' w.heap.size (fun _=>True) v0_ r∧Below w.heap.size w w':=by
 have HR1:=Aside0.mk hr1
 have HC1:=Aside0.mk hc1
 clear hr1 hc1
 have HB:=Aside0.mk (Below.refl w.heap.size w)
 have H:(if 0≤a0 then(if (a0:Int).toNat≤35184372088832 then((some (List.replicate (a0:Int).toNat 0:List Int)).bind fun y544=>(impl_fars.l0 k a0 l1 a2 y544 (y544.length:Int) 0)) else(none)) else(none))=some r:=h
 clear h
 by_cases c4: 0≤a0
 case neg=>rw [if_neg c4] at H;exact absurd H (by simp)
 rw [if_pos c4] at H
 have c4b0:=eq_true c4
 have c4b1:decide (0≤a0)=true:=decide_eq_true c4
 clear c4
 by_cases c5:(a0:Int).toNat≤35184372088832
 case neg=>rw [if_neg c5] at H;exact absurd H (by simp)
 rw [if_pos c5] at H
 have c5b0:=eq_true c5
 have c5b1:decide ((a0:Int).toNat≤35184372088832)=true:=decide_eq_true c5
 clear c5
 obtain⟨y544,hy544⟩ :∃ y_:List Int,y_= (List.replicate (a0:Int).toNat 0):=⟨_,rfl⟩
 replace H:(impl_fars.l0 k a0 l1 a2 y544 (y544.length:Int) 0)=some r:=zfh hy544 H
 have Ny544:=Aside0.mk hy544
 clear hy544
 have H':=Aside0.mk H
 clear H
 go_enter Try.func85,Try.ntmps85
 go_wp2_with (first|((with_reducible refine gate_dst (N:=10) rfl ?_);refine Kd.R_make (Kd.int .i64) _ 3 rfl (N:=10) rfl 22 _ _ rfl a0 rfl rfl Try.underlying22 (.int .i64 0) 8 info3 rfl (by decide) (by omega) 0 (ok:=fun _=>True) (okp:=fun _=>True) rfl (fun _ hk=>hk) trivial (of_decide_eq_true zq1) (Nat.le_trans (Nat.mul_le_mul_right _ (of_decide_eq_true zq1:a0.toNat≤35184372088832)) (by omega)) (Below.refl _ _) (Nat.le_refl _) ?_;intro v545 w6 ho7 hb hg_ hnew_;clear hg_ hnew_;(first|rw [← Ny544.out] at ho7|(simp only [Int.reduceToNat] at ho7;rw [← Ny544.out] at ho7));have HO546:=Aside0.mk (Kd.R_lower ho7 (below_size (by exact zk1 HB)));replace HB:=Aside0.mk (below_step (by exact zk1 HB) hb);clear hb ho7;obtain⟨Ao8,co8,eo8⟩:=Kd.R_slice HO546.out;subst eo8))
 go_loopg [13] k (fun kq v13 w'=> ∃ (x7_1:List Int) (x13_1:Int),v13= .int .i64 x13_1∧Aside0 (impl_fars.l0 kq a0 l1 a2 x7_1 (y544.length:Int) x13_1=some r)∧Aside0 (kq≤k)∧Aside0 (Kd.R (Kd.int .i64) 3 w' w.heap.size (fun _=>True) (.slice Ao8 y544.length co8) x7_1)∧Aside0 (Below w.heap.size w w'))
 case atStart=>exact⟨(y544),(0),(by first|rfl|(simp;done)|(simp [*];done)),H',⟨Nat.le_refl _⟩,⟨by(with_reducible repeat(first|apply Kd.R_alloc|apply Kd.R_drewN|apply Kd.R_drew));exact HO546.out⟩,⟨by exact zk1 HB⟩⟩
 case round=>
  clear H'
  try clear c1
  try clear p2
  try clear c4
  try clear c4b0
  try clear c4b1
  try clear c5
  try clear c5b0
  try clear c5b1
  try clear c8
  obtain⟨x7_1,x13_1,rfl,HA,HK1,HO_7,HB⟩:=hrel
  have hl7_1:=(Kd.R_reads' HO_7.out).1
  rw [hl7_1] at HO_7
  (try simp only [hl7_1])
  cases gk with
  |zero=>exact absurd HA.out (by simp [impl_fars.l0])
  |succ k1=>
   have H:=HA.out
   clear HA
   simp only [impl_fars.l0] at H
   by_cases c9:x13_1< (y544.length:Int)
   ·rw [if_pos c9] at H
    have c9b0:decide (x13_1< (y544.length:Int))=true:=decide_eq_true c9
    (try(have c9b0L:=c9b0;simp only [hl7_1] at c9b0L))
    clear c9
    by_cases c10: 0≤x13_1
    case neg=>rw [if_neg c10] at H;exact absurd H (by simp)
    rw [if_pos c10] at H
    have c10b0:decide (0≤x13_1)=true:=decide_eq_true c10
    clear c10
    by_cases c11:x13_1< (x7_1.length:Int)
    case neg=>rw [if_neg c11] at H;exact absurd H (by simp)
    rw [if_pos c11] at H
    have c11b0:decide (x13_1< (x7_1.length:Int))=true:=decide_eq_true c11
    (try(have c11b0L:=c11b0;simp only [hl7_1] at c11b0L))
    clear c11
    obtain⟨y547,hy547⟩ :∃ y_:List Int,y_= (x7_1.set (x13_1:Int).toNat 100000):=⟨_,rfl⟩
    replace H:(impl_fars.l0 k1 a0 l1 a2 y547 (y544.length:Int) (wrap64 (x13_1+1)))=some r:=zfh hy547 H
    have Ny547:=Aside0.mk hy547
    clear hy547
    have H':=Aside0.mk H
    clear H
    have p12: 0≤ (x13_1:Int):=of_decide_eq_true zq1
    have q12:(x13_1:Int)< ((x7_1.length:Int):Int):=of_decide_eq_true zq1
    obtain⟨go12,co12,eo12,gb12,gl12,cl12,HG12⟩:=Kd.R_form HO_7.out (by omega)
    (first|cases eo12|(injection eo12 with ea_ en_ ec_;(first|subst ea_|(injection ea_ with ea_;subst ea_));subst ec_;clear en_))
    have GB12:=Aside0.mk gb12
    have GG12:=Aside0.mk HG12
    clear gb12 gl12 HG12
    obtain⟨hx12_0,hf12_0⟩:=Kd.R_celln 0 HO_7.out (x13_1:Int) p12 q12
    replace p12:=eq_true p12
    replace q12:=eq_true q12
    have HP13:=Kd.R_putg HO_7.out (x13_1:Int) 100000
    go_wp2_with (first|((with_reducible refine gate_store (t:=3) (p:=18) rfl ?_);refine store_event (t:=3) (p:=18) (v:=?vo_w14) (w1:=(wr.setCell ⟨go12,(x13_1:Int).toNat,none⟩ (.int .i64 100000))) ?hg ?ho ?hn ?hr ?_;(case ho=>rfl);(case hg=>rfl);(case hn=>rfl);(case hr=>first|(go_simp;done)|(go_simp;rfl));intro w14 hw;have hg:wr.grownBy w14 (some go12):=(by rw [hw];exact HP13.2);have hp_:Kd.R (Kd.int .i64) 3 w14 w.heap.size (fun _=>True) (.slice (some ⟨go12,0,none⟩) x7_1.length co8) y547:=(by rw [hw,Ny547.out];exact HP13.1);clear HP13;replace HO_7:=Aside0.mk (hp_);replace HB:=Aside0.mk ((by rw [hw];exact below_set (HB.out) GB12.out:Below w.heap.size w w14));clear hg hw hp_))
    (try simp only [← hl7_1])
    go_roundg k1
    case measure=>have:=HK1.out;omega
    case rel=>exact⟨(y547),(wrap64 (x13_1+1)),(by first|rfl|(simp;done)|(simp [*];done)),H',⟨by have:=HK1.out;omega⟩,⟨by(try simp only [hl7_1]);(with_reducible repeat(first|apply Kd.R_alloc|apply Kd.R_drewN|apply Kd.R_drew));exact HO_7.out⟩,⟨by exact zk1 HB⟩⟩
   ·rw [if_neg c9] at H
    have c9b0:decide (x13_1< (y544.length:Int))=false:=decide_eq_false c9
    (try(have c9b0L:=c9b0;simp only [hl7_1] at c9b0L))
    clear c9
    by_cases c15: 0≤a2
    case neg=>rw [if_neg c15] at H;exact absurd H (by simp)
    rw [if_pos c15] at H
    have c15b0:decide (0≤a2)=true:=decide_eq_true c15
    clear c15
    by_cases c16:a2< (x7_1.length:Int)
    case neg=>rw [if_neg c16] at H;exact absurd H (by simp)
    rw [if_pos c16] at H
    have c16b0:decide (a2< (x7_1.length:Int))=true:=decide_eq_true c16
    (try(have c16b0L:=c16b0;simp only [hl7_1] at c16b0L))
    clear c16
    obtain⟨y548,hy548⟩ :∃ y_:List Int,y_= (x7_1.set (a2:Int).toNat 0):=⟨_,rfl⟩
    replace H:(impl_fars.l1 k1 l1 y548 a0 0)=some r:=zfh hy548 H
    have Ny548:=Aside0.mk hy548
    clear hy548
    have H':=Aside0.mk H
    clear H
    have p17: 0≤ (a2:Int):=of_decide_eq_true zq1
    have q17:(a2:Int)< ((x7_1.length:Int):Int):=of_decide_eq_true zq1
    obtain⟨go17,co17,eo17,gb17,gl17,cl17,HG17⟩:=Kd.R_form HO_7.out (by omega)
    (first|cases eo17|(injection eo17 with ea_ en_ ec_;(first|subst ea_|(injection ea_ with ea_;subst ea_));subst ec_;clear en_))
    have GB17:=Aside0.mk gb17
    have GG17:=Aside0.mk HG17
    clear gb17 gl17 HG17
    obtain⟨hx17_0,hf17_0⟩:=Kd.R_celln 0 HO_7.out (a2:Int) p17 q17
    replace p17:=eq_true p17
    replace q17:=eq_true q17
    have HP18:=Kd.R_putg HO_7.out (a2:Int) 0
    go_wp2_with (first|((with_reducible refine gate_store (t:=3) (p:=22) rfl ?_);refine store_event (t:=3) (p:=22) (v:=?vo_w19) (w1:=(wr.setCell ⟨go17,(a2:Int).toNat,none⟩ (.int .i64 0))) ?hg ?ho ?hn ?hr ?_;(case ho=>rfl);(case hg=>rfl);(case hn=>rfl);(case hr=>first|(go_simp;done)|(go_simp;rfl));intro w19 hw;have hg:wr.grownBy w19 (some go17):=(by rw [hw];exact HP18.2);have hp_:Kd.R (Kd.int .i64) 3 w19 w.heap.size (fun _=>True) (.slice (some ⟨go17,0,none⟩) x7_1.length co8) y548:=(by rw [hw,Ny548.out];exact HP18.1);clear HP18;replace HO_7:=Aside0.mk (hp_);replace HB:=Aside0.mk ((by rw [hw];exact below_set (HB.out) GB17.out:Below w.heap.size w w19));clear hg hw hp_))
    go_loopg [7,24] k1 (fun kq v7 v24 w'=> ∃ (x7_2:List Int) (x24_2:Int),v24= .int .i64 x24_2∧Aside0 (impl_fars.l1 kq l1 x7_2 a0 x24_2=some r)∧Aside0 (kq≤k1)∧Aside0 (Kd.R (Kd.int .i64) 3 w' w.heap.size (fun _=>True) v7 x7_2)∧Aside0 (Below w.heap.size w w'))
    case atStart=>exact⟨(y548),(0),(by first|rfl|(simp;done)|(simp [*];done)),H',⟨Nat.le_refl _⟩,⟨by(try simp only [hl7_1]);(with_reducible repeat(first|apply Kd.R_alloc|apply Kd.R_drewN|apply Kd.R_drew));exact HO_7.out⟩,⟨by exact zk1 HB⟩⟩
    case round=>
     clear H'
     try clear c1
     try clear p1
     try clear q1
     try clear hx1
     try clear p2
     try clear c4
     try clear c4b0
     try clear c4b1
     try clear c5
     try clear c5b0
     try clear c5b1
     try clear p6
     try clear c8
     try clear c9
     try clear c9b0
     try clear c10
     try clear c10b0
     try clear c11
     try clear c11b0
     try clear p12
     try clear q12
     try clear hx12
     try clear hf12
     try clear c15
     try clear c15b0
     try clear c16
     try clear c16b0
     try clear p17
     try clear q17
     try clear hx17
     try clear hf17
     try clear hx12_0
     try clear hx17_0
     try clear p12
     try clear p17
     try clear p2
     try clear q12
     try clear q17
     obtain⟨x7_2,x24_2,rfl,HA,HK2,HO_7,HB⟩:=hrel
     cases gk with
     |zero=>exact absurd HA.out (by simp [impl_fars.l1])
     |succ k2=>
      have H:=HA.out
      clear HA
      simp only [impl_fars.l1] at H
      by_cases c20:x24_2<a0
      ·rw [if_pos c20] at H
       have c20b0:decide (x24_2<a0)=true:=decide_eq_true c20
       clear c20
       replace H:=Option.bind_eq_some_iff.mp H
       obtain⟨t549,A210,H⟩:=H
       replace H:(impl_fars.l1 k2 l1 t549 a0 (wrap64 (x24_2+1)))=some r:=H
       have A21:=Aside0.mk A210
       clear A210
       have H':=Aside0.mk H
       clear H
       obtain⟨Ao22,co22,eo22⟩:=Kd.R_slice HO_7.out
       subst eo22
       go_wp2_with (first|((with_reducible refine gate_callee (f:=102) rfl ?_);refine goesL_ (some 28) rfl rfl Try.func102 (by kernel_rfl) rfl #[.slice A1 l1.length c1,.slice Ao22 x7_2.length co22] rfl zq2 ?_;(with_reducible refine(impl_relaxed.calls k2 _ _ l1 _ _ x7_2 t549 _ ?side1 ?side2 ?side3 ?side4 A21.out).mono ?_);(case side1=>exact zcc ((Kd.C_below HR1.out HB.out)));(case side2=>exact HC1.out);(case side3=>exact zcc ((Kd.R_reads' HO_7.out).2.2));(case side4=>exact(Kd.R_reads' HO_7.out).2.1);rintro e w23 ⟨v550,rfl,ho0,hb⟩;refine⟨_,rfl,?_⟩;have HO551:=Aside0.mk (Kd.R_lower (Kd.R_new' ho0 (Kd.R_lt (zq4 HO_7))) (below_size (by exact zk1 HB)));replace HO_7:=Aside0.mk (Kd.R_elder' (zq4 HO_7) (Kd.R_base ho0) hb);replace HB:=Aside0.mk (below_step (by exact zk1 HB) hb);(try clear hb);(try clear hb2);(try clear hk);(try clear hi);(try clear ho0)))
       go_roundg k2
       case measure=>have:=HK1.out;have:=HK2.out;omega
       case rel=>exact⟨(t549),(wrap64 (x24_2+1)),(by first|rfl|(simp;done)|(simp [*];done)),H',⟨by have:=HK1.out;have:=HK2.out;omega⟩,⟨by(try simp only [hl7_1]);(with_reducible repeat(first|apply Kd.R_alloc|apply Kd.R_drewN|apply Kd.R_drew));exact Kd.R_mono HO551.out (fun _ hk=>trivial)⟩,⟨by exact zk1 HB⟩⟩
      ·rw [if_neg c20] at H
       have c20b0:decide (x24_2<a0)=false:=decide_eq_false c20
       clear c20
       obtain rfl:=Option.some.inj H
       go_wp2
       go_ret
       exact⟨_,by first|rfl|(simp [errW_none,errW_some]<;>rfl)|(simp [*,errW_none,errW_some]<;>rfl),by(with_reducible repeat(first|apply Kd.R_alloc|apply Kd.R_drewN|apply Kd.R_drew));exact HO_7.out,by exact zk1 HB⟩
def impl_near.l0:Nat→List (S79)→Int→List Int→Int→Int→Option (List Int)
 | 0,_,_,_,_,_=>none
 |k+1,x1,x2,x7,x9,x10=>if x10<x9 then((impl_cost.f k x1 x2 x10).bind fun t552=>(if t552 > 0 then(if x7.length< 17592186044416 then(impl_near.l0 k x1 x2 (x7++ [x10]) x9 (wrap64 (x10+1))) else(none)) else(impl_near.l0 k x1 x2 x7 x9 (wrap64 (x10+1))))) else(some x7)
def impl_near.f (k:Nat) (a0:Int) (l1:List (S79)) (a2:Int):Option (List Int):=impl_near.l0 k l1 a2 ([] :List Int) a0 0
set_option maxHeartbeats 8000000 in
set_option maxRecDepth 100000 in
theorem impl_near.calls (k:Nat) (a0:Int) (A1:Option Addr) (c1:Nat) (l1:List (S79)) (a2:Int) (r:List Int) (w:World) (hr1:Kd.C k79 w A1 l1.length l1) (hc1:l1.length≤c1) (h:impl_near.f k a0 l1 a2=some r):
  Calls Try.prog 107 #[.int .i64 a0,.slice A1 l1.length c1,.int .i64 a2] w fun e w'=> ∃ v0_:Value,e= .returned (v0_)∧Kd.R (Kd.int .i64) 3 w' w.heap.size (fun _=>True) v0_ r∧Below w.heap.size w w':=by
 have HR1:=Aside0.mk hr1
 have HC1:=Aside0.mk hc1
 clear hr1 hc1
 have HB:=Aside0.mk (Below.refl w.heap.size w)
 have H:(impl_near.l0 k l1 a2 ([] :List Int) a0 0)=some r:=h
 clear h
 have H':=Aside0.mk H
 clear H
 go_enter Try.func107,Try.ntmps107
 go_wp2
 go_loopg [7,10] k (fun kq v7 v10 w'=> ∃ (x7_1:List Int) (x10_1:Int),v10= .int .i64 x10_1∧Aside0 (impl_near.l0 kq l1 a2 x7_1 a0 x10_1=some r)∧Aside0 (kq≤k)∧Aside0 (Kd.R (Kd.int .i64) 3 w' w.heap.size (fun _=>True) v7 x7_1)∧Aside0 (Below w.heap.size w w'))
 case atStart=>exact⟨(([] :List Int)),(0),(by first|rfl|(simp;done)|(simp [*];done)),H',⟨Nat.le_refl _⟩,⟨by first|exact Kd.R_nil _ _ _ _ _|exact Kd.N_nil _ _ _ _ _|exact Kd.V_nil _ _ _ _ _|exact Kd.Q_nil _ _ _ _ _|exact Kd.S_nil _ _ _ _ _⟩,⟨by exact zk1 HB⟩⟩
 case round=>
  clear H'
  try clear c1
  try clear p2
  obtain⟨x7_1,x10_1,rfl,HA,HK1,HO_7,HB⟩:=hrel
  cases gk with
  |zero=>exact absurd HA.out (by simp [impl_near.l0])
  |succ k1=>
   have H:=HA.out
   clear HA
   simp only [impl_near.l0] at H
   by_cases c4:x10_1<a0
   ·rw [if_pos c4] at H
    have c4b0:decide (x10_1<a0)=true:=decide_eq_true c4
    clear c4
    replace H:=Option.bind_eq_some_iff.mp H
    obtain⟨t552,A50,H⟩:=H
    replace H:(if t552 > 0 then(if x7_1.length< 17592186044416 then(impl_near.l0 k1 l1 a2 (x7_1++ [x10_1]) a0 (wrap64 (x10_1+1))) else(none)) else(impl_near.l0 k1 l1 a2 x7_1 a0 (wrap64 (x10_1+1))))=some r:=H
    have A5:=Aside0.mk A50
    clear A50
    by_cases c6:t552 > 0
    ·rw [if_pos c6] at H
     have c6b0:decide (0<t552)=true:=decide_eq_true c6
     clear c6
     by_cases c7:x7_1.length< 17592186044416
     case neg=>rw [if_neg c7] at H;exact absurd H (by simp)
     rw [if_pos c7] at H
     have LMc7:=Aside0.mk c7
     clear c7
     obtain⟨y553,hy553⟩ :∃ y_:List Int,y_= (x7_1++ [x10_1]):=⟨_,rfl⟩
     replace H:(impl_near.l0 k1 l1 a2 y553 a0 (wrap64 (x10_1+1)))=some r:=zfh hy553 H
     have Ny553:=Aside0.mk hy553
     clear hy553
     have H':=Aside0.mk H
     clear H
     go_wp2_with (first|((with_reducible refine gate_callee (f:=70) rfl ?_);refine goesL_ (some 16) rfl rfl Try.func70 (by kernel_rfl) rfl #[.slice A1 l1.length c1,.int .i64 a2,.int .i64 x10_1] rfl zq2 ?_;(with_reducible refine(impl_cost.calls k1 _ _ l1 a2 x10_1 t552 _ ?side1 ?side2 A5.out).mono ?_);(case side1=>exact zcc ((Kd.C_below HR1.out HB.out)));(case side2=>exact HC1.out);rintro e w8 ⟨rfl,hb⟩;refine⟨_,rfl,?_⟩;replace HO_7:=Aside0.mk (Kd.R_below (zq4 HO_7) hb);replace HB:=Aside0.mk (below_step (by exact zk1 HB) hb);(try clear hb);(try clear hb2);(try clear hk);(try clear hi))|((with_reducible refine gate_builtin (b:= .append) (xs:= #[.tmp 18,.tmp 20]) rfl ?_);at_builtin;refine Kd.R_append (Kd.int .i64) (w0:=w) w.heap.size rfl (.tmp 18) (.tmp 20) 22 3 (.int .i64 0) 8 rfl Try.underlying22 info3 rfl (by decide) (by omega) u7 x7_1 x10_1 [.int .i64 x10_1] (fun _=>True) (fun _=>False) rfl rfl ?aP (fun _ hk=>hk.elim) ?aF ?aO ?aB ?aS ?aL ?_;(case aP=>exact rfl);(case aB=>exact(by exact zk1 HB));(case aF=>exact(fun _ _=>trivial));(case aO=>exact(zq4 HO_7));(case aS=>exact(below_size (by exact zk1 HB)));(case aL=>have:=LMc7.out;omega);intro v554 w9 ho hb hg hat;rw [← Ny553.out] at ho;have HO555:=Aside0.mk (ho);replace HB:=Aside0.mk (hb);clear HO_7;clear ho hb hg hat))
     go_roundg k1
     case measure=>have:=HK1.out;omega
     case rel=>exact⟨(y553),(wrap64 (x10_1+1)),(by first|rfl|(simp;done)|(simp [*];done)),H',⟨by have:=HK1.out;omega⟩,⟨by(with_reducible repeat(first|apply Kd.R_alloc|apply Kd.R_drewN|apply Kd.R_drew));exact HO555.out⟩,⟨by exact zk1 HB⟩⟩
    ·rw [if_neg c6] at H
     have c6b0:decide (0<t552)=false:=decide_eq_false c6
     clear c6
     have H':=Aside0.mk H
     clear H
     go_wp2_with (first|((with_reducible refine gate_callee (f:=70) rfl ?_);refine goesL_ (some 16) rfl rfl Try.func70 (by kernel_rfl) rfl #[.slice A1 l1.length c1,.int .i64 a2,.int .i64 x10_1] rfl zq2 ?_;(with_reducible refine(impl_cost.calls k1 _ _ l1 a2 x10_1 t552 _ ?side1 ?side2 A5.out).mono ?_);(case side1=>exact zcc ((Kd.C_below HR1.out HB.out)));(case side2=>exact HC1.out);rintro e w10 ⟨rfl,hb⟩;refine⟨_,rfl,?_⟩;replace HO_7:=Aside0.mk (Kd.R_below (zq4 HO_7) hb);replace HB:=Aside0.mk (below_step (by exact zk1 HB) hb);(try clear hb);(try clear hb2);(try clear hk);(try clear hi)))
     go_roundg k1
     case measure=>have:=HK1.out;omega
     case rel=>exact⟨(x7_1),(wrap64 (x10_1+1)),(by first|rfl|(simp;done)|(simp [*];done)),H',⟨by have:=HK1.out;omega⟩,⟨by(with_reducible repeat(first|apply Kd.R_alloc|apply Kd.R_drewN|apply Kd.R_drew));exact HO_7.out⟩,⟨by exact zk1 HB⟩⟩
   ·rw [if_neg c4] at H
    have c4b0:decide (x10_1<a0)=false:=decide_eq_false c4
    clear c4
    obtain rfl:=Option.some.inj H
    go_wp2
    go_ret
    exact⟨_,by first|rfl|(simp [errW_none,errW_some]<;>rfl)|(simp [*,errW_none,errW_some]<;>rfl),by(with_reducible repeat(first|apply Kd.R_alloc|apply Kd.R_drewN|apply Kd.R_drew));exact HO_7.out,by exact zk1 HB⟩
def impl_hops.l0:Nat→List (S79)→Int→List Int→List Int→List Int→Int→Int→Option (List Int)
 | 0,_,_,_,_,_,_,_=>none
 |k+1,x1,x2,x3,x9,x15,x16,x17=>if x17<x16 then(if 0≤x17 then(if x17< (x15.length:Int) then(if 0≤x2 then(if x2< (x3.length:Int) then(if (rd x3 x2)< 100000 then(if 0≤ (rd x15 x17) then(if (rd x15 x17)< (x3.length:Int) then((impl_cost.f k x1 x2 (rd x15 x17)).bind fun t562=>(if (wrap64 ((rd x3 (rd x15 x17))+t562))= (rd x3 x2) then(if x9.length< 17592186044416 then(impl_hops.l0 k x1 x2 x3 (x9++ [rd x15 x17]) x15 x16 (wrap64 (x17+1))) else(none)) else(impl_hops.l0 k x1 x2 x3 x9 x15 x16 (wrap64 (x17+1))))) else(none)) else(none)) else(impl_hops.l0 k x1 x2 x3 x9 x15 x16 (wrap64 (x17+1)))) else(none)) else(none)) else(none)) else(none)) else(some x9)
def impl_hops.f (k:Nat) (a0:Int) (l1:List (S79)) (a2:Int) (l3:List Int):Option (List Int):=(impl_near.f k a0 l1 a2).bind fun t556=>(impl_hops.l0 k l1 a2 l3 ([] :List Int) t556 (t556.length:Int) 0)
def impl_hops.T5:Bool × List (List Nat × List Nat):=(true,[([],[]),([],[]),([0,1],[0,1]),([2],[2]),([3],[3]),([4],[4]),([5],[5]),([5],[5]),([6,7,5],[5,6,7]),([8,5],[5,8]),([5],[5]),([5],[5]),([5],[5]),([10,11,12,5,5],[5,10,11,12]),([9,13,5],[5,9,13]),([5],[5]),([5],[5]),([15,16,5],[5,15,16]),([17,5],[5,17]),([14,18,5],[5,14,18]),([5,19],[5,19])])
def impl_hops.B5:List Nat:= [0,0,3,7,15,31,63,63,255,511,63,63,63,7231,16383,63,63,98367,229439,524287,1048575]
theorem impl_hops.tab5:rtab .any (opsOf Try.f98 5)=impl_hops.T5:=by kernel_rfl
theorem impl_hops.bits5:waitsOk impl_hops.T5.2 impl_hops.B5=true:=by kernel_rfl
set_option maxHeartbeats 8000000 in
set_option maxRecDepth 100000 in
theorem impl_hops.calls (k:Nat) (a0:Int) (A1:Option Addr) (c1:Nat) (l1:List (S79)) (a2:Int) (A3:Option Addr) (c3:Nat) (l3:List Int) (r:List Int) (w:World) (hr1:Kd.C k79 w A1 l1.length l1) (hc1:l1.length≤c1) (hr3:Kd.C (Kd.int .i64) w A3 l3.length l3) (hc3:l3.length≤c3) (h:impl_hops.f k a0 l1 a2 l3=some r):
  Calls Try.prog 98 #[.int .i64 a0,.slice A1 l1.length c1,.int .i64 a2,.slice A3 l3.length c3] w fun e w'=> ∃ v0_:Value,e= .returned (v0_)∧Kd.R (Kd.int .i64) 3 w' w.heap.size (fun _=>True) v0_ r∧Below w.heap.size w w':=by
 have HR1:=Aside0.mk hr1
 have HC1:=Aside0.mk hc1
 clear hr1 hc1
 have HR3:=Aside0.mk hr3
 have HC3:=Aside0.mk hc3
 clear hr3 hc3
 have HB:=Aside0.mk (Below.refl w.heap.size w)
 have H:((impl_near.f k a0 l1 a2).bind fun t556=>(impl_hops.l0 k l1 a2 l3 ([] :List Int) t556 (t556.length:Int) 0))=some r:=h
 clear h
 replace H:=Option.bind_eq_some_iff.mp H
 obtain⟨t556,A50,H⟩:=H
 replace H:(impl_hops.l0 k l1 a2 l3 ([] :List Int) t556 (t556.length:Int) 0)=some r:=H
 have A5:=Aside0.mk A50
 clear A50
 have H':=Aside0.mk H
 clear H
 go_enter Try.func98,Try.ntmps98
 go_wp2_with (first|((with_reducible refine gate_callee (f:=107) rfl ?_);refine goesL_ (some 15) rfl rfl Try.func107 (by kernel_rfl) rfl #[.int .i64 a0,.slice A1 l1.length c1,.int .i64 a2] rfl zq2 ?_;(with_reducible refine(impl_near.calls k a0 _ _ l1 a2 t556 _ ?side1 ?side2 A5.out).mono ?_);(case side1=>exact zcc (HR1.out));(case side2=>exact HC1.out);rintro e w6 ⟨v557,rfl,ho0,hb⟩;refine⟨_,rfl,?_⟩;have HO558:=Aside0.mk (Kd.R_lower ho0 (below_size (by exact zk1 HB)));replace HB:=Aside0.mk (below_step (by exact zk1 HB) hb);(try clear hb);(try clear hb2);(try clear hk);(try clear hi);(try clear ho0);obtain⟨Ao7,co7,eo7⟩:=Kd.R_slice HO558.out;subst eo7))
 go_loopg [9,17] k (fun kq v9 v17 w'=> ∃ (x9_1:List Int) (x17_1:Int),v17= .int .i64 x17_1∧Aside0 (impl_hops.l0 kq l1 a2 l3 x9_1 t556 (t556.length:Int) x17_1=some r)∧Aside0 (kq≤k)∧Aside0 (Kd.R (Kd.int .i64) 3 w' w.heap.size (fun k_=>some k_≠ ((.slice Ao7 t556.length co7):Value).ownBlock) v9 x9_1)∧Aside0 (Kd.R (Kd.int .i64) 3 w' w.heap.size (fun k_=>some k_≠ (v9:Value).ownBlock) (.slice Ao7 t556.length co7) t556)∧Aside0 (Below w.heap.size w w'))
 case atStart=>exact⟨(([] :List Int)),(0),(by first|rfl|(simp;done)|(simp [*];done)),H',⟨Nat.le_refl _⟩,⟨by first|exact Kd.R_nil _ _ _ _ _|exact Kd.N_nil _ _ _ _ _|exact Kd.V_nil _ _ _ _ _|exact Kd.Q_nil _ _ _ _ _|exact Kd.S_nil _ _ _ _ _⟩,⟨by(with_reducible repeat(first|apply Kd.R_alloc|apply Kd.R_drewN|apply Kd.R_drew));exact Kd.R_mono HO558.out (fun _ hk=>(by simp [Value.ownBlock]))⟩,⟨by exact zk1 HB⟩⟩
 case round=>
  clear H'
  try clear c1
  try clear p2
  try clear c3
  obtain⟨x9_1,x17_1,rfl,HA,HK1,HO_9,HO_15,HB⟩:=hrel
  cases gk with
  |zero=>exact absurd HA.out (by simp [impl_hops.l0])
  |succ k1=>
   have H:=HA.out
   clear HA
   simp only [impl_hops.l0] at H
   by_cases c8:x17_1< (t556.length:Int)
   ·rw [if_pos c8] at H
    have c8b0:decide (x17_1< (t556.length:Int))=true:=decide_eq_true c8
    clear c8
    by_cases c9: 0≤x17_1
    case neg=>rw [if_neg c9] at H;exact absurd H (by simp)
    rw [if_pos c9] at H
    have c9b0:decide (0≤x17_1)=true:=decide_eq_true c9
    clear c9
    by_cases c10:x17_1< (t556.length:Int)
    case neg=>rw [if_neg c10] at H;exact absurd H (by simp)
    rw [if_pos c10] at H
    have c10b0:decide (x17_1< (t556.length:Int))=true:=decide_eq_true c10
    clear c10
    by_cases c11: 0≤a2
    case neg=>rw [if_neg c11] at H;exact absurd H (by simp)
    rw [if_pos c11] at H
    have c11b0:decide (0≤a2)=true:=decide_eq_true c11
    clear c11
    by_cases c12:a2< (l3.length:Int)
    case neg=>rw [if_neg c12] at H;exact absurd H (by simp)
    rw [if_pos c12] at H
    have c12b0:decide (a2< (l3.length:Int))=true:=decide_eq_true c12
    clear c12
    by_cases c13:(rd l3 a2)< 100000
    ·rw [if_pos c13] at H
     have c13b0:decide ((rd l3 a2)< 100000)=true:=decide_eq_true c13
     clear c13
     by_cases c14: 0≤ (rd t556 x17_1)
     case neg=>rw [if_neg c14] at H;exact absurd H (by simp)
     rw [if_pos c14] at H
     have c14b0:decide (0≤ (rd t556 x17_1))=true:=decide_eq_true c14
     clear c14
     by_cases c15:(rd t556 x17_1)< (l3.length:Int)
     case neg=>rw [if_neg c15] at H;exact absurd H (by simp)
     rw [if_pos c15] at H
     have c15b0:decide ((rd t556 x17_1)< (l3.length:Int))=true:=decide_eq_true c15
     clear c15
     replace H:=Option.bind_eq_some_iff.mp H
     obtain⟨t562,A160,H⟩:=H
     replace H:(if (wrap64 ((rd l3 (rd t556 x17_1))+t562))= (rd l3 a2) then(if x9_1.length< 17592186044416 then(impl_hops.l0 k1 l1 a2 l3 (x9_1++ [rd t556 x17_1]) t556 (t556.length:Int) (wrap64 (x17_1+1))) else(none)) else(impl_hops.l0 k1 l1 a2 l3 x9_1 t556 (t556.length:Int) (wrap64 (x17_1+1))))=some r:=H
     have A16:=Aside0.mk A160
     clear A160
     by_cases c17:(wrap64 ((rd l3 (rd t556 x17_1))+t562))= (rd l3 a2)
     ·rw [if_pos c17] at H
      have c17b0:((wrap64 ((rd l3 (rd t556 x17_1))+t562))== (rd l3 a2))=true:=beq_iff_eq.mpr c17
      have c17b1:((wrap64 ((rd l3 (rd t556 x17_1))+t562)) != (rd l3 a2))=false:=bne_eq_false_iff_eq.mpr c17
      clear c17
      by_cases c18:x9_1.length< 17592186044416
      case neg=>rw [if_neg c18] at H;exact absurd H (by simp)
      rw [if_pos c18] at H
      have LMc18:=Aside0.mk c18
      clear c18
      obtain⟨y564,hy564⟩ :∃ y_:List Int,y_= (x9_1++ [rd t556 x17_1]):=⟨_,rfl⟩
      replace H:(impl_hops.l0 k1 l1 a2 l3 y564 t556 (t556.length:Int) (wrap64 (x17_1+1)))=some r:=zfh hy564 H
      have Ny564:=Aside0.mk hy564
      clear hy564
      have H':=Aside0.mk H
      clear H
      have p559: 0≤ (x17_1:Int):=of_decide_eq_true zq1
      have q559:x17_1< (t556.length:Int):=of_decide_eq_true zq1
      obtain⟨ad559,e559,hx559_0⟩:=Kd.at_int (Kd.R_reads' HO_15.out).2.2 x17_1 p559 q559
      cases e559
      replace p559:=eq_true p559
      replace q559:=eq_true q559
      try go_wp2
      replace HO_9:=Aside0.mk (Kd.R_drew HO_9.out)
      replace HO_15:=Aside0.mk (Kd.R_drew HO_15.out)
      replace HB:=Aside0.mk (below_drew1 HB.out)
      have p560: 0≤ (a2:Int):=of_decide_eq_true zq1
      have q560:a2< (l3.length:Int):=of_decide_eq_true zq1
      obtain⟨ad560,e560,hx560_0⟩:=Kd.at_int HR3.out a2 p560 q560
      have hw560_0:=hx560_0
      cases e560
      replace hx560_0:=zhx HB hx560_0
      replace p560:=eq_true p560
      replace q560:=eq_true q560
      have p561: 0≤ ((rd t556 x17_1):Int):=of_decide_eq_true zq1
      have q561:(rd t556 x17_1)< (l3.length:Int):=of_decide_eq_true zq1
      obtain⟨ad561,e561,hx561_0⟩:=Kd.at_int HR3.out (rd t556 x17_1) p561 q561
      have hw561_0:=hx561_0
      obtain rfl:ad560=ad561:=(by injection e561)
      replace hx561_0:=zhx HB hx561_0
      replace p561:=eq_true p561
      replace q561:=eq_true q561
      have p563: 0≤ (a2:Int):=of_decide_eq_true zq1
      have q563:a2< (l3.length:Int):=of_decide_eq_true zq1
      obtain⟨ad563,e563,hx563_0⟩:=Kd.at_int HR3.out a2 p563 q563
      have hw563_0:=hx563_0
      obtain rfl:ad560=ad563:=(by injection e563)
      replace hx563_0:=zhx HB hx563_0
      replace p563:=eq_true p563
      replace q563:=eq_true q563
      refine start_ (n:=21) (S:=fun w'=>w'.cell? (ad560.add (a2).toNat)=some (.int .i64 (rd l3 a2))∧w'.cell? (ad560.add ((rd t556 x17_1)).toNat)=some (.int .i64 (rd l3 (rd t556 x17_1)))∧w'.cell? (ad560.add (a2).toNat)=some (.int .i64 (rd l3 a2))) (ds:= []) (mb' 21 0) (by kernel_rfl) rfl rfl ⟨((zhx HB hw560_0).trans rfl),((zhx HB hw561_0).trans rfl),((zhx HB hw563_0).trans rfl)⟩ (fun hHeld=>?_);refine with_tabW impl_hops.tab5 impl_hops.bits5 (fun HT_ HW_=>?_)
      generalize wr.drew=w19 at HO_9 HO_15 HB hx560_0 hx561_0 hx563_0 hHeld ⊢
      refine zp1 HT_ (v:=?_) (a':=?_) 0 21 (mb' 21 1) rfl ?_ ?_ ?_;rotate_left;exact zr1;rotate_left;exact zpa
      refine zp1 HT_ (v:=?_) (a':=?_) 1 22 (mb' 21 3) rfl ?_ ?_ ?_;rotate_left;exact zr1;rotate_left;exact zpa
      refine zp1 HT_ (v:=?_) (a':=?_) 2 23 (mb' 21 7) rfl ?_ ?_ ?_;rotate_left;exact zr1;rotate_left;exact zpa
      refine zt1 HT_ HW_ (v:=?_) (a':=?_) 3 24 (mb' 21 15) rfl ?_ hHeld ?_ ?_;rotate_left;(rintro w' ⟨s0,s1,s2⟩;go_simp;with_reducible rfl);rotate_left;exact zpa
      refine zp1 HT_ (v:=?_) (a':=?_) 4 25 (mb' 21 31) rfl ?_ ?_ ?_;rotate_left;exact zr1;rotate_left;exact zpa
      refine zp1 HT_ (v:=?_) (a':=?_) 5 26 (mb' 21 63) rfl ?_ ?_ ?_;rotate_left;exact zr1;rotate_left;exact zpa
      refine zp1 HT_ (v:=?_) (a':=?_) 6 27 (mb' 21 127) rfl ?_ ?_ ?_;rotate_left;exact zr1;rotate_left;exact zpa
      refine zp1 HT_ (v:=?_) (a':=?_) 7 28 (mb' 21 255) rfl ?_ ?_ ?_;rotate_left;exact zr1;rotate_left;exact zpa
      refine zp1 HT_ (v:=?_) (a':=?_) 8 29 (mb' 21 511) rfl ?_ ?_ ?_;rotate_left;exact zr1;rotate_left;exact zpa
      refine zp1 HT_ (v:=?_) (a':=?_) 10 31 (mb' 21 1535) rfl ?_ ?_ ?_;rotate_left;exact zr1;rotate_left;exact zpa
      refine zp1 HT_ (v:=?_) (a':=?_) 11 32 (mb' 21 3583) rfl ?_ ?_ ?_;rotate_left;exact zr1;rotate_left;exact zpa
      refine zp1 HT_ (v:=?_) (a':=?_) 12 33 (mb' 21 7679) rfl ?_ ?_ ?_;rotate_left;exact zr1;rotate_left;exact zpa
      refine zp1 HT_ (v:=?_) (a':=?_) 15 36 (mb' 21 40447) rfl ?_ ?_ ?_;rotate_left;exact zr1;rotate_left;exact zpa
      refine zp1 HT_ (v:=?_) (a':=?_) 16 37 (mb' 21 105983) rfl ?_ ?_ ?_;rotate_left;exact zr1;rotate_left;exact zpa
      refine zp1 HT_ (v:=?_) (a':=?_) 17 38 (mb' 21 237055) rfl ?_ ?_ ?_;rotate_left;exact zr1;rotate_left;exact zpa
      refine zt1 HT_ HW_ (v:=?_) (a':=?_) 9 30 (mb' 21 237567) rfl ?_ hHeld ?_ ?_;rotate_left;(rintro w' ⟨s0,s1,s2⟩;go_simp;with_reducible rfl);rotate_left;exact zpa
      refine zt1 HT_ HW_ (v:=?_) (a':=?_) 18 39 (mb' 21 499711) rfl ?_ hHeld ?_ ?_;rotate_left;(rintro w' ⟨s0,s1,s2⟩;go_simp;with_reducible rfl);rotate_left;exact zpa
      refine one_ (i:=13) (N:=some 34) (mb' 21 507903) rfl rfl (one_of HT_.out (by kernel_rfl)) (by decide) (fun K hK=>?_)
      refine goes_ Try.func70 (by kernel_rfl) rfl #[.slice A1 l1.length c1,.int .i64 a2,.int .i64 (rd t556 x17_1)] (by rfl) rfl rfl zq2 ?_
      with_reducible refine(impl_cost.calls k1 _ _ l1 a2 (rd t556 x17_1) t562 _ ?side1 ?side2 A16.out).mono ?_
      (case side1=>exact zcc ((Kd.C_below HR1.out HB.out)))
      (case side2=>exact HC1.out)
      rintro e w20 ⟨rfl,hb⟩
      refine⟨_,rfl,?_⟩
      replace HO_9:=Aside0.mk (Kd.R_below (zq4 HO_9) hb)
      replace HO_15:=Aside0.mk (Kd.R_below (zq4 HO_15) hb)
      replace HB:=Aside0.mk (below_step (by exact zk1 HB) hb)
      (try clear hb)
      (try clear hb2)
      (try clear hk)
      (try clear hi)
      refine hK.out _ _ ⟨((zhx HB hw560_0).trans rfl),((zhx HB hw561_0).trans rfl),((zhx HB hw563_0).trans rfl)⟩ (fun hHeld=>?_)
      clear hK K
      refine norm_ (a':=?_) ?_ ?_
      rotate_left
      ·show Act.put _ (some 34) _=_
       simp only [Act.put,List.setIfInBounds_toArray,List.set_cons_zero,List.set_cons_succ,i64_w,i32_w]
       rfl
      refine zp1 HT_ (v:=?_) (a':=?_) 14 35 (mb' 21 524287) rfl ?_ ?_ ?_;rotate_left;exact zr1;rotate_left;exact zpa
      refine zp1 HT_ (v:=?_) (a':=?_) 19 40 (mb' 21 1048575) rfl ?_ ?_ ?_;rotate_left;exact zr1;rotate_left;exact zpa
      refine zp1 HT_ (v:=?_) (a':=?_) 20 41 (mb' 21 2097151) rfl ?_ ?_ ?_;rotate_left;exact zr1;rotate_left;exact zpa
      refine done_ (done_of HT_.out (by kernel_rfl)) ?_
      try go_wp2_with (first|((with_reducible refine gate_builtin (b:= .append) (xs:= #[.tmp 42,.tmp 44]) rfl ?_);at_builtin;refine Kd.R_append (Kd.int .i64) (w0:=w) w.heap.size rfl (.tmp 42) (.tmp 44) 22 3 (.int .i64 0) 8 rfl Try.underlying22 info3 rfl (by decide) (by omega) u9 x9_1 (rd t556 x17_1) [.int .i64 (rd t556 x17_1)] (fun k_=>some k_≠ (.slice (some ad559) t556.length co7:Value).ownBlock) (fun _=>False) rfl rfl ?aP (fun _ hk=>hk.elim) ?aF ?aO ?aB ?aS ?aL ?_;(case aP=>exact rfl);(case aB=>exact(by exact zk1 HB));(case aF=>exact(fun k_ hk=>Kd.fresh' (Kd.R_lt (zq4 HO_15)) k_ hk));(case aO=>exact(zq4 HO_9));(case aS=>exact(below_size (by exact zk1 HB)));(case aL=>have:=LMc18.out;omega);intro v565 w21 ho hb hg hat;rw [← Ny564.out] at ho;have HO566:=Aside0.mk (ho);replace HO_15:=Aside0.mk (Kd.R_after (ok:=(fun _=>True)) (by(with_reducible repeat(first|apply Kd.R_alloc|apply Kd.R_drewN|apply Kd.R_drew));exact Kd.R_mono HO_15.out (fun _ hk=>⟨trivial,hk⟩)) hg hat);replace HB:=Aside0.mk (hb);clear HO_9;clear ho hb hg hat))
      go_roundg k1
      case measure=>have:=HK1.out;omega
      case rel=>exact⟨(y564),(wrap64 (x17_1+1)),(by first|rfl|(simp;done)|(simp [*];done)),H',⟨by have:=HK1.out;omega⟩,⟨by(with_reducible repeat(first|apply Kd.R_alloc|apply Kd.R_drewN|apply Kd.R_drew));exact HO566.out⟩,⟨by(with_reducible repeat(first|apply Kd.R_alloc|apply Kd.R_drewN|apply Kd.R_drew));exact Kd.R_mono HO_15.out (fun _ hk=>hk.2)⟩,⟨by exact zk1 HB⟩⟩
     ·rw [if_neg c17] at H
      have c17b0:((wrap64 ((rd l3 (rd t556 x17_1))+t562))== (rd l3 a2))=false:=beq_eq_false_iff_ne.mpr c17
      have c17b1:((wrap64 ((rd l3 (rd t556 x17_1))+t562)) != (rd l3 a2))=true:=bne_iff_ne.mpr c17
      have H':=Aside0.mk H
      clear H
      have p559: 0≤ (x17_1:Int):=of_decide_eq_true zq1
      have q559:x17_1< (t556.length:Int):=of_decide_eq_true zq1
      obtain⟨ad559,e559,hx559_0⟩:=Kd.at_int (Kd.R_reads' HO_15.out).2.2 x17_1 p559 q559
      cases e559
      replace p559:=eq_true p559
      replace q559:=eq_true q559
      try go_wp2
      replace HO_9:=Aside0.mk (Kd.R_drew HO_9.out)
      replace HO_15:=Aside0.mk (Kd.R_drew HO_15.out)
      replace HB:=Aside0.mk (below_drew1 HB.out)
      have p560: 0≤ (a2:Int):=of_decide_eq_true zq1
      have q560:a2< (l3.length:Int):=of_decide_eq_true zq1
      obtain⟨ad560,e560,hx560_0⟩:=Kd.at_int HR3.out a2 p560 q560
      have hw560_0:=hx560_0
      cases e560
      replace hx560_0:=zhx HB hx560_0
      replace p560:=eq_true p560
      replace q560:=eq_true q560
      have p561: 0≤ ((rd t556 x17_1):Int):=of_decide_eq_true zq1
      have q561:(rd t556 x17_1)< (l3.length:Int):=of_decide_eq_true zq1
      obtain⟨ad561,e561,hx561_0⟩:=Kd.at_int HR3.out (rd t556 x17_1) p561 q561
      have hw561_0:=hx561_0
      obtain rfl:ad560=ad561:=(by injection e561)
      replace hx561_0:=zhx HB hx561_0
      replace p561:=eq_true p561
      replace q561:=eq_true q561
      have p563: 0≤ (a2:Int):=of_decide_eq_true zq1
      have q563:a2< (l3.length:Int):=of_decide_eq_true zq1
      obtain⟨ad563,e563,hx563_0⟩:=Kd.at_int HR3.out a2 p563 q563
      have hw563_0:=hx563_0
      obtain rfl:ad560=ad563:=(by injection e563)
      replace hx563_0:=zhx HB hx563_0
      replace p563:=eq_true p563
      replace q563:=eq_true q563
      refine start_ (n:=21) (S:=fun w'=>w'.cell? (ad560.add (a2).toNat)=some (.int .i64 (rd l3 a2))∧w'.cell? (ad560.add ((rd t556 x17_1)).toNat)=some (.int .i64 (rd l3 (rd t556 x17_1)))∧w'.cell? (ad560.add (a2).toNat)=some (.int .i64 (rd l3 a2))) (ds:= []) (mb' 21 0) (by kernel_rfl) rfl rfl ⟨((zhx HB hw560_0).trans rfl),((zhx HB hw561_0).trans rfl),((zhx HB hw563_0).trans rfl)⟩ (fun hHeld=>?_);refine with_tabW impl_hops.tab5 impl_hops.bits5 (fun HT_ HW_=>?_)
      generalize wr.drew=w22 at HO_9 HO_15 HB hx560_0 hx561_0 hx563_0 hHeld ⊢
      refine zp1 HT_ (v:=?_) (a':=?_) 0 21 (mb' 21 1) rfl ?_ ?_ ?_;rotate_left;exact zr1;rotate_left;exact zpa
      refine zp1 HT_ (v:=?_) (a':=?_) 1 22 (mb' 21 3) rfl ?_ ?_ ?_;rotate_left;exact zr1;rotate_left;exact zpa
      refine zp1 HT_ (v:=?_) (a':=?_) 2 23 (mb' 21 7) rfl ?_ ?_ ?_;rotate_left;exact zr1;rotate_left;exact zpa
      refine zt1 HT_ HW_ (v:=?_) (a':=?_) 3 24 (mb' 21 15) rfl ?_ hHeld ?_ ?_;rotate_left;(rintro w' ⟨s0,s1,s2⟩;go_simp;with_reducible rfl);rotate_left;exact zpa
      refine zp1 HT_ (v:=?_) (a':=?_) 4 25 (mb' 21 31) rfl ?_ ?_ ?_;rotate_left;exact zr1;rotate_left;exact zpa
      refine zp1 HT_ (v:=?_) (a':=?_) 5 26 (mb' 21 63) rfl ?_ ?_ ?_;rotate_left;exact zr1;rotate_left;exact zpa
      refine zp1 HT_ (v:=?_) (a':=?_) 6 27 (mb' 21 127) rfl ?_ ?_ ?_;rotate_left;exact zr1;rotate_left;exact zpa
      refine zp1 HT_ (v:=?_) (a':=?_) 7 28 (mb' 21 255) rfl ?_ ?_ ?_;rotate_left;exact zr1;rotate_left;exact zpa
      refine zp1 HT_ (v:=?_) (a':=?_) 8 29 (mb' 21 511) rfl ?_ ?_ ?_;rotate_left;exact zr1;rotate_left;exact zpa
      refine zp1 HT_ (v:=?_) (a':=?_) 10 31 (mb' 21 1535) rfl ?_ ?_ ?_;rotate_left;exact zr1;rotate_left;exact zpa
      refine zp1 HT_ (v:=?_) (a':=?_) 11 32 (mb' 21 3583) rfl ?_ ?_ ?_;rotate_left;exact zr1;rotate_left;exact zpa
      refine zp1 HT_ (v:=?_) (a':=?_) 12 33 (mb' 21 7679) rfl ?_ ?_ ?_;rotate_left;exact zr1;rotate_left;exact zpa
      refine zp1 HT_ (v:=?_) (a':=?_) 15 36 (mb' 21 40447) rfl ?_ ?_ ?_;rotate_left;exact zr1;rotate_left;exact zpa
      refine zp1 HT_ (v:=?_) (a':=?_) 16 37 (mb' 21 105983) rfl ?_ ?_ ?_;rotate_left;exact zr1;rotate_left;exact zpa
      refine zp1 HT_ (v:=?_) (a':=?_) 17 38 (mb' 21 237055) rfl ?_ ?_ ?_;rotate_left;exact zr1;rotate_left;exact zpa
      refine zt1 HT_ HW_ (v:=?_) (a':=?_) 9 30 (mb' 21 237567) rfl ?_ hHeld ?_ ?_;rotate_left;(rintro w' ⟨s0,s1,s2⟩;go_simp;with_reducible rfl);rotate_left;exact zpa
      refine zt1 HT_ HW_ (v:=?_) (a':=?_) 18 39 (mb' 21 499711) rfl ?_ hHeld ?_ ?_;rotate_left;(rintro w' ⟨s0,s1,s2⟩;go_simp;with_reducible rfl);rotate_left;exact zpa
      refine one_ (i:=13) (N:=some 34) (mb' 21 507903) rfl rfl (one_of HT_.out (by kernel_rfl)) (by decide) (fun K hK=>?_)
      refine goes_ Try.func70 (by kernel_rfl) rfl #[.slice A1 l1.length c1,.int .i64 a2,.int .i64 (rd t556 x17_1)] (by rfl) rfl rfl zq2 ?_
      with_reducible refine(impl_cost.calls k1 _ _ l1 a2 (rd t556 x17_1) t562 _ ?side1 ?side2 A16.out).mono ?_
      (case side1=>exact zcc ((Kd.C_below HR1.out HB.out)))
      (case side2=>exact HC1.out)
      rintro e w23 ⟨rfl,hb⟩
      refine⟨_,rfl,?_⟩
      replace HO_9:=Aside0.mk (Kd.R_below (zq4 HO_9) hb)
      replace HO_15:=Aside0.mk (Kd.R_below (zq4 HO_15) hb)
      replace HB:=Aside0.mk (below_step (by exact zk1 HB) hb)
      (try clear hb)
      (try clear hb2)
      (try clear hk)
      (try clear hi)
      refine hK.out _ _ ⟨((zhx HB hw560_0).trans rfl),((zhx HB hw561_0).trans rfl),((zhx HB hw563_0).trans rfl)⟩ (fun hHeld=>?_)
      clear hK K
      refine norm_ (a':=?_) ?_ ?_
      rotate_left
      ·show Act.put _ (some 34) _=_
       simp only [Act.put,List.setIfInBounds_toArray,List.set_cons_zero,List.set_cons_succ,i64_w,i32_w]
       rfl
      refine zp1 HT_ (v:=?_) (a':=?_) 14 35 (mb' 21 524287) rfl ?_ ?_ ?_;rotate_left;exact zr1;rotate_left;exact zpa
      refine zp1 HT_ (v:=?_) (a':=?_) 19 40 (mb' 21 1048575) rfl ?_ ?_ ?_;rotate_left;exact zr1;rotate_left;exact zpa
      refine zp1 HT_ (v:=?_) (a':=?_) 20 41 (mb' 21 2097151) rfl ?_ ?_ ?_;rotate_left;exact zr1;rotate_left;exact zpa
      refine done_ (done_of HT_.out (by kernel_rfl)) ?_
      try go_wp2
      go_roundg k1
      case measure=>have:=HK1.out;omega
      case rel=>exact⟨(x9_1),(wrap64 (x17_1+1)),(by first|rfl|(simp;done)|(simp [*];done)),H',⟨by have:=HK1.out;omega⟩,⟨by(with_reducible repeat(first|apply Kd.R_alloc|apply Kd.R_drewN|apply Kd.R_drew));exact HO_9.out⟩,⟨by(with_reducible repeat(first|apply Kd.R_alloc|apply Kd.R_drewN|apply Kd.R_drew));exact HO_15.out⟩,⟨by exact zk1 HB⟩⟩
    ·rw [if_neg c13] at H
     have c13b0:decide ((rd l3 a2)< 100000)=false:=decide_eq_false c13
     clear c13
     have H':=Aside0.mk H
     clear H
     have p559: 0≤ (x17_1:Int):=of_decide_eq_true zq1
     have q559:x17_1< (t556.length:Int):=of_decide_eq_true zq1
     obtain⟨ad559,e559,hx559_0⟩:=Kd.at_int (Kd.R_reads' HO_15.out).2.2 x17_1 p559 q559
     cases e559
     replace p559:=eq_true p559
     replace q559:=eq_true q559
     try go_wp2
     replace HO_9:=Aside0.mk (Kd.R_drew HO_9.out)
     replace HO_15:=Aside0.mk (Kd.R_drew HO_15.out)
     replace HB:=Aside0.mk (below_drew1 HB.out)
     have p560: 0≤ (a2:Int):=of_decide_eq_true zq1
     have q560:a2< (l3.length:Int):=of_decide_eq_true zq1
     obtain⟨ad560,e560,hx560_0⟩:=Kd.at_int HR3.out a2 p560 q560
     have hw560_0:=hx560_0
     cases e560
     replace hx560_0:=zhx HB hx560_0
     replace p560:=eq_true p560
     replace q560:=eq_true q560
     refine start_ (n:=21) (S:=fun w'=>w'.cell? (ad560.add (a2).toNat)=some (.int .i64 (rd l3 a2))) (ds:= []) (mb' 21 0) (by kernel_rfl) rfl rfl (((zhx HB hw560_0).trans rfl)) (fun hHeld=>?_);refine with_tabW impl_hops.tab5 impl_hops.bits5 (fun HT_ HW_=>?_)
     generalize wr.drew=w24 at HO_9 HO_15 HB hx560_0 hHeld ⊢
     refine zp1 HT_ (v:=?_) (a':=?_) 0 21 (mb' 21 1) rfl ?_ ?_ ?_;rotate_left;exact zr1;rotate_left;exact zpa
     refine zp1 HT_ (v:=?_) (a':=?_) 1 22 (mb' 21 3) rfl ?_ ?_ ?_;rotate_left;exact zr1;rotate_left;exact zpa
     refine zp1 HT_ (v:=?_) (a':=?_) 2 23 (mb' 21 7) rfl ?_ ?_ ?_;rotate_left;exact zr1;rotate_left;exact zpa
     refine zt1 HT_ HW_ (v:=?_) (a':=?_) 3 24 (mb' 21 15) rfl ?_ hHeld ?_ ?_;rotate_left;(intro w' s0;go_simp;with_reducible rfl);rotate_left;exact zpa
     refine zp1 HT_ (v:=?_) (a':=?_) 4 25 (mb' 21 31) rfl ?_ ?_ ?_;rotate_left;exact zr1;rotate_left;exact zpa
     refine zp1 HT_ (v:=?_) (a':=?_) 5 26 (mb' 21 63) rfl ?_ ?_ ?_;rotate_left;exact zr1;rotate_left;exact zpa
     refine zp2 HT_ (v:=undef) (a':=?_) 6 27 (mb' 21 127) rfl ?_ ?_;rotate_left;exact zpa
     refine zp2 HT_ (v:=undef) (a':=?_) 7 28 (mb' 21 255) rfl ?_ ?_;rotate_left;exact zpa
     refine zp2 HT_ (v:=undef) (a':=?_) 8 29 (mb' 21 511) rfl ?_ ?_;rotate_left;exact zpa
     refine zp2 HT_ (v:=undef) (a':=?_) 9 30 (mb' 21 1023) rfl ?_ ?_;rotate_left;exact zpa
     refine zp2 HT_ (v:=undef) (a':=?_) 10 31 (mb' 21 2047) rfl ?_ ?_;rotate_left;exact zpa
     refine zp2 HT_ (v:=undef) (a':=?_) 11 32 (mb' 21 4095) rfl ?_ ?_;rotate_left;exact zpa
     refine zp2 HT_ (v:=undef) (a':=?_) 12 33 (mb' 21 8191) rfl ?_ ?_;rotate_left;exact zpa
     refine zp2 HT_ (v:=undef) (a':=?_) 13 34 (mb' 21 16383) rfl ?_ ?_;rotate_left;exact zpa
     refine zp2 HT_ (v:=undef) (a':=?_) 14 35 (mb' 21 32767) rfl ?_ ?_;rotate_left;exact zpa
     refine zp2 HT_ (v:=undef) (a':=?_) 15 36 (mb' 21 65535) rfl ?_ ?_;rotate_left;exact zpa
     refine zp2 HT_ (v:=undef) (a':=?_) 16 37 (mb' 21 131071) rfl ?_ ?_;rotate_left;exact zpa
     refine zp2 HT_ (v:=undef) (a':=?_) 17 38 (mb' 21 262143) rfl ?_ ?_;rotate_left;exact zpa
     refine zp2 HT_ (v:=undef) (a':=?_) 18 39 (mb' 21 524287) rfl ?_ ?_;rotate_left;exact zpa
     refine zp2 HT_ (v:=undef) (a':=?_) 19 40 (mb' 21 1048575) rfl ?_ ?_;rotate_left;exact zpa
     refine zp1 HT_ (v:=?_) (a':=?_) 20 41 (mb' 21 2097151) rfl ?_ ?_ ?_;rotate_left;exact zr1;rotate_left;exact zpa
     refine done_ (done_of HT_.out (by kernel_rfl)) ?_
     try go_wp2
     go_roundg k1
     case measure=>have:=HK1.out;omega
     case rel=>exact⟨(x9_1),(wrap64 (x17_1+1)),(by first|rfl|(simp;done)|(simp [*];done)),H',⟨by have:=HK1.out;omega⟩,⟨by(with_reducible repeat(first|apply Kd.R_alloc|apply Kd.R_drewN|apply Kd.R_drew));exact HO_9.out⟩,⟨by(with_reducible repeat(first|apply Kd.R_alloc|apply Kd.R_drewN|apply Kd.R_drew));exact HO_15.out⟩,⟨by exact zk1 HB⟩⟩
   ·rw [if_neg c8] at H
    have c8b0:decide (x17_1< (t556.length:Int))=false:=decide_eq_false c8
    clear c8
    obtain rfl:=Option.some.inj H
    go_wp2
    go_ret
    exact⟨_,by first|rfl|(simp [errW_none,errW_some]<;>rfl)|(simp [*,errW_none,errW_some]<;>rfl),by(with_reducible repeat(first|apply Kd.R_alloc|apply Kd.R_drewN|apply Kd.R_drew));exact Kd.R_mono HO_9.out (fun _ hk=>trivial),by exact zk1 HB⟩
def impl_treeAt.l0:Nat→Int→List (S79)→Int→List Int→List Int→Int→Int→Option (List Int)
 | 0,_,_,_,_,_,_,_=>none
 |k+1,x0,x1,x2,x7,x8,x18,x19=>if x19<x18 then(if 0≤x19 then(if x19< (x8.length:Int) then((some (x8.set (x19:Int).toNat (-1):List Int)).bind fun y573=>((impl_hops.f k x0 x1 x19 x7).bind fun t574=>(if x19=x2 then(impl_treeAt.l0 k x0 x1 x2 x7 y573 x18 (wrap64 (x19+1))) else(if (t574.length:Int) > 0 then(if 0< (t574.length:Int) then(impl_treeAt.l0 k x0 x1 x2 x7 (y573.set (x19:Int).toNat (rd t574 0)) x18 (wrap64 (x19+1))) else(none)) else(impl_treeAt.l0 k x0 x1 x2 x7 y573 x18 (wrap64 (x19+1))))))) else(none)) else(none)) else(some x8)
def impl_treeAt.f (k:Nat) (a0:Int) (l1:List (S79)) (a2:Int):Option (List Int):=(impl_fars.f k a0 l1 a2).bind fun t567=>(if 0≤a0 then(if (a0:Int).toNat≤35184372088832 then((some (List.replicate (a0:Int).toNat 0:List Int)).bind fun y570=>(impl_treeAt.l0 k a0 l1 a2 t567 y570 (y570.length:Int) 0)) else(none)) else(none))
set_option maxHeartbeats 8000000 in
set_option maxRecDepth 100000 in
theorem impl_treeAt.calls (k:Nat) (a0:Int) (A1:Option Addr) (c1:Nat) (l1:List (S79)) (a2:Int) (r:List Int) (w:World) (hr1:Kd.C k79 w A1 l1.length l1) (hc1:l1.length≤c1) (h:impl_treeAt.f k a0 l1 a2=some r):
  Calls Try.prog 77 #[.int .i64 a0,.slice A1 l1.length c1,.int .i64 a2] w fun e w'=> ∃ v0_:Value,e= .returned (v0_)∧Kd.R (Kd.int .i64) 3 w' w.heap.size (fun _=>True) v0_ r∧Below w.heap.size w w':=by
 have HR1:=Aside0.mk hr1
 have HC1:=Aside0.mk hc1
 clear hr1 hc1
 have HB:=Aside0.mk (Below.refl w.heap.size w)
 have H:((impl_fars.f k a0 l1 a2).bind fun t567=>(if 0≤a0 then(if (a0:Int).toNat≤35184372088832 then((some (List.replicate (a0:Int).toNat 0:List Int)).bind fun y570=>(impl_treeAt.l0 k a0 l1 a2 t567 y570 (y570.length:Int) 0)) else(none)) else(none)))=some r:=h
 clear h
 replace H:=Option.bind_eq_some_iff.mp H
 obtain⟨t567,A40,H⟩:=H
 replace H:(if 0≤a0 then(if (a0:Int).toNat≤35184372088832 then((some (List.replicate (a0:Int).toNat 0:List Int)).bind fun y570=>(impl_treeAt.l0 k a0 l1 a2 t567 y570 (y570.length:Int) 0)) else(none)) else(none))=some r:=H
 have A4:=Aside0.mk A40
 clear A40
 by_cases c5: 0≤a0
 case neg=>rw [if_neg c5] at H;exact absurd H (by simp)
 rw [if_pos c5] at H
 have c5b0:=eq_true c5
 have c5b1:decide (0≤a0)=true:=decide_eq_true c5
 clear c5
 by_cases c6:(a0:Int).toNat≤35184372088832
 case neg=>rw [if_neg c6] at H;exact absurd H (by simp)
 rw [if_pos c6] at H
 have c6b0:=eq_true c6
 have c6b1:decide ((a0:Int).toNat≤35184372088832)=true:=decide_eq_true c6
 clear c6
 obtain⟨y570,hy570⟩ :∃ y_:List Int,y_= (List.replicate (a0:Int).toNat 0):=⟨_,rfl⟩
 replace H:(impl_treeAt.l0 k a0 l1 a2 t567 y570 (y570.length:Int) 0)=some r:=zfh hy570 H
 have Ny570:=Aside0.mk hy570
 clear hy570
 have H':=Aside0.mk H
 clear H
 go_enter Try.func77,Try.ntmps77
 go_wp2_with (first|((with_reducible refine gate_callee (f:=85) rfl ?_);refine goesL_ (some 14) rfl rfl Try.func85 (by kernel_rfl) rfl #[.int .i64 a0,.slice A1 l1.length c1,.int .i64 a2] rfl zq2 ?_;(with_reducible refine(impl_fars.calls k a0 _ _ l1 a2 t567 _ ?side1 ?side2 A4.out).mono ?_);(case side1=>exact zcc (HR1.out));(case side2=>exact HC1.out);rintro e w7 ⟨v568,rfl,ho0,hb⟩;refine⟨_,rfl,?_⟩;have HO569:=Aside0.mk (Kd.R_lower ho0 (below_size (by exact zk1 HB)));replace HB:=Aside0.mk (below_step (by exact zk1 HB) hb);(try clear hb);(try clear hb2);(try clear hk);(try clear hi);(try clear ho0))|((with_reducible refine gate_dst (N:=16) rfl ?_);(try(refine gate_guard (by rfl) ?_;dsimp only));refine Kd.R_make (Kd.int .i64) _ 3 rfl (N:=16) rfl 22 _ _ rfl a0 rfl rfl Try.underlying22 (.int .i64 0) 8 info3 rfl (by decide) (by omega) 0 (ok:=fun _=>True) (okp:=fun _=>True) rfl (fun _ hk=>hk) trivial (of_decide_eq_true zq1) (Nat.le_trans (Nat.mul_le_mul_right _ (of_decide_eq_true zq1:a0.toNat≤35184372088832)) (by omega)) (Below.refl _ _) (Nat.le_refl _) ?_;intro v571 w8 ho9 hb hg_ hnew_;clear hg_ hnew_;(first|rw [← Ny570.out] at ho9|(simp only [Int.reduceToNat] at ho9;rw [← Ny570.out] at ho9));have HO572:=Aside0.mk (Kd.R_lower (Kd.R_new' ho9 (Kd.R_lt (zq4 HO569))) (below_size (by exact zk1 HB)));replace HO569:=Aside0.mk (Kd.R_elder' (zq4 HO569) (Kd.R_base ho9) hb);replace HB:=Aside0.mk (below_step (by exact zk1 HB) hb);clear hb ho9;obtain⟨Ao10,co10,eo10⟩:=Kd.R_slice HO572.out;subst eo10))
 go_loopg [19] k (fun kq v19 w'=> ∃ (x8_1:List Int) (x19_1:Int),v19= .int .i64 x19_1∧Aside0 (impl_treeAt.l0 kq a0 l1 a2 t567 x8_1 (y570.length:Int) x19_1=some r)∧Aside0 (kq≤k)∧Aside0 (Kd.R (Kd.int .i64) 3 w' w.heap.size (fun k_=>some k_≠ ((.slice Ao10 y570.length co10):Value).ownBlock) v568 t567)∧Aside0 (Kd.R (Kd.int .i64) 3 w' w.heap.size (fun k_=>some k_≠ (v568:Value).ownBlock) (.slice Ao10 y570.length co10) x8_1)∧Aside0 (Below w.heap.size w w'))
 case atStart=>exact⟨(y570),(0),(by first|rfl|(simp;done)|(simp [*];done)),H',⟨Nat.le_refl _⟩,⟨by(with_reducible repeat(first|apply Kd.R_alloc|apply Kd.R_drewN|apply Kd.R_drew));exact Kd.R_mono HO569.out (fun _ hk=>hk.2)⟩,⟨by(with_reducible repeat(first|apply Kd.R_alloc|apply Kd.R_drewN|apply Kd.R_drew));exact Kd.R_mono HO572.out (fun _ hk=>hk.2)⟩,⟨by exact zk1 HB⟩⟩
 case round=>
  clear H'
  try clear c1
  try clear p2
  try clear c5
  try clear c5b0
  try clear c5b1
  try clear c6
  try clear c6b0
  try clear c6b1
  try clear c7
  try clear c8
  obtain⟨x8_1,x19_1,rfl,HA,HK1,HO_7,HO_8,HB⟩:=hrel
  have hl8_1:=(Kd.R_reads' HO_8.out).1
  rw [hl8_1] at HO_8
  (try simp only [hl8_1])
  (try simp only [hl8_1] at HO_7)
  cases gk with
  |zero=>exact absurd HA.out (by simp [impl_treeAt.l0])
  |succ k1=>
   have H:=HA.out
   clear HA
   simp only [impl_treeAt.l0] at H
   by_cases c11:x19_1< (y570.length:Int)
   ·rw [if_pos c11] at H
    have c11b0:decide (x19_1< (y570.length:Int))=true:=decide_eq_true c11
    (try(have c11b0L:=c11b0;simp only [hl8_1] at c11b0L))
    clear c11
    by_cases c12: 0≤x19_1
    case neg=>rw [if_neg c12] at H;exact absurd H (by simp)
    rw [if_pos c12] at H
    have c12b0:decide (0≤x19_1)=true:=decide_eq_true c12
    clear c12
    by_cases c13:x19_1< (x8_1.length:Int)
    case neg=>rw [if_neg c13] at H;exact absurd H (by simp)
    rw [if_pos c13] at H
    have c13b0:decide (x19_1< (x8_1.length:Int))=true:=decide_eq_true c13
    (try(have c13b0L:=c13b0;simp only [hl8_1] at c13b0L))
    clear c13
    obtain⟨y573,hy573⟩ :∃ y_:List Int,y_= (x8_1.set (x19_1:Int).toNat (-1)):=⟨_,rfl⟩
    replace H:((impl_hops.f k1 a0 l1 x19_1 t567).bind fun t574=>(if x19_1=a2 then(impl_treeAt.l0 k1 a0 l1 a2 t567 y573 (y570.length:Int) (wrap64 (x19_1+1))) else(if (t574.length:Int) > 0 then(if 0< (t574.length:Int) then(impl_treeAt.l0 k1 a0 l1 a2 t567 (y573.set (x19_1:Int).toNat (rd t574 0)) (y570.length:Int) (wrap64 (x19_1+1))) else(none)) else(impl_treeAt.l0 k1 a0 l1 a2 t567 y573 (y570.length:Int) (wrap64 (x19_1+1))))))=some r:=zfh hy573 H
    have Ny573:=Aside0.mk hy573
    clear hy573
    replace H:=Option.bind_eq_some_iff.mp H
    obtain⟨t574,A150,H⟩:=H
    replace H:(if x19_1=a2 then(impl_treeAt.l0 k1 a0 l1 a2 t567 y573 (y570.length:Int) (wrap64 (x19_1+1))) else(if (t574.length:Int) > 0 then(if 0< (t574.length:Int) then(impl_treeAt.l0 k1 a0 l1 a2 t567 (y573.set (x19_1:Int).toNat (rd t574 0)) (y570.length:Int) (wrap64 (x19_1+1))) else(none)) else(impl_treeAt.l0 k1 a0 l1 a2 t567 y573 (y570.length:Int) (wrap64 (x19_1+1)))))=some r:=H
    have A15:=Aside0.mk A150
    clear A150
    by_cases c16:x19_1=a2
    ·rw [if_pos c16] at H
     have c16b0:(x19_1==a2)=true:=beq_iff_eq.mpr c16
     have c16b1:(x19_1 !=a2)=false:=bne_eq_false_iff_eq.mpr c16
     clear c16
     have H':=Aside0.mk H
     clear H
     have p14: 0≤ (x19_1:Int):=of_decide_eq_true zq1
     have q14:(x19_1:Int)< ((x8_1.length:Int):Int):=of_decide_eq_true zq1
     obtain⟨go14,co14,eo14,gb14,gl14,cl14,HG14⟩:=Kd.R_form HO_8.out (by omega)
     (first|cases eo14|(injection eo14 with ea_ en_ ec_;(first|subst ea_|(injection ea_ with ea_;subst ea_));subst ec_;clear en_))
     have GB14:=Aside0.mk gb14
     have GG14:=Aside0.mk HG14
     clear gb14 gl14 HG14
     obtain⟨hx14_0,hf14_0⟩:=Kd.R_celln 0 HO_8.out (x19_1:Int) p14 q14
     replace p14:=eq_true p14
     replace q14:=eq_true q14
     have HP17:=Kd.R_putg HO_8.out (x19_1:Int) (-1)
     go_wp2_with (first|((with_reducible refine gate_store (t:=3) (p:=24) rfl ?_);refine store_event (t:=3) (p:=24) (v:=?vo_w18) (w1:=(wr.setCell ⟨go14,(x19_1:Int).toNat,none⟩ (.int .i64 (-1)))) ?hg ?ho ?hn ?hr ?_;(case ho=>rfl);(case hg=>rfl);(case hn=>rfl);(case hr=>first|(go_simp;done)|(go_simp;rfl));intro w18 hw;have hg:wr.grownBy w18 (some go14):=(by rw [hw];exact HP17.2);have hp_:Kd.R (Kd.int .i64) 3 w18 w.heap.size (fun k_=>some k_≠ (v568:Value).ownBlock) (.slice (some ⟨go14,0,none⟩) x8_1.length co10) y573:=(by rw [hw,Ny573.out];exact HP17.1);clear HP17;replace HO_7:=Aside0.mk (Kd.R_after (v:=(.slice (some ⟨go14,0,none⟩) x8_1.length co10)) (v1:=(.slice (some ⟨go14,0,none⟩) x8_1.length co10)) (ok:=(fun _=>True)) (by(with_reducible repeat(first|apply Kd.R_alloc|apply Kd.R_drewN|apply Kd.R_drew));exact Kd.R_mono HO_7.out (fun _ hk=>⟨trivial,hk⟩)) hg (.inl rfl));replace HO_8:=Aside0.mk (hp_);replace HB:=Aside0.mk ((by rw [hw];exact below_set (HB.out) GB14.out:Below w.heap.size w w18));clear hg hw hp_;obtain⟨Ao19,co19,eo19⟩:=Kd.R_slice HO_7.out;subst eo19)|((with_reducible refine gate_callee (f:=98) rfl ?_);refine goesL_ (some 29) rfl rfl Try.func98 (by kernel_rfl) rfl #[.int .i64 a0,.slice A1 l1.length c1,.int .i64 x19_1,.slice Ao19 t567.length co19] rfl zq2 ?_;(with_reducible refine(impl_hops.calls k1 a0 _ _ l1 x19_1 _ _ t567 t574 _ ?side1 ?side2 ?side3 ?side4 A15.out).mono ?_);(case side1=>exact zcc ((Kd.C_below HR1.out HB.out)));(case side2=>exact HC1.out);(case side3=>exact zcc ((Kd.R_reads' HO_7.out).2.2));(case side4=>exact(Kd.R_reads' HO_7.out).2.1);rintro e w20 ⟨v575,rfl,ho0,hb⟩;refine⟨_,rfl,?_⟩;have HO576:=Aside0.mk (Kd.R_lower (Kd.R_new' (Kd.R_new' ho0 (Kd.R_lt (zq4 HO_7))) (Kd.R_lt (zq4 HO_8))) (below_size (by exact zk1 HB)));replace HO_7:=Aside0.mk (Kd.R_elder' (zq4 HO_7) (Kd.R_base ho0) hb);replace HO_8:=Aside0.mk (Kd.R_elder' (zq4 HO_8) (Kd.R_base ho0) hb);replace HB:=Aside0.mk (below_step (by exact zk1 HB) hb);(try clear hb);(try clear hb2);(try clear hk);(try clear hi);(try clear ho0)))
     (try simp only [← hl8_1])
     go_roundg k1
     case measure=>have:=HK1.out;omega
     case rel=>exact⟨(y573),(wrap64 (x19_1+1)),(by first|rfl|(simp;done)|(simp [*];done)),H',⟨by have:=HK1.out;omega⟩,⟨by(try simp only [hl8_1]);(with_reducible repeat(first|apply Kd.R_alloc|apply Kd.R_drewN|apply Kd.R_drew));exact Kd.R_mono HO_7.out (fun _ hk=>hk.1.2)⟩,⟨by(try simp only [hl8_1]);(with_reducible repeat(first|apply Kd.R_alloc|apply Kd.R_drewN|apply Kd.R_drew));exact Kd.R_mono HO_8.out (fun _ hk=>hk.1)⟩,⟨by exact zk1 HB⟩⟩
    ·rw [if_neg c16] at H
     have c16b0:(x19_1==a2)=false:=beq_eq_false_iff_ne.mpr c16
     have c16b1:(x19_1 !=a2)=true:=bne_iff_ne.mpr c16
     by_cases c21:(t574.length:Int) > 0
     ·rw [if_pos c21] at H
      have c21b0:decide (0< (t574.length:Int))=true:=decide_eq_true c21
      (try(have c21b0L:=c21b0;simp only [hl8_1] at c21b0L))
      have c21b1:decide (0<t574.length)=true:=decide_eq_true (by omega)
      clear c21
      by_cases c22: 0< (t574.length:Int)
      case neg=>rw [if_neg c22] at H;exact absurd H (by simp)
      rw [if_pos c22] at H
      have c22b0:decide (0< (t574.length:Int))=true:=decide_eq_true c22
      (try(have c22b0L:=c22b0;simp only [hl8_1] at c22b0L))
      have c22b1:decide (0<t574.length)=true:=decide_eq_true (by omega)
      clear c22
      obtain⟨y578,hy578⟩ :∃ y_:List Int,y_= (y573.set (x19_1:Int).toNat (rd t574 0)):=⟨_,rfl⟩
      replace H:(impl_treeAt.l0 k1 a0 l1 a2 t567 y578 (y570.length:Int) (wrap64 (x19_1+1)))=some r:=zfh hy578 H
      have Ny578:=Aside0.mk hy578
      clear hy578
      have H':=Aside0.mk H
      clear H
      have p14: 0≤ (x19_1:Int):=of_decide_eq_true zq1
      have q14:(x19_1:Int)< ((x8_1.length:Int):Int):=of_decide_eq_true zq1
      obtain⟨go14,co14,eo14,gb14,gl14,cl14,HG14⟩:=Kd.R_form HO_8.out (by omega)
      (first|cases eo14|(injection eo14 with ea_ en_ ec_;(first|subst ea_|(injection ea_ with ea_;subst ea_));subst ec_;clear en_))
      have GB14:=Aside0.mk gb14
      have GG14:=Aside0.mk HG14
      clear gb14 gl14 HG14
      obtain⟨hx14_0,hf14_0⟩:=Kd.R_celln 0 HO_8.out (x19_1:Int) p14 q14
      replace p14:=eq_true p14
      replace q14:=eq_true q14
      have HP24:=Kd.R_putg HO_8.out (x19_1:Int) (-1)
      go_wp2_with (first|((with_reducible refine gate_store (t:=3) (p:=24) rfl ?_);refine store_event (t:=3) (p:=24) (v:=?vo_w25) (w1:=(wr.setCell ⟨go14,(x19_1:Int).toNat,none⟩ (.int .i64 (-1)))) ?hg ?ho ?hn ?hr ?_;(case ho=>rfl);(case hg=>rfl);(case hn=>rfl);(case hr=>first|(go_simp;done)|(go_simp;rfl));intro w25 hw;have hg:wr.grownBy w25 (some go14):=(by rw [hw];exact HP24.2);have hp_:Kd.R (Kd.int .i64) 3 w25 w.heap.size (fun k_=>some k_≠ (v568:Value).ownBlock) (.slice (some ⟨go14,0,none⟩) x8_1.length co10) y573:=(by rw [hw,Ny573.out];exact HP24.1);clear HP24;replace HO_7:=Aside0.mk (Kd.R_after (v:=(.slice (some ⟨go14,0,none⟩) x8_1.length co10)) (v1:=(.slice (some ⟨go14,0,none⟩) x8_1.length co10)) (ok:=(fun _=>True)) (by(with_reducible repeat(first|apply Kd.R_alloc|apply Kd.R_drewN|apply Kd.R_drew));exact Kd.R_mono HO_7.out (fun _ hk=>⟨trivial,hk⟩)) hg (.inl rfl));replace HO_8:=Aside0.mk (hp_);replace HB:=Aside0.mk ((by rw [hw];exact below_set (HB.out) GB14.out:Below w.heap.size w w25));clear hg hw hp_;obtain⟨Ao26,co26,eo26⟩:=Kd.R_slice HO_7.out;subst eo26)|((with_reducible refine gate_callee (f:=98) rfl ?_);refine goesL_ (some 29) rfl rfl Try.func98 (by kernel_rfl) rfl #[.int .i64 a0,.slice A1 l1.length c1,.int .i64 x19_1,.slice Ao26 t567.length co26] rfl zq2 ?_;(with_reducible refine(impl_hops.calls k1 a0 _ _ l1 x19_1 _ _ t567 t574 _ ?side1 ?side2 ?side3 ?side4 A15.out).mono ?_);(case side1=>exact zcc ((Kd.C_below HR1.out HB.out)));(case side2=>exact HC1.out);(case side3=>exact zcc ((Kd.R_reads' HO_7.out).2.2));(case side4=>exact(Kd.R_reads' HO_7.out).2.1);rintro e w27 ⟨v575,rfl,ho0,hb⟩;refine⟨_,rfl,?_⟩;have HO576:=Aside0.mk (Kd.R_lower (Kd.R_new' (Kd.R_new' ho0 (Kd.R_lt (zq4 HO_7))) (Kd.R_lt (zq4 HO_8))) (below_size (by exact zk1 HB)));replace HO_7:=Aside0.mk (Kd.R_elder' (zq4 HO_7) (Kd.R_base ho0) hb);replace HO_8:=Aside0.mk (Kd.R_elder' (zq4 HO_8) (Kd.R_base ho0) hb);replace HB:=Aside0.mk (below_step (by exact zk1 HB) hb);(try clear hb);(try clear hb2);(try clear hk);(try clear hi);(try clear ho0);obtain⟨Ao28,co28,eo28⟩:=Kd.R_slice HO576.out;subst eo28;have p577: 0≤ (0:Int):=(by omega);have q577: 0< (t574.length:Int):=of_decide_eq_true zq1;obtain⟨ad577,e577,hx577_0⟩:=Kd.at_int (Kd.R_reads' HO576.out).2.2 0 p577 q577;cases e577;have qi577:(0<t574.length)=True:=eq_true (by omega);(try rw [show ((0:Int)).toNat=0 from rfl] at hx577_0);(try rw [Addr.add_zero'] at hx577_0);replace p577:=eq_true p577;replace q577:=eq_true q577;have p23: 0≤ (x19_1:Int):=of_decide_eq_true zq1;have q23:(x19_1:Int)< ((x8_1.length:Int):Int):=of_decide_eq_true zq1;obtain⟨hx23_0,hf23_0⟩:=Kd.R_celln 0 HO_8.out (x19_1:Int) p23 q23;replace p23:=eq_true p23;replace q23:=eq_true q23;obtain⟨hy29_,hz29_⟩:=Kd.R_celln 0 HO_8.out (x19_1:Int) (of_decide_eq_true zq1) (of_decide_eq_true zq1);have HP29:=Kd.R_putg HO_8.out (x19_1:Int) (rd t574 0))|((with_reducible refine gate_store (t:=3) (p:=43) rfl ?_);refine store_event (t:=3) (p:=43) (v:=?vo_w30) (w1:=(w27.setCell ⟨go14,(x19_1:Int).toNat,none⟩ (.int .i64 (rd t574 0)))) ?hg ?ho ?hn ?hr ?_;(case ho=>rfl);(case hg=>rfl);(case hn=>rfl);(case hr=>first|(go_simp;done)|(go_simp;rfl));intro w30 hw;have hg:w27.grownBy w30 (some go14):=(by rw [hw];exact HP29.2);have hp_:Kd.R (Kd.int .i64) 3 w30 w.heap.size (fun k_=>some k_≠ (.slice Ao26 t567.length co26:Value).ownBlock∧some k_≠ (.slice (some ad577) t574.length co28:Value).ownBlock) (.slice (some ⟨go14,0,none⟩) x8_1.length co10) y578:=(by rw [hw,Ny578.out];exact HP29.1);clear HP29;replace HO_7:=Aside0.mk (Kd.R_after (v:=(.slice (some ⟨go14,0,none⟩) x8_1.length co10)) (v1:=(.slice (some ⟨go14,0,none⟩) x8_1.length co10)) (ok:=(fun k_=>some k_≠ (.slice (some ad577) t574.length co28:Value).ownBlock)) (by(with_reducible repeat(first|apply Kd.R_alloc|apply Kd.R_drewN|apply Kd.R_drew));exact Kd.R_mono HO_7.out (fun _ hk=>⟨hk.2,hk.1.2⟩)) hg (.inl rfl));replace HO_8:=Aside0.mk (hp_);replace HO576:=Aside0.mk (Kd.R_after (v:=(.slice (some ⟨go14,0,none⟩) x8_1.length co10)) (v1:=(.slice (some ⟨go14,0,none⟩) x8_1.length co10)) (ok:=(fun k_=>some k_≠ (.slice Ao26 t567.length co26:Value).ownBlock)) (by(with_reducible repeat(first|apply Kd.R_alloc|apply Kd.R_drewN|apply Kd.R_drew));exact Kd.R_mono HO576.out (fun _ hk=>⟨hk.1.2,hk.2⟩)) hg (.inl rfl));replace HB:=Aside0.mk ((by rw [hw];exact below_set (HB.out) GB14.out:Below w.heap.size w w30));clear hg hw hp_))
      (try simp only [← hl8_1])
      go_roundg k1
      case measure=>have:=HK1.out;omega
      case rel=>exact⟨(y578),(wrap64 (x19_1+1)),(by first|rfl|(simp;done)|(simp [*];done)),H',⟨by have:=HK1.out;omega⟩,⟨by(try simp only [hl8_1]);(with_reducible repeat(first|apply Kd.R_alloc|apply Kd.R_drewN|apply Kd.R_drew));exact Kd.R_mono HO_7.out (fun _ hk=>hk.2)⟩,⟨by(try simp only [hl8_1]);(with_reducible repeat(first|apply Kd.R_alloc|apply Kd.R_drewN|apply Kd.R_drew));exact Kd.R_mono HO_8.out (fun _ hk=>hk.1)⟩,⟨by exact zk1 HB⟩⟩
     ·rw [if_neg c21] at H
      have c21b0:decide (0< (t574.length:Int))=false:=decide_eq_false c21
      (try(have c21b0L:=c21b0;simp only [hl8_1] at c21b0L))
      have c21b1:decide (0<t574.length)=false:=decide_eq_false (by omega)
      clear c21
      have H':=Aside0.mk H
      clear H
      have p14: 0≤ (x19_1:Int):=of_decide_eq_true zq1
      have q14:(x19_1:Int)< ((x8_1.length:Int):Int):=of_decide_eq_true zq1
      obtain⟨go14,co14,eo14,gb14,gl14,cl14,HG14⟩:=Kd.R_form HO_8.out (by omega)
      (first|cases eo14|(injection eo14 with ea_ en_ ec_;(first|subst ea_|(injection ea_ with ea_;subst ea_));subst ec_;clear en_))
      have GB14:=Aside0.mk gb14
      have GG14:=Aside0.mk HG14
      clear gb14 gl14 HG14
      obtain⟨hx14_0,hf14_0⟩:=Kd.R_celln 0 HO_8.out (x19_1:Int) p14 q14
      replace p14:=eq_true p14
      replace q14:=eq_true q14
      have HP31:=Kd.R_putg HO_8.out (x19_1:Int) (-1)
      go_wp2_with (first|((with_reducible refine gate_store (t:=3) (p:=24) rfl ?_);refine store_event (t:=3) (p:=24) (v:=?vo_w32) (w1:=(wr.setCell ⟨go14,(x19_1:Int).toNat,none⟩ (.int .i64 (-1)))) ?hg ?ho ?hn ?hr ?_;(case ho=>rfl);(case hg=>rfl);(case hn=>rfl);(case hr=>first|(go_simp;done)|(go_simp;rfl));intro w32 hw;have hg:wr.grownBy w32 (some go14):=(by rw [hw];exact HP31.2);have hp_:Kd.R (Kd.int .i64) 3 w32 w.heap.size (fun k_=>some k_≠ (v568:Value).ownBlock) (.slice (some ⟨go14,0,none⟩) x8_1.length co10) y573:=(by rw [hw,Ny573.out];exact HP31.1);clear HP31;replace HO_7:=Aside0.mk (Kd.R_after (v:=(.slice (some ⟨go14,0,none⟩) x8_1.length co10)) (v1:=(.slice (some ⟨go14,0,none⟩) x8_1.length co10)) (ok:=(fun _=>True)) (by(with_reducible repeat(first|apply Kd.R_alloc|apply Kd.R_drewN|apply Kd.R_drew));exact Kd.R_mono HO_7.out (fun _ hk=>⟨trivial,hk⟩)) hg (.inl rfl));replace HO_8:=Aside0.mk (hp_);replace HB:=Aside0.mk ((by rw [hw];exact below_set (HB.out) GB14.out:Below w.heap.size w w32));clear hg hw hp_;obtain⟨Ao33,co33,eo33⟩:=Kd.R_slice HO_7.out;subst eo33)|((with_reducible refine gate_callee (f:=98) rfl ?_);refine goesL_ (some 29) rfl rfl Try.func98 (by kernel_rfl) rfl #[.int .i64 a0,.slice A1 l1.length c1,.int .i64 x19_1,.slice Ao33 t567.length co33] rfl zq2 ?_;(with_reducible refine(impl_hops.calls k1 a0 _ _ l1 x19_1 _ _ t567 t574 _ ?side1 ?side2 ?side3 ?side4 A15.out).mono ?_);(case side1=>exact zcc ((Kd.C_below HR1.out HB.out)));(case side2=>exact HC1.out);(case side3=>exact zcc ((Kd.R_reads' HO_7.out).2.2));(case side4=>exact(Kd.R_reads' HO_7.out).2.1);rintro e w34 ⟨v575,rfl,ho0,hb⟩;refine⟨_,rfl,?_⟩;have HO576:=Aside0.mk (Kd.R_lower (Kd.R_new' (Kd.R_new' ho0 (Kd.R_lt (zq4 HO_7))) (Kd.R_lt (zq4 HO_8))) (below_size (by exact zk1 HB)));replace HO_7:=Aside0.mk (Kd.R_elder' (zq4 HO_7) (Kd.R_base ho0) hb);replace HO_8:=Aside0.mk (Kd.R_elder' (zq4 HO_8) (Kd.R_base ho0) hb);replace HB:=Aside0.mk (below_step (by exact zk1 HB) hb);(try clear hb);(try clear hb2);(try clear hk);(try clear hi);(try clear ho0);obtain⟨Ao35,co35,eo35⟩:=Kd.R_slice HO576.out;subst eo35))
      (try simp only [← hl8_1])
      go_roundg k1
      case measure=>have:=HK1.out;omega
      case rel=>exact⟨(y573),(wrap64 (x19_1+1)),(by first|rfl|(simp;done)|(simp [*];done)),H',⟨by have:=HK1.out;omega⟩,⟨by(try simp only [hl8_1]);(with_reducible repeat(first|apply Kd.R_alloc|apply Kd.R_drewN|apply Kd.R_drew));exact Kd.R_mono HO_7.out (fun _ hk=>hk.1.2)⟩,⟨by(try simp only [hl8_1]);(with_reducible repeat(first|apply Kd.R_alloc|apply Kd.R_drewN|apply Kd.R_drew));exact Kd.R_mono HO_8.out (fun _ hk=>hk.1)⟩,⟨by exact zk1 HB⟩⟩
   ·rw [if_neg c11] at H
    have c11b0:decide (x19_1< (y570.length:Int))=false:=decide_eq_false c11
    (try(have c11b0L:=c11b0;simp only [hl8_1] at c11b0L))
    clear c11
    obtain rfl:=Option.some.inj H
    go_wp2
    go_ret
    exact⟨_,by first|rfl|(simp [errW_none,errW_some]<;>rfl)|(simp [*,errW_none,errW_some]<;>rfl),by(with_reducible repeat(first|apply Kd.R_alloc|apply Kd.R_drewN|apply Kd.R_drew));exact Kd.R_mono HO_8.out (fun _ hk=>trivial),by exact zk1 HB⟩
def impl_TreeAt.f (k:Nat) (a0:Int) (l1:List (S79)) (a2:Int):Option (List Int × Bool):=(impl_goodAt.f k a0 l1 (([a2] :List Int))).bind fun t582=>(if t582=true then((impl_treeAt.f k a0 l1 a2).bind fun t583=>(some (t583,true))) else(some (([] :List Int),false)))
set_option maxHeartbeats 8000000 in
set_option maxRecDepth 100000 in
theorem impl_TreeAt.calls (k:Nat) (a0:Int) (A1:Option Addr) (c1:Nat) (l1:List (S79)) (a2:Int) (r1:List Int) (r2:Bool) (w:World) (hr1:Kd.C k79 w A1 l1.length l1) (hc1:l1.length≤c1) (h:impl_TreeAt.f k a0 l1 a2=some (r1,r2)):
  Calls Try.prog 34 #[.int .i64 a0,.slice A1 l1.length c1,.int .i64 a2] w fun e w'=> ∃ v0_:Value,e= .returned (.tuple #[v0_,.bool r2])∧Kd.R (Kd.int .i64) 3 w' w.heap.size (fun _=>True) v0_ r1∧Below w.heap.size w w':=by
 have HR1:=Aside0.mk hr1
 have HC1:=Aside0.mk hc1
 clear hr1 hc1
 have HB:=Aside0.mk (Below.refl w.heap.size w)
 have H:((impl_goodAt.f k a0 l1 (([a2] :List Int))).bind fun t582=>(if t582=true then((impl_treeAt.f k a0 l1 a2).bind fun t583=>(some (t583,true))) else(some (([] :List Int),false))))=some (r1,r2):=h
 clear h
 obtain⟨y579,hy579⟩ :∃ y_:List Int,y_= (([a2] :List Int)):=⟨_,rfl⟩
 replace H:((impl_goodAt.f k a0 l1 y579).bind fun t582=>(if t582=true then((impl_treeAt.f k a0 l1 a2).bind fun t583=>(some (t583,true))) else(some (([] :List Int),false))))=some (r1,r2):=zfh hy579 H
 have Ny579:=Aside0.mk hy579
 clear hy579
 replace H:=Option.bind_eq_some_iff.mp H
 obtain⟨t582,A40,H⟩:=H
 replace H:(if t582=true then((impl_treeAt.f k a0 l1 a2).bind fun t583=>(some (t583,true))) else(some (([] :List Int),false)))=some (r1,r2):=H
 have A4:=Aside0.mk A40
 clear A40
 by_cases c5:t582=true
 ·subst c5
  have H1:((impl_treeAt.f k a0 l1 a2).bind fun t583=>(some (t583,true)))=some (r1,r2):=by rw [if_pos rfl] at H;exact H
  clear H
  have H:=H1
  clear H1
  replace H:=Option.bind_eq_some_iff.mp H
  obtain⟨t583,A60,H⟩:=H
  replace H:(some (t583,true))=some (r1,r2):=H
  have A6:=Aside0.mk A60
  clear A60
  simp only [Option.some.injEq,Prod.mk.injEq] at H
  obtain⟨rfl,rfl⟩:=H
  go_enter Try.func34,Try.ntmps34
  go_wp2_with (first|((with_reducible refine gate_dst (N:=11) rfl ?_);refine Kd.R_lit (Kd.int .i64) _ 3 ?hg (N:=11) ?hd (xs:=([a2] :List Int)) (inner:= [.int .i64 a2]) (ok:=fun _=>True) (okp:=fun _=>True) ?hr ?hp (fun _ hk=>hk) trivial (Below.refl _ _) (Nat.le_refl _) (by simp) ?_;(case hd=>rfl);(case hg=>rfl);(case hr=>first|(go_simp;done)|(go_simp;rfl));(case hp=>exact(Reps.one (show Kd.M (Kd.int .i64) _ _ _ a2 [.int .i64 a2] from rfl) (Reps.none _ _)));intro v580 w7 ho8 hb hg_ hnew_;clear hg_ hnew_;(first|rw [← Ny579.out] at ho8|(simp only [Int.reduceToNat] at ho8;rw [← Ny579.out] at ho8));have HO581:=Aside0.mk (Kd.R_lower ho8 (below_size (by exact zk1 HB)));replace HB:=Aside0.mk (below_step (by exact zk1 HB) hb);clear hb ho8;obtain⟨Ao9,co9,eo9⟩:=Kd.R_slice HO581.out;subst eo9)|((with_reducible refine gate_callee (f:=76) rfl ?_);refine goesL_ (some 12) rfl rfl Try.func76 (by kernel_rfl) rfl #[.int .i64 a0,.slice A1 l1.length c1,.slice Ao9 y579.length co9] rfl zq2 ?_;(with_reducible refine(impl_goodAt.calls k a0 _ _ l1 _ _ y579 true _ ?side1 ?side2 ?side3 ?side4 A4.out).mono ?_);(case side1=>exact zcc ((Kd.C_below HR1.out HB.out)));(case side2=>exact HC1.out);(case side3=>exact zcc ((Kd.R_reads' HO581.out).2.2));(case side4=>exact(Kd.R_reads' HO581.out).2.1);rintro e w10 ⟨rfl,hb⟩;refine⟨_,rfl,?_⟩;replace HO581:=Aside0.mk (Kd.R_below (zq4 HO581) hb);replace HB:=Aside0.mk (below_step (by exact zk1 HB) hb);(try clear hb);(try clear hb2);(try clear hk);(try clear hi))|((with_reducible refine gate_callee (f:=77) rfl ?_);refine goesL_ (some 17) rfl rfl Try.func77 (by kernel_rfl) rfl #[.int .i64 a0,.slice A1 l1.length c1,.int .i64 a2] rfl zq2 ?_;(with_reducible refine(impl_treeAt.calls k a0 _ _ l1 a2 t583 _ ?side1 ?side2 A6.out).mono ?_);(case side1=>exact zcc ((Kd.C_below HR1.out HB.out)));(case side2=>exact HC1.out);rintro e w11 ⟨v584,rfl,ho0,hb⟩;refine⟨_,rfl,?_⟩;have HO585:=Aside0.mk (Kd.R_lower (Kd.R_new' ho0 (Kd.R_lt (zq4 HO581))) (below_size (by exact zk1 HB)));replace HO581:=Aside0.mk (Kd.R_elder' (zq4 HO581) (Kd.R_base ho0) hb);replace HB:=Aside0.mk (below_step (by exact zk1 HB) hb);(try clear hb);(try clear hb2);(try clear hk);(try clear hi);(try clear ho0)))
  go_ret2
  exact⟨_,by first|rfl|(simp [errW_none,errW_some]<;>rfl)|(simp [*,errW_none,errW_some]<;>rfl),by(with_reducible repeat(first|apply Kd.R_alloc|apply Kd.R_drewN|apply Kd.R_drew));exact Kd.R_mono HO585.out (fun _ hk=>trivial),by exact zk1 HB⟩
 ·replace c5:=Bool.eq_false_iff.mpr c5
  subst c5
  have H1:(some (([] :List Int),false))=some (r1,r2):=by rw [if_neg (show ¬ (false=true) by decide)] at H;exact H
  clear H
  have H:=H1
  clear H1
  simp only [Option.some.injEq,Prod.mk.injEq] at H
  obtain⟨rfl,rfl⟩:=H
  go_enter Try.func34,Try.ntmps34
  go_wp2_with (first|((with_reducible refine gate_dst (N:=11) rfl ?_);refine Kd.R_lit (Kd.int .i64) _ 3 ?hg (N:=11) ?hd (xs:=([a2] :List Int)) (inner:= [.int .i64 a2]) (ok:=fun _=>True) (okp:=fun _=>True) ?hr ?hp (fun _ hk=>hk) trivial (Below.refl _ _) (Nat.le_refl _) (by simp) ?_;(case hd=>rfl);(case hg=>rfl);(case hr=>first|(go_simp;done)|(go_simp;rfl));(case hp=>exact(Reps.one (show Kd.M (Kd.int .i64) _ _ _ a2 [.int .i64 a2] from rfl) (Reps.none _ _)));intro v580 w12 ho13 hb hg_ hnew_;clear hg_ hnew_;(first|rw [← Ny579.out] at ho13|(simp only [Int.reduceToNat] at ho13;rw [← Ny579.out] at ho13));have HO581:=Aside0.mk (Kd.R_lower ho13 (below_size (by exact zk1 HB)));replace HB:=Aside0.mk (below_step (by exact zk1 HB) hb);clear hb ho13;obtain⟨Ao14,co14,eo14⟩:=Kd.R_slice HO581.out;subst eo14)|((with_reducible refine gate_callee (f:=76) rfl ?_);refine goesL_ (some 12) rfl rfl Try.func76 (by kernel_rfl) rfl #[.int .i64 a0,.slice A1 l1.length c1,.slice Ao14 y579.length co14] rfl zq2 ?_;(with_reducible refine(impl_goodAt.calls k a0 _ _ l1 _ _ y579 false _ ?side1 ?side2 ?side3 ?side4 A4.out).mono ?_);(case side1=>exact zcc ((Kd.C_below HR1.out HB.out)));(case side2=>exact HC1.out);(case side3=>exact zcc ((Kd.R_reads' HO581.out).2.2));(case side4=>exact(Kd.R_reads' HO581.out).2.1);rintro e w15 ⟨rfl,hb⟩;refine⟨_,rfl,?_⟩;replace HO581:=Aside0.mk (Kd.R_below (zq4 HO581) hb);replace HB:=Aside0.mk (below_step (by exact zk1 HB) hb);(try clear hb);(try clear hb2);(try clear hk);(try clear hi)))
  go_ret2
  exact⟨_,by first|rfl|(simp [errW_none,errW_some]<;>rfl)|(simp [*,errW_none,errW_some]<;>rfl),by first|exact Kd.R_nil _ _ _ _ _|exact Kd.N_nil _ _ _ _ _|exact Kd.V_nil _ _ _ _ _|exact Kd.Q_nil _ _ _ _ _|exact Kd.S_nil _ _ _ _ _,by exact zk1 HB⟩
/-- A state of type 94 at block g of W; what its slices lead to came in by w0. -/
def IsS94 (w0 W:World) (g:Nat) (f0:List Int) (f1:Int) (f2:Int):Prop:= ∃ A0 c0,W.heap[g]?=some (.cells #[.slice A0 f0.length c0,.int .i64 f1,.int .u64 f2] 94 (0,0))∧w0.heap.size≤g∧Kd.C (Kd.int .u8) w0 A0 f0.length f0
theorem IsS94.grown {w0 W:World} {g:Nat} {f0:List Int} {f1:Int} {f2:Int} {W1:World} {row:Option Nat} (h:IsS94 w0 W g f0 f1 f2) (hw:W.grownBy W1 row) (hne:some g≠row):IsS94 w0 W1 g f0 f1 f2:=by
 obtain⟨A0,c0,hb,hg,hr0⟩:=h
 exact⟨A0,c0,blk_grown hb hw hne,hg,hr0⟩
theorem IsS94.below {w0 W:World} {g:Nat} {f0:List Int} {f1:Int} {f2:Int} {W1:World} (h:IsS94 w0 W g f0 f1 f2) (hw:Below W.heap.size W W1):IsS94 w0 W1 g f0 f1 f2:=h.grown (grown_of_below hw none) (by simp)
theorem IsS94.drewN {w0 W:World} {g:Nat} {f0:List Int} {f1:Int} {f2:Int} (h:IsS94 w0 W g f0 f1 f2) (m:Nat):IsS94 w0 (W.drewN m) g f0 f1 f2:=h
theorem IsS94.apart {w0 W:World} {g:Nat} {f0:List Int} {f1:Int} {f2:Int} {α :Type} {d:Kd α} {e:Nat} {base:Nat} {ok:Nat→Prop} {v:Value} {xs:List α} (h:IsS94 w0 W g f0 f1 f2) (ho:d.R e W base ok v xs) (ht:∀ q,q ∈ e::d.E→q≠94):d.R e W base (fun k=>ok k∧k≠g) v xs:=by
 obtain⟨A0,c0,hb,hg,hr0⟩:=h
 exact Kd.R_types ho hb ht
theorem IsS94.own_ne {w0 W:World} {g:Nat} {f0:List Int} {f1:Int} {f2:Int} {α :Type} {d:Kd α} {e:Nat} {base:Nat} {ok:Nat→Prop} {v:Value} {xs:List α} (h:IsS94 w0 W g f0 f1 f2) (ho:d.R e W base ok v xs) (ht:e≠94):some g≠v.ownBlock:=by
 obtain⟨A0,c0,hb,hg,hr0⟩:=h
 exact Kd.R_ne ho hb ht
theorem IsS94.ge {w0 W:World} {g:Nat} {f0:List Int} {f1:Int} {f2:Int} (h:IsS94 w0 W g f0 f1 f2):w0.heap.size≤g:=by
 obtain⟨A0,c0,hb,hg,hr0⟩:=h
 exact hg
theorem cellS94_0 {W:World} {g:Nat} {A0:Option Addr} {c0:Nat} {f0:List Int} {f1:Int} {f2:Int} (h:W.heap[g]?=some (.cells #[.slice A0 f0.length c0,.int .i64 f1,.int .u64 f2] 94 (0,0))):W.cell? ⟨g,0,none⟩=some (.slice A0 f0.length c0):=(blk_cell h 0).trans rfl
theorem cellS94_1 {W:World} {g:Nat} {A0:Option Addr} {c0:Nat} {f0:List Int} {f1:Int} {f2:Int} (h:W.heap[g]?=some (.cells #[.slice A0 f0.length c0,.int .i64 f1,.int .u64 f2] 94 (0,0))):W.cell? ⟨g,1,none⟩=some (.int .i64 f1):=(blk_cell h 1).trans rfl
theorem IsS94.set_1 {w0 W:World} {g:Nat} {f0:List Int} {f1:Int} {f2:Int} (h:IsS94 w0 W g f0 f1 f2) (x:Int):IsS94 w0 (W.setCell ⟨g,1,none⟩ (.int .i64 x)) g f0 x f2:=by
 obtain⟨A0,c0,hb,hg,hr0⟩:=h
 exact⟨A0,c0,by simpa using blk_set hb 1 (.int .i64 x),hg,hr0⟩
theorem cellS94_2 {W:World} {g:Nat} {A0:Option Addr} {c0:Nat} {f0:List Int} {f1:Int} {f2:Int} (h:W.heap[g]?=some (.cells #[.slice A0 f0.length c0,.int .i64 f1,.int .u64 f2] 94 (0,0))):W.cell? ⟨g,2,none⟩=some (.int .u64 f2):=(blk_cell h 2).trans rfl
theorem IsS94.set_2 {w0 W:World} {g:Nat} {f0:List Int} {f1:Int} {f2:Int} (h:IsS94 w0 W g f0 f1 f2) (x:Int):IsS94 w0 (W.setCell ⟨g,2,none⟩ (.int .u64 x)) g f0 f1 x:=by
 obtain⟨A0,c0,hb,hg,hr0⟩:=h
 exact⟨A0,c0,by simpa using blk_set hb 2 (.int .u64 x),hg,hr0⟩
def spec_l1Cur_next.f (s0_0:List Int) (s0_1:Int) (s0_2:Int):Option (Int × Int × Int):=if s0_1< (s0_0.length:Int) then(if 0≤s0_1 then(if (wrap64 (s0_1+1))≤ (s0_0.length:Int) then(some (wrap64 (rd s0_0 s0_1),wrap64 (s0_1+1),IntKind.u64.wrap ((IntKind.u64.wrap ((IntKind.u64.wrap (s0_2 * 6364136223846793005))+ (IntKind.u64.wrap (wrap64 (rd s0_0 s0_1)))))+1442695040888963407))) else(some (wrap64 (Go.bits .and .u64 ((IntKind.u64.wrap ((IntKind.u64.wrap ((IntKind.u64.wrap (s0_2 * 6364136223846793005))+ (IntKind.u64.wrap (wrap64 (rd s0_0 s0_1)))))+1442695040888963407)) / 1099511627776) 255),wrap64 (s0_1+1),IntKind.u64.wrap ((IntKind.u64.wrap ((IntKind.u64.wrap (s0_2 * 6364136223846793005))+ (IntKind.u64.wrap (wrap64 (rd s0_0 s0_1)))))+1442695040888963407)))) else(none)) else(if (wrap64 (s0_1+1))≤ (s0_0.length:Int) then(some (0,wrap64 (s0_1+1),IntKind.u64.wrap ((IntKind.u64.wrap ((IntKind.u64.wrap (s0_2 * 6364136223846793005))))+1442695040888963407))) else(some (wrap64 (Go.bits .and .u64 ((IntKind.u64.wrap ((IntKind.u64.wrap ((IntKind.u64.wrap (s0_2 * 6364136223846793005))))+1442695040888963407)) / 1099511627776) 255),wrap64 (s0_1+1),IntKind.u64.wrap ((IntKind.u64.wrap ((IntKind.u64.wrap (s0_2 * 6364136223846793005))))+1442695040888963407))))
theorem zk5 {q p:Prop} (b:Aside0 q) (h:q→p:=by intro z;repeat(first|(with_reducible first|exact z|apply IsS94.alloc|apply IsS94.drewN|apply IsS94.drew|apply IsS94.set_1|apply IsS94.set_2)|exact z)):p:=h b.out
theorem zk6 {q p:Prop} (b:Aside0 q) (h:q→p:=by intro z;repeat(first|(with_reducible first|exact z|apply KeepBut.set_|apply keep_drewN|apply keep_drew|apply keep_alloc)|exact z)):p:=h b.out
set_option maxHeartbeats 8000000 in
set_option maxRecDepth 100000 in
theorem spec_l1Cur_next.calls (g:Nat) (s0_0:List Int) (s0_1:Int) (s0_2:Int) (r1:Int) (r2:Int) (r3:Int) (w0 w:World) (hI:IsS94 w0 w g s0_0 s0_1 s0_2) (hB:Below w0.heap.size w0 w) (h:spec_l1Cur_next.f s0_0 s0_1 s0_2=some (r1,r2,r3)):
  Calls Try.prog 103 #[.pointer (some ⟨g,0,none⟩)] w fun e w'=>e= .returned (.int .i64 r1)∧IsS94 w0 w' g s0_0 r2 r3∧Below w0.heap.size w0 w'∧KeepBut w w' g none:=by
 have HI0:=Aside0.mk hI
 have HK:=Aside0.mk (KeepBut.refl w g none)
 have HL:=Aside0.mk hB.size
 clear hI
 have HW0:=Aside0.mk hB.size
 have HB:=Aside0.mk hB
 clear hB
 have H:(if s0_1< (s0_0.length:Int) then(if 0≤s0_1 then(if (wrap64 (s0_1+1))≤ (s0_0.length:Int) then(some (wrap64 (rd s0_0 s0_1),wrap64 (s0_1+1),IntKind.u64.wrap ((IntKind.u64.wrap ((IntKind.u64.wrap (s0_2 * 6364136223846793005))+ (IntKind.u64.wrap (wrap64 (rd s0_0 s0_1)))))+1442695040888963407))) else(some (wrap64 (Go.bits .and .u64 ((IntKind.u64.wrap ((IntKind.u64.wrap ((IntKind.u64.wrap (s0_2 * 6364136223846793005))+ (IntKind.u64.wrap (wrap64 (rd s0_0 s0_1)))))+1442695040888963407)) / 1099511627776) 255),wrap64 (s0_1+1),IntKind.u64.wrap ((IntKind.u64.wrap ((IntKind.u64.wrap (s0_2 * 6364136223846793005))+ (IntKind.u64.wrap (wrap64 (rd s0_0 s0_1)))))+1442695040888963407)))) else(none)) else(if (wrap64 (s0_1+1))≤ (s0_0.length:Int) then(some (0,wrap64 (s0_1+1),IntKind.u64.wrap ((IntKind.u64.wrap ((IntKind.u64.wrap (s0_2 * 6364136223846793005))))+1442695040888963407))) else(some (wrap64 (Go.bits .and .u64 ((IntKind.u64.wrap ((IntKind.u64.wrap ((IntKind.u64.wrap (s0_2 * 6364136223846793005))))+1442695040888963407)) / 1099511627776) 255),wrap64 (s0_1+1),IntKind.u64.wrap ((IntKind.u64.wrap ((IntKind.u64.wrap (s0_2 * 6364136223846793005))))+1442695040888963407)))))=some (r1,r2,r3):=h
 clear h
 by_cases c2:s0_1< (s0_0.length:Int)
 ·rw [if_pos c2] at H
  have c2b0:decide (s0_1< (s0_0.length:Int))=true:=decide_eq_true c2
  clear c2
  by_cases c3: 0≤s0_1
  case neg=>rw [if_neg c3] at H;exact absurd H (by simp)
  rw [if_pos c3] at H
  have c3b0:decide (0≤s0_1)=true:=decide_eq_true c3
  clear c3
  by_cases c4:(wrap64 (s0_1+1))≤ (s0_0.length:Int)
  ·rw [if_pos c4] at H
   have c4b0:decide ((wrap64 (s0_1+1))≤ (s0_0.length:Int))=true:=decide_eq_true c4
   clear c4
   simp only [Option.some.injEq,Prod.mk.injEq] at H
   obtain⟨rfl,rfl,rfl⟩:=H
   obtain⟨ASz5_0,cSz5_0,HGz5,hgz5,HSz5_0⟩:=HI0.out
   have hcz5_0:=cellS94_0 HGz5
   have hcz5_1:=cellS94_1 HGz5
   have hcz5_2:=cellS94_2 HGz5
   have hfz5_1:=blk_frozen HGz5 1
   have hfz5_2:=blk_frozen HGz5 2
   clear HGz5 hgz5
   have p832: 0≤ (s0_1:Int):=of_decide_eq_true zq1
   have q832:s0_1< (s0_0.length:Int):=of_decide_eq_true zq1
   obtain⟨ad832,e832,hx832_0⟩:=Kd.at_int HSz5_0 s0_1 p832 q832
   cases e832
   replace hx832_0:=pw_cell_below HB.out hx832_0
   replace p832:=eq_true p832
   replace q832:=eq_true q832
   go_enter Try.func103,Try.ntmps103
   go_wp2
   repeat(go_quiet (fail);try go_wp2)
   go_ret
   exact⟨by first|rfl|(simp [errW_none,errW_some]<;>rfl)|(simp [*,errW_none,errW_some]<;>rfl),by exact zk5 HI0,by exact zk2 HB (IsS94.ge HI0.out),by exact zk6 HK⟩
  ·rw [if_neg c4] at H
   have c4b0:decide ((wrap64 (s0_1+1))≤ (s0_0.length:Int))=false:=decide_eq_false c4
   clear c4
   simp only [Option.some.injEq,Prod.mk.injEq] at H
   obtain⟨rfl,rfl,rfl⟩:=H
   obtain⟨ASz6_0,cSz6_0,HGz6,hgz6,HSz6_0⟩:=HI0.out
   have hcz6_0:=cellS94_0 HGz6
   have hcz6_1:=cellS94_1 HGz6
   have hcz6_2:=cellS94_2 HGz6
   have hfz6_1:=blk_frozen HGz6 1
   have hfz6_2:=blk_frozen HGz6 2
   clear HGz6 hgz6
   have p832: 0≤ (s0_1:Int):=of_decide_eq_true zq1
   have q832:s0_1< (s0_0.length:Int):=of_decide_eq_true zq1
   obtain⟨ad832,e832,hx832_0⟩:=Kd.at_int HSz6_0 s0_1 p832 q832
   cases e832
   replace hx832_0:=pw_cell_below HB.out hx832_0
   replace p832:=eq_true p832
   replace q832:=eq_true q832
   go_enter Try.func103,Try.ntmps103
   go_wp2
   repeat(go_quiet (fail);try go_wp2)
   go_ret
   exact⟨by first|rfl|(simp [errW_none,errW_some]<;>rfl)|(simp [*,errW_none,errW_some]<;>rfl),by exact zk5 HI0,by exact zk2 HB (IsS94.ge HI0.out),by exact zk6 HK⟩
 ·rw [if_neg c2] at H
  have c2b0:decide (s0_1< (s0_0.length:Int))=false:=decide_eq_false c2
  clear c2
  by_cases c7:(wrap64 (s0_1+1))≤ (s0_0.length:Int)
  ·rw [if_pos c7] at H
   have c7b0:decide ((wrap64 (s0_1+1))≤ (s0_0.length:Int))=true:=decide_eq_true c7
   clear c7
   simp only [Option.some.injEq,Prod.mk.injEq] at H
   obtain⟨rfl,rfl,rfl⟩:=H
   obtain⟨ASz8_0,cSz8_0,HGz8,hgz8,HSz8_0⟩:=HI0.out
   have hcz8_0:=cellS94_0 HGz8
   have hcz8_1:=cellS94_1 HGz8
   have hcz8_2:=cellS94_2 HGz8
   have hfz8_1:=blk_frozen HGz8 1
   have hfz8_2:=blk_frozen HGz8 2
   clear HGz8 hgz8
   go_enter Try.func103,Try.ntmps103
   go_wp2
   repeat(go_quiet (fail);try go_wp2)
   go_ret
   exact⟨by first|rfl|(simp [errW_none,errW_some]<;>rfl)|(simp [*,errW_none,errW_some]<;>rfl),by exact zk5 HI0,by exact zk2 HB (IsS94.ge HI0.out),by exact zk6 HK⟩
  ·rw [if_neg c7] at H
   have c7b0:decide ((wrap64 (s0_1+1))≤ (s0_0.length:Int))=false:=decide_eq_false c7
   clear c7
   simp only [Option.some.injEq,Prod.mk.injEq] at H
   obtain⟨rfl,rfl,rfl⟩:=H
   obtain⟨ASz9_0,cSz9_0,HGz9,hgz9,HSz9_0⟩:=HI0.out
   have hcz9_0:=cellS94_0 HGz9
   have hcz9_1:=cellS94_1 HGz9
   have hcz9_2:=cellS94_2 HGz9
   have hfz9_1:=blk_frozen HGz9 1
   have hfz9_2:=blk_frozen HGz9 2
   clear HGz9 hgz9
   go_enter Try.func103,Try.ntmps103
   go_wp2
   repeat(go_quiet (fail);try go_wp2)
   go_ret
   exact⟨by first|rfl|(simp [errW_none,errW_some]<;>rfl)|(simp [*,errW_none,errW_some]<;>rfl),by exact zk5 HI0,by exact zk2 HB (IsS94.ge HI0.out),by exact zk6 HK⟩
def spec_l1Cur_pick.f (s0_0:List Int) (s0_1:Int) (s0_2:Int) (a1:Int):Option (Int × Int × Int):=if a1≤1 then(some (0,s0_1,s0_2)) else((spec_l1Cur_next.f s0_0 s0_1 s0_2).bind fun bt833=>(if a1 > 200 then((spec_l1Cur_next.f s0_0 bt833.2.1 bt833.2.2).bind fun bt836=>(if a1=0 then(none) else(some (Int.tmod (wrap64 ((wrap64 (bt833.1 * 256))+bt836.1)) a1,bt836.2.1,bt836.2.2)))) else(if a1=0 then(none) else(some (Int.tmod bt833.1 a1,bt833.2.1,bt833.2.2)))))
set_option maxHeartbeats 8000000 in
set_option maxRecDepth 100000 in
theorem spec_l1Cur_pick.calls (g:Nat) (s0_0:List Int) (s0_1:Int) (s0_2:Int) (a1:Int) (r1:Int) (r2:Int) (r3:Int) (w0 w:World) (hI:IsS94 w0 w g s0_0 s0_1 s0_2) (hB:Below w0.heap.size w0 w) (h:spec_l1Cur_pick.f s0_0 s0_1 s0_2 a1=some (r1,r2,r3)):
  Calls Try.prog 87 #[.pointer (some ⟨g,0,none⟩),.int .i64 a1] w fun e w'=>e= .returned (.int .i64 r1)∧IsS94 w0 w' g s0_0 r2 r3∧Below w0.heap.size w0 w'∧KeepBut w w' g none:=by
 have HI0:=Aside0.mk hI
 have HK:=Aside0.mk (KeepBut.refl w g none)
 have HL:=Aside0.mk hB.size
 clear hI
 have HW0:=Aside0.mk hB.size
 have HB:=Aside0.mk hB
 clear hB
 have H:(if a1≤1 then(some (0,s0_1,s0_2)) else((spec_l1Cur_next.f s0_0 s0_1 s0_2).bind fun bt833=>(if a1 > 200 then((spec_l1Cur_next.f s0_0 bt833.2.1 bt833.2.2).bind fun bt836=>(if a1=0 then(none) else(some (Int.tmod (wrap64 ((wrap64 (bt833.1 * 256))+bt836.1)) a1,bt836.2.1,bt836.2.2)))) else(if a1=0 then(none) else(some (Int.tmod bt833.1 a1,bt833.2.1,bt833.2.2))))))=some (r1,r2,r3):=h
 clear h
 by_cases c3:a1≤1
 ·rw [if_pos c3] at H
  have c3b0:decide (a1≤1)=true:=decide_eq_true c3
  clear c3
  simp only [Option.some.injEq,Prod.mk.injEq] at H
  obtain⟨rfl,rfl,rfl⟩:=H
  go_enter Try.func87,Try.ntmps87
  go_wp2
  go_ret
  exact⟨by first|rfl|(simp [errW_none,errW_some]<;>rfl)|(simp [*,errW_none,errW_some]<;>rfl),by exact zk5 HI0,by exact zk2 HB (IsS94.ge HI0.out),by exact zk6 HK⟩
 ·rw [if_neg c3] at H
  have c3b0:decide (a1≤1)=false:=decide_eq_false c3
  clear c3
  replace H:=Option.bind_eq_some_iff.mp H
  obtain⟨⟨t833,t834,t835⟩,A40,H⟩:=H
  replace H:(if a1 > 200 then((spec_l1Cur_next.f s0_0 t834 t835).bind fun bt836=>(if a1=0 then(none) else(some (Int.tmod (wrap64 ((wrap64 (t833 * 256))+bt836.1)) a1,bt836.2.1,bt836.2.2)))) else(if a1=0 then(none) else(some (Int.tmod t833 a1,t834,t835))))=some (r1,r2,r3):=H
  have A4:=Aside0.mk A40
  clear A40
  by_cases c5:a1 > 200
  ·rw [if_pos c5] at H
   have c5b0:decide (200<a1)=true:=decide_eq_true c5
   clear c5
   replace H:=Option.bind_eq_some_iff.mp H
   obtain⟨⟨t836,t837,t838⟩,A60,H⟩:=H
   replace H:(if a1=0 then(none) else(some (Int.tmod (wrap64 ((wrap64 (t833 * 256))+t836)) a1,t837,t838)))=some (r1,r2,r3):=H
   have A6:=Aside0.mk A60
   clear A60
   by_cases c7:a1=0
   ·rw [if_pos c7] at H
    exact absurd H (by simp)
   ·rw [if_neg c7] at H
    have c7b0:(a1==0)=false:=beq_eq_false_iff_ne.mpr c7
    have c7b1:(a1 !=0)=true:=bne_iff_ne.mpr c7
    simp only [Option.some.injEq,Prod.mk.injEq] at H
    obtain⟨rfl,rfl,rfl⟩:=H
    go_enter Try.func87,Try.ntmps87
    go_wp2_with (first|((with_reducible refine gate_callee (f:=103) rfl ?_);refine goesL_ (some 9) rfl rfl Try.func103 (by kernel_rfl) rfl #[.pointer (some ⟨g,0,none⟩)] rfl zq2 ?_;(with_reducible refine(spec_l1Cur_next.calls g s0_0 s0_1 s0_2 t833 t834 t835 w0 _ ?side1 ?side2 A4.out).mono ?_);(case side1=>exact zk5 HI0);(case side2=>exact zk2 HB (IsS94.ge HI0.out));rintro e w8 ⟨rfl,hi,hb,hk⟩;refine⟨_,rfl,?_⟩;replace HK:=Aside0.mk (KeepBut.trans (by exact zk6 HK) hk (.inl rfl));replace HB:=Aside0.mk (hb);replace HI0:=Aside0.mk (hi);(try clear hb);(try clear hb2);(try clear hk);(try clear hi))|((with_reducible refine gate_callee (f:=103) rfl ?_);refine goesL_ (some 15) rfl rfl Try.func103 (by kernel_rfl) rfl #[.pointer (some ⟨g,0,none⟩)] rfl zq2 ?_;(with_reducible refine(spec_l1Cur_next.calls g s0_0 t834 t835 t836 t837 t838 w0 _ ?side1 ?side2 A6.out).mono ?_);(case side1=>exact zk5 HI0);(case side2=>exact zk2 HB (IsS94.ge HI0.out));rintro e w9 ⟨rfl,hi,hb,hk⟩;refine⟨_,rfl,?_⟩;replace HK:=Aside0.mk (KeepBut.trans (by exact zk6 HK) hk (.inl rfl));replace HB:=Aside0.mk (hb);replace HI0:=Aside0.mk (hi);(try clear hb);(try clear hb2);(try clear hk);(try clear hi)))
    go_ret
    exact⟨by first|rfl|(simp [errW_none,errW_some]<;>rfl)|(simp [*,errW_none,errW_some]<;>rfl),by exact zk5 HI0,by exact zk2 HB (IsS94.ge HI0.out),by exact zk6 HK⟩
  ·rw [if_neg c5] at H
   have c5b0:decide (200<a1)=false:=decide_eq_false c5
   clear c5
   by_cases c10:a1=0
   ·rw [if_pos c10] at H
    exact absurd H (by simp)
   ·rw [if_neg c10] at H
    have c10b0:(a1==0)=false:=beq_eq_false_iff_ne.mpr c10
    have c10b1:(a1 !=0)=true:=bne_iff_ne.mpr c10
    simp only [Option.some.injEq,Prod.mk.injEq] at H
    obtain⟨rfl,rfl,rfl⟩:=H
    go_enter Try.func87,Try.ntmps87
    go_wp2_with (first|((with_reducible refine gate_callee (f:=103) rfl ?_);refine goesL_ (some 9) rfl rfl Try.func103 (by kernel_rfl) rfl #[.pointer (some ⟨g,0,none⟩)] rfl zq2 ?_;(with_reducible refine(spec_l1Cur_next.calls g s0_0 s0_1 s0_2 t833 t834 t835 w0 _ ?side1 ?side2 A4.out).mono ?_);(case side1=>exact zk5 HI0);(case side2=>exact zk2 HB (IsS94.ge HI0.out));rintro e w11 ⟨rfl,hi,hb,hk⟩;refine⟨_,rfl,?_⟩;replace HK:=Aside0.mk (KeepBut.trans (by exact zk6 HK) hk (.inl rfl));replace HB:=Aside0.mk (hb);replace HI0:=Aside0.mk (hi);(try clear hb);(try clear hb2);(try clear hk);(try clear hi)))
    go_ret
    exact⟨by first|rfl|(simp [errW_none,errW_some]<;>rfl)|(simp [*,errW_none,errW_some]<;>rfl),by exact zk5 HI0,by exact zk2 HB (IsS94.ge HI0.out),by exact zk6 HK⟩
def spec_l1Cur_one.f (s0_0:List Int) (s0_1:Int) (s0_2:Int) (a1:Int):Option (Bool × Int × Int):=(spec_l1Cur_pick.f s0_0 s0_1 s0_2 a1).bind fun bt839=>(some ((bt839.1==0),bt839.2.1,bt839.2.2))
set_option maxHeartbeats 8000000 in
set_option maxRecDepth 100000 in
theorem spec_l1Cur_one.calls (g:Nat) (s0_0:List Int) (s0_1:Int) (s0_2:Int) (a1:Int) (r1:Bool) (r2:Int) (r3:Int) (w0 w:World) (hI:IsS94 w0 w g s0_0 s0_1 s0_2) (hB:Below w0.heap.size w0 w) (h:spec_l1Cur_one.f s0_0 s0_1 s0_2 a1=some (r1,r2,r3)):
  Calls Try.prog 91 #[.pointer (some ⟨g,0,none⟩),.int .i64 a1] w fun e w'=>e= .returned (.bool r1)∧IsS94 w0 w' g s0_0 r2 r3∧Below w0.heap.size w0 w'∧KeepBut w w' g none:=by
 have HI0:=Aside0.mk hI
 have HK:=Aside0.mk (KeepBut.refl w g none)
 have HL:=Aside0.mk hB.size
 clear hI
 have HW0:=Aside0.mk hB.size
 have HB:=Aside0.mk hB
 clear hB
 have H:((spec_l1Cur_pick.f s0_0 s0_1 s0_2 a1).bind fun bt839=>(some ((bt839.1==0),bt839.2.1,bt839.2.2)))=some (r1,r2,r3):=h
 clear h
 replace H:=Option.bind_eq_some_iff.mp H
 obtain⟨⟨t839,t840,t841⟩,A30,H⟩:=H
 replace H:(some ((t839==0),t840,t841))=some (r1,r2,r3):=H
 have A3:=Aside0.mk A30
 clear A30
 simp only [Option.some.injEq,Prod.mk.injEq] at H
 obtain⟨rfl,rfl,rfl⟩:=H
 go_enter Try.func91,Try.ntmps91
 go_wp2_with (first|((with_reducible refine gate_callee (f:=87) rfl ?_);refine goesL_ (some 7) rfl rfl Try.func87 (by kernel_rfl) rfl #[.pointer (some ⟨g,0,none⟩),.int .i64 a1] rfl zq2 ?_;(with_reducible refine(spec_l1Cur_pick.calls g s0_0 s0_1 s0_2 a1 t839 t840 t841 w0 _ ?side1 ?side2 A3.out).mono ?_);(case side1=>exact zk5 HI0);(case side2=>exact zk2 HB (IsS94.ge HI0.out));rintro e w4 ⟨rfl,hi,hb,hk⟩;refine⟨_,rfl,?_⟩;replace HK:=Aside0.mk (KeepBut.trans (by exact zk6 HK) hk (.inl rfl));replace HB:=Aside0.mk (hb);replace HI0:=Aside0.mk (hi);(try clear hb);(try clear hb2);(try clear hk);(try clear hi)))
 go_ret
 exact⟨by first|rfl|(simp [errW_none,errW_some]<;>rfl)|(simp [*,errW_none,errW_some]<;>rfl),by exact zk5 HI0,by exact zk2 HB (IsS94.ge HI0.out),by exact zk6 HK⟩
def spec_l1Cur_among.f (s0_0:List Int) (s0_1:Int) (s0_2:Int) (l1:List Int):Option (Int × Int × Int):=(spec_l1Cur_pick.f s0_0 s0_1 s0_2 (l1.length:Int)).bind fun bt842=>(if 0≤bt842.1 then(if bt842.1< (l1.length:Int) then(some (rd l1 bt842.1,bt842.2.1,bt842.2.2)) else(none)) else(none))
set_option maxHeartbeats 8000000 in
set_option maxRecDepth 100000 in
theorem spec_l1Cur_among.calls (g:Nat) (s0_0:List Int) (s0_1:Int) (s0_2:Int) (A1:Option Addr) (c1:Nat) (l1:List Int) (r1:Int) (r2:Int) (r3:Int) (w0 w:World) (hI:IsS94 w0 w g s0_0 s0_1 s0_2) (hB:Below w0.heap.size w0 w) (hr1:Kd.C (Kd.int .i64) w A1 l1.length l1) (hc1:l1.length≤c1) (hf1:∀ ad,A1=some ad→0<l1.length→ad.block≠g) (h:spec_l1Cur_among.f s0_0 s0_1 s0_2 l1=some (r1,r2,r3)):
  Calls Try.prog 104 #[.pointer (some ⟨g,0,none⟩),.slice A1 l1.length c1] w fun e w'=>e= .returned (.int .i64 r1)∧IsS94 w0 w' g s0_0 r2 r3∧Below w0.heap.size w0 w'∧KeepBut w w' g none:=by
 have HR1:=Aside0.mk hr1
 have HC1:=Aside0.mk hc1
 clear hr1 hc1
 have HI0:=Aside0.mk hI
 have HK:=Aside0.mk (KeepBut.refl w g none)
 have HL:=Aside0.mk hB.size
 clear hI
 have HW0:=Aside0.mk hB.size
 have HB:=Aside0.mk hB
 clear hB
 have H:((spec_l1Cur_pick.f s0_0 s0_1 s0_2 (l1.length:Int)).bind fun bt842=>(if 0≤bt842.1 then(if bt842.1< (l1.length:Int) then(some (rd l1 bt842.1,bt842.2.1,bt842.2.2)) else(none)) else(none)))=some (r1,r2,r3):=h
 clear h
 replace H:=Option.bind_eq_some_iff.mp H
 obtain⟨⟨t842,t843,t844⟩,A30,H⟩:=H
 replace H:(if 0≤t842 then(if t842< (l1.length:Int) then(some (rd l1 t842,t843,t844)) else(none)) else(none))=some (r1,r2,r3):=H
 have A3:=Aside0.mk A30
 clear A30
 by_cases c4: 0≤t842
 case neg=>rw [if_neg c4] at H;exact absurd H (by simp)
 rw [if_pos c4] at H
 have c4b0:decide (0≤t842)=true:=decide_eq_true c4
 clear c4
 by_cases c5:t842< (l1.length:Int)
 case neg=>rw [if_neg c5] at H;exact absurd H (by simp)
 rw [if_pos c5] at H
 have c5b0:decide (t842< (l1.length:Int))=true:=decide_eq_true c5
 clear c5
 simp only [Option.some.injEq,Prod.mk.injEq] at H
 obtain⟨rfl,rfl,rfl⟩:=H
 go_enter Try.func104,Try.ntmps104
 go_wp2_with (first|((with_reducible refine gate_callee (f:=87) rfl ?_);refine goesL_ (some 9) rfl rfl Try.func87 (by kernel_rfl) rfl #[.pointer (some ⟨g,0,none⟩),.int .i64 (l1.length:Int)] rfl zq2 ?_;(with_reducible refine(spec_l1Cur_pick.calls g s0_0 s0_1 s0_2 (l1.length:Int) t842 t843 t844 w0 _ ?side1 ?side2 A3.out).mono ?_);(case side1=>exact zk5 HI0);(case side2=>exact zk2 HB (IsS94.ge HI0.out));rintro e w6 ⟨rfl,hi,hb,hk⟩;refine⟨_,rfl,?_⟩;replace HK:=Aside0.mk (KeepBut.trans (by exact zk6 HK) hk (.inl rfl));replace HB:=Aside0.mk (hb);replace HI0:=Aside0.mk (hi);(try clear hb);(try clear hb2);(try clear hk);(try clear hi);have p845: 0≤ (t842:Int):=of_decide_eq_true zq1;have q845:t842< (l1.length:Int):=of_decide_eq_true zq1;obtain⟨ad845,e845,hx845_0⟩:=Kd.at_int HR1.out t842 p845 q845;cases e845;replace hx845_0:=keep_cell HK.out hx845_0 (by first|(rw [add_block];exact hf1 _ rfl (by omega))|exact hf1 _ rfl (by omega)|exact hf1 ad845 rfl (by omega));replace p845:=eq_true p845;replace q845:=eq_true q845))
 go_ret
 exact⟨by first|rfl|(simp [errW_none,errW_some]<;>rfl)|(simp [*,errW_none,errW_some]<;>rfl),by exact zk5 HI0,by exact zk2 HB (IsS94.ge HI0.out),by exact zk6 HK⟩
end Go.Proofs.Ytedegfbheihopaa.P
