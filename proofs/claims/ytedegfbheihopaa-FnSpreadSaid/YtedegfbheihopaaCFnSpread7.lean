/- Functions, walks and plain lemmas that the law FnSpread reaches, part 7. -/
import Derived.Test.YtedegfbheihopaaCFnSpread6
import Derived.Below
import Derived.Deep.Draws
import Derived.Deep.AppendLies
import Derived.Maps.AppendAt
import Derived.OwnWalk
import Derived.Laws.BytesArg
import Derived.Laws.MakeOwn
import Derived.Laws.OwnMore
import Derived.Deep.OwnRows
import Derived.Tactics
import Derived.Lib.ConvBytes
import Derived.Laws.Slices
import Derived.WalkKit
import Derived.KernelRfl
import Derived.RowKit3
import Derived.Deep.LoopGhost
import Derived.Deep.QuietTactic
import Derived.BigQuiet
import Derived.WideLaws
import Derived.Deep.DeepCutAuto
import Derived.Deep.CutBlock
import Derived.Deep.RegionHeld3
import Derived.Laws.Rows
import Derived.Lib.AppendStr
import Derived.ArgAppend
import Derived.Laws.IdiomCopy
import Derived.OrdersHeld
import Derived.Laws.BitsLemmas
import Derived.RowKit
import Derived.WalkSpells
import Derived.Lib.SliceRun
import Derived.Shelf.Abstract
import Derived.Maps.OwnSet
import Derived.Maps.OwnOps
import Derived.ProofKit
import Derived.OpenShut
import Derived.ShutString
import Derived.ChangeOld
import Derived.SizedLaws
namespace Go.Proofs.Ytedegfbheihopaa.P
open Go.RowKit Go.Proofs.YtedegfbheihopaaW.PrintWords Go.Proofs.YtedegfbheihopaaW.PrintLast Go.Proofs.YtedegfbheihopaaW.PrintMore
attribute [local go_sem] max2_int min2_int max_two min_two max_three min_three max_four min_four   -- for this text's walks alone
set_option linter.unusedVariables false
set_option linter.unusedSimpArgs false
mutual
def impl_CostOf.j0:Nat→List (S79)→List Int→Bool→Option (Int × Bool)
 | 0,_,_,_=>none
 |k+1,x1,x2,x21=>if x21=true then(some (0,false)) else(impl_CostOf.l0 k x1 x2 0 1)
def impl_CostOf.l0:Nat→List (S79)→List Int→Int→Int→Option (Int × Bool)
 | 0,_,_,_,_=>none
 |k+1,x1,x2,x8,x9=>if x9< (x2.length:Int) then(if 0≤ (wrap64 (x9 - 1)) then(if (wrap64 (x9 - 1))< (x2.length:Int) then(if 0≤x9 then((impl_cost.f k x1 (rd x2 (wrap64 (x9 - 1))) (rd x2 x9)).bind fun t913=>(if t913=0 then(some (0,false)) else(impl_CostOf.l0 k x1 x2 (wrap64 (x8+t913)) (wrap64 (x9+1))))) else(none)) else(none)) else(none)) else(some (x8,true))
end
def impl_CostOf.f (k:Nat) (a0:Int) (l1:List (S79)) (l2:List Int):Option (Int × Bool):=(impl_in.f (l2.length:Int) 1 12).bind fun t909=>(if t909=true then((impl_goodAt.f k a0 l1 l2).bind fun t910=>(impl_CostOf.j0 k l1 l2 (!t910))) else(impl_CostOf.j0 k l1 l2 true))
def impl_CostOf.T7:Bool × List (List Nat × List Nat):=(true,[([],[]),([],[]),([],[]),([2],[2]),([1,3],[1,3]),([4],[4]),([],[]),([],[]),([6,7],[6,7]),([8],[8]),([0,5,9],[0,5,9]),([10,10,0,1,2,3,4,5,6,7,8,9,10],[10])])
def impl_CostOf.B7:List Nat:= [0,0,0,4,14,30,0,0,192,448,1023,2047]
theorem impl_CostOf.tab7:rtab .any (opsOf Try.f49 7)=impl_CostOf.T7:=by kernel_rfl
theorem impl_CostOf.bits7:waitsOk impl_CostOf.T7.2 impl_CostOf.B7=true:=by kernel_rfl
set_option maxHeartbeats 8000000 in
set_option maxRecDepth 100000 in
theorem impl_CostOf.calls (k:Nat) (a0:Int) (A1:Option Addr) (c1:Nat) (l1:List (S79)) (A2:Option Addr) (c2:Nat) (l2:List Int) (r1:Int) (r2:Bool) (w:World) (hr1:Kd.C k79 w A1 l1.length l1) (hc1:l1.length≤c1) (hr2:Kd.C (Kd.int .i64) w A2 l2.length l2) (hc2:l2.length≤c2) (h:impl_CostOf.f k a0 l1 l2=some (r1,r2)):
  Calls Try.prog 49 #[.int .i64 a0,.slice A1 l1.length c1,.slice A2 l2.length c2] w fun e w'=>e= .returned (.tuple #[.int .i64 r1,.bool r2])∧Below w.heap.size w w':=by
 have HR1:=Aside0.mk hr1
 have HC1:=Aside0.mk hc1
 clear hr1 hc1
 have HR2:=Aside0.mk hr2
 have HC2:=Aside0.mk hc2
 clear hr2 hc2
 have HB:=Aside0.mk (Below.refl w.heap.size w)
 have H:((impl_in.f (l2.length:Int) 1 12).bind fun t909=>(if t909=true then((impl_goodAt.f k a0 l1 l2).bind fun t910=>(impl_CostOf.j0 k l1 l2 (!t910))) else(impl_CostOf.j0 k l1 l2 true)))=some (r1,r2):=h
 clear h
 have HC4:=Aside0.mk H
 clear H
 go_enter Try.func49,Try.ntmps49
 go_upto_region 1 with (fail)
 go_cut [21] (fun v21 wc=> ∃ (kq:Nat) (x21_3:Bool),v21= .bool x21_3∧Aside0 (impl_CostOf.j0 kq l1 l2 x21_3=some (r1,r2))∧Aside0 (kq≤k)∧Aside0 (Below w.heap.size w wc))
 case first=>
  have H:=HC4.out
  clear HC4
  replace H:=Option.bind_eq_some_iff.mp H
  obtain⟨t909,A50,H⟩:=H
  replace H:(if t909=true then((impl_goodAt.f k a0 l1 l2).bind fun t910=>(impl_CostOf.j0 k l1 l2 (!t910))) else(impl_CostOf.j0 k l1 l2 true))=some (r1,r2):=H
  have A5:=Aside0.mk A50
  clear A50
  by_cases c6:t909=true
  ·subst c6
   have H1:((impl_goodAt.f k a0 l1 l2).bind fun t910=>(impl_CostOf.j0 k l1 l2 (!t910)))=some (r1,r2):=by rw [if_pos rfl] at H;exact H
   clear H
   have H:=H1
   clear H1
   replace H:=Option.bind_eq_some_iff.mp H
   obtain⟨t910,A70,H⟩:=H
   replace H:(impl_CostOf.j0 k l1 l2 (!t910))=some (r1,r2):=H
   have A7:=Aside0.mk A70
   clear A70
   have H':=Aside0.mk H
   clear H
   go_wp2_with (first|((with_reducible refine gate_callee (f:=78) rfl ?_);refine goesL_ (some 13) rfl rfl Try.func78 (by kernel_rfl) rfl #[.int .i64 (l2.length:Int),.int .i64 1,.int .i64 12] rfl zq2 ?_;(with_reducible refine(impl_in.calls (l2.length:Int) 1 12 true _ A5.out).mono ?_);rintro e w' ⟨rfl,⟨nd,rfl⟩⟩;refine⟨_,rfl,?_⟩)|(go_at_call 76;(with_reducible refine(impl_goodAt.calls k a0 _ _ l1 _ _ l2 t910 _ ?side1 ?side2 ?side3 ?side4 A7.out).mono ?_);(case side1=>repeat(first|exact(Kd.C_below HR1.out (by exact zk1 HB))|(with_reducible refine Kd.C_alloc ?_ _)|(with_reducible refine Kd.C_drewN ?_ _)|(with_reducible refine Kd.C_drew ?_)));(case side2=>exact HC1.out);(case side3=>repeat(first|exact(Kd.C_below HR2.out (by exact zk1 HB))|(with_reducible refine Kd.C_alloc ?_ _)|(with_reducible refine Kd.C_drewN ?_ _)|(with_reducible refine Kd.C_drew ?_)));(case side4=>exact HC2.out);rintro e w8 ⟨rfl,hb⟩;replace HB:=Aside0.mk (below_step (by exact zk1 HB) hb);(try clear hb);(try clear hb2);(try clear hk);(try clear hi)))
   go_meet
   case rel=>exact⟨_,(!t910),(by first|rfl|(simp;done)|(simp [*];done)),H',⟨by first|omega|exact Nat.le_refl _⟩,⟨by exact zk1 HB⟩⟩
  ·replace c6:=Bool.eq_false_iff.mpr c6
   subst c6
   have H1:(impl_CostOf.j0 k l1 l2 true)=some (r1,r2):=by rw [if_neg (show ¬ (false=true) by decide)] at H;exact H
   clear H
   have H:=H1
   clear H1
   have H':=Aside0.mk H
   clear H
   go_wp2_with (first|((with_reducible refine gate_callee (f:=78) rfl ?_);refine goesL_ (some 13) rfl rfl Try.func78 (by kernel_rfl) rfl #[.int .i64 (l2.length:Int),.int .i64 1,.int .i64 12] rfl zq2 ?_;(with_reducible refine(impl_in.calls (l2.length:Int) 1 12 false _ A5.out).mono ?_);rintro e w' ⟨rfl,⟨nd,rfl⟩⟩;refine⟨_,rfl,?_⟩))
   go_meet
   case rel=>exact⟨_,(true),(by first|rfl|(simp;done)|(simp [*];done)),H',⟨by first|omega|exact Nat.le_refl _⟩,⟨by exact zk1 HB⟩⟩
 case rest=>
  clear HC4
  try clear c1
  try clear c2
  try clear p2
  try clear c4
  try clear c6
  try clear c7
  obtain⟨kq,x21_3,rfl,HA,HJ3,HB⟩:=hcut
  cases kq with
  |zero=>exact absurd HA.out (by simp [impl_CostOf.j0])
  |succ kj3=>
   have H:=HA.out
   clear HA
   simp only [impl_CostOf.j0] at H
   by_cases c9:x21_3=true
   ·subst c9
    have H1:(some (0,false))=some (r1,r2):=by rw [if_pos rfl] at H;exact H
    clear H
    have H:=H1
    clear H1
    simp only [Option.some.injEq,Prod.mk.injEq] at H
    obtain⟨rfl,rfl⟩:=H
    go_wp2
    go_ret2
    exact⟨by first|rfl|(simp [errW_none,errW_some]<;>rfl)|(simp [*,errW_none,errW_some]<;>rfl),by exact zk1 HB⟩
   ·replace c9:=Bool.eq_false_iff.mpr c9
    subst c9
    have H1:(impl_CostOf.l0 kj3 l1 l2 0 1)=some (r1,r2):=by rw [if_neg (show ¬ (false=true) by decide)] at H;exact H
    clear H
    have H:=H1
    clear H1
    have H':=Aside0.mk H
    clear H
    go_wp2
    go_loopg [8,9] kj3 (fun kq v8 v9 w'=> ∃ (x8_2:Int) (x9_2:Int),v8= .int .i64 x8_2∧v9= .int .i64 x9_2∧Aside0 (impl_CostOf.l0 kq l1 l2 x8_2 x9_2=some (r1,r2))∧Aside0 (kq≤kj3)∧Aside0 (Below w.heap.size w w'))
    case atStart=>exact⟨(0),(1),(by first|rfl|(simp;done)|(simp [*];done)),(by first|rfl|(simp;done)|(simp [*];done)),H',⟨Nat.le_refl _⟩,⟨by exact zk1 HB⟩⟩
    case round=>
     clear H'
     try clear c1
     try clear c2
     try clear p2
     try clear c4
     try clear c6
     try clear c7
     try clear c9
     try clear p2
     obtain⟨x8_2,x9_2,rfl,rfl,HA,HK2,HB⟩:=hrel
     cases gk with
     |zero=>exact absurd HA.out (by simp [impl_CostOf.l0])
     |succ k2=>
      have H:=HA.out
      clear HA
      simp only [impl_CostOf.l0] at H
      by_cases c10:x9_2< (l2.length:Int)
      ·rw [if_pos c10] at H
       have c10b0:decide (x9_2< (l2.length:Int))=true:=decide_eq_true c10
       clear c10
       obtain⟨ji11,hji11⟩ :∃ j_:Int,(wrap64 (x9_2 - 1))=j_:=⟨_,rfl⟩
       replace H:(if 0≤ (ji11) then(if (ji11)< (l2.length:Int) then(if 0≤x9_2 then((impl_cost.f k2 l1 (rd l2 (ji11)) (rd l2 x9_2)).bind fun t913=>(if t913=0 then(some (0,false)) else(impl_CostOf.l0 k2 l1 l2 (wrap64 (x8_2+t913)) (wrap64 (x9_2+1))))) else(none)) else(none)) else(none))=some (r1,r2):=by first|(rw [hji11] at H;exact H)|(simp only [hji11] at H ⊢;exact H)
       have hji11w:(IntKind.i64.wrap (x9_2 - 1))=ji11:=(i64_w _).trans hji11
       by_cases c12: 0≤ (ji11)
       case neg=>rw [if_neg c12] at H;exact absurd H (by simp)
       rw [if_pos c12] at H
       have c12b0:decide (0≤ (ji11))=true:=decide_eq_true c12
       clear c12
       by_cases c13:(ji11)< (l2.length:Int)
       case neg=>rw [if_neg c13] at H;exact absurd H (by simp)
       rw [if_pos c13] at H
       have c13b0:decide ((ji11)< (l2.length:Int))=true:=decide_eq_true c13
       clear c13
       by_cases c14: 0≤x9_2
       case neg=>rw [if_neg c14] at H;exact absurd H (by simp)
       rw [if_pos c14] at H
       have c14b0:decide (0≤x9_2)=true:=decide_eq_true c14
       clear c14
       replace H:=Option.bind_eq_some_iff.mp H
       obtain⟨t913,A150,H⟩:=H
       replace H:(if t913=0 then(some (0,false)) else(impl_CostOf.l0 k2 l1 l2 (wrap64 (x8_2+t913)) (wrap64 (x9_2+1))))=some (r1,r2):=H
       have A15:=Aside0.mk A150
       clear A150
       by_cases c16:t913=0
       ·rw [if_pos c16] at H
        have c16b0:(t913==0)=true:=beq_iff_eq.mpr c16
        have c16b1:(t913 !=0)=false:=bne_eq_false_iff_eq.mpr c16
        clear c16
        simp only [Option.some.injEq,Prod.mk.injEq] at H
        obtain⟨rfl,rfl⟩:=H
        try go_wp2
        replace HB:=Aside0.mk (below_drew1 HB.out)
        have p911: 0≤ ((ji11):Int):=of_decide_eq_true zq1
        have q911:(ji11)< (l2.length:Int):=of_decide_eq_true zq1
        obtain⟨ad911,e911,hx911_0⟩:=Kd.at_int HR2.out (ji11) p911 q911
        have hw911_0:=hx911_0
        cases e911
        replace hx911_0:=zhx HB hx911_0
        replace p911:=eq_true p911
        replace q911:=eq_true q911
        have p912: 0≤ (x9_2:Int):=of_decide_eq_true zq1
        have q912:x9_2< (l2.length:Int):=of_decide_eq_true zq1
        obtain⟨ad912,e912,hx912_0⟩:=Kd.at_int HR2.out x9_2 p912 q912
        have hw912_0:=hx912_0
        obtain rfl:ad911=ad912:=(by injection e912)
        replace hx912_0:=zhx HB hx912_0
        replace p912:=eq_true p912
        replace q912:=eq_true q912
        refine start_ (n:=12) (S:=fun w'=>w'.cell? (ad911.add ((ji11)).toNat)=some (.int .i64 (rd l2 (ji11)))∧w'.cell? (ad911.add (x9_2).toNat)=some (.int .i64 (rd l2 x9_2))) (ds:= []) (mb' 12 0) (by kernel_rfl) rfl rfl ⟨((zhx HB hw911_0).trans rfl),((zhx HB hw912_0).trans rfl)⟩ (fun hHeld=>?_);refine with_tabW impl_CostOf.tab7 impl_CostOf.bits7 (fun HT_ HW_=>?_)
        generalize wr.drew=w17 at HB hx911_0 hx912_0 hHeld ⊢
        refine zp1 HT_ (v:=?_) (a':=?_) 0 28 (mb' 12 1) rfl ?_ ?_ ?_;rotate_left;exact zr1;rotate_left;exact zpa
        refine zp1 HT_ (v:=?_) (a':=?_) 1 29 (mb' 12 3) rfl ?_ ?_ ?_;rotate_left;exact zr1;rotate_left;exact zpa
        refine zp1 HT_ (v:=?_) (a':=?_) 2 30 (mb' 12 7) rfl ?_ ?_ ?_;rotate_left;exact zr1;rotate_left;exact zpa
        refine zp1 HT_ (v:=?_) (a':=?_) 3 31 (mb' 12 15) rfl ?_ ?_ ?_;rotate_left;exact zr1;rotate_left;exact zpa
        refine zp1 HT_ (v:=?_) (a':=?_) 4 32 (mb' 12 31) rfl ?_ ?_ ?_;rotate_left;exact zr1;rotate_left;exact zpa
        refine zp1 HT_ (v:=?_) (a':=?_) 6 34 (mb' 12 95) rfl ?_ ?_ ?_;rotate_left;exact zr1;rotate_left;exact zpa
        refine zp1 HT_ (v:=?_) (a':=?_) 7 35 (mb' 12 223) rfl ?_ ?_ ?_;rotate_left;exact zr1;rotate_left;exact zpa
        refine zp1 HT_ (v:=?_) (a':=?_) 8 36 (mb' 12 479) rfl ?_ ?_ ?_;rotate_left;exact zr1;rotate_left;exact zpa
        refine zt1 HT_ HW_ (v:=?_) (a':=?_) 5 33 (mb' 12 511) rfl ?_ hHeld ?_ ?_;rotate_left;(rintro w' ⟨s0,s1⟩;go_simp;with_reducible rfl);rotate_left;exact zpa
        refine zt1 HT_ HW_ (v:=?_) (a':=?_) 9 37 (mb' 12 1023) rfl ?_ hHeld ?_ ?_;rotate_left;(rintro w' ⟨s0,s1⟩;go_simp;with_reducible rfl);rotate_left;exact zpa
        refine one_ (i:=10) (N:=some 38) (mb' 12 2047) rfl rfl (one_of HT_.out (by kernel_rfl)) (by decide) (fun K hK=>?_)
        refine goes_ Try.func70 (by kernel_rfl) rfl #[.slice A1 l1.length c1,.int .i64 (rd l2 (ji11)),.int .i64 (rd l2 x9_2)] (by rfl) rfl rfl (by(try simp only [List.map_toArray,List.map_cons,List.map_nil]);first|done|(simp only [hji11];rfl)|rfl|(simp only [List.length_drop,List.length_take];rfl)) ?_
        with_reducible refine(impl_cost.calls k2 _ _ l1 (rd l2 (ji11)) (rd l2 x9_2) t913 _ ?side1 ?side2 A15.out).mono ?_
        (case side1=>exact zcc ((Kd.C_below HR1.out HB.out)))
        (case side2=>exact HC1.out)
        rintro e w18 ⟨rfl,hb⟩
        refine⟨_,rfl,?_⟩
        replace HB:=Aside0.mk (below_step (by exact zk1 HB) hb)
        (try clear hb)
        (try clear hb2)
        (try clear hk)
        (try clear hi)
        refine hK.out _ _ ⟨((zhx HB hw911_0).trans rfl),((zhx HB hw912_0).trans rfl)⟩ (fun hHeld=>?_)
        clear hK K
        refine norm_ (a':=?_) ?_ ?_
        rotate_left
        ·show Act.put _ (some 38) _=_
         simp only [Act.put,List.setIfInBounds_toArray,List.set_cons_zero,List.set_cons_succ,i64_w,i32_w]
         rfl
        refine zp1 HT_ (v:=?_) (a':=?_) 11 10 (mb' 12 4095) rfl ?_ ?_ ?_;rotate_left;exact zr1;rotate_left;exact zpa
        refine done_ (done_of HT_.out (by kernel_rfl)) ?_
        try go_wp2
        go_ret2
        exact⟨by first|rfl|(simp [errW_none,errW_some]<;>rfl)|(simp only [← hji11];first|rfl|(simp [errW_none,errW_some]<;>rfl))|(simp [*,errW_none,errW_some]<;>rfl),by exact zk1 HB⟩
       ·rw [if_neg c16] at H
        have c16b0:(t913==0)=false:=beq_eq_false_iff_ne.mpr c16
        have c16b1:(t913 !=0)=true:=bne_iff_ne.mpr c16
        have H':=Aside0.mk H
        clear H
        try go_wp2
        replace HB:=Aside0.mk (below_drew1 HB.out)
        have p911: 0≤ ((ji11):Int):=of_decide_eq_true zq1
        have q911:(ji11)< (l2.length:Int):=of_decide_eq_true zq1
        obtain⟨ad911,e911,hx911_0⟩:=Kd.at_int HR2.out (ji11) p911 q911
        have hw911_0:=hx911_0
        cases e911
        replace hx911_0:=zhx HB hx911_0
        replace p911:=eq_true p911
        replace q911:=eq_true q911
        have p912: 0≤ (x9_2:Int):=of_decide_eq_true zq1
        have q912:x9_2< (l2.length:Int):=of_decide_eq_true zq1
        obtain⟨ad912,e912,hx912_0⟩:=Kd.at_int HR2.out x9_2 p912 q912
        have hw912_0:=hx912_0
        obtain rfl:ad911=ad912:=(by injection e912)
        replace hx912_0:=zhx HB hx912_0
        replace p912:=eq_true p912
        replace q912:=eq_true q912
        refine start_ (n:=12) (S:=fun w'=>w'.cell? (ad911.add ((ji11)).toNat)=some (.int .i64 (rd l2 (ji11)))∧w'.cell? (ad911.add (x9_2).toNat)=some (.int .i64 (rd l2 x9_2))) (ds:= []) (mb' 12 0) (by kernel_rfl) rfl rfl ⟨((zhx HB hw911_0).trans rfl),((zhx HB hw912_0).trans rfl)⟩ (fun hHeld=>?_);refine with_tabW impl_CostOf.tab7 impl_CostOf.bits7 (fun HT_ HW_=>?_)
        generalize wr.drew=w19 at HB hx911_0 hx912_0 hHeld ⊢
        refine zp1 HT_ (v:=?_) (a':=?_) 0 28 (mb' 12 1) rfl ?_ ?_ ?_;rotate_left;exact zr1;rotate_left;exact zpa
        refine zp1 HT_ (v:=?_) (a':=?_) 1 29 (mb' 12 3) rfl ?_ ?_ ?_;rotate_left;exact zr1;rotate_left;exact zpa
        refine zp1 HT_ (v:=?_) (a':=?_) 2 30 (mb' 12 7) rfl ?_ ?_ ?_;rotate_left;exact zr1;rotate_left;exact zpa
        refine zp1 HT_ (v:=?_) (a':=?_) 3 31 (mb' 12 15) rfl ?_ ?_ ?_;rotate_left;exact zr1;rotate_left;exact zpa
        refine zp1 HT_ (v:=?_) (a':=?_) 4 32 (mb' 12 31) rfl ?_ ?_ ?_;rotate_left;exact zr1;rotate_left;exact zpa
        refine zp1 HT_ (v:=?_) (a':=?_) 6 34 (mb' 12 95) rfl ?_ ?_ ?_;rotate_left;exact zr1;rotate_left;exact zpa
        refine zp1 HT_ (v:=?_) (a':=?_) 7 35 (mb' 12 223) rfl ?_ ?_ ?_;rotate_left;exact zr1;rotate_left;exact zpa
        refine zp1 HT_ (v:=?_) (a':=?_) 8 36 (mb' 12 479) rfl ?_ ?_ ?_;rotate_left;exact zr1;rotate_left;exact zpa
        refine zt1 HT_ HW_ (v:=?_) (a':=?_) 5 33 (mb' 12 511) rfl ?_ hHeld ?_ ?_;rotate_left;(rintro w' ⟨s0,s1⟩;go_simp;with_reducible rfl);rotate_left;exact zpa
        refine zt1 HT_ HW_ (v:=?_) (a':=?_) 9 37 (mb' 12 1023) rfl ?_ hHeld ?_ ?_;rotate_left;(rintro w' ⟨s0,s1⟩;go_simp;with_reducible rfl);rotate_left;exact zpa
        refine one_ (i:=10) (N:=some 38) (mb' 12 2047) rfl rfl (one_of HT_.out (by kernel_rfl)) (by decide) (fun K hK=>?_)
        refine goes_ Try.func70 (by kernel_rfl) rfl #[.slice A1 l1.length c1,.int .i64 (rd l2 (ji11)),.int .i64 (rd l2 x9_2)] (by rfl) rfl rfl (by(try simp only [List.map_toArray,List.map_cons,List.map_nil]);first|done|(simp only [hji11];rfl)|rfl|(simp only [List.length_drop,List.length_take];rfl)) ?_
        with_reducible refine(impl_cost.calls k2 _ _ l1 (rd l2 (ji11)) (rd l2 x9_2) t913 _ ?side1 ?side2 A15.out).mono ?_
        (case side1=>exact zcc ((Kd.C_below HR1.out HB.out)))
        (case side2=>exact HC1.out)
        rintro e w20 ⟨rfl,hb⟩
        refine⟨_,rfl,?_⟩
        replace HB:=Aside0.mk (below_step (by exact zk1 HB) hb)
        (try clear hb)
        (try clear hb2)
        (try clear hk)
        (try clear hi)
        refine hK.out _ _ ⟨((zhx HB hw911_0).trans rfl),((zhx HB hw912_0).trans rfl)⟩ (fun hHeld=>?_)
        clear hK K
        refine norm_ (a':=?_) ?_ ?_
        rotate_left
        ·show Act.put _ (some 38) _=_
         simp only [Act.put,List.setIfInBounds_toArray,List.set_cons_zero,List.set_cons_succ,i64_w,i32_w]
         rfl
        refine zp1 HT_ (v:=?_) (a':=?_) 11 10 (mb' 12 4095) rfl ?_ ?_ ?_;rotate_left;exact zr1;rotate_left;exact zpa
        refine done_ (done_of HT_.out (by kernel_rfl)) ?_
        try go_wp2
        go_roundg k2
        case measure=>have:=HJ3.out;have:=HK2.out;omega
        case rel=>exact⟨(wrap64 (x8_2+t913)),(wrap64 (x9_2+1)),(by first|rfl|(simp;done)|(simp [*];done)),(by first|rfl|(simp;done)|(simp [*];done)),H',⟨by have:=HJ3.out;have:=HK2.out;omega⟩,⟨by exact zk1 HB⟩⟩
      ·rw [if_neg c10] at H
       have c10b0:decide (x9_2< (l2.length:Int))=false:=decide_eq_false c10
       clear c10
       simp only [Option.some.injEq,Prod.mk.injEq] at H
       obtain⟨rfl,rfl⟩:=H
       go_wp2
       go_ret2
       exact⟨by first|rfl|(simp [errW_none,errW_some]<;>rfl)|(simp [*,errW_none,errW_some]<;>rfl),by exact zk1 HB⟩
theorem eqA61 (d:Nat) (w:World) (x0 y0:Int) (x1 y1:Int):
  (Op.equalIn (d+2) 61 (.agg #[.int .i64 x0,.int .i64 x1]) (.agg #[.int .i64 y0,.int .i64 y1])).run Try.prog w= .ok (x0==y0 && (x1==y1)) w:=by
 refine eqA_of Try.underlying61 (by kernel_rfl) ?_
 refine eqf_cons (by rfl) (by go_simp;rfl) (by go_simp;rfl) (by go_simp) ?_
 exact eqf_last (by rfl) (by go_simp;rfl) (by go_simp;rfl) (by go_simp)
attribute [local go_sem high] eqA61
def spec_l1Cur_parents.j0:Nat→List Int→Bool→List Int→Int→Int→Option (List Int × Int × Int)
 | 0,_,_,_,_,_=>none
 |k+1,x5,x25,x1000,x1001,x1002=>if x25=true then((spec_l1Cur_pick.f x1000 x1001 x1002 (x5.length:Int)).bind fun bt930=>((spec_l1Cur_pick.f x1000 bt930.2.1 bt930.2.2 9).bind fun bt933=>(if 0≤bt930.1 then(if bt930.1< (x5.length:Int) then(some ((x5.set (bt930.1:Int).toNat (wrap64 (bt933.1 - 2))),bt933.2.1,bt933.2.2)) else(none)) else(none)))) else(some (x5,x1001,x1002))
def spec_l1Cur_parents.f (k:Nat) (s0_0:List Int) (s0_1:Int) (s0_2:Int):Option (List Int × Int × Int):=(spec_l1Cur_edges.f k s0_0 s0_1 s0_2).bind fun bt914=>((spec_l1Cur_pick.f s0_0 bt914.2.2.1 bt914.2.2.2 bt914.1).bind fun bt920=>((spec_TreeAt.f k bt914.1 bt914.2.1 bt920.1).bind fun bt923=>(if bt923.2=true then((spec_l1Cur_one.f s0_0 bt920.2.1 bt920.2.2 12).bind fun bt927=>(spec_l1Cur_parents.j0 k bt923.1 bt927.1 s0_0 bt927.2.1 bt927.2.2)) else(spec_l1Cur_parents.j0 k bt923.1 false s0_0 bt920.2.1 bt920.2.2))))
set_option maxHeartbeats 8000000 in
set_option maxRecDepth 100000 in
theorem spec_l1Cur_parents.calls (k:Nat) (g:Nat) (s0_0:List Int) (s0_1:Int) (s0_2:Int) (r1:List Int) (r2:Int) (r3:Int) (w0 w:World) (hI:IsS94 w0 w g s0_0 s0_1 s0_2) (hB:Below w0.heap.size w0 w) (h:spec_l1Cur_parents.f k s0_0 s0_1 s0_2=some (r1,r2,r3)):
  Calls Try.prog 86 #[.pointer (some ⟨g,0,none⟩)] w fun e w'=> ∃ v0_:Value,e= .returned (v0_)∧Kd.R (Kd.int .i64) 3 w' w.heap.size (fun _=>True) v0_ r1∧IsS94 w0 w' g s0_0 r2 r3∧Below w0.heap.size w0 w'∧KeepBut w w' g none:=by
 have HI0:=Aside0.mk hI
 have HK:=Aside0.mk (KeepBut.refl w g none)
 have HL:=Aside0.mk hB.size
 clear hI
 have HW0:=Aside0.mk hB.size
 have HB:=Aside0.mk hB
 clear hB
 have H:((spec_l1Cur_edges.f k s0_0 s0_1 s0_2).bind fun bt914=>((spec_l1Cur_pick.f s0_0 bt914.2.2.1 bt914.2.2.2 bt914.1).bind fun bt920=>((spec_TreeAt.f k bt914.1 bt914.2.1 bt920.1).bind fun bt923=>(if bt923.2=true then((spec_l1Cur_one.f s0_0 bt920.2.1 bt920.2.2 12).bind fun bt927=>(spec_l1Cur_parents.j0 k bt923.1 bt927.1 s0_0 bt927.2.1 bt927.2.2)) else(spec_l1Cur_parents.j0 k bt923.1 false s0_0 bt920.2.1 bt920.2.2)))))=some (r1,r2,r3):=h
 clear h
 replace H:=Option.bind_eq_some_iff.mp H
 obtain⟨⟨t914,t915,t918,t919⟩,A20,H⟩:=H
 replace H:((spec_l1Cur_pick.f s0_0 t918 t919 t914).bind fun bt920=>((spec_TreeAt.f k t914 t915 bt920.1).bind fun bt923=>(if bt923.2=true then((spec_l1Cur_one.f s0_0 bt920.2.1 bt920.2.2 12).bind fun bt927=>(spec_l1Cur_parents.j0 k bt923.1 bt927.1 s0_0 bt927.2.1 bt927.2.2)) else(spec_l1Cur_parents.j0 k bt923.1 false s0_0 bt920.2.1 bt920.2.2))))=some (r1,r2,r3):=H
 have A2:=Aside0.mk A20
 clear A20
 replace H:=Option.bind_eq_some_iff.mp H
 obtain⟨⟨t920,t921,t922⟩,A30,H⟩:=H
 replace H:((spec_TreeAt.f k t914 t915 t920).bind fun bt923=>(if bt923.2=true then((spec_l1Cur_one.f s0_0 t921 t922 12).bind fun bt927=>(spec_l1Cur_parents.j0 k bt923.1 bt927.1 s0_0 bt927.2.1 bt927.2.2)) else(spec_l1Cur_parents.j0 k bt923.1 false s0_0 t921 t922)))=some (r1,r2,r3):=H
 have A3:=Aside0.mk A30
 clear A30
 replace H:=Option.bind_eq_some_iff.mp H
 obtain⟨⟨t923,t924⟩,A40,H⟩:=H
 replace H:(if t924=true then((spec_l1Cur_one.f s0_0 t921 t922 12).bind fun bt927=>(spec_l1Cur_parents.j0 k t923 bt927.1 s0_0 bt927.2.1 bt927.2.2)) else(spec_l1Cur_parents.j0 k t923 false s0_0 t921 t922))=some (r1,r2,r3):=H
 have A4:=Aside0.mk A40
 clear A40
 have HC5:=Aside0.mk H
 clear H
 go_enter Try.func86,Try.ntmps86
 go_upto_region 3 with (first|((with_reducible refine gate_callee (f:=90) rfl ?_);refine goesL_ (some 9) rfl rfl Try.func90 (by kernel_rfl) rfl #[.pointer (some ⟨g,0,none⟩)] rfl zq2 ?_;(with_reducible refine(spec_l1Cur_edges.calls k g s0_0 s0_1 s0_2 t914 t915 t918 t919 w0 _ ?side1 ?side2 A2.out).mono ?_);(case side1=>exact zk5 HI0);(case side2=>exact zk2 HB (IsS94.ge HI0.out));rintro e w6 ⟨v916,rfl,ho0,hi,hb,hk⟩;refine⟨_,rfl,?_⟩;have HO917:=Aside0.mk (Kd.R_lower ho0 (keep_size (w:=w) (g:=g) (row:=none) (by exact zk6 HK)));replace HK:=Aside0.mk (KeepBut.trans (by exact zk6 HK) hk (.inl rfl));replace HB:=Aside0.mk (hb);replace HI0:=Aside0.mk (hi);(try clear hb);(try clear hb2);(try clear hk);(try clear hi);(try clear ho0))|((with_reducible refine gate_callee (f:=87) rfl ?_);refine goesL_ (some 17) rfl rfl Try.func87 (by kernel_rfl) rfl #[.pointer (some ⟨g,0,none⟩),.int .i64 t914] rfl zq2 ?_;(with_reducible refine(spec_l1Cur_pick.calls g s0_0 t918 t919 t914 t920 t921 t922 w0 _ ?side1 ?side2 A3.out).mono ?_);(case side1=>exact zk5 HI0);(case side2=>exact zk2 HB (IsS94.ge HI0.out));rintro e w7 ⟨rfl,hi,hb,hk⟩;refine⟨_,rfl,?_⟩;replace HO917:=Aside0.mk (Kd.R_mono (Kd.R_keep (IsS94.apart (show IsS94 w0 _ g s0_0 t918 t919 from by exact zk5 HI0) (zq4 HO917) (by decide)) hk (fun _ h=>h.2)) (fun _ h=>h.1));replace HK:=Aside0.mk (KeepBut.trans (by exact zk6 HK) hk (.inl rfl));replace HB:=Aside0.mk (hb);replace HI0:=Aside0.mk (hi);(try clear hb);(try clear hb2);(try clear hk);(try clear hi);obtain⟨Ao8,co8,eo8⟩:=Kd.R_slice HO917.out;subst eo8)|((with_reducible refine gate_callee (f:=33) rfl ?_);refine goesL_ (some 18) rfl rfl Try.func33 (by kernel_rfl) rfl #[.int .i64 t914,.slice Ao8 t915.length co8,.int .i64 t920] rfl zq2 ?_;(with_reducible refine(spec_TreeAt.calls k t914 _ _ t915 t920 t923 t924 _ ?side1 ?side2 A4.out).mono ?_);(case side1=>exact zcc ((Kd.R_reads' HO917.out).2.2));(case side2=>exact(Kd.R_reads' HO917.out).2.1);rintro e w9 ⟨v925,rfl,ho0,hb⟩;refine⟨_,rfl,?_⟩;have HO926:=Aside0.mk (Kd.R_lower ho0 (keep_size (w:=w) (g:=g) (row:=none) (by exact zk6 HK)));replace HO917:=Aside0.mk (Kd.R_below (zq4 HO917) hb);replace HK:=Aside0.mk (KeepBut.trans (by exact zk6 HK) (KeepBut.of_below hb g none) (.inl rfl));replace HB:=Aside0.mk (below_step (by exact zk2 HB (IsS94.ge HI0.out)) hb);replace HI0:=Aside0.mk (IsS94.below (by exact zk5 HI0) hb);(try clear hb);(try clear hb2);(try clear hk);(try clear hi);(try clear ho0)))
 (try simp only [Act.put,List.setIfInBounds_toArray,List.set_cons_zero,List.set_cons_succ])
 go_cut [25] (fun v25 wc=> ∃ (kq:Nat) (x25_4:Bool) (x1001_4:Int) (x1002_4:Int),v25= .bool x25_4∧Aside0 (spec_l1Cur_parents.j0 kq t923 x25_4 s0_0 x1001_4 x1002_4=some (r1,r2,r3))∧Aside0 (kq≤k)∧Aside0 (Kd.R (Kd.int .i64) 3 wc w.heap.size (fun _=>True) v925 t923)∧Aside0 (IsS94 w0 wc g s0_0 x1001_4 x1002_4)∧Aside0 (KeepBut w wc g none)∧Aside0 (Below w0.heap.size w0 wc))
 case first=>
  have H:=HC5.out
  clear HC5
  by_cases c10:t924=true
  ·subst c10
   have H1:((spec_l1Cur_one.f s0_0 t921 t922 12).bind fun bt927=>(spec_l1Cur_parents.j0 k t923 bt927.1 s0_0 bt927.2.1 bt927.2.2))=some (r1,r2,r3):=by rw [if_pos rfl] at H;exact H
   clear H
   have H:=H1
   clear H1
   replace H:=Option.bind_eq_some_iff.mp H
   obtain⟨⟨t927,t928,t929⟩,A110,H⟩:=H
   replace H:(spec_l1Cur_parents.j0 k t923 t927 s0_0 t928 t929)=some (r1,r2,r3):=H
   have A11:=Aside0.mk A110
   clear A110
   have H':=Aside0.mk H
   clear H
   go_wp2_with (first|(go_at_call 91;(with_reducible refine(spec_l1Cur_one.calls g s0_0 t921 t922 12 t927 t928 t929 w0 _ ?side1 ?side2 A11.out).mono ?_);(case side1=>exact zk5 HI0);(case side2=>exact zk2 HB (IsS94.ge HI0.out));rintro e w12 ⟨rfl,hi,hb,hk⟩;replace HO917:=Aside0.mk (Kd.R_mono (Kd.R_keep (IsS94.apart (show IsS94 w0 _ g s0_0 t921 t922 from by exact zk5 HI0) (zq4 HO917) (by decide)) hk (fun _ h=>h.2)) (fun _ h=>h.1));replace HO926:=Aside0.mk (Kd.R_mono (Kd.R_keep (IsS94.apart (show IsS94 w0 _ g s0_0 t921 t922 from by exact zk5 HI0) (zq4 HO926) (by decide)) hk (fun _ h=>h.2)) (fun _ h=>h.1));replace HK:=Aside0.mk (KeepBut.trans (by exact zk6 HK) hk (.inl rfl));replace HB:=Aside0.mk (hb);replace HI0:=Aside0.mk (hi);(try clear hb);(try clear hb2);(try clear hk);(try clear hi)))
   go_meet
   case rel=>exact⟨_,(t927),(t928),(t929),(by first|rfl|(simp;done)|(simp [*];done)),H',⟨by first|omega|exact Nat.le_refl _⟩,⟨by(with_reducible repeat(first|apply Kd.R_alloc|apply Kd.R_drewN|apply Kd.R_drew));exact HO926.out⟩,⟨by exact zk5 HI0⟩,⟨by exact zk6 HK⟩,⟨by exact zk2 HB (IsS94.ge HI0.out)⟩⟩
  ·replace c10:=Bool.eq_false_iff.mpr c10
   subst c10
   have H1:(spec_l1Cur_parents.j0 k t923 false s0_0 t921 t922)=some (r1,r2,r3):=by rw [if_neg (show ¬ (false=true) by decide)] at H;exact H
   clear H
   have H:=H1
   clear H1
   have H':=Aside0.mk H
   clear H
   go_wp2
   go_meet
   case rel=>exact⟨_,(false),(t921),(t922),(by first|rfl|(simp;done)|(simp [*];done)),H',⟨by first|omega|exact Nat.le_refl _⟩,⟨by(with_reducible repeat(first|apply Kd.R_alloc|apply Kd.R_drewN|apply Kd.R_drew));exact HO926.out⟩,⟨by exact zk5 HI0⟩,⟨by exact zk6 HK⟩,⟨by exact zk2 HB (IsS94.ge HI0.out)⟩⟩
 case rest=>
  clear HC5
  try clear c1
  try clear p2
  try clear c3
  try clear c8
  try clear c9
  try clear c10
  obtain⟨kq,x25_4,x1001_4,x1002_4,rfl,HA,HJ4,HO_5,HI0,HK,HB⟩:=hcut
  cases kq with
  |zero=>exact absurd HA.out (by simp [spec_l1Cur_parents.j0])
  |succ kj4=>
   have H:=HA.out
   clear HA
   simp only [spec_l1Cur_parents.j0] at H
   by_cases c13:x25_4=true
   ·subst c13
    have H1:((spec_l1Cur_pick.f s0_0 x1001_4 x1002_4 (t923.length:Int)).bind fun bt930=>((spec_l1Cur_pick.f s0_0 bt930.2.1 bt930.2.2 9).bind fun bt933=>(if 0≤bt930.1 then(if bt930.1< (t923.length:Int) then(some ((t923.set (bt930.1:Int).toNat (wrap64 (bt933.1 - 2))),bt933.2.1,bt933.2.2)) else(none)) else(none))))=some (r1,r2,r3):=by rw [if_pos rfl] at H;exact H
    clear H
    have H:=H1
    clear H1
    replace H:=Option.bind_eq_some_iff.mp H
    obtain⟨⟨t930,t931,t932⟩,A140,H⟩:=H
    replace H:((spec_l1Cur_pick.f s0_0 t931 t932 9).bind fun bt933=>(if 0≤t930 then(if t930< (t923.length:Int) then(some ((t923.set (t930:Int).toNat (wrap64 (bt933.1 - 2))),bt933.2.1,bt933.2.2)) else(none)) else(none)))=some (r1,r2,r3):=H
    have A14:=Aside0.mk A140
    clear A140
    replace H:=Option.bind_eq_some_iff.mp H
    obtain⟨⟨t933,t934,t935⟩,A150,H⟩:=H
    replace H:(if 0≤t930 then(if t930< (t923.length:Int) then(some ((t923.set (t930:Int).toNat (wrap64 (t933 - 2))),t934,t935)) else(none)) else(none))=some (r1,r2,r3):=H
    have A15:=Aside0.mk A150
    clear A150
    by_cases c16: 0≤t930
    case neg=>rw [if_neg c16] at H;exact absurd H (by simp)
    rw [if_pos c16] at H
    have c16b0:decide (0≤t930)=true:=decide_eq_true c16
    clear c16
    by_cases c17:t930< (t923.length:Int)
    case neg=>rw [if_neg c17] at H;exact absurd H (by simp)
    rw [if_pos c17] at H
    have c17b0:decide (t930< (t923.length:Int))=true:=decide_eq_true c17
    clear c17
    obtain⟨y936,hy936⟩ :∃ y_:List Int,y_= (t923.set (t930:Int).toNat (wrap64 (t933 - 2))):=⟨_,rfl⟩
    replace H:(some (y936,t934,t935))=some (r1,r2,r3):=zfh hy936 H
    have Ny936:=Aside0.mk hy936
    clear hy936
    simp only [Option.some.injEq,Prod.mk.injEq] at H
    obtain⟨rfl,rfl,rfl⟩:=H
    obtain⟨Ao19,co19,eo19⟩:=Kd.R_slice HO_5.out
    subst eo19
    go_wp2_with (first|((with_reducible refine gate_callee (f:=87) rfl ?_);refine goesL_ (some 30) rfl rfl Try.func87 (by kernel_rfl) rfl #[.pointer (some ⟨g,0,none⟩),.int .i64 (t923.length:Int)] rfl zq2 ?_;(with_reducible refine(spec_l1Cur_pick.calls g s0_0 x1001_4 x1002_4 (t923.length:Int) t930 t931 t932 w0 _ ?side1 ?side2 A14.out).mono ?_);(case side1=>exact zk5 HI0);(case side2=>exact zk2 HB (IsS94.ge HI0.out));rintro e w20 ⟨rfl,hi,hb,hk⟩;refine⟨_,rfl,?_⟩;replace HO_5:=Aside0.mk (Kd.R_mono (Kd.R_keep (IsS94.apart (show IsS94 w0 _ g s0_0 x1001_4 x1002_4 from by exact zk5 HI0) (zq4 HO_5) (by decide)) hk (fun _ h=>h.2)) (fun _ h=>h.1));replace HK:=Aside0.mk (KeepBut.trans (by exact zk6 HK) hk (.inl rfl));replace HB:=Aside0.mk (hb);replace HI0:=Aside0.mk (hi);(try clear hb);(try clear hb2);(try clear hk);(try clear hi))|((with_reducible refine gate_callee (f:=87) rfl ?_);refine goesL_ (some 32) rfl rfl Try.func87 (by kernel_rfl) rfl #[.pointer (some ⟨g,0,none⟩),.int .i64 9] rfl zq2 ?_;(with_reducible refine(spec_l1Cur_pick.calls g s0_0 t931 t932 9 t933 t934 t935 w0 _ ?side1 ?side2 A15.out).mono ?_);(case side1=>exact zk5 HI0);(case side2=>exact zk2 HB (IsS94.ge HI0.out));rintro e w21 ⟨rfl,hi,hb,hk⟩;refine⟨_,rfl,?_⟩;replace HO_5:=Aside0.mk (Kd.R_mono (Kd.R_keep (IsS94.apart (show IsS94 w0 _ g s0_0 t931 t932 from by exact zk5 HI0) (zq4 HO_5) (by decide)) hk (fun _ h=>h.2)) (fun _ h=>h.1));replace HK:=Aside0.mk (KeepBut.trans (by exact zk6 HK) hk (.inl rfl));replace HB:=Aside0.mk (hb);replace HI0:=Aside0.mk (hi);(try clear hb);(try clear hb2);(try clear hk);(try clear hi);have p18: 0≤ (t930:Int):=of_decide_eq_true zq1;have q18:(t930:Int)< ((t923.length:Int):Int):=of_decide_eq_true zq1;obtain⟨go18,co18,eo18,gb18,gl18,cl18,HG18⟩:=Kd.R_form HO_5.out (by omega);(first|cases eo18|(injection eo18 with ea_ en_ ec_;(first|subst ea_|(injection ea_ with ea_;subst ea_));subst ec_;clear en_));have GB18:=Aside0.mk gb18;have GG18:=Aside0.mk HG18;clear gb18 gl18 HG18;obtain⟨hx18_0,hf18_0⟩:=Kd.R_celln 0 HO_5.out (t930:Int) p18 q18;replace p18:=eq_true p18;replace q18:=eq_true q18;obtain⟨hy22_,hz22_⟩:=Kd.R_celln 0 HO_5.out (t930:Int) (of_decide_eq_true zq1) (of_decide_eq_true zq1);have HP22:=Kd.R_putg HO_5.out (t930:Int) (wrap64 (t933 - 2)))|((with_reducible refine gate_store (t:=3) (p:=34) rfl ?_);refine store_event (t:=3) (p:=34) (v:=?vo_w23) (w1:=(w21.setCell ⟨go18,(t930:Int).toNat,none⟩ (.int .i64 (wrap64 (t933 - 2))))) ?hg ?ho ?hn ?hr ?_;(case ho=>rfl);(case hg=>rfl);(case hn=>rfl);(case hr=>first|(go_simp;done)|(go_simp;rfl));intro w23 hw;have hg:w21.grownBy w23 (some go18):=(by rw [hw];exact HP22.2);have hp_:Kd.R (Kd.int .i64) 3 w23 w.heap.size (fun _=>True) (.slice (some ⟨go18,0,none⟩) t923.length co19) y936:=(by rw [hw,Ny936.out];exact HP22.1);clear HP22;replace HI0:=Aside0.mk (IsS94.grown (by exact zk5 HI0) hg (IsS94.own_ne HI0.out HO_5.out (by decide)));replace HB:=Aside0.mk ((by rw [hw];exact below_set (HB.out) (Nat.le_trans HL.out GB18.out):Below w0.heap.size w0 w23));replace HK:=Aside0.mk (KeepBut.trans (by exact zk6 HK) (KeepBut.of_grown hg g) (Kd.R_base2 HO_5.out));replace HO_5:=Aside0.mk (hp_);clear hg hw hp_))
    go_ret
    exact⟨_,by first|rfl|(simp [errW_none,errW_some]<;>rfl)|(simp [*,errW_none,errW_some]<;>rfl),by(with_reducible repeat(first|apply Kd.R_alloc|apply Kd.R_drewN|apply Kd.R_drew));exact HO_5.out,by exact zk5 HI0,by exact zk2 HB (IsS94.ge HI0.out),by exact zk6 HK⟩
   ·replace c13:=Bool.eq_false_iff.mpr c13
    subst c13
    have H1:(some (t923,x1001_4,x1002_4))=some (r1,r2,r3):=by rw [if_neg (show ¬ (false=true) by decide)] at H;exact H
    clear H
    have H:=H1
    clear H1
    simp only [Option.some.injEq,Prod.mk.injEq] at H
    obtain⟨rfl,rfl,rfl⟩:=H
    go_wp2
    go_ret
    exact⟨_,by first|rfl|(simp [errW_none,errW_some]<;>rfl)|(simp [*,errW_none,errW_some]<;>rfl),by(with_reducible repeat(first|apply Kd.R_alloc|apply Kd.R_drewN|apply Kd.R_drew));exact HO_5.out,by exact zk5 HI0,by exact zk2 HB (IsS94.ge HI0.out),by exact zk6 HK⟩
def spec_DrawSpreadOn.f (k:Nat) (l0:List Int):Option (List Int × Int):=(spec_l1Cur_parents.f k l0 0 0).bind fun bt938=>((spec_l1Cur_pick.f l0 bt938.2.1 bt938.2.2 (wrap64 ((bt938.1.length:Int)+2))).bind fun bt943=>(some (bt938.1,wrap64 (bt943.1 - 1))))
set_option maxHeartbeats 8000000 in
set_option maxRecDepth 100000 in
theorem spec_DrawSpreadOn.calls (k:Nat) (A0:Option Addr) (c0:Nat) (l0:List Int) (r1:List Int) (r2:Int) (w:World) (hr0:Kd.C (Kd.int .u8) w A0 l0.length l0) (hc0:l0.length≤c0) (h:spec_DrawSpreadOn.f k l0=some (r1,r2)):
  Calls Try.prog 50 #[.slice A0 l0.length c0] w fun e w'=> ∃ v0_:Value,e= .returned (.tuple #[v0_,.int .i64 r2])∧Kd.R (Kd.int .i64) 3 w' w.heap.size (fun _=>True) v0_ r1∧Below w.heap.size w w':=by
 have hu94:=Try.underlying94
 have HR0:=Aside0.mk hr0
 have HC0:=Aside0.mk hc0
 clear hr0 hc0
 have HB:=Aside0.mk (Below.refl w.heap.size w)
 have H:((spec_l1Cur_parents.f k l0 0 0).bind fun bt938=>((spec_l1Cur_pick.f l0 bt938.2.1 bt938.2.2 (wrap64 ((bt938.1.length:Int)+2))).bind fun bt943=>(some (bt938.1,wrap64 (bt943.1 - 1)))))=some (r1,r2):=h
 clear h
 replace H:=Option.bind_eq_some_iff.mp H
 obtain⟨⟨t938,t941,t942⟩,A20,H⟩:=H
 replace H:((spec_l1Cur_pick.f l0 t941 t942 (wrap64 ((t938.length:Int)+2))).bind fun bt943=>(some (t938,wrap64 (bt943.1 - 1))))=some (r1,r2):=H
 have A2:=Aside0.mk A20
 clear A20
 replace H:=Option.bind_eq_some_iff.mp H
 obtain⟨⟨t943,t944,t945⟩,A30,H⟩:=H
 replace H:(some (t938,wrap64 (t943 - 1)))=some (r1,r2):=H
 have A3:=Aside0.mk A30
 clear A30
 simp only [Option.some.injEq,Prod.mk.injEq] at H
 obtain⟨rfl,rfl⟩:=H
 go_enter Try.func50,Try.ntmps50
 go_wp2_with (first|((with_reducible refine gate_dst (N:=8) rfl ?_);refine box_event ?hg (N:=8) ?hd (cs:= #[.slice A0 l0.length c0,.int .i64 0,.int .u64 0]) (t:=94) ?hr ?_;(case hd=>rfl);(case hg=>rfl);(case hr=>first|(go_simp;done)|(go_simp;rfl));intro gb937 hg w4 hbox hb;have GW937:=Aside0.mk ((by rw [hg];exact(below_size (by exact zk1 HB)):w.heap.size≤gb937));have GE937:=Aside0.mk ((by rw [hg];exact(below_size (by exact zk1 HB)):w.heap.size≤gb937));have HI937:=Aside0.mk ((show IsS94 w _ gb937 l0 0 0 from ⟨_,_,hbox,(by rw [hg];exact(below_size (by exact zk1 HB)):w.heap.size≤gb937),HR0.out⟩));replace HB:=Aside0.mk (below_step (by exact zk1 HB) hb);clear hb hbox hg)|((with_reducible refine gate_callee (f:=86) rfl ?_);refine goesL_ (some 10) rfl rfl Try.func86 (by kernel_rfl) rfl #[.pointer (some ⟨gb937,0,none⟩)] rfl zq2 ?_;(with_reducible refine(spec_l1Cur_parents.calls k gb937 l0 0 0 t938 t941 t942 w _ ?side1 ?side2 A2.out).mono ?_);(case side1=>exact zk5 HI937);(case side2=>exact zk2 HB (IsS94.ge HI937.out));rintro e w5 ⟨v939,rfl,ho0,hi,hb,hk⟩;refine⟨_,rfl,?_⟩;have HO940:=Aside0.mk (Kd.R_lower ho0 (below_size (by exact zk2 HB (IsS94.ge HI937.out))));replace HB:=Aside0.mk (hb);replace HI937:=Aside0.mk (hi);(try clear hb);(try clear hb2);(try clear hk);(try clear hi);(try clear ho0);obtain⟨Ao6,co6,eo6⟩:=Kd.R_slice HO940.out;subst eo6)|((with_reducible refine gate_callee (f:=87) rfl ?_);refine goesL_ (some 16) rfl rfl Try.func87 (by kernel_rfl) rfl #[.pointer (some ⟨gb937,0,none⟩),.int .i64 (wrap64 ((t938.length:Int)+2))] rfl zq2 ?_;(with_reducible refine(spec_l1Cur_pick.calls gb937 l0 t941 t942 (wrap64 ((t938.length:Int)+2)) t943 t944 t945 w _ ?side1 ?side2 A3.out).mono ?_);(case side1=>exact zk5 HI937);(case side2=>exact zk2 HB (IsS94.ge HI937.out));rintro e w7 ⟨rfl,hi,hb,hk⟩;refine⟨_,rfl,?_⟩;replace HO940:=Aside0.mk (Kd.R_mono (Kd.R_keep (IsS94.apart (show IsS94 w _ gb937 l0 t941 t942 from by exact zk5 HI937) (zq4 HO940) (by decide)) hk (fun _ h=>h.2)) (fun _ h=>h.1));replace HB:=Aside0.mk (hb);replace HI937:=Aside0.mk (hi);(try clear hb);(try clear hb2);(try clear hk);(try clear hi)))
 go_ret2
 exact⟨_,by first|rfl|(simp [errW_none,errW_some]<;>rfl)|(simp [*,errW_none,errW_some]<;>rfl),by(with_reducible repeat(first|apply Kd.R_alloc|apply Kd.R_drewN|apply Kd.R_drew));exact HO940.out,by exact zk2 HB (IsS94.ge HI937.out)⟩
def spec_DrawComesFrom.f (k:Nat) (l0:List Int):Option (List Int × Int × Int):=(spec_l1Cur_parents.f k l0 0 0).bind fun bt947=>((spec_l1Cur_pick.f l0 bt947.2.1 bt947.2.2 (wrap64 ((bt947.1.length:Int)+1))).bind fun bt952=>((spec_l1Cur_pick.f l0 bt952.2.1 bt952.2.2 9).bind fun bt955=>((spec_l1Cur_pick.f l0 bt955.2.1 bt955.2.2 9).bind fun bt958=>((spec_l1Cur_pick.f l0 bt958.2.1 bt958.2.2 (wrap64 ((bt947.1.length:Int)+ (wrap64 (Int.tdiv bt958.1 8))))).bind fun bt961=>(some (bt947.1,wrap64 (bt952.1 - (wrap64 (Int.tdiv bt955.1 8))),bt961.1))))))
set_option maxHeartbeats 8000000 in
set_option maxRecDepth 100000 in
theorem spec_DrawComesFrom.calls (k:Nat) (A0:Option Addr) (c0:Nat) (l0:List Int) (r1:List Int) (r2:Int) (r3:Int) (w:World) (hr0:Kd.C (Kd.int .u8) w A0 l0.length l0) (hc0:l0.length≤c0) (h:spec_DrawComesFrom.f k l0=some (r1,r2,r3)):
  Calls Try.prog 51 #[.slice A0 l0.length c0] w fun e w'=> ∃ v0_:Value,e= .returned (.tuple #[v0_,.int .i64 r2,.int .i64 r3])∧Kd.R (Kd.int .i64) 3 w' w.heap.size (fun _=>True) v0_ r1∧Below w.heap.size w w':=by
 have hu94:=Try.underlying94
 have HR0:=Aside0.mk hr0
 have HC0:=Aside0.mk hc0
 clear hr0 hc0
 have HB:=Aside0.mk (Below.refl w.heap.size w)
 have H:((spec_l1Cur_parents.f k l0 0 0).bind fun bt947=>((spec_l1Cur_pick.f l0 bt947.2.1 bt947.2.2 (wrap64 ((bt947.1.length:Int)+1))).bind fun bt952=>((spec_l1Cur_pick.f l0 bt952.2.1 bt952.2.2 9).bind fun bt955=>((spec_l1Cur_pick.f l0 bt955.2.1 bt955.2.2 9).bind fun bt958=>((spec_l1Cur_pick.f l0 bt958.2.1 bt958.2.2 (wrap64 ((bt947.1.length:Int)+ (wrap64 (Int.tdiv bt958.1 8))))).bind fun bt961=>(some (bt947.1,wrap64 (bt952.1 - (wrap64 (Int.tdiv bt955.1 8))),bt961.1)))))))=some (r1,r2,r3):=h
 clear h
 replace H:=Option.bind_eq_some_iff.mp H
 obtain⟨⟨t947,t950,t951⟩,A20,H⟩:=H
 replace H:((spec_l1Cur_pick.f l0 t950 t951 (wrap64 ((t947.length:Int)+1))).bind fun bt952=>((spec_l1Cur_pick.f l0 bt952.2.1 bt952.2.2 9).bind fun bt955=>((spec_l1Cur_pick.f l0 bt955.2.1 bt955.2.2 9).bind fun bt958=>((spec_l1Cur_pick.f l0 bt958.2.1 bt958.2.2 (wrap64 ((t947.length:Int)+ (wrap64 (Int.tdiv bt958.1 8))))).bind fun bt961=>(some (t947,wrap64 (bt952.1 - (wrap64 (Int.tdiv bt955.1 8))),bt961.1))))))=some (r1,r2,r3):=H
 have A2:=Aside0.mk A20
 clear A20
 replace H:=Option.bind_eq_some_iff.mp H
 obtain⟨⟨t952,t953,t954⟩,A30,H⟩:=H
 replace H:((spec_l1Cur_pick.f l0 t953 t954 9).bind fun bt955=>((spec_l1Cur_pick.f l0 bt955.2.1 bt955.2.2 9).bind fun bt958=>((spec_l1Cur_pick.f l0 bt958.2.1 bt958.2.2 (wrap64 ((t947.length:Int)+ (wrap64 (Int.tdiv bt958.1 8))))).bind fun bt961=>(some (t947,wrap64 (t952 - (wrap64 (Int.tdiv bt955.1 8))),bt961.1)))))=some (r1,r2,r3):=H
 have A3:=Aside0.mk A30
 clear A30
 replace H:=Option.bind_eq_some_iff.mp H
 obtain⟨⟨t955,t956,t957⟩,A40,H⟩:=H
 replace H:((spec_l1Cur_pick.f l0 t956 t957 9).bind fun bt958=>((spec_l1Cur_pick.f l0 bt958.2.1 bt958.2.2 (wrap64 ((t947.length:Int)+ (wrap64 (Int.tdiv bt958.1 8))))).bind fun bt961=>(some (t947,wrap64 (t952 - (wrap64 (Int.tdiv t955 8))),bt961.1))))=some (r1,r2,r3):=H
 have A4:=Aside0.mk A40
 clear A40
 replace H:=Option.bind_eq_some_iff.mp H
 obtain⟨⟨t958,t959,t960⟩,A50,H⟩:=H
 replace H:((spec_l1Cur_pick.f l0 t959 t960 (wrap64 ((t947.length:Int)+ (wrap64 (Int.tdiv t958 8))))).bind fun bt961=>(some (t947,wrap64 (t952 - (wrap64 (Int.tdiv t955 8))),bt961.1)))=some (r1,r2,r3):=H
 have A5:=Aside0.mk A50
 clear A50
 replace H:=Option.bind_eq_some_iff.mp H
 obtain⟨⟨t961,t962,t963⟩,A60,H⟩:=H
 replace H:(some (t947,wrap64 (t952 - (wrap64 (Int.tdiv t955 8))),t961))=some (r1,r2,r3):=H
 have A6:=Aside0.mk A60
 clear A60
 simp only [Option.some.injEq,Prod.mk.injEq] at H
 obtain⟨rfl,rfl,rfl⟩:=H
 go_enter Try.func51,Try.ntmps51
 go_wp2_with (first|((with_reducible refine gate_dst (N:=9) rfl ?_);refine box_event ?hg (N:=9) ?hd (cs:= #[.slice A0 l0.length c0,.int .i64 0,.int .u64 0]) (t:=94) ?hr ?_;(case hd=>rfl);(case hg=>rfl);(case hr=>first|(go_simp;done)|(go_simp;rfl));intro gb946 hg w7 hbox hb;have GW946:=Aside0.mk ((by rw [hg];exact(below_size (by exact zk1 HB)):w.heap.size≤gb946));have GE946:=Aside0.mk ((by rw [hg];exact(below_size (by exact zk1 HB)):w.heap.size≤gb946));have HI946:=Aside0.mk ((show IsS94 w _ gb946 l0 0 0 from ⟨_,_,hbox,(by rw [hg];exact(below_size (by exact zk1 HB)):w.heap.size≤gb946),HR0.out⟩));replace HB:=Aside0.mk (below_step (by exact zk1 HB) hb);clear hb hbox hg)|((with_reducible refine gate_callee (f:=86) rfl ?_);refine goesL_ (some 11) rfl rfl Try.func86 (by kernel_rfl) rfl #[.pointer (some ⟨gb946,0,none⟩)] rfl zq2 ?_;(with_reducible refine(spec_l1Cur_parents.calls k gb946 l0 0 0 t947 t950 t951 w _ ?side1 ?side2 A2.out).mono ?_);(case side1=>exact zk5 HI946);(case side2=>exact zk2 HB (IsS94.ge HI946.out));rintro e w8 ⟨v948,rfl,ho0,hi,hb,hk⟩;refine⟨_,rfl,?_⟩;have HO949:=Aside0.mk (Kd.R_lower ho0 (below_size (by exact zk2 HB (IsS94.ge HI946.out))));replace HB:=Aside0.mk (hb);replace HI946:=Aside0.mk (hi);(try clear hb);(try clear hb2);(try clear hk);(try clear hi);(try clear ho0);obtain⟨Ao9,co9,eo9⟩:=Kd.R_slice HO949.out;subst eo9)|((with_reducible refine gate_callee (f:=87) rfl ?_);refine goesL_ (some 17) rfl rfl Try.func87 (by kernel_rfl) rfl #[.pointer (some ⟨gb946,0,none⟩),.int .i64 (wrap64 ((t947.length:Int)+1))] rfl zq2 ?_;(with_reducible refine(spec_l1Cur_pick.calls gb946 l0 t950 t951 (wrap64 ((t947.length:Int)+1)) t952 t953 t954 w _ ?side1 ?side2 A3.out).mono ?_);(case side1=>exact zk5 HI946);(case side2=>exact zk2 HB (IsS94.ge HI946.out));rintro e w10 ⟨rfl,hi,hb,hk⟩;refine⟨_,rfl,?_⟩;replace HO949:=Aside0.mk (Kd.R_mono (Kd.R_keep (IsS94.apart (show IsS94 w _ gb946 l0 t950 t951 from by exact zk5 HI946) (zq4 HO949) (by decide)) hk (fun _ h=>h.2)) (fun _ h=>h.1));replace HB:=Aside0.mk (hb);replace HI946:=Aside0.mk (hi);(try clear hb);(try clear hb2);(try clear hk);(try clear hi))|((with_reducible refine gate_callee (f:=87) rfl ?_);refine goesL_ (some 19) rfl rfl Try.func87 (by kernel_rfl) rfl #[.pointer (some ⟨gb946,0,none⟩),.int .i64 9] rfl zq2 ?_;(with_reducible refine(spec_l1Cur_pick.calls gb946 l0 t953 t954 9 t955 t956 t957 w _ ?side1 ?side2 A4.out).mono ?_);(case side1=>exact zk5 HI946);(case side2=>exact zk2 HB (IsS94.ge HI946.out));rintro e w11 ⟨rfl,hi,hb,hk⟩;refine⟨_,rfl,?_⟩;replace HO949:=Aside0.mk (Kd.R_mono (Kd.R_keep (IsS94.apart (show IsS94 w _ gb946 l0 t953 t954 from by exact zk5 HI946) (zq4 HO949) (by decide)) hk (fun _ h=>h.2)) (fun _ h=>h.1));replace HB:=Aside0.mk (hb);replace HI946:=Aside0.mk (hi);(try clear hb);(try clear hb2);(try clear hk);(try clear hi))|((with_reducible refine gate_callee (f:=87) rfl ?_);refine goesL_ (some 26) rfl rfl Try.func87 (by kernel_rfl) rfl #[.pointer (some ⟨gb946,0,none⟩),.int .i64 9] rfl zq2 ?_;(with_reducible refine(spec_l1Cur_pick.calls gb946 l0 t956 t957 9 t958 t959 t960 w _ ?side1 ?side2 A5.out).mono ?_);(case side1=>exact zk5 HI946);(case side2=>exact zk2 HB (IsS94.ge HI946.out));rintro e w12 ⟨rfl,hi,hb,hk⟩;refine⟨_,rfl,?_⟩;replace HO949:=Aside0.mk (Kd.R_mono (Kd.R_keep (IsS94.apart (show IsS94 w _ gb946 l0 t956 t957 from by exact zk5 HI946) (zq4 HO949) (by decide)) hk (fun _ h=>h.2)) (fun _ h=>h.1));replace HB:=Aside0.mk (hb);replace HI946:=Aside0.mk (hi);(try clear hb);(try clear hb2);(try clear hk);(try clear hi))|((with_reducible refine gate_callee (f:=87) rfl ?_);refine goesL_ (some 29) rfl rfl Try.func87 (by kernel_rfl) rfl #[.pointer (some ⟨gb946,0,none⟩),.int .i64 (wrap64 ((t947.length:Int)+ (wrap64 (Int.tdiv t958 8))))] rfl zq2 ?_;(with_reducible refine(spec_l1Cur_pick.calls gb946 l0 t959 t960 (wrap64 ((t947.length:Int)+ (wrap64 (Int.tdiv t958 8)))) t961 t962 t963 w _ ?side1 ?side2 A6.out).mono ?_);(case side1=>exact zk5 HI946);(case side2=>exact zk2 HB (IsS94.ge HI946.out));rintro e w13 ⟨rfl,hi,hb,hk⟩;refine⟨_,rfl,?_⟩;replace HO949:=Aside0.mk (Kd.R_mono (Kd.R_keep (IsS94.apart (show IsS94 w _ gb946 l0 t959 t960 from by exact zk5 HI946) (zq4 HO949) (by decide)) hk (fun _ h=>h.2)) (fun _ h=>h.1));replace HB:=Aside0.mk (hb);replace HI946:=Aside0.mk (hi);(try clear hb);(try clear hb2);(try clear hk);(try clear hi)))
 go_ret3
 exact⟨_,by first|rfl|(simp [errW_none,errW_some]<;>rfl)|(simp [*,errW_none,errW_some]<;>rfl),by(with_reducible repeat(first|apply Kd.R_alloc|apply Kd.R_drewN|apply Kd.R_drew));exact HO949.out,by exact zk2 HB (IsS94.ge HI946.out)⟩
def laws_sameHops.l0:Nat→List (S61)→List (S61)→Int→Int→Option (Bool)
 | 0,_,_,_,_=>none
 |k+1,x0,x1,x12,x13=>if x13<x12 then(if 0≤x13 then(if x13< (x0.length:Int) then(if x13< (x1.length:Int) then(if (!(((rd_T61 x0 x13).f0)== ((rd_T61 x1 x13).f0)) || (!(((rd_T61 x0 x13).f1)== ((rd_T61 x1 x13).f1))))=true then(some false) else(laws_sameHops.l0 k x0 x1 x12 (wrap64 (x13+1)))) else(none)) else(none)) else(none)) else(some true)
def laws_sameHops.f (k:Nat) (l0:List (S61)) (l1:List (S61)):Option (Bool):=if (l0.length:Int)= (l1.length:Int) then(laws_sameHops.l0 k l0 l1 (l0.length:Int) 0) else(some false)
set_option maxHeartbeats 8000000 in
set_option maxRecDepth 100000 in
theorem laws_sameHops.calls (k:Nat) (A0:Option Addr) (c0:Nat) (l0:List (S61)) (A1:Option Addr) (c1:Nat) (l1:List (S61)) (r:Bool) (w:World) (hr0:Kd.C k61 w A0 l0.length l0) (hc0:l0.length≤c0) (hr1:Kd.C k61 w A1 l1.length l1) (hc1:l1.length≤c1) (h:laws_sameHops.f k l0 l1=some r):
  Calls Try.prog 52 #[.slice A0 l0.length c0,.slice A1 l1.length c1] w fun e w'=>e= .returned (.bool r)∧Drawn0 w w':=by
 have hu61:=Try.underlying61
 have HR0:=Aside0.mk hr0
 have HC0:=Aside0.mk hc0
 clear hr0 hc0
 have HR1:=Aside0.mk hr1
 have HC1:=Aside0.mk hc1
 clear hr1 hc1
 have H:(if (l0.length:Int)= (l1.length:Int) then(laws_sameHops.l0 k l0 l1 (l0.length:Int) 0) else(some false))=some r:=h
 clear h
 by_cases c3:(l0.length:Int)= (l1.length:Int)
 ·rw [if_pos c3] at H
  have c3b0:((l0.length:Int)== (l1.length:Int))=true:=beq_iff_eq.mpr c3
  have c3b1:((l0.length:Int) != (l1.length:Int))=false:=bne_eq_false_iff_eq.mpr c3
  have c3b2:(l0.length==l1.length)=true:=by first|simpa using c3|(simp at c3 ⊢;omega)
  clear c3
  have H':=Aside0.mk H
  clear H
  go_enter Try.func52,Try.ntmps52
  go_wp2
  repeat(go_quiet (fail);try go_wp2)
  go_loopg [13] k (fun kq v13 w'=> ∃ (x13_1:Int),v13= .int .i64 x13_1∧Aside0 (laws_sameHops.l0 kq l0 l1 (l0.length:Int) x13_1=some r)∧Aside0 (kq≤k)∧Drawn0 w w')
  case atStart=>exact⟨(0),(by first|rfl|(simp;done)|(simp [*];done)),H',⟨Nat.le_refl _⟩,by repeat(first|exact Drawn0.refl _|apply Drawn0.step)⟩
  case round=>
   clear H'
   try clear c1
   try clear p2
   try clear c3
   try clear c3b0
   try clear c3b1
   try clear c3b2
   obtain⟨x13_1,rfl,HA,HK1,⟨m1,rfl⟩⟩:=hrel
   cases gk with
   |zero=>exact absurd HA.out (by simp [laws_sameHops.l0])
   |succ k1=>
    have H:=HA.out
    clear HA
    simp only [laws_sameHops.l0] at H
    by_cases c4:x13_1< (l0.length:Int)
    ·rw [if_pos c4] at H
     have c4b0:decide (x13_1< (l0.length:Int))=true:=decide_eq_true c4
     clear c4
     by_cases c5: 0≤x13_1
     case neg=>rw [if_neg c5] at H;exact absurd H (by simp)
     rw [if_pos c5] at H
     have c5b0:decide (0≤x13_1)=true:=decide_eq_true c5
     clear c5
     by_cases c6:x13_1< (l0.length:Int)
     case neg=>rw [if_neg c6] at H;exact absurd H (by simp)
     rw [if_pos c6] at H
     have c6b0:decide (x13_1< (l0.length:Int))=true:=decide_eq_true c6
     clear c6
     by_cases c7:x13_1< (l1.length:Int)
     case neg=>rw [if_neg c7] at H;exact absurd H (by simp)
     rw [if_pos c7] at H
     have c7b0:decide (x13_1< (l1.length:Int))=true:=decide_eq_true c7
     clear c7
     by_cases c8:(!(((rd_T61 l0 x13_1).f0)== ((rd_T61 l1 x13_1).f0)) || (!(((rd_T61 l0 x13_1).f1)== ((rd_T61 l1 x13_1).f1))))=true
     ·rw [if_pos c8] at H
      have c8b0:(!(((rd_T61 l0 x13_1).f0)== ((rd_T61 l1 x13_1).f0)) || (!(((rd_T61 l0 x13_1).f1)== ((rd_T61 l1 x13_1).f1))))=true:=c8
      clear c8
      obtain rfl:=Option.some.inj H
      have p964: 0≤ (x13_1:Int):=of_decide_eq_true zq1
      have q964:x13_1< (l0.length:Int):=of_decide_eq_true zq1
      obtain⟨ad964,e964,hx964_0,hx964_1⟩:=at_T61 HR0.out x13_1 p964 q964
      cases e964
      replace p964:=eq_true p964
      replace q964:=eq_true q964
      have p965: 0≤ (x13_1:Int):=of_decide_eq_true zq1
      have q965:x13_1< (l1.length:Int):=of_decide_eq_true zq1
      obtain⟨ad965,e965,hx965_0,hx965_1⟩:=at_T61 HR1.out x13_1 p965 q965
      cases e965
      replace p965:=eq_true p965
      replace q965:=eq_true q965
      go_wp2
      repeat(go_quiet (fail);try go_wp2)
      go_ret
      exact⟨by first|rfl|(simp;done)|(simp [*];done),by repeat(first|exact Drawn0.refl _|apply Drawn0.step)⟩
     ·rw [if_neg c8] at H
      have c8b0:(!(((rd_T61 l0 x13_1).f0)== ((rd_T61 l1 x13_1).f0)) || (!(((rd_T61 l0 x13_1).f1)== ((rd_T61 l1 x13_1).f1))))=false:=by simpa using c8
      clear c8
      have H':=Aside0.mk H
      clear H
      have p964: 0≤ (x13_1:Int):=of_decide_eq_true zq1
      have q964:x13_1< (l0.length:Int):=of_decide_eq_true zq1
      obtain⟨ad964,e964,hx964_0,hx964_1⟩:=at_T61 HR0.out x13_1 p964 q964
      cases e964
      replace p964:=eq_true p964
      replace q964:=eq_true q964
      have p965: 0≤ (x13_1:Int):=of_decide_eq_true zq1
      have q965:x13_1< (l1.length:Int):=of_decide_eq_true zq1
      obtain⟨ad965,e965,hx965_0,hx965_1⟩:=at_T61 HR1.out x13_1 p965 q965
      cases e965
      replace p965:=eq_true p965
      replace q965:=eq_true q965
      go_wp2
      repeat(go_quiet (fail);try go_wp2)
      go_roundg k1
      case measure=>have:=HK1.out;omega
      case rel=>exact⟨(wrap64 (x13_1+1)),(by first|rfl|(simp;done)|(simp [*];done)),H',⟨by have:=HK1.out;omega⟩,by repeat(first|exact Drawn0.refl _|apply Drawn0.step)⟩
    ·rw [if_neg c4] at H
     have c4b0:decide (x13_1< (l0.length:Int))=false:=decide_eq_false c4
     clear c4
     obtain rfl:=Option.some.inj H
     go_wp2
     repeat(go_quiet (fail);try go_wp2)
     go_ret
     exact⟨by first|rfl|(simp;done)|(simp [*];done),by repeat(first|exact Drawn0.refl _|apply Drawn0.step)⟩
 ·rw [if_neg c3] at H
  have c3b0:((l0.length:Int)== (l1.length:Int))=false:=beq_eq_false_iff_ne.mpr c3
  have c3b1:((l0.length:Int) != (l1.length:Int))=true:=bne_iff_ne.mpr c3
  have c3b2:(l0.length==l1.length)=false:=by first|simpa using c3|(simp at c3 ⊢;omega)
  obtain rfl:=Option.some.inj H
  go_enter Try.func52,Try.ntmps52
  go_wp2
  repeat(go_quiet (fail);try go_wp2)
  go_ret
  exact⟨by first|rfl|(simp;done)|(simp [*];done),by repeat(first|exact Drawn0.refl _|apply Drawn0.step)⟩
end Go.Proofs.Ytedegfbheihopaa.P
