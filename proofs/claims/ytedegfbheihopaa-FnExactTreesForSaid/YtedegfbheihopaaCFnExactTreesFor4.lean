/- Functions, walks and plain lemmas that the law FnExactTreesFor reaches, part 4. -/
import Derived.Test.YtedegfbheihopaaCFnExactTreesFor3
import Derived.WalkKit
import Derived.ProofKit
import Derived.OpenShut
import Derived.ChangeOld
import Derived.Below
import Derived.SizedLaws
import Derived.ChangeArms
import Derived.DataElems
import Derived.Deep.Draws
import Derived.Deep.AppendLies
import Derived.Maps.AppendAt
import Derived.OwnWalk
import Derived.Laws.BytesArg
import Derived.Laws.MakeOwn
import Derived.Laws.OwnMore
import Derived.Deep.OwnRows
import Derived.Tactics
import Derived.Lib.ConvBytes
import Derived.Laws.Slices
import Derived.KernelRfl
import Derived.RowKit3
import Derived.Deep.LoopGhost
import Derived.Deep.QuietTactic
import Derived.BigQuiet
import Derived.WideLaws
import Derived.Deep.DeepCutAuto
import Derived.Deep.CutBlock
import Derived.Deep.RegionHeld3
import Derived.Laws.Rows
import Derived.Lib.AppendStr
import Derived.ArgAppend
import Derived.Laws.IdiomCopy
import Derived.OrdersHeld
import Derived.Laws.BitsLemmas
import Derived.RowKit
import Derived.WalkSpells
import Derived.Lib.SliceRun
import Derived.Shelf.Abstract
import Derived.ShutString
namespace Go.Proofs.Ytedegfbheihopaa.P
open Go.RowKit Go.Proofs.YtedegfbheihopaaW.PrintWords Go.Proofs.YtedegfbheihopaaW.PrintLast Go.Proofs.YtedegfbheihopaaW.PrintMore
attribute [local go_sem] max2_int min2_int max_two min_two max_three min_three max_four min_four   -- for this text's walks alone
set_option linter.unusedVariables false
set_option linter.unusedSimpArgs false
mutual
def spec_l10At.l0:Nat→Int→List (S79)→Int→List Int→List Int→Int→Option (List Int)
 | 0,_,_,_,_,_,_=>none
 |k+1,x0,x1,x2,x7,x8,x9=>if x9<x0 then((spec_l8Near.f k x1 x9).bind fun t460=>(spec_l10At.l1 k x0 x1 x2 x7 x8 x9 (-1) t460 (t460.length:Int) 0)) else(some x8)
def spec_l10At.l1:Nat→Int→List (S79)→Int→List Int→List Int→Int→Int→List Int→Int→Int→Option (List Int)
 | 0,_,_,_,_,_,_,_,_,_,_=>none
 |k+1,x0,x1,x2,x7,x8,x9,x10,x24,x25,x26=>if x26<x25 then(if 0≤x26 then(if x26< (x24.length:Int) then(if x10< 0 then(if x9=x2 then(spec_l10At.l1 k x0 x1 x2 x7 x8 x9 x10 x24 x25 (wrap64 (x26+1))) else(if 0≤x9 then(if x9< (x7.length:Int) then(if (rd x7 x9)< 100000 then(if 0≤ (rd x24 x26) then(if (rd x24 x26)< (x7.length:Int) then((spec_l9Edge.f k x1 (rd x24 x26) x9).bind fun t466=>(if (wrap64 ((rd x7 (rd x24 x26))+t466))= (rd x7 x9) then(spec_l10At.l1 k x0 x1 x2 x7 x8 x9 (rd x24 x26) x24 x25 (wrap64 (x26+1))) else(spec_l10At.l1 k x0 x1 x2 x7 x8 x9 x10 x24 x25 (wrap64 (x26+1))))) else(none)) else(none)) else(spec_l10At.l1 k x0 x1 x2 x7 x8 x9 x10 x24 x25 (wrap64 (x26+1)))) else(none)) else(none))) else(spec_l10At.l1 k x0 x1 x2 x7 x8 x9 x10 x24 x25 (wrap64 (x26+1)))) else(none)) else(none)) else(if x8.length< 17592186044416 then(spec_l10At.l0 k x0 x1 x2 x7 (x8++ [x10]) (wrap64 (x9+1))) else(none))
end
def spec_l10At.f (k:Nat) (a0:Int) (l1:List (S79)) (a2:Int):Option (List Int):=(spec_l9Fars.f k a0 l1 a2).bind fun t457=>(spec_l10At.l0 k a0 l1 a2 t457 ([] :List Int) 0)
def spec_l10At.T10:Bool × List (List Nat × List Nat):=(true,[([],[]),([0],[0]),([1],[1]),([2],[2]),([2],[2]),([3,4,2],[2,3,4]),([2,5],[2,5]),([6,2],[6]),([7],[7]),([7],[7]),([8,9,7],[7,8,9]),([10,7],[7,10]),([11,7],[7,11]),([7,12],[7,12]),([13,7],[13]),([14],[14]),([14],[14]),([15,16,14],[14,15,16]),([17,14],[14,17]),([14],[14]),([14],[14]),([14],[14]),([19,20,21,14,14],[14,19,20,21]),([18,22,14],[14,18,22]),([14],[14]),([14],[14]),([24,25,14],[14,24,25]),([26,14],[14,26]),([23,27,14],[14,23,27]),([14,28],[14,28])])
def spec_l10At.B10:List Nat:= [0,1,3,7,7,31,63,127,255,255,1023,2047,4095,8191,16383,32767,32767,131071,262143,32767,32767,32767,3702783,8388607,32767,32767,50364415,117473279,268435455,536870911]
theorem spec_l10At.tab10:rtab .any (opsOf Try.f75 10)=spec_l10At.T10:=by kernel_rfl
theorem spec_l10At.bits10:waitsOk spec_l10At.T10.2 spec_l10At.B10=true:=by kernel_rfl
set_option maxHeartbeats 8000000 in
set_option maxRecDepth 100000 in
theorem spec_l10At.calls (k:Nat) (a0:Int) (A1:Option Addr) (c1:Nat) (l1:List (S79)) (a2:Int) (r:List Int) (w:World) (hr1:Kd.C k79 w A1 l1.length l1) (hc1:l1.length≤c1) (h:spec_l10At.f k a0 l1 a2=some r):
  Calls Try.prog 75 #[.int .i64 a0,.slice A1 l1.length c1,.int .i64 a2] w fun e w'=> ∃ v0_:Value,e= .returned (v0_)∧Kd.R (Kd.int .i64) 3 w' w.heap.size (fun _=>True) v0_ r∧Below w.heap.size w w':=by
 have HR1:=Aside0.mk hr1
 have HC1:=Aside0.mk hc1
 clear hr1 hc1
 have HB:=Aside0.mk (Below.refl w.heap.size w)
 have H:((spec_l9Fars.f k a0 l1 a2).bind fun t457=>(spec_l10At.l0 k a0 l1 a2 t457 ([] :List Int) 0))=some r:=h
 clear h
 replace H:=Option.bind_eq_some_iff.mp H
 obtain⟨t457,A40,H⟩:=H
 replace H:(spec_l10At.l0 k a0 l1 a2 t457 ([] :List Int) 0)=some r:=H
 have A4:=Aside0.mk A40
 clear A40
 have H':=Aside0.mk H
 clear H
 go_enter Try.func75,Try.ntmps75
 go_wp2_with (first|((with_reducible refine gate_callee (f:=96) rfl ?_);refine goesL_ (some 16) rfl rfl Try.func96 (by kernel_rfl) rfl #[.int .i64 a0,.slice A1 l1.length c1,.int .i64 a2] rfl zq2 ?_;(with_reducible refine(spec_l9Fars.calls k a0 _ _ l1 a2 t457 _ ?side1 ?side2 A4.out).mono ?_);(case side1=>repeat(first|exact HR1.out|(with_reducible refine Kd.C_alloc ?_ _)|(with_reducible refine Kd.C_drewN ?_ _)|(with_reducible refine Kd.C_drew ?_)));(case side2=>exact HC1.out);rintro e w5 ⟨v458,rfl,ho0,hb⟩;refine⟨_,rfl,?_⟩;have n0_:=Aside0.mk (Kd.R_lower ho0 (below_size (zb0 HB)));have n1_:=Aside0.mk (below_step (zb0 HB) hb);clear HB;have HO459:=n0_;have HB:=n1_;clear n0_ n1_;(try clear hb);(try clear hb2);(try clear hk);(try clear hi);(try clear ho0)))
 go_loopg [8,9] k (fun kq v8 v9 w'=> ∃ (x8_1:List Int) (x9_1:Int),v9= .int .i64 x9_1∧Aside0 (spec_l10At.l0 kq a0 l1 a2 t457 x8_1 x9_1=some r)∧Aside0 (kq≤k)∧Aside0 (Kd.R (Kd.int .i64) 3 w' w.heap.size (fun k_=>some k_≠ (v8:Value).ownBlock) v458 t457)∧Aside0 (Kd.R (Kd.int .i64) 3 w' w.heap.size (fun k_=>some k_≠ (v458:Value).ownBlock) v8 x8_1)∧Aside0 (Below w.heap.size w w'))
 case atStart=>exact⟨(([] :List Int)),(0),(by first|rfl|(simp;done)|(simp [*];done)),H',⟨Nat.le_refl _⟩,⟨by(with_reducible repeat(first|apply Kd.R_alloc|apply Kd.R_drewN|apply Kd.R_drew));exact Kd.R_mono HO459.out (fun _ hk=>(by simp [Value.ownBlock]))⟩,⟨by first|exact Kd.R_nil _ _ _ _ _|exact Kd.N_nil _ _ _ _ _|exact Kd.V_nil _ _ _ _ _|exact Kd.Q_nil _ _ _ _ _|exact Kd.S_nil _ _ _ _ _⟩,⟨by repeat(first|(with_reducible first|exact HB.out|apply below_alloc|apply pw_below_drewN|apply below_drew1)|exact HB.out)⟩⟩
 case round=>
  clear H'
  try clear c1
  try clear p2
  obtain⟨x8_1,x9_1,rfl,HA,HK1,HO_7,HO_8,HB⟩:=hrel
  cases gk with
  |zero=>exact absurd HA.out (by simp [spec_l10At.l0])
  |succ k1=>
   have H:=HA.out
   clear HA
   simp only [spec_l10At.l0] at H
   by_cases c6:x9_1<a0
   ·rw [if_pos c6] at H
    have c6b0:decide (x9_1<a0)=true:=decide_eq_true c6
    clear c6
    replace H:=Option.bind_eq_some_iff.mp H
    obtain⟨t460,A70,H⟩:=H
    replace H:(spec_l10At.l1 k1 a0 l1 a2 t457 x8_1 x9_1 (-1) t460 (t460.length:Int) 0)=some r:=H
    have A7:=Aside0.mk A70
    clear A70
    have H':=Aside0.mk H
    clear H
    go_wp2_with (first|((with_reducible refine gate_callee (f:=97) rfl ?_);refine goesL_ (some 24) rfl rfl Try.func97 (by kernel_rfl) rfl #[.slice A1 l1.length c1,.int .i64 x9_1] rfl zq2 ?_;(with_reducible refine(spec_l8Near.calls k1 _ _ l1 x9_1 t460 _ ?side1 ?side2 A7.out).mono ?_);(case side1=>repeat(first|exact(Kd.C_below HR1.out HB.out)|(with_reducible refine Kd.C_alloc ?_ _)|(with_reducible refine Kd.C_drewN ?_ _)|(with_reducible refine Kd.C_drew ?_)));(case side2=>exact HC1.out);rintro e w8 ⟨v461,rfl,ho0,hb⟩;refine⟨_,rfl,?_⟩;have n0_:=Aside0.mk (Kd.R_elder' (zq4 HO_7) (Kd.R_base ho0) hb);have n1_:=Aside0.mk (Kd.R_elder' (zq4 HO_8) (Kd.R_base ho0) hb);have n2_:=Aside0.mk (Kd.R_lower (Kd.R_new' (Kd.R_new' ho0 (Kd.R_lt (zq4 HO_7))) (Kd.R_lt (zq4 HO_8))) (below_size (zb0 HB)));have n3_:=Aside0.mk (below_step (zb0 HB) hb);clear HO_7;clear HO_8;clear HB;have HO_7:=n0_;have HO_8:=n1_;have HO462:=n2_;have HB:=n3_;clear n0_ n1_ n2_ n3_;(try clear hb);(try clear hb2);(try clear hk);(try clear hi);(try clear ho0);obtain⟨Ao9,co9,eo9⟩:=Kd.R_slice HO462.out;subst eo9))
    go_loopg [10,26] k1 (fun kq v10 v26 w'=> ∃ (x10_2:Int) (x26_2:Int),v10= .int .i64 x10_2∧v26= .int .i64 x26_2∧Aside0 (spec_l10At.l1 kq a0 l1 a2 t457 x8_1 x9_1 x10_2 t460 (t460.length:Int) x26_2=some r)∧Aside0 (kq≤k1)∧Aside0 (Kd.R (Kd.int .i64) 3 w' w.heap.size (fun k_=>some k_≠ (u8:Value).ownBlock∧some k_≠ ((.slice Ao9 t460.length co9):Value).ownBlock) v458 t457)∧Aside0 (Kd.R (Kd.int .i64) 3 w' w.heap.size (fun k_=>some k_≠ (v458:Value).ownBlock∧some k_≠ ((.slice Ao9 t460.length co9):Value).ownBlock) u8 x8_1)∧Aside0 (Kd.R (Kd.int .i64) 3 w' w.heap.size (fun k_=>some k_≠ (v458:Value).ownBlock∧some k_≠ (u8:Value).ownBlock) (.slice Ao9 t460.length co9) t460)∧Aside0 (Below w.heap.size w w'))
    case atStart=>exact⟨((-1)),(0),(by first|rfl|(simp;done)|(simp [*];done)),(by first|rfl|(simp;done)|(simp [*];done)),H',⟨Nat.le_refl _⟩,⟨by(with_reducible repeat(first|apply Kd.R_alloc|apply Kd.R_drewN|apply Kd.R_drew));exact HO_7.out⟩,⟨by(with_reducible repeat(first|apply Kd.R_alloc|apply Kd.R_drewN|apply Kd.R_drew));exact HO_8.out⟩,⟨by(with_reducible repeat(first|apply Kd.R_alloc|apply Kd.R_drewN|apply Kd.R_drew));exact Kd.R_mono HO462.out (fun _ hk=>⟨hk.1.2,hk.2⟩)⟩,⟨by repeat(first|(with_reducible first|exact HB.out|apply below_alloc|apply pw_below_drewN|apply below_drew1)|exact HB.out)⟩⟩
    case round=>
     clear H'
     try clear c1
     try clear p2
     try clear c6
     try clear c6b0
     try clear c7
     try clear c9
     try clear p2
     obtain⟨x10_2,x26_2,rfl,rfl,HA,HK2,HO_7,HO_8,HO_24,HB⟩:=hrel
     cases gk with
     |zero=>exact absurd HA.out (by simp [spec_l10At.l1])
     |succ k2=>
      have H:=HA.out
      clear HA
      simp only [spec_l10At.l1] at H
      by_cases c10:x26_2< (t460.length:Int)
      ·rw [if_pos c10] at H
       have c10b0:decide (x26_2< (t460.length:Int))=true:=decide_eq_true c10
       clear c10
       by_cases c11: 0≤x26_2
       ·rw [if_pos c11] at H
        have c11b0:decide (0≤x26_2)=true:=decide_eq_true c11
        clear c11
        by_cases c12:x26_2< (t460.length:Int)
        ·rw [if_pos c12] at H
         have c12b0:decide (x26_2< (t460.length:Int))=true:=decide_eq_true c12
         clear c12
         by_cases c13:x10_2< 0
         ·rw [if_pos c13] at H
          have c13b0:decide (x10_2< 0)=true:=decide_eq_true c13
          clear c13
          by_cases c14:x9_1=a2
          ·rw [if_pos c14] at H
           have c14b0:(x9_1==a2)=true:=beq_iff_eq.mpr c14
           have c14b1:(x9_1 !=a2)=false:=bne_eq_false_iff_eq.mpr c14
           clear c14
           have H':=Aside0.mk H
           clear H
           have p463: 0≤ (x26_2:Int):=of_decide_eq_true zq1
           have q463:x26_2< (t460.length:Int):=of_decide_eq_true zq1
           obtain⟨ad463,e463,hx463_0⟩:=Kd.at_int (Kd.R_reads' HO_24.out).2.2 x26_2 p463 q463
           cases e463
           replace p463:=eq_true p463
           replace q463:=eq_true q463
           try go_wp2
           have n0_:=Aside0.mk (Kd.R_drew HO_7.out)
           have n1_:=Aside0.mk (Kd.R_drew HO_8.out)
           have n2_:=Aside0.mk (Kd.R_drew HO_24.out)
           have n3_:=Aside0.mk (below_drew1 HB.out)
           clear HO_7
           clear HO_8
           clear HO_24
           clear HB
           have HO_7:=n0_
           have HO_8:=n1_
           have HO_24:=n2_
           have HB:=n3_
           clear n0_ n1_ n2_ n3_
           refine start_ (n:=30) (S:=fun w'=>True) (ds:= []) #[f',f',f',f',f',f',f',f',f',f',f',f',f',f',f',f',f',f',f',f',f',f',f',f',f',f',f',f',f',f'] (by kernel_rfl) rfl rfl trivial (fun hHeld=>?_);refine with_tabW spec_l10At.tab10 spec_l10At.bits10 (fun HT_ HW_=>?_)
           generalize wr.drew=w15 at HO_7 HO_8 HO_24 HB hHeld ⊢
           refine pure_ (i:=0) (N:=some 30) (v:=?_) (a':=?_) #[t',f',f',f',f',f',f',f',f',f',f',f',f',f',f',f',f',f',f',f',f',f',f',f',f',f',f',f',f',f'] rfl rfl (any_of HT_.out (by kernel_rfl)) (fun _ _ _ h=>h) (Or.inl ⟨by rfl,?_⟩) ?_ ?_
           rotate_left
           ·intro w'
            go_simp
            with_reducible rfl
           rotate_left
           ·simp only [Act.put,zq5,zq6,zq7,i64_w,i32_w]
            rfl
           refine pure_ (i:=1) (N:=some 31) (v:=?_) (a':=?_) #[t',t',f',f',f',f',f',f',f',f',f',f',f',f',f',f',f',f',f',f',f',f',f',f',f',f',f',f',f',f'] rfl rfl (any_of HT_.out (by kernel_rfl)) (fun _ _ _ h=>h) (Or.inl ⟨by rfl,?_⟩) ?_ ?_
           rotate_left
           ·intro w'
            go_simp
            with_reducible rfl
           rotate_left
           ·simp only [Act.put,zq5,zq6,zq7,i64_w,i32_w]
            rfl
           refine pure_ (i:=2) (N:=some 32) (v:=?_) (a':=?_) #[t',t',t',f',f',f',f',f',f',f',f',f',f',f',f',f',f',f',f',f',f',f',f',f',f',f',f',f',f',f'] rfl rfl (any_of HT_.out (by kernel_rfl)) (fun _ _ _ h=>h) (Or.inl ⟨by rfl,?_⟩) ?_ ?_
           rotate_left
           ·intro w'
            go_simp
            with_reducible rfl
           rotate_left
           ·simp only [Act.put,zq5,zq6,zq7,i64_w,i32_w]
            rfl
           refine pure_ (i:=3) (N:=some 33) (v:=?_) (a':=?_) #[t',t',t',t',f',f',f',f',f',f',f',f',f',f',f',f',f',f',f',f',f',f',f',f',f',f',f',f',f',f'] rfl rfl (any_of HT_.out (by kernel_rfl)) (fun _ _ _ h=>h) (Or.inl ⟨by rfl,?_⟩) ?_ ?_
           rotate_left
           ·intro w'
            go_simp
            with_reducible rfl
           rotate_left
           ·simp only [Act.put,zq5,zq6,zq7,i64_w,i32_w]
            rfl
           refine pure_ (i:=4) (N:=some 34) (v:=?_) (a':=?_) #[t',t',t',t',t',f',f',f',f',f',f',f',f',f',f',f',f',f',f',f',f',f',f',f',f',f',f',f',f',f'] rfl rfl (any_of HT_.out (by kernel_rfl)) (fun _ _ _ h=>h) (Or.inl ⟨by rfl,?_⟩) ?_ ?_
           rotate_left
           ·intro w'
            go_simp
            with_reducible rfl
           rotate_left
           ·simp only [Act.put,zq5,zq6,zq7,i64_w,i32_w]
            rfl
           refine pure_ (i:=5) (N:=some 35) (v:=?_) (a':=?_) #[t',t',t',t',t',t',f',f',f',f',f',f',f',f',f',f',f',f',f',f',f',f',f',f',f',f',f',f',f',f'] rfl rfl (any_of HT_.out (by kernel_rfl)) (fun _ _ _ h=>h) (Or.inl ⟨by rfl,?_⟩) ?_ ?_
           rotate_left
           ·intro w'
            go_simp
            with_reducible rfl
           rotate_left
           ·simp only [Act.put,zq5,zq6,zq7,i64_w,i32_w]
            rfl
           refine pure_ (i:=6) (N:=some 36) (v:=?_) (a':=?_) #[t',t',t',t',t',t',t',f',f',f',f',f',f',f',f',f',f',f',f',f',f',f',f',f',f',f',f',f',f',f'] rfl rfl (any_of HT_.out (by kernel_rfl)) (fun _ _ _ h=>h) (Or.inl ⟨by rfl,?_⟩) ?_ ?_
           rotate_left
           ·intro w'
            go_simp
            with_reducible rfl
           rotate_left
           ·simp only [Act.put,zq5,zq6,zq7,i64_w,i32_w]
            rfl
           refine pure_ (i:=7) (N:=some 37) (v:=?_) (a':=?_) #[t',t',t',t',t',t',t',t',f',f',f',f',f',f',f',f',f',f',f',f',f',f',f',f',f',f',f',f',f',f'] rfl rfl (any_of HT_.out (by kernel_rfl)) (fun _ _ _ h=>h) (Or.inl ⟨by rfl,?_⟩) ?_ ?_
           rotate_left
           ·intro w'
            go_simp
            with_reducible rfl
           rotate_left
           ·simp only [Act.put,zq5,zq6,zq7,i64_w,i32_w]
            rfl
           refine pure_ (i:=8) (N:=some 38) (v:=undef) (a':=?_) #[t',t',t',t',t',t',t',t',t',f',f',f',f',f',f',f',f',f',f',f',f',f',f',f',f',f',f',f',f',f'] rfl rfl (any_of HT_.out (by kernel_rfl)) (fun _ _ _ h=>h) (Or.inr ⟨by rfl,rfl⟩) ?_ ?_
           rotate_left
           ·simp only [Act.put,zq5,zq6,zq7,i64_w,i32_w]
            rfl
           refine pure_ (i:=9) (N:=some 39) (v:=undef) (a':=?_) #[t',t',t',t',t',t',t',t',t',t',f',f',f',f',f',f',f',f',f',f',f',f',f',f',f',f',f',f',f',f'] rfl rfl (any_of HT_.out (by kernel_rfl)) (fun _ _ _ h=>h) (Or.inr ⟨by rfl,rfl⟩) ?_ ?_
           rotate_left
           ·simp only [Act.put,zq5,zq6,zq7,i64_w,i32_w]
            rfl
           refine pure_ (i:=10) (N:=some 40) (v:=undef) (a':=?_) #[t',t',t',t',t',t',t',t',t',t',t',f',f',f',f',f',f',f',f',f',f',f',f',f',f',f',f',f',f',f'] rfl rfl (any_of HT_.out (by kernel_rfl)) (fun _ _ _ h=>h) (Or.inr ⟨by rfl,rfl⟩) ?_ ?_
           rotate_left
           ·simp only [Act.put,zq5,zq6,zq7,i64_w,i32_w]
            rfl
           refine pure_ (i:=11) (N:=some 41) (v:=undef) (a':=?_) #[t',t',t',t',t',t',t',t',t',t',t',t',f',f',f',f',f',f',f',f',f',f',f',f',f',f',f',f',f',f'] rfl rfl (any_of HT_.out (by kernel_rfl)) (fun _ _ _ h=>h) (Or.inr ⟨by rfl,rfl⟩) ?_ ?_
           rotate_left
           ·simp only [Act.put,zq5,zq6,zq7,i64_w,i32_w]
            rfl
           refine pure_ (i:=12) (N:=some 42) (v:=undef) (a':=?_) #[t',t',t',t',t',t',t',t',t',t',t',t',t',f',f',f',f',f',f',f',f',f',f',f',f',f',f',f',f',f'] rfl rfl (any_of HT_.out (by kernel_rfl)) (fun _ _ _ h=>h) (Or.inr ⟨by rfl,rfl⟩) ?_ ?_
           rotate_left
           ·simp only [Act.put,zq5,zq6,zq7,i64_w,i32_w]
            rfl
           refine pure_ (i:=13) (N:=some 43) (v:=?_) (a':=?_) #[t',t',t',t',t',t',t',t',t',t',t',t',t',t',f',f',f',f',f',f',f',f',f',f',f',f',f',f',f',f'] rfl rfl (any_of HT_.out (by kernel_rfl)) (fun _ _ _ h=>h) (Or.inl ⟨by rfl,?_⟩) ?_ ?_
           rotate_left
           ·intro w'
            go_simp
            with_reducible rfl
           rotate_left
           ·simp only [Act.put,zq5,zq6,zq7,i64_w,i32_w]
            rfl
           refine pure_ (i:=14) (N:=some 44) (v:=?_) (a':=?_) #[t',t',t',t',t',t',t',t',t',t',t',t',t',t',t',f',f',f',f',f',f',f',f',f',f',f',f',f',f',f'] rfl rfl (any_of HT_.out (by kernel_rfl)) (fun _ _ _ h=>h) (Or.inl ⟨by rfl,?_⟩) ?_ ?_
           rotate_left
           ·intro w'
            go_simp
            with_reducible rfl
           rotate_left
           ·simp only [Act.put,zq5,zq6,zq7,i64_w,i32_w]
            rfl
           refine pure_ (i:=15) (N:=some 45) (v:=undef) (a':=?_) #[t',t',t',t',t',t',t',t',t',t',t',t',t',t',t',t',f',f',f',f',f',f',f',f',f',f',f',f',f',f'] rfl rfl (any_of HT_.out (by kernel_rfl)) (fun _ _ _ h=>h) (Or.inr ⟨by rfl,rfl⟩) ?_ ?_
           rotate_left
           ·simp only [Act.put,zq5,zq6,zq7,i64_w,i32_w]
            rfl
           refine pure_ (i:=16) (N:=some 46) (v:=undef) (a':=?_) #[t',t',t',t',t',t',t',t',t',t',t',t',t',t',t',t',t',f',f',f',f',f',f',f',f',f',f',f',f',f'] rfl rfl (any_of HT_.out (by kernel_rfl)) (fun _ _ _ h=>h) (Or.inr ⟨by rfl,rfl⟩) ?_ ?_
           rotate_left
           ·simp only [Act.put,zq5,zq6,zq7,i64_w,i32_w]
            rfl
           refine pure_ (i:=17) (N:=some 47) (v:=undef) (a':=?_) #[t',t',t',t',t',t',t',t',t',t',t',t',t',t',t',t',t',t',f',f',f',f',f',f',f',f',f',f',f',f'] rfl rfl (any_of HT_.out (by kernel_rfl)) (fun _ _ _ h=>h) (Or.inr ⟨by rfl,rfl⟩) ?_ ?_
           rotate_left
           ·simp only [Act.put,zq5,zq6,zq7,i64_w,i32_w]
            rfl
           refine pure_ (i:=18) (N:=some 48) (v:=undef) (a':=?_) #[t',t',t',t',t',t',t',t',t',t',t',t',t',t',t',t',t',t',t',f',f',f',f',f',f',f',f',f',f',f'] rfl rfl (any_of HT_.out (by kernel_rfl)) (fun _ _ _ h=>h) (Or.inr ⟨by rfl,rfl⟩) ?_ ?_
           rotate_left
           ·simp only [Act.put,zq5,zq6,zq7,i64_w,i32_w]
            rfl
           refine pure_ (i:=19) (N:=some 49) (v:=undef) (a':=?_) #[t',t',t',t',t',t',t',t',t',t',t',t',t',t',t',t',t',t',t',t',f',f',f',f',f',f',f',f',f',f'] rfl rfl (any_of HT_.out (by kernel_rfl)) (fun _ _ _ h=>h) (Or.inr ⟨by rfl,rfl⟩) ?_ ?_
           rotate_left
           ·simp only [Act.put,zq5,zq6,zq7,i64_w,i32_w]
            rfl
           refine pure_ (i:=20) (N:=some 50) (v:=undef) (a':=?_) #[t',t',t',t',t',t',t',t',t',t',t',t',t',t',t',t',t',t',t',t',t',f',f',f',f',f',f',f',f',f'] rfl rfl (any_of HT_.out (by kernel_rfl)) (fun _ _ _ h=>h) (Or.inr ⟨by rfl,rfl⟩) ?_ ?_
           rotate_left
           ·simp only [Act.put,zq5,zq6,zq7,i64_w,i32_w]
            rfl
           refine pure_ (i:=21) (N:=some 51) (v:=undef) (a':=?_) #[t',t',t',t',t',t',t',t',t',t',t',t',t',t',t',t',t',t',t',t',t',t',f',f',f',f',f',f',f',f'] rfl rfl (any_of HT_.out (by kernel_rfl)) (fun _ _ _ h=>h) (Or.inr ⟨by rfl,rfl⟩) ?_ ?_
           rotate_left
           ·simp only [Act.put,zq5,zq6,zq7,i64_w,i32_w]
            rfl
           refine pure_ (i:=22) (N:=some 52) (v:=undef) (a':=?_) #[t',t',t',t',t',t',t',t',t',t',t',t',t',t',t',t',t',t',t',t',t',t',t',f',f',f',f',f',f',f'] rfl rfl (any_of HT_.out (by kernel_rfl)) (fun _ _ _ h=>h) (Or.inr ⟨by rfl,rfl⟩) ?_ ?_
           rotate_left
           ·simp only [Act.put,zq5,zq6,zq7,i64_w,i32_w]
            rfl
           refine pure_ (i:=23) (N:=some 53) (v:=undef) (a':=?_) #[t',t',t',t',t',t',t',t',t',t',t',t',t',t',t',t',t',t',t',t',t',t',t',t',f',f',f',f',f',f'] rfl rfl (any_of HT_.out (by kernel_rfl)) (fun _ _ _ h=>h) (Or.inr ⟨by rfl,rfl⟩) ?_ ?_
           rotate_left
           ·simp only [Act.put,zq5,zq6,zq7,i64_w,i32_w]
            rfl
           refine pure_ (i:=24) (N:=some 54) (v:=undef) (a':=?_) #[t',t',t',t',t',t',t',t',t',t',t',t',t',t',t',t',t',t',t',t',t',t',t',t',t',f',f',f',f',f'] rfl rfl (any_of HT_.out (by kernel_rfl)) (fun _ _ _ h=>h) (Or.inr ⟨by rfl,rfl⟩) ?_ ?_
           rotate_left
           ·simp only [Act.put,zq5,zq6,zq7,i64_w,i32_w]
            rfl
           refine pure_ (i:=25) (N:=some 55) (v:=undef) (a':=?_) #[t',t',t',t',t',t',t',t',t',t',t',t',t',t',t',t',t',t',t',t',t',t',t',t',t',t',f',f',f',f'] rfl rfl (any_of HT_.out (by kernel_rfl)) (fun _ _ _ h=>h) (Or.inr ⟨by rfl,rfl⟩) ?_ ?_
           rotate_left
           ·simp only [Act.put,zq5,zq6,zq7,i64_w,i32_w]
            rfl
           refine pure_ (i:=26) (N:=some 56) (v:=undef) (a':=?_) #[t',t',t',t',t',t',t',t',t',t',t',t',t',t',t',t',t',t',t',t',t',t',t',t',t',t',t',f',f',f'] rfl rfl (any_of HT_.out (by kernel_rfl)) (fun _ _ _ h=>h) (Or.inr ⟨by rfl,rfl⟩) ?_ ?_
           rotate_left
           ·simp only [Act.put,zq5,zq6,zq7,i64_w,i32_w]
            rfl
           refine pure_ (i:=27) (N:=some 57) (v:=undef) (a':=?_) #[t',t',t',t',t',t',t',t',t',t',t',t',t',t',t',t',t',t',t',t',t',t',t',t',t',t',t',t',f',f'] rfl rfl (any_of HT_.out (by kernel_rfl)) (fun _ _ _ h=>h) (Or.inr ⟨by rfl,rfl⟩) ?_ ?_
           rotate_left
           ·simp only [Act.put,zq5,zq6,zq7,i64_w,i32_w]
            rfl
           refine pure_ (i:=28) (N:=some 58) (v:=undef) (a':=?_) #[t',t',t',t',t',t',t',t',t',t',t',t',t',t',t',t',t',t',t',t',t',t',t',t',t',t',t',t',t',f'] rfl rfl (any_of HT_.out (by kernel_rfl)) (fun _ _ _ h=>h) (Or.inr ⟨by rfl,rfl⟩) ?_ ?_
           rotate_left
           ·simp only [Act.put,zq5,zq6,zq7,i64_w,i32_w]
            rfl
           refine pure_ (i:=29) (N:=some 59) (v:=?_) (a':=?_) #[t',t',t',t',t',t',t',t',t',t',t',t',t',t',t',t',t',t',t',t',t',t',t',t',t',t',t',t',t',t'] rfl rfl (any_of HT_.out (by kernel_rfl)) (fun _ _ _ h=>h) (Or.inl ⟨by rfl,?_⟩) ?_ ?_
           rotate_left
           ·intro w'
            go_simp
            with_reducible rfl
           rotate_left
           ·simp only [Act.put,zq5,zq6,zq7,i64_w,i32_w]
            rfl
           refine done_ (done_of HT_.out (by kernel_rfl)) ?_
           try go_wp2
           go_roundg k2
           case measure=>have:=HK1.out;have:=HK2.out;omega
           case rel=>exact⟨(x10_2),(wrap64 (x26_2+1)),(by first|rfl|(simp;done)|(simp [*];done)),(by first|rfl|(simp;done)|(simp [*];done)),H',⟨by have:=HK1.out;have:=HK2.out;omega⟩,⟨by(with_reducible repeat(first|apply Kd.R_alloc|apply Kd.R_drewN|apply Kd.R_drew));exact HO_7.out⟩,⟨by(with_reducible repeat(first|apply Kd.R_alloc|apply Kd.R_drewN|apply Kd.R_drew));exact HO_8.out⟩,⟨by(with_reducible repeat(first|apply Kd.R_alloc|apply Kd.R_drewN|apply Kd.R_drew));exact HO_24.out⟩,⟨by repeat(first|(with_reducible first|exact HB.out|apply below_alloc|apply pw_below_drewN|apply below_drew1)|exact HB.out)⟩⟩
          ·rw [if_neg c14] at H
           have c14b0:(x9_1==a2)=false:=beq_eq_false_iff_ne.mpr c14
           have c14b1:(x9_1 !=a2)=true:=bne_iff_ne.mpr c14
           by_cases c16: 0≤x9_1
           ·rw [if_pos c16] at H
            have c16b0:decide (0≤x9_1)=true:=decide_eq_true c16
            clear c16
            by_cases c17:x9_1< (t457.length:Int)
            ·rw [if_pos c17] at H
             have c17b0:decide (x9_1< (t457.length:Int))=true:=decide_eq_true c17
             clear c17
             by_cases c18:(rd t457 x9_1)< 100000
             ·rw [if_pos c18] at H
              have c18b0:decide ((rd t457 x9_1)< 100000)=true:=decide_eq_true c18
              clear c18
              by_cases c19: 0≤ (rd t460 x26_2)
              ·rw [if_pos c19] at H
               have c19b0:decide (0≤ (rd t460 x26_2))=true:=decide_eq_true c19
               clear c19
               by_cases c20:(rd t460 x26_2)< (t457.length:Int)
               ·rw [if_pos c20] at H
                have c20b0:decide ((rd t460 x26_2)< (t457.length:Int))=true:=decide_eq_true c20
                clear c20
                replace H:=Option.bind_eq_some_iff.mp H
                obtain⟨t466,A210,H⟩:=H
                replace H:(if (wrap64 ((rd t457 (rd t460 x26_2))+t466))= (rd t457 x9_1) then(spec_l10At.l1 k2 a0 l1 a2 t457 x8_1 x9_1 (rd t460 x26_2) t460 (t460.length:Int) (wrap64 (x26_2+1))) else(spec_l10At.l1 k2 a0 l1 a2 t457 x8_1 x9_1 x10_2 t460 (t460.length:Int) (wrap64 (x26_2+1))))=some r:=H
                have A21:=Aside0.mk A210
                clear A210
                by_cases c22:(wrap64 ((rd t457 (rd t460 x26_2))+t466))= (rd t457 x9_1)
                ·rw [if_pos c22] at H
                 have c22b0:((wrap64 ((rd t457 (rd t460 x26_2))+t466))== (rd t457 x9_1))=true:=beq_iff_eq.mpr c22
                 have c22b1:((wrap64 ((rd t457 (rd t460 x26_2))+t466)) != (rd t457 x9_1))=false:=bne_eq_false_iff_eq.mpr c22
                 clear c22
                 have H':=Aside0.mk H
                 clear H
                 have p463: 0≤ (x26_2:Int):=of_decide_eq_true zq1
                 have q463:x26_2< (t460.length:Int):=of_decide_eq_true zq1
                 obtain⟨ad463,e463,hx463_0⟩:=Kd.at_int (Kd.R_reads' HO_24.out).2.2 x26_2 p463 q463
                 cases e463
                 replace p463:=eq_true p463
                 replace q463:=eq_true q463
                 try go_wp2
                 have n0_:=Aside0.mk (Kd.R_drew HO_7.out)
                 have n1_:=Aside0.mk (Kd.R_drew HO_8.out)
                 have n2_:=Aside0.mk (Kd.R_drew HO_24.out)
                 have n3_:=Aside0.mk (below_drew1 HB.out)
                 clear HO_7
                 clear HO_8
                 clear HO_24
                 clear HB
                 have HO_7:=n0_
                 have HO_8:=n1_
                 have HO_24:=n2_
                 have HB:=n3_
                 clear n0_ n1_ n2_ n3_
                 obtain⟨Ao24,co24,eo24⟩:=Kd.R_slice HO_7.out
                 (first|subst eo24|(injection eo24 with f1_ f2_ f3_;have f4_:=f1_.symm;have f5_:=f3_.symm;clear f1_ f2_ f3_;subst f4_;subst f5_))
                 have p464: 0≤ (x9_1:Int):=of_decide_eq_true zq1
                 have q464:x9_1< (t457.length:Int):=of_decide_eq_true zq1
                 obtain⟨ad464,e464,hx464_0⟩:=Kd.at_int (Kd.R_reads' HO_7.out).2.2 x9_1 p464 q464
                 cases e464
                 replace p464:=eq_true p464
                 replace q464:=eq_true q464
                 have p465: 0≤ ((rd t460 x26_2):Int):=of_decide_eq_true zq1
                 have q465:(rd t460 x26_2)< (t457.length:Int):=of_decide_eq_true zq1
                 obtain⟨ad465,e465,hx465_0⟩:=Kd.at_int (Kd.R_reads' HO_7.out).2.2 (rd t460 x26_2) p465 q465
                 obtain rfl:ad464=ad465:=(by injection e465)
                 replace p465:=eq_true p465
                 replace q465:=eq_true q465
                 have p467: 0≤ (x9_1:Int):=of_decide_eq_true zq1
                 have q467:x9_1< (t457.length:Int):=of_decide_eq_true zq1
                 obtain⟨ad467,e467,hx467_0⟩:=Kd.at_int (Kd.R_reads' HO_7.out).2.2 x9_1 p467 q467
                 obtain rfl:ad464=ad467:=(by injection e467)
                 replace p467:=eq_true p467
                 replace q467:=eq_true q467
                 refine start_ (n:=30) (S:=fun w'=>w'.cell? (ad464.add (x9_1).toNat)=some (.int .i64 (rd t457 x9_1))∧w'.cell? (ad464.add ((rd t460 x26_2)).toNat)=some (.int .i64 (rd t457 (rd t460 x26_2)))∧w'.cell? (ad464.add (x9_1).toNat)=some (.int .i64 (rd t457 x9_1))) (ds:= []) #[f',f',f',f',f',f',f',f',f',f',f',f',f',f',f',f',f',f',f',f',f',f',f',f',f',f',f',f',f',f'] (by kernel_rfl) rfl rfl ⟨hx464_0,hx465_0,hx467_0⟩ (fun hHeld=>?_);refine with_tabW spec_l10At.tab10 spec_l10At.bits10 (fun HT_ HW_=>?_)
                 generalize wr.drew=w23 at HO_7 HO_8 HO_24 HB hx464_0 hx465_0 hx467_0 hHeld ⊢
                 refine pure_ (i:=0) (N:=some 30) (v:=?_) (a':=?_) #[t',f',f',f',f',f',f',f',f',f',f',f',f',f',f',f',f',f',f',f',f',f',f',f',f',f',f',f',f',f'] rfl rfl (any_of HT_.out (by kernel_rfl)) (fun _ _ _ h=>h) (Or.inl ⟨by rfl,?_⟩) ?_ ?_
                 rotate_left
                 ·intro w'
                  go_simp
                  with_reducible rfl
                 rotate_left
                 ·simp only [Act.put,zq5,zq6,zq7,i64_w,i32_w]
                  rfl
                 refine pure_ (i:=1) (N:=some 31) (v:=?_) (a':=?_) #[t',t',f',f',f',f',f',f',f',f',f',f',f',f',f',f',f',f',f',f',f',f',f',f',f',f',f',f',f',f'] rfl rfl (any_of HT_.out (by kernel_rfl)) (fun _ _ _ h=>h) (Or.inl ⟨by rfl,?_⟩) ?_ ?_
                 rotate_left
                 ·intro w'
                  go_simp
                  with_reducible rfl
                 rotate_left
                 ·simp only [Act.put,zq5,zq6,zq7,i64_w,i32_w]
                  rfl
                 refine pure_ (i:=2) (N:=some 32) (v:=?_) (a':=?_) #[t',t',t',f',f',f',f',f',f',f',f',f',f',f',f',f',f',f',f',f',f',f',f',f',f',f',f',f',f',f'] rfl rfl (any_of HT_.out (by kernel_rfl)) (fun _ _ _ h=>h) (Or.inl ⟨by rfl,?_⟩) ?_ ?_
                 rotate_left
                 ·intro w'
                  go_simp
                  with_reducible rfl
                 rotate_left
                 ·simp only [Act.put,zq5,zq6,zq7,i64_w,i32_w]
                  rfl
                 refine pure_ (i:=3) (N:=some 33) (v:=?_) (a':=?_) #[t',t',t',t',f',f',f',f',f',f',f',f',f',f',f',f',f',f',f',f',f',f',f',f',f',f',f',f',f',f'] rfl rfl (any_of HT_.out (by kernel_rfl)) (fun _ _ _ h=>h) (Or.inl ⟨by rfl,?_⟩) ?_ ?_
                 rotate_left
                 ·intro w'
                  go_simp
                  with_reducible rfl
                 rotate_left
                 ·simp only [Act.put,zq5,zq6,zq7,i64_w,i32_w]
                  rfl
                 refine pure_ (i:=4) (N:=some 34) (v:=?_) (a':=?_) #[t',t',t',t',t',f',f',f',f',f',f',f',f',f',f',f',f',f',f',f',f',f',f',f',f',f',f',f',f',f'] rfl rfl (any_of HT_.out (by kernel_rfl)) (fun _ _ _ h=>h) (Or.inl ⟨by rfl,?_⟩) ?_ ?_
                 rotate_left
                 ·intro w'
                  go_simp
                  with_reducible rfl
                 rotate_left
                 ·simp only [Act.put,zq5,zq6,zq7,i64_w,i32_w]
                  rfl
                 refine pure_ (i:=5) (N:=some 35) (v:=?_) (a':=?_) #[t',t',t',t',t',t',f',f',f',f',f',f',f',f',f',f',f',f',f',f',f',f',f',f',f',f',f',f',f',f'] rfl rfl (any_of HT_.out (by kernel_rfl)) (fun _ _ _ h=>h) (Or.inl ⟨by rfl,?_⟩) ?_ ?_
                 rotate_left
                 ·intro w'
                  go_simp
                  with_reducible rfl
                 rotate_left
                 ·simp only [Act.put,zq5,zq6,zq7,i64_w,i32_w]
                  rfl
                 refine pure_ (i:=6) (N:=some 36) (v:=?_) (a':=?_) #[t',t',t',t',t',t',t',f',f',f',f',f',f',f',f',f',f',f',f',f',f',f',f',f',f',f',f',f',f',f'] rfl rfl (any_of HT_.out (by kernel_rfl)) (fun _ _ _ h=>h) (Or.inl ⟨by rfl,?_⟩) ?_ ?_
                 rotate_left
                 ·intro w'
                  go_simp
                  with_reducible rfl
                 rotate_left
                 ·simp only [Act.put,zq5,zq6,zq7,i64_w,i32_w]
                  rfl
                 refine pure_ (i:=7) (N:=some 37) (v:=?_) (a':=?_) #[t',t',t',t',t',t',t',t',f',f',f',f',f',f',f',f',f',f',f',f',f',f',f',f',f',f',f',f',f',f'] rfl rfl (any_of HT_.out (by kernel_rfl)) (fun _ _ _ h=>h) (Or.inl ⟨by rfl,?_⟩) ?_ ?_
                 rotate_left
                 ·intro w'
                  go_simp
                  with_reducible rfl
                 rotate_left
                 ·simp only [Act.put,zq5,zq6,zq7,i64_w,i32_w]
                  rfl
                 refine pure_ (i:=8) (N:=some 38) (v:=?_) (a':=?_) #[t',t',t',t',t',t',t',t',t',f',f',f',f',f',f',f',f',f',f',f',f',f',f',f',f',f',f',f',f',f'] rfl rfl (any_of HT_.out (by kernel_rfl)) (fun _ _ _ h=>h) (Or.inl ⟨by rfl,?_⟩) ?_ ?_
                 rotate_left
                 ·intro w'
                  go_simp
                  with_reducible rfl
                 rotate_left
                 ·simp only [Act.put,zq5,zq6,zq7,i64_w,i32_w]
                  rfl
                 refine pure_ (i:=9) (N:=some 39) (v:=?_) (a':=?_) #[t',t',t',t',t',t',t',t',t',t',f',f',f',f',f',f',f',f',f',f',f',f',f',f',f',f',f',f',f',f'] rfl rfl (any_of HT_.out (by kernel_rfl)) (fun _ _ _ h=>h) (Or.inl ⟨by rfl,?_⟩) ?_ ?_
                 rotate_left
                 ·intro w'
                  go_simp
                  with_reducible rfl
                 rotate_left
                 ·simp only [Act.put,zq5,zq6,zq7,i64_w,i32_w]
                  rfl
                 refine pure_ (i:=10) (N:=some 40) (v:=?_) (a':=?_) #[t',t',t',t',t',t',t',t',t',t',t',f',f',f',f',f',f',f',f',f',f',f',f',f',f',f',f',f',f',f'] rfl rfl (any_of HT_.out (by kernel_rfl)) (fun _ _ _ h=>h) (Or.inl ⟨by rfl,?_⟩) ?_ ?_
                 rotate_left
                 ·intro w'
                  go_simp
                  with_reducible rfl
                 rotate_left
                 ·simp only [Act.put,zq5,zq6,zq7,i64_w,i32_w]
                  rfl
                 refine take_ (i:=11) (N:=some 41) (v:=?_) (a':=?_) #[t',t',t',t',t',t',t',t',t',t',t',t',f',f',f',f',f',f',f',f',f',f',f',f',f',f',f',f',f',f'] rfl rfl (take_ofW HT_.out HW_.out (by kernel_rfl)) (fun _ _ _ h=>h) (Or.inl ⟨by rfl,?_⟩) hHeld ?_ ?_
                 rotate_left
                 ·rintro w' ⟨s0,s1,s2⟩
                  go_simp
                  with_reducible rfl
                 rotate_left
                 ·simp only [Act.put,zq5,zq6,zq7,i64_w,i32_w]
                  rfl
                 refine pure_ (i:=12) (N:=some 42) (v:=?_) (a':=?_) #[t',t',t',t',t',t',t',t',t',t',t',t',t',f',f',f',f',f',f',f',f',f',f',f',f',f',f',f',f',f'] rfl rfl (any_of HT_.out (by kernel_rfl)) (fun _ _ _ h=>h) (Or.inl ⟨by rfl,?_⟩) ?_ ?_
                 rotate_left
                 ·intro w'
                  go_simp
                  with_reducible rfl
                 rotate_left
                 ·simp only [Act.put,zq5,zq6,zq7,i64_w,i32_w]
                  rfl
                 refine pure_ (i:=13) (N:=some 43) (v:=?_) (a':=?_) #[t',t',t',t',t',t',t',t',t',t',t',t',t',t',f',f',f',f',f',f',f',f',f',f',f',f',f',f',f',f'] rfl rfl (any_of HT_.out (by kernel_rfl)) (fun _ _ _ h=>h) (Or.inl ⟨by rfl,?_⟩) ?_ ?_
                 rotate_left
                 ·intro w'
                  go_simp
                  with_reducible rfl
                 rotate_left
                 ·simp only [Act.put,zq5,zq6,zq7,i64_w,i32_w]
                  rfl
                 refine pure_ (i:=14) (N:=some 44) (v:=?_) (a':=?_) #[t',t',t',t',t',t',t',t',t',t',t',t',t',t',t',f',f',f',f',f',f',f',f',f',f',f',f',f',f',f'] rfl rfl (any_of HT_.out (by kernel_rfl)) (fun _ _ _ h=>h) (Or.inl ⟨by rfl,?_⟩) ?_ ?_
                 rotate_left
                 ·intro w'
                  go_simp
                  with_reducible rfl
                 rotate_left
                 ·simp only [Act.put,zq5,zq6,zq7,i64_w,i32_w]
                  rfl
                 refine pure_ (i:=15) (N:=some 45) (v:=?_) (a':=?_) #[t',t',t',t',t',t',t',t',t',t',t',t',t',t',t',t',f',f',f',f',f',f',f',f',f',f',f',f',f',f'] rfl rfl (any_of HT_.out (by kernel_rfl)) (fun _ _ _ h=>h) (Or.inl ⟨by rfl,?_⟩) ?_ ?_
                 rotate_left
                 ·intro w'
                  go_simp
                  with_reducible rfl
                 rotate_left
                 ·simp only [Act.put,zq5,zq6,zq7,i64_w,i32_w]
                  rfl
                 refine pure_ (i:=16) (N:=some 46) (v:=?_) (a':=?_) #[t',t',t',t',t',t',t',t',t',t',t',t',t',t',t',t',t',f',f',f',f',f',f',f',f',f',f',f',f',f'] rfl rfl (any_of HT_.out (by kernel_rfl)) (fun _ _ _ h=>h) (Or.inl ⟨by rfl,?_⟩) ?_ ?_
                 rotate_left
                 ·intro w'
                  go_simp
                  with_reducible rfl
                 rotate_left
                 ·simp only [Act.put,zq5,zq6,zq7,i64_w,i32_w]
                  rfl
                 refine pure_ (i:=17) (N:=some 47) (v:=?_) (a':=?_) #[t',t',t',t',t',t',t',t',t',t',t',t',t',t',t',t',t',t',f',f',f',f',f',f',f',f',f',f',f',f'] rfl rfl (any_of HT_.out (by kernel_rfl)) (fun _ _ _ h=>h) (Or.inl ⟨by rfl,?_⟩) ?_ ?_
                 rotate_left
                 ·intro w'
                  go_simp
                  with_reducible rfl
                 rotate_left
                 ·simp only [Act.put,zq5,zq6,zq7,i64_w,i32_w]
                  rfl
                 refine pure_ (i:=19) (N:=some 49) (v:=?_) (a':=?_) #[t',t',t',t',t',t',t',t',t',t',t',t',t',t',t',t',t',t',f',t',f',f',f',f',f',f',f',f',f',f'] rfl rfl (any_of HT_.out (by kernel_rfl)) (fun _ _ _ h=>h) (Or.inl ⟨by rfl,?_⟩) ?_ ?_
                 rotate_left
                 ·intro w'
                  go_simp
                  with_reducible rfl
                 rotate_left
                 ·simp only [Act.put,zq5,zq6,zq7,i64_w,i32_w]
                  rfl
                 refine pure_ (i:=20) (N:=some 50) (v:=?_) (a':=?_) #[t',t',t',t',t',t',t',t',t',t',t',t',t',t',t',t',t',t',f',t',t',f',f',f',f',f',f',f',f',f'] rfl rfl (any_of HT_.out (by kernel_rfl)) (fun _ _ _ h=>h) (Or.inl ⟨by rfl,?_⟩) ?_ ?_
                 rotate_left
                 ·intro w'
                  go_simp
                  with_reducible rfl
                 rotate_left
                 ·simp only [Act.put,zq5,zq6,zq7,i64_w,i32_w]
                  rfl
                 refine pure_ (i:=21) (N:=some 51) (v:=?_) (a':=?_) #[t',t',t',t',t',t',t',t',t',t',t',t',t',t',t',t',t',t',f',t',t',t',f',f',f',f',f',f',f',f'] rfl rfl (any_of HT_.out (by kernel_rfl)) (fun _ _ _ h=>h) (Or.inl ⟨by rfl,?_⟩) ?_ ?_
                 rotate_left
                 ·intro w'
                  go_simp
                  with_reducible rfl
                 rotate_left
                 ·simp only [Act.put,zq5,zq6,zq7,i64_w,i32_w]
                  rfl
                 refine pure_ (i:=24) (N:=some 54) (v:=?_) (a':=?_) #[t',t',t',t',t',t',t',t',t',t',t',t',t',t',t',t',t',t',f',t',t',t',f',f',t',f',f',f',f',f'] rfl rfl (any_of HT_.out (by kernel_rfl)) (fun _ _ _ h=>h) (Or.inl ⟨by rfl,?_⟩) ?_ ?_
                 rotate_left
                 ·intro w'
                  go_simp
                  with_reducible rfl
                 rotate_left
                 ·simp only [Act.put,zq5,zq6,zq7,i64_w,i32_w]
                  rfl
                 refine pure_ (i:=25) (N:=some 55) (v:=?_) (a':=?_) #[t',t',t',t',t',t',t',t',t',t',t',t',t',t',t',t',t',t',f',t',t',t',f',f',t',t',f',f',f',f'] rfl rfl (any_of HT_.out (by kernel_rfl)) (fun _ _ _ h=>h) (Or.inl ⟨by rfl,?_⟩) ?_ ?_
                 rotate_left
                 ·intro w'
                  go_simp
                  with_reducible rfl
                 rotate_left
                 ·simp only [Act.put,zq5,zq6,zq7,i64_w,i32_w]
                  rfl
                 refine pure_ (i:=26) (N:=some 56) (v:=?_) (a':=?_) #[t',t',t',t',t',t',t',t',t',t',t',t',t',t',t',t',t',t',f',t',t',t',f',f',t',t',t',f',f',f'] rfl rfl (any_of HT_.out (by kernel_rfl)) (fun _ _ _ h=>h) (Or.inl ⟨by rfl,?_⟩) ?_ ?_
                 rotate_left
                 ·intro w'
                  go_simp
                  with_reducible rfl
                 rotate_left
                 ·simp only [Act.put,zq5,zq6,zq7,i64_w,i32_w]
                  rfl
                 refine take_ (i:=18) (N:=some 48) (v:=?_) (a':=?_) #[t',t',t',t',t',t',t',t',t',t',t',t',t',t',t',t',t',t',t',t',t',t',f',f',t',t',t',f',f',f'] rfl rfl (take_ofW HT_.out HW_.out (by kernel_rfl)) (fun _ _ _ h=>h) (Or.inl ⟨by rfl,?_⟩) hHeld ?_ ?_
                 rotate_left
                 ·rintro w' ⟨s0,s1,s2⟩
                  go_simp
                  with_reducible rfl
                 rotate_left
                 ·simp only [Act.put,zq5,zq6,zq7,i64_w,i32_w]
                  rfl
                 refine take_ (i:=27) (N:=some 57) (v:=?_) (a':=?_) #[t',t',t',t',t',t',t',t',t',t',t',t',t',t',t',t',t',t',t',t',t',t',f',f',t',t',t',t',f',f'] rfl rfl (take_ofW HT_.out HW_.out (by kernel_rfl)) (fun _ _ _ h=>h) (Or.inl ⟨by rfl,?_⟩) hHeld ?_ ?_
                 rotate_left
                 ·rintro w' ⟨s0,s1,s2⟩
                  go_simp
                  with_reducible rfl
                 rotate_left
                 ·simp only [Act.put,zq5,zq6,zq7,i64_w,i32_w]
                  rfl
                 refine one_ (i:=22) (N:=some 52) #[t',t',t',t',t',t',t',t',t',t',t',t',t',t',t',t',t',t',t',t',t',t',t',f',t',t',t',t',f',f'] rfl rfl (one_of HT_.out (by kernel_rfl)) (by decide) (fun K hK=>?_)
                 refine goes_ Try.func67 (by kernel_rfl) rfl #[.slice A1 l1.length c1,.int .i64 (rd t460 x26_2),.int .i64 x9_1] (by rfl) rfl rfl zq2 ?_
                 with_reducible refine(spec_l9Edge.calls k2 _ _ l1 (rd t460 x26_2) x9_1 t466 _ ?side1 ?side2 A21.out).mono ?_
                 (case side1=>repeat(first|exact(Kd.C_below HR1.out HB.out)|(with_reducible refine Kd.C_alloc ?_ _)|(with_reducible refine Kd.C_drewN ?_ _)|(with_reducible refine Kd.C_drew ?_)))
                 (case side2=>exact HC1.out)
                 rintro e w25 ⟨rfl,hb⟩
                 have HS0_:=(hb.cell (World.block_lt_of_cell? _ _ (hHeld.1))).trans (hHeld.1)
                 have HS1_:=(hb.cell (World.block_lt_of_cell? _ _ (hHeld.2.1))).trans (hHeld.2.1)
                 have HS2_:=(hb.cell (World.block_lt_of_cell? _ _ (hHeld.2.2))).trans (hHeld.2.2)
                 refine⟨_,rfl,?_⟩
                 have n0_:=Aside0.mk (Kd.R_below (zq4 HO_7) hb)
                 have n1_:=Aside0.mk (Kd.R_below (zq4 HO_8) hb)
                 have n2_:=Aside0.mk (Kd.R_below (zq4 HO_24) hb)
                 have n3_:=Aside0.mk (below_step (zb0 HB) hb)
                 clear HO_7
                 clear HO_8
                 clear HO_24
                 clear HB
                 have HO_7:=n0_
                 have HO_8:=n1_
                 have HO_24:=n2_
                 have HB:=n3_
                 clear n0_ n1_ n2_ n3_
                 (try clear hb)
                 (try clear hb2)
                 (try clear hk)
                 (try clear hi)
                 refine hK.out _ _ ⟨HS0_,HS1_,HS2_⟩ (fun hHeld=>?_)
                 clear hK K
                 refine norm_ (a':=?_) ?_ ?_
                 rotate_left
                 ·show Act.put _ (some 52) _=_
                  simp only [Act.put,zq5,zq6,zq7,i64_w,i32_w]
                  rfl
                 refine pure_ (i:=23) (N:=some 53) (v:=?_) (a':=?_) #[t',t',t',t',t',t',t',t',t',t',t',t',t',t',t',t',t',t',t',t',t',t',t',t',t',t',t',t',f',f'] rfl rfl (any_of HT_.out (by kernel_rfl)) (fun _ _ _ h=>h) (Or.inl ⟨by rfl,?_⟩) ?_ ?_
                 rotate_left
                 ·intro w'
                  go_simp
                  with_reducible rfl
                 rotate_left
                 ·simp only [Act.put,zq5,zq6,zq7,i64_w,i32_w]
                  rfl
                 refine pure_ (i:=28) (N:=some 58) (v:=?_) (a':=?_) #[t',t',t',t',t',t',t',t',t',t',t',t',t',t',t',t',t',t',t',t',t',t',t',t',t',t',t',t',t',f'] rfl rfl (any_of HT_.out (by kernel_rfl)) (fun _ _ _ h=>h) (Or.inl ⟨by rfl,?_⟩) ?_ ?_
                 rotate_left
                 ·intro w'
                  go_simp
                  with_reducible rfl
                 rotate_left
                 ·simp only [Act.put,zq5,zq6,zq7,i64_w,i32_w]
                  rfl
                 refine pure_ (i:=29) (N:=some 59) (v:=?_) (a':=?_) #[t',t',t',t',t',t',t',t',t',t',t',t',t',t',t',t',t',t',t',t',t',t',t',t',t',t',t',t',t',t'] rfl rfl (any_of HT_.out (by kernel_rfl)) (fun _ _ _ h=>h) (Or.inl ⟨by rfl,?_⟩) ?_ ?_
                 rotate_left
                 ·intro w'
                  go_simp
                  with_reducible rfl
                 rotate_left
                 ·simp only [Act.put,zq5,zq6,zq7,i64_w,i32_w]
                  rfl
                 refine done_ (done_of HT_.out (by kernel_rfl)) ?_
                 try go_wp2
                 go_roundg k2
                 case measure=>have:=HK1.out;have:=HK2.out;omega
                 case rel=>exact⟨(rd t460 x26_2),(wrap64 (x26_2+1)),(by first|rfl|(simp;done)|(simp [*];done)),(by first|rfl|(simp;done)|(simp [*];done)),H',⟨by have:=HK1.out;have:=HK2.out;omega⟩,⟨by(with_reducible repeat(first|apply Kd.R_alloc|apply Kd.R_drewN|apply Kd.R_drew));exact HO_7.out⟩,⟨by(with_reducible repeat(first|apply Kd.R_alloc|apply Kd.R_drewN|apply Kd.R_drew));exact HO_8.out⟩,⟨by(with_reducible repeat(first|apply Kd.R_alloc|apply Kd.R_drewN|apply Kd.R_drew));exact HO_24.out⟩,⟨by repeat(first|(with_reducible first|exact HB.out|apply below_alloc|apply pw_below_drewN|apply below_drew1)|exact HB.out)⟩⟩
                ·rw [if_neg c22] at H
                 have c22b0:((wrap64 ((rd t457 (rd t460 x26_2))+t466))== (rd t457 x9_1))=false:=beq_eq_false_iff_ne.mpr c22
                 have c22b1:((wrap64 ((rd t457 (rd t460 x26_2))+t466)) != (rd t457 x9_1))=true:=bne_iff_ne.mpr c22
                 have H':=Aside0.mk H
                 clear H
                 have p463: 0≤ (x26_2:Int):=of_decide_eq_true zq1
                 have q463:x26_2< (t460.length:Int):=of_decide_eq_true zq1
                 obtain⟨ad463,e463,hx463_0⟩:=Kd.at_int (Kd.R_reads' HO_24.out).2.2 x26_2 p463 q463
                 cases e463
                 replace p463:=eq_true p463
                 replace q463:=eq_true q463
                 try go_wp2
                 have n0_:=Aside0.mk (Kd.R_drew HO_7.out)
                 have n1_:=Aside0.mk (Kd.R_drew HO_8.out)
                 have n2_:=Aside0.mk (Kd.R_drew HO_24.out)
                 have n3_:=Aside0.mk (below_drew1 HB.out)
                 clear HO_7
                 clear HO_8
                 clear HO_24
                 clear HB
                 have HO_7:=n0_
                 have HO_8:=n1_
                 have HO_24:=n2_
                 have HB:=n3_
                 clear n0_ n1_ n2_ n3_
                 obtain⟨Ao27,co27,eo27⟩:=Kd.R_slice HO_7.out
                 (first|subst eo27|(injection eo27 with f1_ f2_ f3_;have f4_:=f1_.symm;have f5_:=f3_.symm;clear f1_ f2_ f3_;subst f4_;subst f5_))
                 have p464: 0≤ (x9_1:Int):=of_decide_eq_true zq1
                 have q464:x9_1< (t457.length:Int):=of_decide_eq_true zq1
                 obtain⟨ad464,e464,hx464_0⟩:=Kd.at_int (Kd.R_reads' HO_7.out).2.2 x9_1 p464 q464
                 cases e464
                 replace p464:=eq_true p464
                 replace q464:=eq_true q464
                 have p465: 0≤ ((rd t460 x26_2):Int):=of_decide_eq_true zq1
                 have q465:(rd t460 x26_2)< (t457.length:Int):=of_decide_eq_true zq1
                 obtain⟨ad465,e465,hx465_0⟩:=Kd.at_int (Kd.R_reads' HO_7.out).2.2 (rd t460 x26_2) p465 q465
                 obtain rfl:ad464=ad465:=(by injection e465)
                 replace p465:=eq_true p465
                 replace q465:=eq_true q465
                 have p467: 0≤ (x9_1:Int):=of_decide_eq_true zq1
                 have q467:x9_1< (t457.length:Int):=of_decide_eq_true zq1
                 obtain⟨ad467,e467,hx467_0⟩:=Kd.at_int (Kd.R_reads' HO_7.out).2.2 x9_1 p467 q467
                 obtain rfl:ad464=ad467:=(by injection e467)
                 replace p467:=eq_true p467
                 replace q467:=eq_true q467
                 refine start_ (n:=30) (S:=fun w'=>w'.cell? (ad464.add (x9_1).toNat)=some (.int .i64 (rd t457 x9_1))∧w'.cell? (ad464.add ((rd t460 x26_2)).toNat)=some (.int .i64 (rd t457 (rd t460 x26_2)))∧w'.cell? (ad464.add (x9_1).toNat)=some (.int .i64 (rd t457 x9_1))) (ds:= []) #[f',f',f',f',f',f',f',f',f',f',f',f',f',f',f',f',f',f',f',f',f',f',f',f',f',f',f',f',f',f'] (by kernel_rfl) rfl rfl ⟨hx464_0,hx465_0,hx467_0⟩ (fun hHeld=>?_);refine with_tabW spec_l10At.tab10 spec_l10At.bits10 (fun HT_ HW_=>?_)
                 generalize wr.drew=w26 at HO_7 HO_8 HO_24 HB hx464_0 hx465_0 hx467_0 hHeld ⊢
                 refine pure_ (i:=0) (N:=some 30) (v:=?_) (a':=?_) #[t',f',f',f',f',f',f',f',f',f',f',f',f',f',f',f',f',f',f',f',f',f',f',f',f',f',f',f',f',f'] rfl rfl (any_of HT_.out (by kernel_rfl)) (fun _ _ _ h=>h) (Or.inl ⟨by rfl,?_⟩) ?_ ?_
                 rotate_left
                 ·intro w'
                  go_simp
                  with_reducible rfl
                 rotate_left
                 ·simp only [Act.put,zq5,zq6,zq7,i64_w,i32_w]
                  rfl
                 refine pure_ (i:=1) (N:=some 31) (v:=?_) (a':=?_) #[t',t',f',f',f',f',f',f',f',f',f',f',f',f',f',f',f',f',f',f',f',f',f',f',f',f',f',f',f',f'] rfl rfl (any_of HT_.out (by kernel_rfl)) (fun _ _ _ h=>h) (Or.inl ⟨by rfl,?_⟩) ?_ ?_
                 rotate_left
                 ·intro w'
                  go_simp
                  with_reducible rfl
                 rotate_left
                 ·simp only [Act.put,zq5,zq6,zq7,i64_w,i32_w]
                  rfl
                 refine pure_ (i:=2) (N:=some 32) (v:=?_) (a':=?_) #[t',t',t',f',f',f',f',f',f',f',f',f',f',f',f',f',f',f',f',f',f',f',f',f',f',f',f',f',f',f'] rfl rfl (any_of HT_.out (by kernel_rfl)) (fun _ _ _ h=>h) (Or.inl ⟨by rfl,?_⟩) ?_ ?_
                 rotate_left
                 ·intro w'
                  go_simp
                  with_reducible rfl
                 rotate_left
                 ·simp only [Act.put,zq5,zq6,zq7,i64_w,i32_w]
                  rfl
                 refine pure_ (i:=3) (N:=some 33) (v:=?_) (a':=?_) #[t',t',t',t',f',f',f',f',f',f',f',f',f',f',f',f',f',f',f',f',f',f',f',f',f',f',f',f',f',f'] rfl rfl (any_of HT_.out (by kernel_rfl)) (fun _ _ _ h=>h) (Or.inl ⟨by rfl,?_⟩) ?_ ?_
                 rotate_left
                 ·intro w'
                  go_simp
                  with_reducible rfl
                 rotate_left
                 ·simp only [Act.put,zq5,zq6,zq7,i64_w,i32_w]
                  rfl
                 refine pure_ (i:=4) (N:=some 34) (v:=?_) (a':=?_) #[t',t',t',t',t',f',f',f',f',f',f',f',f',f',f',f',f',f',f',f',f',f',f',f',f',f',f',f',f',f'] rfl rfl (any_of HT_.out (by kernel_rfl)) (fun _ _ _ h=>h) (Or.inl ⟨by rfl,?_⟩) ?_ ?_
                 rotate_left
                 ·intro w'
                  go_simp
                  with_reducible rfl
                 rotate_left
                 ·simp only [Act.put,zq5,zq6,zq7,i64_w,i32_w]
                  rfl
                 refine pure_ (i:=5) (N:=some 35) (v:=?_) (a':=?_) #[t',t',t',t',t',t',f',f',f',f',f',f',f',f',f',f',f',f',f',f',f',f',f',f',f',f',f',f',f',f'] rfl rfl (any_of HT_.out (by kernel_rfl)) (fun _ _ _ h=>h) (Or.inl ⟨by rfl,?_⟩) ?_ ?_
                 rotate_left
                 ·intro w'
                  go_simp
                  with_reducible rfl
                 rotate_left
                 ·simp only [Act.put,zq5,zq6,zq7,i64_w,i32_w]
                  rfl
                 refine pure_ (i:=6) (N:=some 36) (v:=?_) (a':=?_) #[t',t',t',t',t',t',t',f',f',f',f',f',f',f',f',f',f',f',f',f',f',f',f',f',f',f',f',f',f',f'] rfl rfl (any_of HT_.out (by kernel_rfl)) (fun _ _ _ h=>h) (Or.inl ⟨by rfl,?_⟩) ?_ ?_
                 rotate_left
                 ·intro w'
                  go_simp
                  with_reducible rfl
                 rotate_left
                 ·simp only [Act.put,zq5,zq6,zq7,i64_w,i32_w]
                  rfl
                 refine pure_ (i:=7) (N:=some 37) (v:=?_) (a':=?_) #[t',t',t',t',t',t',t',t',f',f',f',f',f',f',f',f',f',f',f',f',f',f',f',f',f',f',f',f',f',f'] rfl rfl (any_of HT_.out (by kernel_rfl)) (fun _ _ _ h=>h) (Or.inl ⟨by rfl,?_⟩) ?_ ?_
                 rotate_left
                 ·intro w'
                  go_simp
                  with_reducible rfl
                 rotate_left
                 ·simp only [Act.put,zq5,zq6,zq7,i64_w,i32_w]
                  rfl
                 refine pure_ (i:=8) (N:=some 38) (v:=?_) (a':=?_) #[t',t',t',t',t',t',t',t',t',f',f',f',f',f',f',f',f',f',f',f',f',f',f',f',f',f',f',f',f',f'] rfl rfl (any_of HT_.out (by kernel_rfl)) (fun _ _ _ h=>h) (Or.inl ⟨by rfl,?_⟩) ?_ ?_
                 rotate_left
                 ·intro w'
                  go_simp
                  with_reducible rfl
                 rotate_left
                 ·simp only [Act.put,zq5,zq6,zq7,i64_w,i32_w]
                  rfl
                 refine pure_ (i:=9) (N:=some 39) (v:=?_) (a':=?_) #[t',t',t',t',t',t',t',t',t',t',f',f',f',f',f',f',f',f',f',f',f',f',f',f',f',f',f',f',f',f'] rfl rfl (any_of HT_.out (by kernel_rfl)) (fun _ _ _ h=>h) (Or.inl ⟨by rfl,?_⟩) ?_ ?_
                 rotate_left
                 ·intro w'
                  go_simp
                  with_reducible rfl
                 rotate_left
                 ·simp only [Act.put,zq5,zq6,zq7,i64_w,i32_w]
                  rfl
                 refine pure_ (i:=10) (N:=some 40) (v:=?_) (a':=?_) #[t',t',t',t',t',t',t',t',t',t',t',f',f',f',f',f',f',f',f',f',f',f',f',f',f',f',f',f',f',f'] rfl rfl (any_of HT_.out (by kernel_rfl)) (fun _ _ _ h=>h) (Or.inl ⟨by rfl,?_⟩) ?_ ?_
                 rotate_left
                 ·intro w'
                  go_simp
                  with_reducible rfl
                 rotate_left
                 ·simp only [Act.put,zq5,zq6,zq7,i64_w,i32_w]
                  rfl
                 refine take_ (i:=11) (N:=some 41) (v:=?_) (a':=?_) #[t',t',t',t',t',t',t',t',t',t',t',t',f',f',f',f',f',f',f',f',f',f',f',f',f',f',f',f',f',f'] rfl rfl (take_ofW HT_.out HW_.out (by kernel_rfl)) (fun _ _ _ h=>h) (Or.inl ⟨by rfl,?_⟩) hHeld ?_ ?_
                 rotate_left
                 ·rintro w' ⟨s0,s1,s2⟩
                  go_simp
                  with_reducible rfl
                 rotate_left
                 ·simp only [Act.put,zq5,zq6,zq7,i64_w,i32_w]
                  rfl
                 refine pure_ (i:=12) (N:=some 42) (v:=?_) (a':=?_) #[t',t',t',t',t',t',t',t',t',t',t',t',t',f',f',f',f',f',f',f',f',f',f',f',f',f',f',f',f',f'] rfl rfl (any_of HT_.out (by kernel_rfl)) (fun _ _ _ h=>h) (Or.inl ⟨by rfl,?_⟩) ?_ ?_
                 rotate_left
                 ·intro w'
                  go_simp
                  with_reducible rfl
                 rotate_left
                 ·simp only [Act.put,zq5,zq6,zq7,i64_w,i32_w]
                  rfl
                 refine pure_ (i:=13) (N:=some 43) (v:=?_) (a':=?_) #[t',t',t',t',t',t',t',t',t',t',t',t',t',t',f',f',f',f',f',f',f',f',f',f',f',f',f',f',f',f'] rfl rfl (any_of HT_.out (by kernel_rfl)) (fun _ _ _ h=>h) (Or.inl ⟨by rfl,?_⟩) ?_ ?_
                 rotate_left
                 ·intro w'
                  go_simp
                  with_reducible rfl
                 rotate_left
                 ·simp only [Act.put,zq5,zq6,zq7,i64_w,i32_w]
                  rfl
                 refine pure_ (i:=14) (N:=some 44) (v:=?_) (a':=?_) #[t',t',t',t',t',t',t',t',t',t',t',t',t',t',t',f',f',f',f',f',f',f',f',f',f',f',f',f',f',f'] rfl rfl (any_of HT_.out (by kernel_rfl)) (fun _ _ _ h=>h) (Or.inl ⟨by rfl,?_⟩) ?_ ?_
                 rotate_left
                 ·intro w'
                  go_simp
                  with_reducible rfl
                 rotate_left
                 ·simp only [Act.put,zq5,zq6,zq7,i64_w,i32_w]
                  rfl
                 refine pure_ (i:=15) (N:=some 45) (v:=?_) (a':=?_) #[t',t',t',t',t',t',t',t',t',t',t',t',t',t',t',t',f',f',f',f',f',f',f',f',f',f',f',f',f',f'] rfl rfl (any_of HT_.out (by kernel_rfl)) (fun _ _ _ h=>h) (Or.inl ⟨by rfl,?_⟩) ?_ ?_
                 rotate_left
                 ·intro w'
                  go_simp
                  with_reducible rfl
                 rotate_left
                 ·simp only [Act.put,zq5,zq6,zq7,i64_w,i32_w]
                  rfl
                 refine pure_ (i:=16) (N:=some 46) (v:=?_) (a':=?_) #[t',t',t',t',t',t',t',t',t',t',t',t',t',t',t',t',t',f',f',f',f',f',f',f',f',f',f',f',f',f'] rfl rfl (any_of HT_.out (by kernel_rfl)) (fun _ _ _ h=>h) (Or.inl ⟨by rfl,?_⟩) ?_ ?_
                 rotate_left
                 ·intro w'
                  go_simp
                  with_reducible rfl
                 rotate_left
                 ·simp only [Act.put,zq5,zq6,zq7,i64_w,i32_w]
                  rfl
                 refine pure_ (i:=17) (N:=some 47) (v:=?_) (a':=?_) #[t',t',t',t',t',t',t',t',t',t',t',t',t',t',t',t',t',t',f',f',f',f',f',f',f',f',f',f',f',f'] rfl rfl (any_of HT_.out (by kernel_rfl)) (fun _ _ _ h=>h) (Or.inl ⟨by rfl,?_⟩) ?_ ?_
                 rotate_left
                 ·intro w'
                  go_simp
                  with_reducible rfl
                 rotate_left
                 ·simp only [Act.put,zq5,zq6,zq7,i64_w,i32_w]
                  rfl
                 refine pure_ (i:=19) (N:=some 49) (v:=?_) (a':=?_) #[t',t',t',t',t',t',t',t',t',t',t',t',t',t',t',t',t',t',f',t',f',f',f',f',f',f',f',f',f',f'] rfl rfl (any_of HT_.out (by kernel_rfl)) (fun _ _ _ h=>h) (Or.inl ⟨by rfl,?_⟩) ?_ ?_
                 rotate_left
                 ·intro w'
                  go_simp
                  with_reducible rfl
                 rotate_left
                 ·simp only [Act.put,zq5,zq6,zq7,i64_w,i32_w]
                  rfl
                 refine pure_ (i:=20) (N:=some 50) (v:=?_) (a':=?_) #[t',t',t',t',t',t',t',t',t',t',t',t',t',t',t',t',t',t',f',t',t',f',f',f',f',f',f',f',f',f'] rfl rfl (any_of HT_.out (by kernel_rfl)) (fun _ _ _ h=>h) (Or.inl ⟨by rfl,?_⟩) ?_ ?_
                 rotate_left
                 ·intro w'
                  go_simp
                  with_reducible rfl
                 rotate_left
                 ·simp only [Act.put,zq5,zq6,zq7,i64_w,i32_w]
                  rfl
                 refine pure_ (i:=21) (N:=some 51) (v:=?_) (a':=?_) #[t',t',t',t',t',t',t',t',t',t',t',t',t',t',t',t',t',t',f',t',t',t',f',f',f',f',f',f',f',f'] rfl rfl (any_of HT_.out (by kernel_rfl)) (fun _ _ _ h=>h) (Or.inl ⟨by rfl,?_⟩) ?_ ?_
                 rotate_left
                 ·intro w'
                  go_simp
                  with_reducible rfl
                 rotate_left
                 ·simp only [Act.put,zq5,zq6,zq7,i64_w,i32_w]
                  rfl
                 refine pure_ (i:=24) (N:=some 54) (v:=?_) (a':=?_) #[t',t',t',t',t',t',t',t',t',t',t',t',t',t',t',t',t',t',f',t',t',t',f',f',t',f',f',f',f',f'] rfl rfl (any_of HT_.out (by kernel_rfl)) (fun _ _ _ h=>h) (Or.inl ⟨by rfl,?_⟩) ?_ ?_
                 rotate_left
                 ·intro w'
                  go_simp
                  with_reducible rfl
                 rotate_left
                 ·simp only [Act.put,zq5,zq6,zq7,i64_w,i32_w]
                  rfl
                 refine pure_ (i:=25) (N:=some 55) (v:=?_) (a':=?_) #[t',t',t',t',t',t',t',t',t',t',t',t',t',t',t',t',t',t',f',t',t',t',f',f',t',t',f',f',f',f'] rfl rfl (any_of HT_.out (by kernel_rfl)) (fun _ _ _ h=>h) (Or.inl ⟨by rfl,?_⟩) ?_ ?_
                 rotate_left
                 ·intro w'
                  go_simp
                  with_reducible rfl
                 rotate_left
                 ·simp only [Act.put,zq5,zq6,zq7,i64_w,i32_w]
                  rfl
                 refine pure_ (i:=26) (N:=some 56) (v:=?_) (a':=?_) #[t',t',t',t',t',t',t',t',t',t',t',t',t',t',t',t',t',t',f',t',t',t',f',f',t',t',t',f',f',f'] rfl rfl (any_of HT_.out (by kernel_rfl)) (fun _ _ _ h=>h) (Or.inl ⟨by rfl,?_⟩) ?_ ?_
                 rotate_left
                 ·intro w'
                  go_simp
                  with_reducible rfl
                 rotate_left
                 ·simp only [Act.put,zq5,zq6,zq7,i64_w,i32_w]
                  rfl
                 refine take_ (i:=18) (N:=some 48) (v:=?_) (a':=?_) #[t',t',t',t',t',t',t',t',t',t',t',t',t',t',t',t',t',t',t',t',t',t',f',f',t',t',t',f',f',f'] rfl rfl (take_ofW HT_.out HW_.out (by kernel_rfl)) (fun _ _ _ h=>h) (Or.inl ⟨by rfl,?_⟩) hHeld ?_ ?_
                 rotate_left
                 ·rintro w' ⟨s0,s1,s2⟩
                  go_simp
                  with_reducible rfl
                 rotate_left
                 ·simp only [Act.put,zq5,zq6,zq7,i64_w,i32_w]
                  rfl
                 refine take_ (i:=27) (N:=some 57) (v:=?_) (a':=?_) #[t',t',t',t',t',t',t',t',t',t',t',t',t',t',t',t',t',t',t',t',t',t',f',f',t',t',t',t',f',f'] rfl rfl (take_ofW HT_.out HW_.out (by kernel_rfl)) (fun _ _ _ h=>h) (Or.inl ⟨by rfl,?_⟩) hHeld ?_ ?_
                 rotate_left
                 ·rintro w' ⟨s0,s1,s2⟩
                  go_simp
                  with_reducible rfl
                 rotate_left
                 ·simp only [Act.put,zq5,zq6,zq7,i64_w,i32_w]
                  rfl
                 refine one_ (i:=22) (N:=some 52) #[t',t',t',t',t',t',t',t',t',t',t',t',t',t',t',t',t',t',t',t',t',t',t',f',t',t',t',t',f',f'] rfl rfl (one_of HT_.out (by kernel_rfl)) (by decide) (fun K hK=>?_)
                 refine goes_ Try.func67 (by kernel_rfl) rfl #[.slice A1 l1.length c1,.int .i64 (rd t460 x26_2),.int .i64 x9_1] (by rfl) rfl rfl zq2 ?_
                 with_reducible refine(spec_l9Edge.calls k2 _ _ l1 (rd t460 x26_2) x9_1 t466 _ ?side1 ?side2 A21.out).mono ?_
                 (case side1=>repeat(first|exact(Kd.C_below HR1.out HB.out)|(with_reducible refine Kd.C_alloc ?_ _)|(with_reducible refine Kd.C_drewN ?_ _)|(with_reducible refine Kd.C_drew ?_)))
                 (case side2=>exact HC1.out)
                 rintro e w28 ⟨rfl,hb⟩
                 have HS0_:=(hb.cell (World.block_lt_of_cell? _ _ (hHeld.1))).trans (hHeld.1)
                 have HS1_:=(hb.cell (World.block_lt_of_cell? _ _ (hHeld.2.1))).trans (hHeld.2.1)
                 have HS2_:=(hb.cell (World.block_lt_of_cell? _ _ (hHeld.2.2))).trans (hHeld.2.2)
                 refine⟨_,rfl,?_⟩
                 have n0_:=Aside0.mk (Kd.R_below (zq4 HO_7) hb)
                 have n1_:=Aside0.mk (Kd.R_below (zq4 HO_8) hb)
                 have n2_:=Aside0.mk (Kd.R_below (zq4 HO_24) hb)
                 have n3_:=Aside0.mk (below_step (zb0 HB) hb)
                 clear HO_7
                 clear HO_8
                 clear HO_24
                 clear HB
                 have HO_7:=n0_
                 have HO_8:=n1_
                 have HO_24:=n2_
                 have HB:=n3_
                 clear n0_ n1_ n2_ n3_
                 (try clear hb)
                 (try clear hb2)
                 (try clear hk)
                 (try clear hi)
                 refine hK.out _ _ ⟨HS0_,HS1_,HS2_⟩ (fun hHeld=>?_)
                 clear hK K
                 refine norm_ (a':=?_) ?_ ?_
                 rotate_left
                 ·show Act.put _ (some 52) _=_
                  simp only [Act.put,zq5,zq6,zq7,i64_w,i32_w]
                  rfl
                 refine pure_ (i:=23) (N:=some 53) (v:=?_) (a':=?_) #[t',t',t',t',t',t',t',t',t',t',t',t',t',t',t',t',t',t',t',t',t',t',t',t',t',t',t',t',f',f'] rfl rfl (any_of HT_.out (by kernel_rfl)) (fun _ _ _ h=>h) (Or.inl ⟨by rfl,?_⟩) ?_ ?_
                 rotate_left
                 ·intro w'
                  go_simp
                  with_reducible rfl
                 rotate_left
                 ·simp only [Act.put,zq5,zq6,zq7,i64_w,i32_w]
                  rfl
                 refine pure_ (i:=28) (N:=some 58) (v:=?_) (a':=?_) #[t',t',t',t',t',t',t',t',t',t',t',t',t',t',t',t',t',t',t',t',t',t',t',t',t',t',t',t',t',f'] rfl rfl (any_of HT_.out (by kernel_rfl)) (fun _ _ _ h=>h) (Or.inl ⟨by rfl,?_⟩) ?_ ?_
                 rotate_left
                 ·intro w'
                  go_simp
                  with_reducible rfl
                 rotate_left
                 ·simp only [Act.put,zq5,zq6,zq7,i64_w,i32_w]
                  rfl
                 refine pure_ (i:=29) (N:=some 59) (v:=?_) (a':=?_) #[t',t',t',t',t',t',t',t',t',t',t',t',t',t',t',t',t',t',t',t',t',t',t',t',t',t',t',t',t',t'] rfl rfl (any_of HT_.out (by kernel_rfl)) (fun _ _ _ h=>h) (Or.inl ⟨by rfl,?_⟩) ?_ ?_
                 rotate_left
                 ·intro w'
                  go_simp
                  with_reducible rfl
                 rotate_left
                 ·simp only [Act.put,zq5,zq6,zq7,i64_w,i32_w]
                  rfl
                 refine done_ (done_of HT_.out (by kernel_rfl)) ?_
                 try go_wp2
                 go_roundg k2
                 case measure=>have:=HK1.out;have:=HK2.out;omega
                 case rel=>exact⟨(x10_2),(wrap64 (x26_2+1)),(by first|rfl|(simp;done)|(simp [*];done)),(by first|rfl|(simp;done)|(simp [*];done)),H',⟨by have:=HK1.out;have:=HK2.out;omega⟩,⟨by(with_reducible repeat(first|apply Kd.R_alloc|apply Kd.R_drewN|apply Kd.R_drew));exact HO_7.out⟩,⟨by(with_reducible repeat(first|apply Kd.R_alloc|apply Kd.R_drewN|apply Kd.R_drew));exact HO_8.out⟩,⟨by(with_reducible repeat(first|apply Kd.R_alloc|apply Kd.R_drewN|apply Kd.R_drew));exact HO_24.out⟩,⟨by repeat(first|(with_reducible first|exact HB.out|apply below_alloc|apply pw_below_drewN|apply below_drew1)|exact HB.out)⟩⟩
               ·rw [if_neg c20] at H
                exact absurd H (by simp)
              ·rw [if_neg c19] at H
               exact absurd H (by simp)
             ·rw [if_neg c18] at H
              have c18b0:decide ((rd t457 x9_1)< 100000)=false:=decide_eq_false c18
              clear c18
              have H':=Aside0.mk H
              clear H
              have p463: 0≤ (x26_2:Int):=of_decide_eq_true zq1
              have q463:x26_2< (t460.length:Int):=of_decide_eq_true zq1
              obtain⟨ad463,e463,hx463_0⟩:=Kd.at_int (Kd.R_reads' HO_24.out).2.2 x26_2 p463 q463
              cases e463
              replace p463:=eq_true p463
              replace q463:=eq_true q463
              try go_wp2
              have n0_:=Aside0.mk (Kd.R_drew HO_7.out)
              have n1_:=Aside0.mk (Kd.R_drew HO_8.out)
              have n2_:=Aside0.mk (Kd.R_drew HO_24.out)
              have n3_:=Aside0.mk (below_drew1 HB.out)
              clear HO_7
              clear HO_8
              clear HO_24
              clear HB
              have HO_7:=n0_
              have HO_8:=n1_
              have HO_24:=n2_
              have HB:=n3_
              clear n0_ n1_ n2_ n3_
              obtain⟨Ao30,co30,eo30⟩:=Kd.R_slice HO_7.out
              (first|subst eo30|(injection eo30 with f1_ f2_ f3_;have f4_:=f1_.symm;have f5_:=f3_.symm;clear f1_ f2_ f3_;subst f4_;subst f5_))
              have p464: 0≤ (x9_1:Int):=of_decide_eq_true zq1
              have q464:x9_1< (t457.length:Int):=of_decide_eq_true zq1
              obtain⟨ad464,e464,hx464_0⟩:=Kd.at_int (Kd.R_reads' HO_7.out).2.2 x9_1 p464 q464
              cases e464
              replace p464:=eq_true p464
              replace q464:=eq_true q464
              refine start_ (n:=30) (S:=fun w'=>w'.cell? (ad464.add (x9_1).toNat)=some (.int .i64 (rd t457 x9_1))) (ds:= []) #[f',f',f',f',f',f',f',f',f',f',f',f',f',f',f',f',f',f',f',f',f',f',f',f',f',f',f',f',f',f'] (by kernel_rfl) rfl rfl (hx464_0) (fun hHeld=>?_);refine with_tabW spec_l10At.tab10 spec_l10At.bits10 (fun HT_ HW_=>?_)
              generalize wr.drew=w29 at HO_7 HO_8 HO_24 HB hx464_0 hHeld ⊢
              refine pure_ (i:=0) (N:=some 30) (v:=?_) (a':=?_) #[t',f',f',f',f',f',f',f',f',f',f',f',f',f',f',f',f',f',f',f',f',f',f',f',f',f',f',f',f',f'] rfl rfl (any_of HT_.out (by kernel_rfl)) (fun _ _ _ h=>h) (Or.inl ⟨by rfl,?_⟩) ?_ ?_
              rotate_left
              ·intro w'
               go_simp
               with_reducible rfl
              rotate_left
              ·simp only [Act.put,zq5,zq6,zq7,i64_w,i32_w]
               rfl
              refine pure_ (i:=1) (N:=some 31) (v:=?_) (a':=?_) #[t',t',f',f',f',f',f',f',f',f',f',f',f',f',f',f',f',f',f',f',f',f',f',f',f',f',f',f',f',f'] rfl rfl (any_of HT_.out (by kernel_rfl)) (fun _ _ _ h=>h) (Or.inl ⟨by rfl,?_⟩) ?_ ?_
              rotate_left
              ·intro w'
               go_simp
               with_reducible rfl
              rotate_left
              ·simp only [Act.put,zq5,zq6,zq7,i64_w,i32_w]
               rfl
              refine pure_ (i:=2) (N:=some 32) (v:=?_) (a':=?_) #[t',t',t',f',f',f',f',f',f',f',f',f',f',f',f',f',f',f',f',f',f',f',f',f',f',f',f',f',f',f'] rfl rfl (any_of HT_.out (by kernel_rfl)) (fun _ _ _ h=>h) (Or.inl ⟨by rfl,?_⟩) ?_ ?_
              rotate_left
              ·intro w'
               go_simp
               with_reducible rfl
              rotate_left
              ·simp only [Act.put,zq5,zq6,zq7,i64_w,i32_w]
               rfl
              refine pure_ (i:=3) (N:=some 33) (v:=?_) (a':=?_) #[t',t',t',t',f',f',f',f',f',f',f',f',f',f',f',f',f',f',f',f',f',f',f',f',f',f',f',f',f',f'] rfl rfl (any_of HT_.out (by kernel_rfl)) (fun _ _ _ h=>h) (Or.inl ⟨by rfl,?_⟩) ?_ ?_
              rotate_left
              ·intro w'
               go_simp
               with_reducible rfl
              rotate_left
              ·simp only [Act.put,zq5,zq6,zq7,i64_w,i32_w]
               rfl
              refine pure_ (i:=4) (N:=some 34) (v:=?_) (a':=?_) #[t',t',t',t',t',f',f',f',f',f',f',f',f',f',f',f',f',f',f',f',f',f',f',f',f',f',f',f',f',f'] rfl rfl (any_of HT_.out (by kernel_rfl)) (fun _ _ _ h=>h) (Or.inl ⟨by rfl,?_⟩) ?_ ?_
              rotate_left
              ·intro w'
               go_simp
               with_reducible rfl
              rotate_left
              ·simp only [Act.put,zq5,zq6,zq7,i64_w,i32_w]
               rfl
              refine pure_ (i:=5) (N:=some 35) (v:=?_) (a':=?_) #[t',t',t',t',t',t',f',f',f',f',f',f',f',f',f',f',f',f',f',f',f',f',f',f',f',f',f',f',f',f'] rfl rfl (any_of HT_.out (by kernel_rfl)) (fun _ _ _ h=>h) (Or.inl ⟨by rfl,?_⟩) ?_ ?_
              rotate_left
              ·intro w'
               go_simp
               with_reducible rfl
              rotate_left
              ·simp only [Act.put,zq5,zq6,zq7,i64_w,i32_w]
               rfl
              refine pure_ (i:=6) (N:=some 36) (v:=?_) (a':=?_) #[t',t',t',t',t',t',t',f',f',f',f',f',f',f',f',f',f',f',f',f',f',f',f',f',f',f',f',f',f',f'] rfl rfl (any_of HT_.out (by kernel_rfl)) (fun _ _ _ h=>h) (Or.inl ⟨by rfl,?_⟩) ?_ ?_
              rotate_left
              ·intro w'
               go_simp
               with_reducible rfl
              rotate_left
              ·simp only [Act.put,zq5,zq6,zq7,i64_w,i32_w]
               rfl
              refine pure_ (i:=7) (N:=some 37) (v:=?_) (a':=?_) #[t',t',t',t',t',t',t',t',f',f',f',f',f',f',f',f',f',f',f',f',f',f',f',f',f',f',f',f',f',f'] rfl rfl (any_of HT_.out (by kernel_rfl)) (fun _ _ _ h=>h) (Or.inl ⟨by rfl,?_⟩) ?_ ?_
              rotate_left
              ·intro w'
               go_simp
               with_reducible rfl
              rotate_left
              ·simp only [Act.put,zq5,zq6,zq7,i64_w,i32_w]
               rfl
              refine pure_ (i:=8) (N:=some 38) (v:=?_) (a':=?_) #[t',t',t',t',t',t',t',t',t',f',f',f',f',f',f',f',f',f',f',f',f',f',f',f',f',f',f',f',f',f'] rfl rfl (any_of HT_.out (by kernel_rfl)) (fun _ _ _ h=>h) (Or.inl ⟨by rfl,?_⟩) ?_ ?_
              rotate_left
              ·intro w'
               go_simp
               with_reducible rfl
              rotate_left
              ·simp only [Act.put,zq5,zq6,zq7,i64_w,i32_w]
               rfl
              refine pure_ (i:=9) (N:=some 39) (v:=?_) (a':=?_) #[t',t',t',t',t',t',t',t',t',t',f',f',f',f',f',f',f',f',f',f',f',f',f',f',f',f',f',f',f',f'] rfl rfl (any_of HT_.out (by kernel_rfl)) (fun _ _ _ h=>h) (Or.inl ⟨by rfl,?_⟩) ?_ ?_
              rotate_left
              ·intro w'
               go_simp
               with_reducible rfl
              rotate_left
              ·simp only [Act.put,zq5,zq6,zq7,i64_w,i32_w]
               rfl
              refine pure_ (i:=10) (N:=some 40) (v:=?_) (a':=?_) #[t',t',t',t',t',t',t',t',t',t',t',f',f',f',f',f',f',f',f',f',f',f',f',f',f',f',f',f',f',f'] rfl rfl (any_of HT_.out (by kernel_rfl)) (fun _ _ _ h=>h) (Or.inl ⟨by rfl,?_⟩) ?_ ?_
              rotate_left
              ·intro w'
               go_simp
               with_reducible rfl
              rotate_left
              ·simp only [Act.put,zq5,zq6,zq7,i64_w,i32_w]
               rfl
              refine take_ (i:=11) (N:=some 41) (v:=?_) (a':=?_) #[t',t',t',t',t',t',t',t',t',t',t',t',f',f',f',f',f',f',f',f',f',f',f',f',f',f',f',f',f',f'] rfl rfl (take_ofW HT_.out HW_.out (by kernel_rfl)) (fun _ _ _ h=>h) (Or.inl ⟨by rfl,?_⟩) hHeld ?_ ?_
              rotate_left
              ·intro w' s0
               go_simp
               with_reducible rfl
              rotate_left
              ·simp only [Act.put,zq5,zq6,zq7,i64_w,i32_w]
               rfl
              refine pure_ (i:=12) (N:=some 42) (v:=?_) (a':=?_) #[t',t',t',t',t',t',t',t',t',t',t',t',t',f',f',f',f',f',f',f',f',f',f',f',f',f',f',f',f',f'] rfl rfl (any_of HT_.out (by kernel_rfl)) (fun _ _ _ h=>h) (Or.inl ⟨by rfl,?_⟩) ?_ ?_
              rotate_left
              ·intro w'
               go_simp
               with_reducible rfl
              rotate_left
              ·simp only [Act.put,zq5,zq6,zq7,i64_w,i32_w]
               rfl
              refine pure_ (i:=13) (N:=some 43) (v:=?_) (a':=?_) #[t',t',t',t',t',t',t',t',t',t',t',t',t',t',f',f',f',f',f',f',f',f',f',f',f',f',f',f',f',f'] rfl rfl (any_of HT_.out (by kernel_rfl)) (fun _ _ _ h=>h) (Or.inl ⟨by rfl,?_⟩) ?_ ?_
              rotate_left
              ·intro w'
               go_simp
               with_reducible rfl
              rotate_left
              ·simp only [Act.put,zq5,zq6,zq7,i64_w,i32_w]
               rfl
              refine pure_ (i:=14) (N:=some 44) (v:=?_) (a':=?_) #[t',t',t',t',t',t',t',t',t',t',t',t',t',t',t',f',f',f',f',f',f',f',f',f',f',f',f',f',f',f'] rfl rfl (any_of HT_.out (by kernel_rfl)) (fun _ _ _ h=>h) (Or.inl ⟨by rfl,?_⟩) ?_ ?_
              rotate_left
              ·intro w'
               go_simp
               with_reducible rfl
              rotate_left
              ·simp only [Act.put,zq5,zq6,zq7,i64_w,i32_w]
               rfl
              refine pure_ (i:=15) (N:=some 45) (v:=undef) (a':=?_) #[t',t',t',t',t',t',t',t',t',t',t',t',t',t',t',t',f',f',f',f',f',f',f',f',f',f',f',f',f',f'] rfl rfl (any_of HT_.out (by kernel_rfl)) (fun _ _ _ h=>h) (Or.inr ⟨by rfl,rfl⟩) ?_ ?_
              rotate_left
              ·simp only [Act.put,zq5,zq6,zq7,i64_w,i32_w]
               rfl
              refine pure_ (i:=16) (N:=some 46) (v:=undef) (a':=?_) #[t',t',t',t',t',t',t',t',t',t',t',t',t',t',t',t',t',f',f',f',f',f',f',f',f',f',f',f',f',f'] rfl rfl (any_of HT_.out (by kernel_rfl)) (fun _ _ _ h=>h) (Or.inr ⟨by rfl,rfl⟩) ?_ ?_
              rotate_left
              ·simp only [Act.put,zq5,zq6,zq7,i64_w,i32_w]
               rfl
              refine pure_ (i:=17) (N:=some 47) (v:=undef) (a':=?_) #[t',t',t',t',t',t',t',t',t',t',t',t',t',t',t',t',t',t',f',f',f',f',f',f',f',f',f',f',f',f'] rfl rfl (any_of HT_.out (by kernel_rfl)) (fun _ _ _ h=>h) (Or.inr ⟨by rfl,rfl⟩) ?_ ?_
              rotate_left
              ·simp only [Act.put,zq5,zq6,zq7,i64_w,i32_w]
               rfl
              refine pure_ (i:=18) (N:=some 48) (v:=undef) (a':=?_) #[t',t',t',t',t',t',t',t',t',t',t',t',t',t',t',t',t',t',t',f',f',f',f',f',f',f',f',f',f',f'] rfl rfl (any_of HT_.out (by kernel_rfl)) (fun _ _ _ h=>h) (Or.inr ⟨by rfl,rfl⟩) ?_ ?_
              rotate_left
              ·simp only [Act.put,zq5,zq6,zq7,i64_w,i32_w]
               rfl
              refine pure_ (i:=19) (N:=some 49) (v:=undef) (a':=?_) #[t',t',t',t',t',t',t',t',t',t',t',t',t',t',t',t',t',t',t',t',f',f',f',f',f',f',f',f',f',f'] rfl rfl (any_of HT_.out (by kernel_rfl)) (fun _ _ _ h=>h) (Or.inr ⟨by rfl,rfl⟩) ?_ ?_
              rotate_left
              ·simp only [Act.put,zq5,zq6,zq7,i64_w,i32_w]
               rfl
              refine pure_ (i:=20) (N:=some 50) (v:=undef) (a':=?_) #[t',t',t',t',t',t',t',t',t',t',t',t',t',t',t',t',t',t',t',t',t',f',f',f',f',f',f',f',f',f'] rfl rfl (any_of HT_.out (by kernel_rfl)) (fun _ _ _ h=>h) (Or.inr ⟨by rfl,rfl⟩) ?_ ?_
              rotate_left
              ·simp only [Act.put,zq5,zq6,zq7,i64_w,i32_w]
               rfl
              refine pure_ (i:=21) (N:=some 51) (v:=undef) (a':=?_) #[t',t',t',t',t',t',t',t',t',t',t',t',t',t',t',t',t',t',t',t',t',t',f',f',f',f',f',f',f',f'] rfl rfl (any_of HT_.out (by kernel_rfl)) (fun _ _ _ h=>h) (Or.inr ⟨by rfl,rfl⟩) ?_ ?_
              rotate_left
              ·simp only [Act.put,zq5,zq6,zq7,i64_w,i32_w]
               rfl
              refine pure_ (i:=22) (N:=some 52) (v:=undef) (a':=?_) #[t',t',t',t',t',t',t',t',t',t',t',t',t',t',t',t',t',t',t',t',t',t',t',f',f',f',f',f',f',f'] rfl rfl (any_of HT_.out (by kernel_rfl)) (fun _ _ _ h=>h) (Or.inr ⟨by rfl,rfl⟩) ?_ ?_
              rotate_left
              ·simp only [Act.put,zq5,zq6,zq7,i64_w,i32_w]
               rfl
              refine pure_ (i:=23) (N:=some 53) (v:=undef) (a':=?_) #[t',t',t',t',t',t',t',t',t',t',t',t',t',t',t',t',t',t',t',t',t',t',t',t',f',f',f',f',f',f'] rfl rfl (any_of HT_.out (by kernel_rfl)) (fun _ _ _ h=>h) (Or.inr ⟨by rfl,rfl⟩) ?_ ?_
              rotate_left
              ·simp only [Act.put,zq5,zq6,zq7,i64_w,i32_w]
               rfl
              refine pure_ (i:=24) (N:=some 54) (v:=undef) (a':=?_) #[t',t',t',t',t',t',t',t',t',t',t',t',t',t',t',t',t',t',t',t',t',t',t',t',t',f',f',f',f',f'] rfl rfl (any_of HT_.out (by kernel_rfl)) (fun _ _ _ h=>h) (Or.inr ⟨by rfl,rfl⟩) ?_ ?_
              rotate_left
              ·simp only [Act.put,zq5,zq6,zq7,i64_w,i32_w]
               rfl
              refine pure_ (i:=25) (N:=some 55) (v:=undef) (a':=?_) #[t',t',t',t',t',t',t',t',t',t',t',t',t',t',t',t',t',t',t',t',t',t',t',t',t',t',f',f',f',f'] rfl rfl (any_of HT_.out (by kernel_rfl)) (fun _ _ _ h=>h) (Or.inr ⟨by rfl,rfl⟩) ?_ ?_
              rotate_left
              ·simp only [Act.put,zq5,zq6,zq7,i64_w,i32_w]
               rfl
              refine pure_ (i:=26) (N:=some 56) (v:=undef) (a':=?_) #[t',t',t',t',t',t',t',t',t',t',t',t',t',t',t',t',t',t',t',t',t',t',t',t',t',t',t',f',f',f'] rfl rfl (any_of HT_.out (by kernel_rfl)) (fun _ _ _ h=>h) (Or.inr ⟨by rfl,rfl⟩) ?_ ?_
              rotate_left
              ·simp only [Act.put,zq5,zq6,zq7,i64_w,i32_w]
               rfl
              refine pure_ (i:=27) (N:=some 57) (v:=undef) (a':=?_) #[t',t',t',t',t',t',t',t',t',t',t',t',t',t',t',t',t',t',t',t',t',t',t',t',t',t',t',t',f',f'] rfl rfl (any_of HT_.out (by kernel_rfl)) (fun _ _ _ h=>h) (Or.inr ⟨by rfl,rfl⟩) ?_ ?_
              rotate_left
              ·simp only [Act.put,zq5,zq6,zq7,i64_w,i32_w]
               rfl
              refine pure_ (i:=28) (N:=some 58) (v:=undef) (a':=?_) #[t',t',t',t',t',t',t',t',t',t',t',t',t',t',t',t',t',t',t',t',t',t',t',t',t',t',t',t',t',f'] rfl rfl (any_of HT_.out (by kernel_rfl)) (fun _ _ _ h=>h) (Or.inr ⟨by rfl,rfl⟩) ?_ ?_
              rotate_left
              ·simp only [Act.put,zq5,zq6,zq7,i64_w,i32_w]
               rfl
              refine pure_ (i:=29) (N:=some 59) (v:=?_) (a':=?_) #[t',t',t',t',t',t',t',t',t',t',t',t',t',t',t',t',t',t',t',t',t',t',t',t',t',t',t',t',t',t'] rfl rfl (any_of HT_.out (by kernel_rfl)) (fun _ _ _ h=>h) (Or.inl ⟨by rfl,?_⟩) ?_ ?_
              rotate_left
              ·intro w'
               go_simp
               with_reducible rfl
              rotate_left
              ·simp only [Act.put,zq5,zq6,zq7,i64_w,i32_w]
               rfl
              refine done_ (done_of HT_.out (by kernel_rfl)) ?_
              try go_wp2
              go_roundg k2
              case measure=>have:=HK1.out;have:=HK2.out;omega
              case rel=>exact⟨(x10_2),(wrap64 (x26_2+1)),(by first|rfl|(simp;done)|(simp [*];done)),(by first|rfl|(simp;done)|(simp [*];done)),H',⟨by have:=HK1.out;have:=HK2.out;omega⟩,⟨by(with_reducible repeat(first|apply Kd.R_alloc|apply Kd.R_drewN|apply Kd.R_drew));exact HO_7.out⟩,⟨by(with_reducible repeat(first|apply Kd.R_alloc|apply Kd.R_drewN|apply Kd.R_drew));exact HO_8.out⟩,⟨by(with_reducible repeat(first|apply Kd.R_alloc|apply Kd.R_drewN|apply Kd.R_drew));exact HO_24.out⟩,⟨by repeat(first|(with_reducible first|exact HB.out|apply below_alloc|apply pw_below_drewN|apply below_drew1)|exact HB.out)⟩⟩
            ·rw [if_neg c17] at H
             exact absurd H (by simp)
           ·rw [if_neg c16] at H
            exact absurd H (by simp)
         ·rw [if_neg c13] at H
          have c13b0:decide (x10_2< 0)=false:=decide_eq_false c13
          clear c13
          have H':=Aside0.mk H
          clear H
          have p463: 0≤ (x26_2:Int):=of_decide_eq_true zq1
          have q463:x26_2< (t460.length:Int):=of_decide_eq_true zq1
          obtain⟨ad463,e463,hx463_0⟩:=Kd.at_int (Kd.R_reads' HO_24.out).2.2 x26_2 p463 q463
          cases e463
          replace p463:=eq_true p463
          replace q463:=eq_true q463
          try go_wp2
          have n0_:=Aside0.mk (Kd.R_drew HO_7.out)
          have n1_:=Aside0.mk (Kd.R_drew HO_8.out)
          have n2_:=Aside0.mk (Kd.R_drew HO_24.out)
          have n3_:=Aside0.mk (below_drew1 HB.out)
          clear HO_7
          clear HO_8
          clear HO_24
          clear HB
          have HO_7:=n0_
          have HO_8:=n1_
          have HO_24:=n2_
          have HB:=n3_
          clear n0_ n1_ n2_ n3_
          refine start_ (n:=30) (S:=fun w'=>True) (ds:= []) #[f',f',f',f',f',f',f',f',f',f',f',f',f',f',f',f',f',f',f',f',f',f',f',f',f',f',f',f',f',f'] (by kernel_rfl) rfl rfl trivial (fun hHeld=>?_);refine with_tabW spec_l10At.tab10 spec_l10At.bits10 (fun HT_ HW_=>?_)
          generalize wr.drew=w31 at HO_7 HO_8 HO_24 HB hHeld ⊢
          refine pure_ (i:=0) (N:=some 30) (v:=?_) (a':=?_) #[t',f',f',f',f',f',f',f',f',f',f',f',f',f',f',f',f',f',f',f',f',f',f',f',f',f',f',f',f',f'] rfl rfl (any_of HT_.out (by kernel_rfl)) (fun _ _ _ h=>h) (Or.inl ⟨by rfl,?_⟩) ?_ ?_
          rotate_left
          ·intro w'
           go_simp
           with_reducible rfl
          rotate_left
          ·simp only [Act.put,zq5,zq6,zq7,i64_w,i32_w]
           rfl
          refine pure_ (i:=1) (N:=some 31) (v:=?_) (a':=?_) #[t',t',f',f',f',f',f',f',f',f',f',f',f',f',f',f',f',f',f',f',f',f',f',f',f',f',f',f',f',f'] rfl rfl (any_of HT_.out (by kernel_rfl)) (fun _ _ _ h=>h) (Or.inl ⟨by rfl,?_⟩) ?_ ?_
          rotate_left
          ·intro w'
           go_simp
           with_reducible rfl
          rotate_left
          ·simp only [Act.put,zq5,zq6,zq7,i64_w,i32_w]
           rfl
          refine pure_ (i:=2) (N:=some 32) (v:=?_) (a':=?_) #[t',t',t',f',f',f',f',f',f',f',f',f',f',f',f',f',f',f',f',f',f',f',f',f',f',f',f',f',f',f'] rfl rfl (any_of HT_.out (by kernel_rfl)) (fun _ _ _ h=>h) (Or.inl ⟨by rfl,?_⟩) ?_ ?_
          rotate_left
          ·intro w'
           go_simp
           with_reducible rfl
          rotate_left
          ·simp only [Act.put,zq5,zq6,zq7,i64_w,i32_w]
           rfl
          refine pure_ (i:=3) (N:=some 33) (v:=undef) (a':=?_) #[t',t',t',t',f',f',f',f',f',f',f',f',f',f',f',f',f',f',f',f',f',f',f',f',f',f',f',f',f',f'] rfl rfl (any_of HT_.out (by kernel_rfl)) (fun _ _ _ h=>h) (Or.inr ⟨by rfl,rfl⟩) ?_ ?_
          rotate_left
          ·simp only [Act.put,zq5,zq6,zq7,i64_w,i32_w]
           rfl
          refine pure_ (i:=4) (N:=some 34) (v:=undef) (a':=?_) #[t',t',t',t',t',f',f',f',f',f',f',f',f',f',f',f',f',f',f',f',f',f',f',f',f',f',f',f',f',f'] rfl rfl (any_of HT_.out (by kernel_rfl)) (fun _ _ _ h=>h) (Or.inr ⟨by rfl,rfl⟩) ?_ ?_
          rotate_left
          ·simp only [Act.put,zq5,zq6,zq7,i64_w,i32_w]
           rfl
          refine pure_ (i:=5) (N:=some 35) (v:=undef) (a':=?_) #[t',t',t',t',t',t',f',f',f',f',f',f',f',f',f',f',f',f',f',f',f',f',f',f',f',f',f',f',f',f'] rfl rfl (any_of HT_.out (by kernel_rfl)) (fun _ _ _ h=>h) (Or.inr ⟨by rfl,rfl⟩) ?_ ?_
          rotate_left
          ·simp only [Act.put,zq5,zq6,zq7,i64_w,i32_w]
           rfl
          refine pure_ (i:=6) (N:=some 36) (v:=?_) (a':=?_) #[t',t',t',t',t',t',t',f',f',f',f',f',f',f',f',f',f',f',f',f',f',f',f',f',f',f',f',f',f',f'] rfl rfl (any_of HT_.out (by kernel_rfl)) (fun _ _ _ h=>h) (Or.inl ⟨by rfl,?_⟩) ?_ ?_
          rotate_left
          ·intro w'
           go_simp
           with_reducible rfl
          rotate_left
          ·simp only [Act.put,zq5,zq6,zq7,i64_w,i32_w]
           rfl
          refine pure_ (i:=7) (N:=some 37) (v:=?_) (a':=?_) #[t',t',t',t',t',t',t',t',f',f',f',f',f',f',f',f',f',f',f',f',f',f',f',f',f',f',f',f',f',f'] rfl rfl (any_of HT_.out (by kernel_rfl)) (fun _ _ _ h=>h) (Or.inl ⟨by rfl,?_⟩) ?_ ?_
          rotate_left
          ·intro w'
           go_simp
           with_reducible rfl
          rotate_left
          ·simp only [Act.put,zq5,zq6,zq7,i64_w,i32_w]
           rfl
          refine pure_ (i:=8) (N:=some 38) (v:=undef) (a':=?_) #[t',t',t',t',t',t',t',t',t',f',f',f',f',f',f',f',f',f',f',f',f',f',f',f',f',f',f',f',f',f'] rfl rfl (any_of HT_.out (by kernel_rfl)) (fun _ _ _ h=>h) (Or.inr ⟨by rfl,rfl⟩) ?_ ?_
          rotate_left
          ·simp only [Act.put,zq5,zq6,zq7,i64_w,i32_w]
           rfl
          refine pure_ (i:=9) (N:=some 39) (v:=undef) (a':=?_) #[t',t',t',t',t',t',t',t',t',t',f',f',f',f',f',f',f',f',f',f',f',f',f',f',f',f',f',f',f',f'] rfl rfl (any_of HT_.out (by kernel_rfl)) (fun _ _ _ h=>h) (Or.inr ⟨by rfl,rfl⟩) ?_ ?_
          rotate_left
          ·simp only [Act.put,zq5,zq6,zq7,i64_w,i32_w]
           rfl
          refine pure_ (i:=10) (N:=some 40) (v:=undef) (a':=?_) #[t',t',t',t',t',t',t',t',t',t',t',f',f',f',f',f',f',f',f',f',f',f',f',f',f',f',f',f',f',f'] rfl rfl (any_of HT_.out (by kernel_rfl)) (fun _ _ _ h=>h) (Or.inr ⟨by rfl,rfl⟩) ?_ ?_
          rotate_left
          ·simp only [Act.put,zq5,zq6,zq7,i64_w,i32_w]
           rfl
          refine pure_ (i:=11) (N:=some 41) (v:=undef) (a':=?_) #[t',t',t',t',t',t',t',t',t',t',t',t',f',f',f',f',f',f',f',f',f',f',f',f',f',f',f',f',f',f'] rfl rfl (any_of HT_.out (by kernel_rfl)) (fun _ _ _ h=>h) (Or.inr ⟨by rfl,rfl⟩) ?_ ?_
          rotate_left
          ·simp only [Act.put,zq5,zq6,zq7,i64_w,i32_w]
           rfl
          refine pure_ (i:=12) (N:=some 42) (v:=undef) (a':=?_) #[t',t',t',t',t',t',t',t',t',t',t',t',t',f',f',f',f',f',f',f',f',f',f',f',f',f',f',f',f',f'] rfl rfl (any_of HT_.out (by kernel_rfl)) (fun _ _ _ h=>h) (Or.inr ⟨by rfl,rfl⟩) ?_ ?_
          rotate_left
          ·simp only [Act.put,zq5,zq6,zq7,i64_w,i32_w]
           rfl
          refine pure_ (i:=13) (N:=some 43) (v:=?_) (a':=?_) #[t',t',t',t',t',t',t',t',t',t',t',t',t',t',f',f',f',f',f',f',f',f',f',f',f',f',f',f',f',f'] rfl rfl (any_of HT_.out (by kernel_rfl)) (fun _ _ _ h=>h) (Or.inl ⟨by rfl,?_⟩) ?_ ?_
          rotate_left
          ·intro w'
           go_simp
           with_reducible rfl
          rotate_left
          ·simp only [Act.put,zq5,zq6,zq7,i64_w,i32_w]
           rfl
          refine pure_ (i:=14) (N:=some 44) (v:=?_) (a':=?_) #[t',t',t',t',t',t',t',t',t',t',t',t',t',t',t',f',f',f',f',f',f',f',f',f',f',f',f',f',f',f'] rfl rfl (any_of HT_.out (by kernel_rfl)) (fun _ _ _ h=>h) (Or.inl ⟨by rfl,?_⟩) ?_ ?_
          rotate_left
          ·intro w'
           go_simp
           with_reducible rfl
          rotate_left
          ·simp only [Act.put,zq5,zq6,zq7,i64_w,i32_w]
           rfl
          refine pure_ (i:=15) (N:=some 45) (v:=undef) (a':=?_) #[t',t',t',t',t',t',t',t',t',t',t',t',t',t',t',t',f',f',f',f',f',f',f',f',f',f',f',f',f',f'] rfl rfl (any_of HT_.out (by kernel_rfl)) (fun _ _ _ h=>h) (Or.inr ⟨by rfl,rfl⟩) ?_ ?_
          rotate_left
          ·simp only [Act.put,zq5,zq6,zq7,i64_w,i32_w]
           rfl
          refine pure_ (i:=16) (N:=some 46) (v:=undef) (a':=?_) #[t',t',t',t',t',t',t',t',t',t',t',t',t',t',t',t',t',f',f',f',f',f',f',f',f',f',f',f',f',f'] rfl rfl (any_of HT_.out (by kernel_rfl)) (fun _ _ _ h=>h) (Or.inr ⟨by rfl,rfl⟩) ?_ ?_
          rotate_left
          ·simp only [Act.put,zq5,zq6,zq7,i64_w,i32_w]
           rfl
          refine pure_ (i:=17) (N:=some 47) (v:=undef) (a':=?_) #[t',t',t',t',t',t',t',t',t',t',t',t',t',t',t',t',t',t',f',f',f',f',f',f',f',f',f',f',f',f'] rfl rfl (any_of HT_.out (by kernel_rfl)) (fun _ _ _ h=>h) (Or.inr ⟨by rfl,rfl⟩) ?_ ?_
          rotate_left
          ·simp only [Act.put,zq5,zq6,zq7,i64_w,i32_w]
           rfl
          refine pure_ (i:=18) (N:=some 48) (v:=undef) (a':=?_) #[t',t',t',t',t',t',t',t',t',t',t',t',t',t',t',t',t',t',t',f',f',f',f',f',f',f',f',f',f',f'] rfl rfl (any_of HT_.out (by kernel_rfl)) (fun _ _ _ h=>h) (Or.inr ⟨by rfl,rfl⟩) ?_ ?_
          rotate_left
          ·simp only [Act.put,zq5,zq6,zq7,i64_w,i32_w]
           rfl
          refine pure_ (i:=19) (N:=some 49) (v:=undef) (a':=?_) #[t',t',t',t',t',t',t',t',t',t',t',t',t',t',t',t',t',t',t',t',f',f',f',f',f',f',f',f',f',f'] rfl rfl (any_of HT_.out (by kernel_rfl)) (fun _ _ _ h=>h) (Or.inr ⟨by rfl,rfl⟩) ?_ ?_
          rotate_left
          ·simp only [Act.put,zq5,zq6,zq7,i64_w,i32_w]
           rfl
          refine pure_ (i:=20) (N:=some 50) (v:=undef) (a':=?_) #[t',t',t',t',t',t',t',t',t',t',t',t',t',t',t',t',t',t',t',t',t',f',f',f',f',f',f',f',f',f'] rfl rfl (any_of HT_.out (by kernel_rfl)) (fun _ _ _ h=>h) (Or.inr ⟨by rfl,rfl⟩) ?_ ?_
          rotate_left
          ·simp only [Act.put,zq5,zq6,zq7,i64_w,i32_w]
           rfl
          refine pure_ (i:=21) (N:=some 51) (v:=undef) (a':=?_) #[t',t',t',t',t',t',t',t',t',t',t',t',t',t',t',t',t',t',t',t',t',t',f',f',f',f',f',f',f',f'] rfl rfl (any_of HT_.out (by kernel_rfl)) (fun _ _ _ h=>h) (Or.inr ⟨by rfl,rfl⟩) ?_ ?_
          rotate_left
          ·simp only [Act.put,zq5,zq6,zq7,i64_w,i32_w]
           rfl
          refine pure_ (i:=22) (N:=some 52) (v:=undef) (a':=?_) #[t',t',t',t',t',t',t',t',t',t',t',t',t',t',t',t',t',t',t',t',t',t',t',f',f',f',f',f',f',f'] rfl rfl (any_of HT_.out (by kernel_rfl)) (fun _ _ _ h=>h) (Or.inr ⟨by rfl,rfl⟩) ?_ ?_
          rotate_left
          ·simp only [Act.put,zq5,zq6,zq7,i64_w,i32_w]
           rfl
          refine pure_ (i:=23) (N:=some 53) (v:=undef) (a':=?_) #[t',t',t',t',t',t',t',t',t',t',t',t',t',t',t',t',t',t',t',t',t',t',t',t',f',f',f',f',f',f'] rfl rfl (any_of HT_.out (by kernel_rfl)) (fun _ _ _ h=>h) (Or.inr ⟨by rfl,rfl⟩) ?_ ?_
          rotate_left
          ·simp only [Act.put,zq5,zq6,zq7,i64_w,i32_w]
           rfl
          refine pure_ (i:=24) (N:=some 54) (v:=undef) (a':=?_) #[t',t',t',t',t',t',t',t',t',t',t',t',t',t',t',t',t',t',t',t',t',t',t',t',t',f',f',f',f',f'] rfl rfl (any_of HT_.out (by kernel_rfl)) (fun _ _ _ h=>h) (Or.inr ⟨by rfl,rfl⟩) ?_ ?_
          rotate_left
          ·simp only [Act.put,zq5,zq6,zq7,i64_w,i32_w]
           rfl
          refine pure_ (i:=25) (N:=some 55) (v:=undef) (a':=?_) #[t',t',t',t',t',t',t',t',t',t',t',t',t',t',t',t',t',t',t',t',t',t',t',t',t',t',f',f',f',f'] rfl rfl (any_of HT_.out (by kernel_rfl)) (fun _ _ _ h=>h) (Or.inr ⟨by rfl,rfl⟩) ?_ ?_
          rotate_left
          ·simp only [Act.put,zq5,zq6,zq7,i64_w,i32_w]
           rfl
          refine pure_ (i:=26) (N:=some 56) (v:=undef) (a':=?_) #[t',t',t',t',t',t',t',t',t',t',t',t',t',t',t',t',t',t',t',t',t',t',t',t',t',t',t',f',f',f'] rfl rfl (any_of HT_.out (by kernel_rfl)) (fun _ _ _ h=>h) (Or.inr ⟨by rfl,rfl⟩) ?_ ?_
          rotate_left
          ·simp only [Act.put,zq5,zq6,zq7,i64_w,i32_w]
           rfl
          refine pure_ (i:=27) (N:=some 57) (v:=undef) (a':=?_) #[t',t',t',t',t',t',t',t',t',t',t',t',t',t',t',t',t',t',t',t',t',t',t',t',t',t',t',t',f',f'] rfl rfl (any_of HT_.out (by kernel_rfl)) (fun _ _ _ h=>h) (Or.inr ⟨by rfl,rfl⟩) ?_ ?_
          rotate_left
          ·simp only [Act.put,zq5,zq6,zq7,i64_w,i32_w]
           rfl
          refine pure_ (i:=28) (N:=some 58) (v:=undef) (a':=?_) #[t',t',t',t',t',t',t',t',t',t',t',t',t',t',t',t',t',t',t',t',t',t',t',t',t',t',t',t',t',f'] rfl rfl (any_of HT_.out (by kernel_rfl)) (fun _ _ _ h=>h) (Or.inr ⟨by rfl,rfl⟩) ?_ ?_
          rotate_left
          ·simp only [Act.put,zq5,zq6,zq7,i64_w,i32_w]
           rfl
          refine pure_ (i:=29) (N:=some 59) (v:=?_) (a':=?_) #[t',t',t',t',t',t',t',t',t',t',t',t',t',t',t',t',t',t',t',t',t',t',t',t',t',t',t',t',t',t'] rfl rfl (any_of HT_.out (by kernel_rfl)) (fun _ _ _ h=>h) (Or.inl ⟨by rfl,?_⟩) ?_ ?_
          rotate_left
          ·intro w'
           go_simp
           with_reducible rfl
          rotate_left
          ·simp only [Act.put,zq5,zq6,zq7,i64_w,i32_w]
           rfl
          refine done_ (done_of HT_.out (by kernel_rfl)) ?_
          try go_wp2
          go_roundg k2
          case measure=>have:=HK1.out;have:=HK2.out;omega
          case rel=>exact⟨(x10_2),(wrap64 (x26_2+1)),(by first|rfl|(simp;done)|(simp [*];done)),(by first|rfl|(simp;done)|(simp [*];done)),H',⟨by have:=HK1.out;have:=HK2.out;omega⟩,⟨by(with_reducible repeat(first|apply Kd.R_alloc|apply Kd.R_drewN|apply Kd.R_drew));exact HO_7.out⟩,⟨by(with_reducible repeat(first|apply Kd.R_alloc|apply Kd.R_drewN|apply Kd.R_drew));exact HO_8.out⟩,⟨by(with_reducible repeat(first|apply Kd.R_alloc|apply Kd.R_drewN|apply Kd.R_drew));exact HO_24.out⟩,⟨by repeat(first|(with_reducible first|exact HB.out|apply below_alloc|apply pw_below_drewN|apply below_drew1)|exact HB.out)⟩⟩
        ·rw [if_neg c12] at H
         exact absurd H (by simp)
       ·rw [if_neg c11] at H
        exact absurd H (by simp)
      ·rw [if_neg c10] at H
       have c10b0:decide (x26_2< (t460.length:Int))=false:=decide_eq_false c10
       clear c10
       by_cases c32:x8_1.length< 17592186044416
       ·rw [if_pos c32] at H
        have LMc32:=Aside0.mk c32
        clear c32
        obtain⟨y468,hy468⟩ :∃ y_:List Int,y_= (x8_1++ [x10_2]):=⟨_,rfl⟩
        replace H:(spec_l10At.l0 k2 a0 l1 a2 t457 y468 (wrap64 (x9_1+1)))=some r:=by first|(rw [hy468];with_reducible exact H)|(have H2_:=(Option.bind_some _ _).symm.trans H;rw [hy468];with_reducible exact H2_)|(have H2_:=(Option.bind_some _ _).symm.trans H;with_reducible exact H2_)|with_reducible exact H|(rw [hy468];exact H)|exact H
        have Ny468:=Aside0.mk hy468
        clear hy468
        have H':=Aside0.mk H
        clear H
        go_wp2_with (first|((with_reducible refine gate_builtin (b:= .append) (xs:= #[.tmp 62,.tmp 64]) rfl ?_);at_builtin;refine Kd.R_append (Kd.int .i64) (w0:=w) w.heap.size rfl (.tmp 62) (.tmp 64) 22 3 (.int .i64 0) 8 rfl Try.underlying22 info3 rfl (by decide) (by omega) u8 x8_1 x10_2 [.int .i64 x10_2] (fun k_=>some k_≠ (v458:Value).ownBlock∧some k_≠ (.slice Ao9 t460.length co9:Value).ownBlock) (fun _=>False) rfl rfl ?aP (fun _ hk=>hk.elim) ?aF ?aO ?aB ?aS ?aL ?_;(case aP=>exact rfl);(case aB=>exact(zb0 HB));(case aF=>exact(fun k_ hk=>⟨Kd.fresh' (Kd.R_lt (zq4 HO_7)) k_ hk,Kd.fresh' (Kd.R_lt (zq4 HO_24)) k_ hk⟩));(case aO=>exact(zq4 HO_8));(case aS=>exact(below_size (zb0 HB)));(case aL=>have:=LMc32.out;omega);intro v469 w33 ho hb hg hat;rw [← Ny468.out] at ho;have n0_:=Aside0.mk (Kd.R_after (ok:=(fun k_=>some k_≠ (.slice Ao9 t460.length co9:Value).ownBlock)) (by(with_reducible repeat(first|apply Kd.R_alloc|apply Kd.R_drewN|apply Kd.R_drew));exact Kd.R_mono HO_7.out (fun _ hk=>⟨hk.2,hk.1⟩)) hg hat);have n1_:=Aside0.mk (Kd.R_after (ok:=(fun k_=>some k_≠ (v458:Value).ownBlock)) (zq4 HO_24) hg hat);have n2_:=Aside0.mk (hb);have n3_:=Aside0.mk (ho);clear HO_7;clear HO_24;clear HB;clear HO_8;have HO_7:=n0_;have HO_24:=n1_;have HB:=n2_;have HO470:=n3_;clear n0_ n1_ n2_ n3_;clear ho hb hg hat))
        go_roundg k2
        case measure=>have:=HK1.out;have:=HK2.out;omega
        case rel=>exact⟨(y468),(wrap64 (x9_1+1)),(by first|rfl|(simp;done)|(simp [*];done)),H',⟨by have:=HK1.out;have:=HK2.out;omega⟩,⟨by(with_reducible repeat(first|apply Kd.R_alloc|apply Kd.R_drewN|apply Kd.R_drew));exact Kd.R_mono HO_7.out (fun _ hk=>hk.2)⟩,⟨by(with_reducible repeat(first|apply Kd.R_alloc|apply Kd.R_drewN|apply Kd.R_drew));exact Kd.R_mono HO470.out (fun _ hk=>hk.1)⟩,⟨by repeat(first|(with_reducible first|exact HB.out|apply below_alloc|apply pw_below_drewN|apply below_drew1)|exact HB.out)⟩⟩
       ·rw [if_neg c32] at H
        exact absurd H (by simp)
   ·rw [if_neg c6] at H
    have c6b0:decide (x9_1<a0)=false:=decide_eq_false c6
    clear c6
    obtain rfl:=Option.some.inj H
    go_wp2
    go_ret
    exact⟨_,by first|rfl|(simp [errW_none,errW_some]<;>rfl)|(simp [*,errW_none,errW_some]<;>rfl),by(with_reducible repeat(first|apply Kd.R_alloc|apply Kd.R_drewN|apply Kd.R_drew));exact Kd.R_mono HO_8.out (fun _ hk=>trivial),by repeat(first|(with_reducible first|exact HB.out|apply below_alloc|apply pw_below_drewN|apply below_drew1)|exact HB.out)⟩
end Go.Proofs.Ytedegfbheihopaa.P

namespace Go.Proofs.Ytedegfbheihopaa.P
open Go.RowKit Go.Proofs.YtedegfbheihopaaW.PrintWords Go.Proofs.YtedegfbheihopaaW.PrintLast Go.Proofs.YtedegfbheihopaaW.PrintMore
attribute [local go_sem] max2_int min2_int max_two min_two max_three min_three max_four min_four   -- for this text's walks alone
set_option linter.unusedVariables false
set_option linter.unusedSimpArgs false
def impl_relaxed.l0:Nat→List Int→List Int→List (S79)→Int→Int→Option (List Int)
 | 0,_,_,_,_,_=>none
 |k+1,x1,x5,x11,x12,x13=>if x13<x12 then(if 0≤x13 then(if x13< (x11.length:Int) then(if 0≤ ((rd_T79 x11 x13).f0) then(if ((rd_T79 x11 x13).f0)< (x5.length:Int) then(if 0≤ ((rd_T79 x11 x13).f1) then(if ((rd_T79 x11 x13).f1)< (x1.length:Int) then((some (x5.set (((rd_T79 x11 x13).f0):Int).toNat (mn (rd x5 ((rd_T79 x11 x13).f0)) (wrap64 ((rd x1 ((rd_T79 x11 x13).f1))+ ((rd_T79 x11 x13).f2)))):List Int)).bind fun y488=>(if ((rd_T79 x11 x13).f1)< (x5.length:Int) then(if ((rd_T79 x11 x13).f0)< (x1.length:Int) then(impl_relaxed.l0 k x1 (y488.set (((rd_T79 x11 x13).f1):Int).toNat (mn (rd y488 ((rd_T79 x11 x13).f1)) (wrap64 ((rd x1 ((rd_T79 x11 x13).f0))+ ((rd_T79 x11 x13).f2))))) x11 x12 (wrap64 (x13+1))) else(none)) else(none))) else(none)) else(none)) else(none)) else(none)) else(none)) else(none)) else(some x5)
def impl_relaxed.f (k:Nat) (l0:List (S79)) (l1:List Int):Option (List Int):=(some (([] :List Int):List Int)).bind fun y478=>(if y478.length+l1.length< 17592186044416 then(impl_relaxed.l0 k l1 (y478++l1) l0 (l0.length:Int) 0) else(none))
def impl_relaxed.T5:Bool × List (List Nat × List Nat):=(true,[([],[]),([],[]),([1],[1]),([],[]),([],[]),([4],[4]),([3,5],[3,5]),([6],[6]),([],[]),([],[]),([9],[9]),([8,10],[8,10]),([11],[11]),([],[]),([13],[13]),([12,14],[12,14]),([7,15],[7,15]),([0,2,0,1,2,3,4,5,6,7,8,9,10,11,12,13,14,15,16],[0,2]),([17,16,0,1,2,3,4,5,6,7,8,9,10,11,12,13,14,15,16],[16,17])])
def impl_relaxed.B5:List Nat:= [0,0,2,0,0,16,56,120,0,0,512,1792,3840,0,8192,32512,65528,131071,262143]
theorem impl_relaxed.tab5:rtab .any (opsOf Try.f102 5)=impl_relaxed.T5:=by kernel_rfl
theorem impl_relaxed.bits5:waitsOk impl_relaxed.T5.2 impl_relaxed.B5=true:=by kernel_rfl
def impl_relaxed.T6:Bool × List (List Nat × List Nat):=(true,[([],[]),([],[]),([1],[1]),([],[]),([],[]),([4],[4]),([3,5],[3,5]),([6],[6]),([],[]),([],[]),([9],[9]),([8,10],[8,10]),([11],[11]),([],[]),([13],[13]),([12,14],[12,14]),([7,15],[7,15]),([0,2,0,1,2,3,4,5,6,7,8,9,10,11,12,13,14,15,16],[0,2]),([17,16,0,1,2,3,4,5,6,7,8,9,10,11,12,13,14,15,16],[16,17])])
def impl_relaxed.B6:List Nat:= [0,0,2,0,0,16,56,120,0,0,512,1792,3840,0,8192,32512,65528,131071,262143]
theorem impl_relaxed.tab6:rtab .any (opsOf Try.f102 6)=impl_relaxed.T6:=by kernel_rfl
theorem impl_relaxed.bits6:waitsOk impl_relaxed.T6.2 impl_relaxed.B6=true:=by kernel_rfl
set_option maxHeartbeats 8000000 in
set_option maxRecDepth 100000 in
theorem impl_relaxed.calls (k:Nat) (A0:Option Addr) (c0:Nat) (l0:List (S79)) (A1:Option Addr) (c1:Nat) (l1:List Int) (r:List Int) (w:World) (hr0:Kd.C k79 w A0 l0.length l0) (hc0:l0.length≤c0) (hr1:Kd.C (Kd.int .i64) w A1 l1.length l1) (hc1:l1.length≤c1) (h:impl_relaxed.f k l0 l1=some r):
  Calls Try.prog 102 #[.slice A0 l0.length c0,.slice A1 l1.length c1] w fun e w'=> ∃ v0_:Value,e= .returned (v0_)∧Kd.R (Kd.int .i64) 3 w' w.heap.size (fun _=>True) v0_ r∧Below w.heap.size w w':=by
 have hu79:=Try.underlying79
 have HR0:=Aside0.mk hr0
 have HC0:=Aside0.mk hc0
 clear hr0 hc0
 have HR1:=Aside0.mk hr1
 have HC1:=Aside0.mk hc1
 clear hr1 hc1
 have HB:=Aside0.mk (Below.refl w.heap.size w)
 have H:((some (([] :List Int):List Int)).bind fun y478=>(if y478.length+l1.length< 17592186044416 then(impl_relaxed.l0 k l1 (y478++l1) l0 (l0.length:Int) 0) else(none)))=some r:=h
 clear h
 obtain⟨y478,hy478⟩ :∃ y_:List Int,y_= (([] :List Int)):=⟨_,rfl⟩
 replace H:(if y478.length+l1.length< 17592186044416 then(impl_relaxed.l0 k l1 (y478++l1) l0 (l0.length:Int) 0) else(none))=some r:=by first|(rw [hy478];with_reducible exact H)|(have H2_:=(Option.bind_some _ _).symm.trans H;rw [hy478];with_reducible exact H2_)|(have H2_:=(Option.bind_some _ _).symm.trans H;with_reducible exact H2_)|with_reducible exact H|(rw [hy478];exact H)|exact H
 have Ny478:=Aside0.mk hy478
 clear hy478
 by_cases c3:y478.length+l1.length< 17592186044416
 ·rw [if_pos c3] at H
  have LMc3:=Aside0.mk c3
  clear c3
  obtain⟨y481,hy481⟩ :∃ y_:List Int,y_= (y478++l1):=⟨_,rfl⟩
  replace H:(impl_relaxed.l0 k l1 y481 l0 (l0.length:Int) 0)=some r:=by first|(rw [hy481];with_reducible exact H)|(have H2_:=(Option.bind_some _ _).symm.trans H;rw [hy481];with_reducible exact H2_)|(have H2_:=(Option.bind_some _ _).symm.trans H;with_reducible exact H2_)|with_reducible exact H|(rw [hy481];exact H)|exact H
  have Ny481:=Aside0.mk hy481
  clear hy481
  have H':=Aside0.mk H
  clear H
  go_enter Try.func102,Try.ntmps102
  go_wp2_with (first|((with_reducible refine gate_dst (N:=8) rfl ?_);refine Kd.R_lit (Kd.int .i64) _ 3 ?hg (N:=8) ?hd (xs:=([] :List Int)) (inner:= []) (ok:=fun _=>True) (okp:=fun _=>True) ?hr ?hp (fun _ hk=>hk) trivial (Below.refl _ _) (Nat.le_refl _) (by simp) ?_;(case hd=>rfl);(case hg=>rfl);(case hr=>first|(go_simp;done)|(go_simp;rfl));(case hp=>exact(Reps.none _ _));intro v479 w4 ho5 hb hg_ hnew_;clear hg_ hnew_;(first|rw [← Ny478.out] at ho5|(simp only [Int.reduceToNat] at ho5;rw [← Ny478.out] at ho5));have n0_:=Aside0.mk (Kd.R_lower ho5 (below_size (zb0 HB)));have n1_:=Aside0.mk (below_step (zb0 HB) hb);clear HB;have HO480:=n0_;have HB:=n1_;clear n0_ n1_;clear hb ho5)|((with_reducible refine gate_builtin (b:= .append) (xs:= #[.tmp 8,.tmp 9]) rfl ?_);at_builtin;refine Kd.R_append_rows (Kd.int .i64) (w0:=w) w.heap.size rfl (.tmp 8) (.tmp 9) 22 3 (.int .i64 0) 8 rfl Try.underlying22 info3 rfl (by decide) (by omega) v479 y478 l1 _ _ _ (fun _=>True) (fun _=>False) rfl rfl ?aO ?aR (fun _ _ h=>h) (fun _ h=>h.elim) ?aF ?aB ?aS ?aL ?_;(case aR=>repeat(first|exact(Kd.C_below HR1.out HB.out)|(with_reducible refine Kd.C_alloc ?_ _)|(with_reducible refine Kd.C_drewN ?_ _)|(with_reducible refine Kd.C_drew ?_)));(case aB=>exact(zb0 HB));(case aF=>exact(fun _ _=>trivial));(case aO=>exact(zq4 HO480));(case aS=>exact(below_size (zb0 HB)));(case aL=>have:=LMc3.out;omega);intro v482 w6 ho hb hg hat;rw [← Ny481.out] at ho;have n0_:=Aside0.mk (hb);have n1_:=Aside0.mk (ho);clear HB;clear HO480;have HB:=n0_;have HO483:=n1_;clear n0_ n1_;clear ho hb hg hat))
  go_loopg [13] k (fun kq v13 w'=> ∃ (x5_1:List Int) (x13_1:Int),v13= .int .i64 x13_1∧Aside0 (impl_relaxed.l0 kq l1 x5_1 l0 (l0.length:Int) x13_1=some r)∧Aside0 (kq≤k)∧Aside0 (Kd.R (Kd.int .i64) 3 w' w.heap.size (fun _=>True) v482 x5_1)∧Aside0 (Below w.heap.size w w'))
  case atStart=>exact⟨(y481),(0),(by first|rfl|(simp;done)|(simp [*];done)),H',⟨Nat.le_refl _⟩,⟨by(with_reducible repeat(first|apply Kd.R_alloc|apply Kd.R_drewN|apply Kd.R_drew));exact HO483.out⟩,⟨by repeat(first|(with_reducible first|exact HB.out|apply below_alloc|apply pw_below_drewN|apply below_drew1)|exact HB.out)⟩⟩
  case round=>
   clear H'
   try clear c1
   try clear p2
   try clear c3
   obtain⟨x5_1,x13_1,rfl,HA,HK1,HO_5,HB⟩:=hrel
   cases gk with
   |zero=>exact absurd HA.out (by simp [impl_relaxed.l0])
   |succ k1=>
    have H:=HA.out
    clear HA
    simp only [impl_relaxed.l0] at H
    by_cases c7:x13_1< (l0.length:Int)
    ·rw [if_pos c7] at H
     have c7b0:decide (x13_1< (l0.length:Int))=true:=decide_eq_true c7
     clear c7
     by_cases c8: 0≤x13_1
     ·rw [if_pos c8] at H
      have c8b0:decide (0≤x13_1)=true:=decide_eq_true c8
      clear c8
      by_cases c9:x13_1< (l0.length:Int)
      ·rw [if_pos c9] at H
       have c9b0:decide (x13_1< (l0.length:Int))=true:=decide_eq_true c9
       clear c9
       by_cases c10: 0≤ ((rd_T79 l0 x13_1).f0)
       ·rw [if_pos c10] at H
        have c10b0:decide (0≤ ((rd_T79 l0 x13_1).f0))=true:=decide_eq_true c10
        clear c10
        by_cases c11:((rd_T79 l0 x13_1).f0)< (x5_1.length:Int)
        ·rw [if_pos c11] at H
         have c11b0:decide (((rd_T79 l0 x13_1).f0)< (x5_1.length:Int))=true:=decide_eq_true c11
         clear c11
         by_cases c12: 0≤ ((rd_T79 l0 x13_1).f1)
         ·rw [if_pos c12] at H
          have c12b0:decide (0≤ ((rd_T79 l0 x13_1).f1))=true:=decide_eq_true c12
          clear c12
          by_cases c13:((rd_T79 l0 x13_1).f1)< (l1.length:Int)
          ·rw [if_pos c13] at H
           have c13b0:decide (((rd_T79 l0 x13_1).f1)< (l1.length:Int))=true:=decide_eq_true c13
           clear c13
           obtain⟨ji14,hji14⟩ :∃ j_:Int,(mn (rd x5_1 ((rd_T79 l0 x13_1).f0)) (wrap64 ((rd l1 ((rd_T79 l0 x13_1).f1))+ ((rd_T79 l0 x13_1).f2))))=j_:=⟨_,rfl⟩
           replace H:((some (x5_1.set (((rd_T79 l0 x13_1).f0):Int).toNat (ji14):List Int)).bind fun y488=>(if ((rd_T79 l0 x13_1).f1)< (x5_1.length:Int) then(if ((rd_T79 l0 x13_1).f0)< (l1.length:Int) then(impl_relaxed.l0 k1 l1 (y488.set (((rd_T79 l0 x13_1).f1):Int).toNat (mn (rd y488 ((rd_T79 l0 x13_1).f1)) (wrap64 ((rd l1 ((rd_T79 l0 x13_1).f0))+ ((rd_T79 l0 x13_1).f2))))) l0 (l0.length:Int) (wrap64 (x13_1+1))) else(none)) else(none)))=some r:=by first|(rw [hji14] at H;exact H)|(simp only [hji14] at H ⊢;exact H)
           have hji14_:(if (wrap64 ((rd l1 ((rd_T79 l0 x13_1).f1))+ ((rd_T79 l0 x13_1).f2)))< (rd x5_1 ((rd_T79 l0 x13_1).f0)) then(wrap64 ((rd l1 ((rd_T79 l0 x13_1).f1))+ ((rd_T79 l0 x13_1).f2))) else(rd x5_1 ((rd_T79 l0 x13_1).f0)))=ji14:=hji14
           obtain⟨y488,hy488⟩ :∃ y_:List Int,y_= (x5_1.set (((rd_T79 l0 x13_1).f0):Int).toNat (ji14)):=⟨_,rfl⟩
           replace H:(if ((rd_T79 l0 x13_1).f1)< (x5_1.length:Int) then(if ((rd_T79 l0 x13_1).f0)< (l1.length:Int) then(impl_relaxed.l0 k1 l1 (y488.set (((rd_T79 l0 x13_1).f1):Int).toNat (mn (rd y488 ((rd_T79 l0 x13_1).f1)) (wrap64 ((rd l1 ((rd_T79 l0 x13_1).f0))+ ((rd_T79 l0 x13_1).f2))))) l0 (l0.length:Int) (wrap64 (x13_1+1))) else(none)) else(none))=some r:=by first|(rw [hy488];with_reducible exact H)|(have H2_:=(Option.bind_some _ _).symm.trans H;rw [hy488];with_reducible exact H2_)|(have H2_:=(Option.bind_some _ _).symm.trans H;with_reducible exact H2_)|with_reducible exact H|(rw [hy488];exact H)|exact H
           have Ny488:=Aside0.mk hy488
           clear hy488
           by_cases c16:((rd_T79 l0 x13_1).f1)< (x5_1.length:Int)
           ·rw [if_pos c16] at H
            have c16b0:decide (((rd_T79 l0 x13_1).f1)< (x5_1.length:Int))=true:=decide_eq_true c16
            clear c16
            by_cases c17:((rd_T79 l0 x13_1).f0)< (l1.length:Int)
            ·rw [if_pos c17] at H
             have c17b0:decide (((rd_T79 l0 x13_1).f0)< (l1.length:Int))=true:=decide_eq_true c17
             clear c17
             obtain⟨ji18,hji18⟩ :∃ j_:Int,(mn (rd y488 ((rd_T79 l0 x13_1).f1)) (wrap64 ((rd l1 ((rd_T79 l0 x13_1).f0))+ ((rd_T79 l0 x13_1).f2))))=j_:=⟨_,rfl⟩
             replace H:(impl_relaxed.l0 k1 l1 (y488.set (((rd_T79 l0 x13_1).f1):Int).toNat (ji18)) l0 (l0.length:Int) (wrap64 (x13_1+1)))=some r:=by first|(rw [hji18] at H;exact H)|(simp only [hji18] at H ⊢;exact H)
             have hji18_:(if (wrap64 ((rd l1 ((rd_T79 l0 x13_1).f0))+ ((rd_T79 l0 x13_1).f2)))< (rd y488 ((rd_T79 l0 x13_1).f1)) then(wrap64 ((rd l1 ((rd_T79 l0 x13_1).f0))+ ((rd_T79 l0 x13_1).f2))) else(rd y488 ((rd_T79 l0 x13_1).f1)))=ji18:=hji18
             obtain⟨y491,hy491⟩ :∃ y_:List Int,y_= (y488.set (((rd_T79 l0 x13_1).f1):Int).toNat (ji18)):=⟨_,rfl⟩
             replace H:(impl_relaxed.l0 k1 l1 y491 l0 (l0.length:Int) (wrap64 (x13_1+1)))=some r:=by first|(rw [hy491];with_reducible exact H)|(have H2_:=(Option.bind_some _ _).symm.trans H;rw [hy491];with_reducible exact H2_)|(have H2_:=(Option.bind_some _ _).symm.trans H;with_reducible exact H2_)|with_reducible exact H|(rw [hy491];exact H)|exact H
             have Ny491:=Aside0.mk hy491
             clear hy491
             have H':=Aside0.mk H
             clear H
             have p484: 0≤ (x13_1:Int):=of_decide_eq_true zq1
             have q484:x13_1< (l0.length:Int):=of_decide_eq_true zq1
             obtain⟨ad484,e484,hx484_0,hx484_1,hx484_2⟩:=at_T79 HR0.out x13_1 p484 q484
             cases e484
             replace hx484_0:=(HB.out.cell (World.block_lt_of_cell? w _ hx484_0)).trans hx484_0
             replace hx484_1:=(HB.out.cell (World.block_lt_of_cell? w _ hx484_1)).trans hx484_1
             replace hx484_2:=(HB.out.cell (World.block_lt_of_cell? w _ hx484_2)).trans hx484_2
             replace p484:=eq_true p484
             replace q484:=eq_true q484
             try go_wp2_with (first|((with_reducible refine gate_dst (N:=7) rfl ?_);refine box_event ?hg (N:=7) ?hd (cs:= #[.int .i64 0,.int .i64 0,.int .i64 0]) (t:=79) ?hr ?_;(case hd=>rfl);(case hg=>rfl);(case hr=>first|(go_simp;done)|(go_simp;rfl));intro gb485 hg w20 hbox hb;have n0_:=Aside0.mk (Kd.R_below (zq4 HO_5) hb);have n1_:=Aside0.mk (below_step (zb0 HB) hb);have n2_:=Aside0.mk (hbox);have n3_:=Aside0.mk ((by rw [hg];exact(below_size (zb0 HB)):w.heap.size≤gb485));have n4_:=Aside0.mk ((by rw [hg];exact(below_size (zb0 HB)):w.heap.size≤gb485));clear HO_5;clear HB;have HO_5:=n0_;have HB:=n1_;have BK485:=n2_;have GW485:=n3_;have GE485:=n4_;clear n0_ n1_ n2_ n3_ n4_;clear hb hbox hg;have hcz21_0:w20.cell? ⟨gb485,0,none⟩=some (.int .i64 0):=(blk_cell BK485.out 0).trans rfl;have hcz21_1:w20.cell? ⟨gb485,1,none⟩=some (.int .i64 0):=(blk_cell BK485.out 1).trans rfl;have hcz21_2:w20.cell? ⟨gb485,2,none⟩=some (.int .i64 0):=(blk_cell BK485.out 2).trans rfl;have hfz21_0:=blk_frozen BK485.out 0;have hfz21_1:=blk_frozen BK485.out 1;have hfz21_2:=blk_frozen BK485.out 2))
             have n0_:Aside0 (Kd.R (Kd.int .i64) 3 (((w20.setCell ⟨gb485,0,none⟩ (.int .i64 ((rd_T79 l0 x13_1).f0))).setCell ⟨gb485,1,none⟩ (.int .i64 ((rd_T79 l0 x13_1).f1))).setCell ⟨gb485,2,none⟩ (.int .i64 ((rd_T79 l0 x13_1).f2))) w.heap.size (fun _=>True) v482 x5_1):=⟨by(with_reducible repeat(first|apply Kd.R_alloc|apply Kd.R_drewN|apply Kd.R_drew));exact Kd.R_mono (Kd.R_far (p:=⟨gb485,2,none⟩) (Kd.R_far (p:=⟨gb485,1,none⟩) (Kd.R_far (p:=⟨gb485,0,none⟩) (Kd.R_types HO_5.out BK485.out (by decide)) (fun _ hk=>hk.2) (.int .i64 ((rd_T79 l0 x13_1).f0))) (fun _ hk=>hk.2) (.int .i64 ((rd_T79 l0 x13_1).f1))) (fun _ hk=>hk.2) (.int .i64 ((rd_T79 l0 x13_1).f2))) (fun _ hk=>trivial)⟩
             have n1_:Aside0 ((((w20.setCell ⟨gb485,0,none⟩ (.int .i64 ((rd_T79 l0 x13_1).f0))).setCell ⟨gb485,1,none⟩ (.int .i64 ((rd_T79 l0 x13_1).f1))).setCell ⟨gb485,2,none⟩ (.int .i64 ((rd_T79 l0 x13_1).f2))).heap[gb485]?=some (.cells #[.int .i64 ((rd_T79 l0 x13_1).f0),.int .i64 ((rd_T79 l0 x13_1).f1),.int .i64 ((rd_T79 l0 x13_1).f2)] 79 (0,0))):=⟨by(with_reducible repeat(first|refine blk_drewN ?_ _|refine blk_drew ?_ |refine blk_alloc ?_ _));refine blk_put (cs:= #[.int .i64 ((rd_T79 l0 x13_1).f0),.int .i64 ((rd_T79 l0 x13_1).f1),.int .i64 0]) ?_ 2 _ rfl;(with_reducible repeat(first|refine blk_drewN ?_ _|refine blk_drew ?_ |refine blk_alloc ?_ _));refine blk_put (cs:= #[.int .i64 ((rd_T79 l0 x13_1).f0),.int .i64 0,.int .i64 0]) ?_ 1 _ rfl;(with_reducible repeat(first|refine blk_drewN ?_ _|refine blk_drew ?_ |refine blk_alloc ?_ _));refine blk_put (cs:= #[.int .i64 0,.int .i64 0,.int .i64 0]) ?_ 0 _ rfl;(with_reducible repeat(first|refine blk_drewN ?_ _|refine blk_drew ?_ |refine blk_alloc ?_ _));exact BK485.out⟩
             have n2_:Aside0 (Below w.heap.size w (((w20.setCell ⟨gb485,0,none⟩ (.int .i64 ((rd_T79 l0 x13_1).f0))).setCell ⟨gb485,1,none⟩ (.int .i64 ((rd_T79 l0 x13_1).f1))).setCell ⟨gb485,2,none⟩ (.int .i64 ((rd_T79 l0 x13_1).f2)))):=⟨by repeat(first|(with_reducible first|exact HB.out|apply below_alloc|apply pw_below_drewN|apply below_drew1|refine below_set ?_ GE485.out)|exact HB.out)⟩
             (try clear HO_5)
             (try clear BK485)
             (try clear HB)
             (try simp only [show ∀ (W_:World) (n_:Nat) (a_:Addr) (v_:Value),(World.drewN W_ n_).setCell a_ v_= (World.setCell W_ a_ v_).drewN n_ from fun _ _ _ _=>rfl])
             generalize (((w20.setCell ⟨gb485,0,none⟩ (.int .i64 ((rd_T79 l0 x13_1).f0))).setCell ⟨gb485,1,none⟩ (.int .i64 ((rd_T79 l0 x13_1).f1))).setCell ⟨gb485,2,none⟩ (.int .i64 ((rd_T79 l0 x13_1).f2)))=w22 at n0_ n1_ n2_ ⊢
             have HO_5:=n0_
             have BK485:=n1_
             have HB:=n2_
             clear n0_ n1_ n2_
             have n0_:=Aside0.mk (Kd.R_drew HO_5.out)
             have n1_:=Aside0.mk (blk_drew BK485.out)
             have n2_:=Aside0.mk (below_drew1 HB.out)
             clear HO_5
             clear BK485
             clear HB
             have HO_5:=n0_
             have BK485:=n1_
             have HB:=n2_
             clear n0_ n1_ n2_
             obtain⟨Ao24,co24,eo24⟩:=Kd.R_slice HO_5.out
             (first|subst eo24|(injection eo24 with f1_ f2_ f3_;have f4_:=f1_.symm;have f5_:=f3_.symm;clear f1_ f2_ f3_;subst f4_;subst f5_))
             have p486: 0≤ (((rd_T79 l0 x13_1).f0):Int):=of_decide_eq_true zq1
             have q486:((rd_T79 l0 x13_1).f0)< (x5_1.length:Int):=of_decide_eq_true zq1
             obtain⟨ad486,e486,hx486_0⟩:=Kd.at_int (Kd.R_reads' HO_5.out).2.2 ((rd_T79 l0 x13_1).f0) p486 q486
             cases e486
             replace p486:=eq_true p486
             replace q486:=eq_true q486
             have p487: 0≤ (((rd_T79 l0 x13_1).f1):Int):=of_decide_eq_true zq1
             have q487:((rd_T79 l0 x13_1).f1)< (l1.length:Int):=of_decide_eq_true zq1
             obtain⟨ad487,e487,hx487_0⟩:=Kd.at_int HR1.out ((rd_T79 l0 x13_1).f1) p487 q487
             have hw487_0:=hx487_0
             cases e487
             replace hx487_0:=(HB.out.cell (World.block_lt_of_cell? w _ hx487_0)).trans hx487_0
             replace p487:=eq_true p487
             replace q487:=eq_true q487
             have p15: 0≤ (((rd_T79 l0 x13_1).f0):Int):=of_decide_eq_true zq1
             have q15:(((rd_T79 l0 x13_1).f0):Int)< ((x5_1.length:Int):Int):=of_decide_eq_true zq1
             obtain⟨go15,co15,eo15,gb15,gl15,cl15,HG15⟩:=Kd.R_form HO_5.out (by omega)
             (first|cases eo15|(injection eo15 with ea_ en_ ec_;(first|subst ea_|(injection ea_ with ea_;subst ea_));subst ec_;clear en_))
             have GB15:=Aside0.mk gb15
             have GG15:=Aside0.mk HG15
             clear gb15 gl15 HG15
             (first|simp only [add_plain] at hx486_0|skip)
             obtain⟨hx15_0,hf15_0⟩:=Kd.R_celln 0 HO_5.out (((rd_T79 l0 x13_1).f0):Int) p15 q15
             replace p15:=eq_true p15
             replace q15:=eq_true q15
             have HP25:=Kd.R_putn HO_5.out (((rd_T79 l0 x13_1).f0):Int) ji14
             rw [← Ny488.out] at HP25
             have HQ25:=Aside0.mk HP25
             clear HP25
             refine start_ (n:=19) (S:=fun w'=>w'.cell? ⟨gb485,0,none⟩=some (.int .i64 ((rd_T79 l0 x13_1).f0))∧w'.cell? ⟨gb485,1,none⟩=some (.int .i64 ((rd_T79 l0 x13_1).f1))∧w'.cell? ⟨gb485,2,none⟩=some (.int .i64 ((rd_T79 l0 x13_1).f2))∧w'.cell? ⟨go15,(((rd_T79 l0 x13_1).f0)).toNat,none⟩=some (.int .i64 (rd x5_1 ((rd_T79 l0 x13_1).f0)))∧w'.cell? (ad487.add (((rd_T79 l0 x13_1).f1)).toNat)=some (.int .i64 (rd l1 ((rd_T79 l0 x13_1).f1)))) (ds:= [18]) #[f',f',f',f',f',f',f',f',f',f',f',f',f',f',f',f',f',f',f'] (by kernel_rfl) rfl rfl ⟨(blk_cell BK485.out 0).trans rfl,(blk_cell BK485.out 1).trans rfl,(blk_cell BK485.out 2).trans rfl,hx486_0,((HB.out.cell (World.block_lt_of_cell? w _ hw487_0)).trans hw487_0)⟩ (fun hHeld=>?_);refine with_tabW impl_relaxed.tab5 impl_relaxed.bits5 (fun HT_ HW_=>?_)
             generalize w22.drew=w23 at HO_5 BK485 HB GG15 HQ25 hf15_0 hx15_0 hx486_0 hx487_0 hHeld ⊢
             refine pure_ (i:=0) (N:=some 17) (v:=?_) (a':=?_) #[t',f',f',f',f',f',f',f',f',f',f',f',f',f',f',f',f',f',f'] rfl rfl (any_of HT_.out (by kernel_rfl)) (fun _ _ _ h=>h) (Or.inl ⟨by rfl,?_⟩) ?_ ?_
             rotate_left
             ·intro w'
              go_simp
              with_reducible rfl
             rotate_left
             ·simp only [Act.put,List.setIfInBounds_toArray,List.set_cons_zero,List.set_cons_succ,i64_w,i32_w]
              rfl
             refine pure_ (i:=1) (N:=some 18) (v:=?_) (a':=?_) #[t',t',f',f',f',f',f',f',f',f',f',f',f',f',f',f',f',f',f'] rfl rfl (any_of HT_.out (by kernel_rfl)) (fun _ _ _ h=>h) (Or.inl ⟨by rfl,?_⟩) ?_ ?_
             rotate_left
             ·intro w'
              go_simp
              with_reducible rfl
             rotate_left
             ·simp only [Act.put,List.setIfInBounds_toArray,List.set_cons_zero,List.set_cons_succ,i64_w,i32_w]
              rfl
             refine pure_ (i:=3) (N:=some 20) (v:=?_) (a':=?_) #[t',t',f',t',f',f',f',f',f',f',f',f',f',f',f',f',f',f',f'] rfl rfl (any_of HT_.out (by kernel_rfl)) (fun _ _ _ h=>h) (Or.inl ⟨by rfl,?_⟩) ?_ ?_
             rotate_left
             ·intro w'
              go_simp
              with_reducible rfl
             rotate_left
             ·simp only [Act.put,List.setIfInBounds_toArray,List.set_cons_zero,List.set_cons_succ,i64_w,i32_w]
              rfl
             refine pure_ (i:=4) (N:=some 21) (v:=?_) (a':=?_) #[t',t',f',t',t',f',f',f',f',f',f',f',f',f',f',f',f',f',f'] rfl rfl (any_of HT_.out (by kernel_rfl)) (fun _ _ _ h=>h) (Or.inl ⟨by rfl,?_⟩) ?_ ?_
             rotate_left
             ·intro w'
              go_simp
              with_reducible rfl
             rotate_left
             ·simp only [Act.put,List.setIfInBounds_toArray,List.set_cons_zero,List.set_cons_succ,i64_w,i32_w]
              rfl
             refine pure_ (i:=8) (N:=some 25) (v:=?_) (a':=?_) #[t',t',f',t',t',f',f',f',t',f',f',f',f',f',f',f',f',f',f'] rfl rfl (any_of HT_.out (by kernel_rfl)) (fun _ _ _ h=>h) (Or.inl ⟨by rfl,?_⟩) ?_ ?_
             rotate_left
             ·intro w'
              go_simp
              with_reducible rfl
             rotate_left
             ·simp only [Act.put,List.setIfInBounds_toArray,List.set_cons_zero,List.set_cons_succ,i64_w,i32_w]
              rfl
             refine pure_ (i:=9) (N:=some 26) (v:=?_) (a':=?_) #[t',t',f',t',t',f',f',f',t',t',f',f',f',f',f',f',f',f',f'] rfl rfl (any_of HT_.out (by kernel_rfl)) (fun _ _ _ h=>h) (Or.inl ⟨by rfl,?_⟩) ?_ ?_
             rotate_left
             ·intro w'
              go_simp
              with_reducible rfl
             rotate_left
             ·simp only [Act.put,List.setIfInBounds_toArray,List.set_cons_zero,List.set_cons_succ,i64_w,i32_w]
              rfl
             refine pure_ (i:=13) (N:=some 30) (v:=?_) (a':=?_) #[t',t',f',t',t',f',f',f',t',t',f',f',f',t',f',f',f',f',f'] rfl rfl (any_of HT_.out (by kernel_rfl)) (fun _ _ _ h=>h) (Or.inl ⟨by rfl,?_⟩) ?_ ?_
             rotate_left
             ·intro w'
              go_simp
              with_reducible rfl
             rotate_left
             ·simp only [Act.put,List.setIfInBounds_toArray,List.set_cons_zero,List.set_cons_succ,i64_w,i32_w]
              rfl
             refine take_ (i:=2) (N:=some 19) (v:=?_) (a':=?_) #[t',t',t',t',t',f',f',f',t',t',f',f',f',t',f',f',f',f',f'] rfl rfl (take_ofW HT_.out HW_.out (by kernel_rfl)) (fun _ _ _ h=>h) (Or.inl ⟨by rfl,?_⟩) hHeld ?_ ?_
             rotate_left
             ·rintro w' ⟨s0,s1,s2,s3,s4⟩
              go_simp
              with_reducible rfl
             rotate_left
             ·simp only [Act.put,List.setIfInBounds_toArray,List.set_cons_zero,List.set_cons_succ,i64_w,i32_w]
              rfl
             refine take_ (i:=5) (N:=some 22) (v:=?_) (a':=?_) #[t',t',t',t',t',t',f',f',t',t',f',f',f',t',f',f',f',f',f'] rfl rfl (take_ofW HT_.out HW_.out (by kernel_rfl)) (fun _ _ _ h=>h) (Or.inl ⟨by rfl,?_⟩) hHeld ?_ ?_
             rotate_left
             ·rintro w' ⟨s0,s1,s2,s3,s4⟩
              go_simp
              with_reducible rfl
             rotate_left
             ·simp only [Act.put,List.setIfInBounds_toArray,List.set_cons_zero,List.set_cons_succ,i64_w,i32_w]
              rfl
             refine pure_ (i:=6) (N:=some 23) (v:=?_) (a':=?_) #[t',t',t',t',t',t',t',f',t',t',f',f',f',t',f',f',f',f',f'] rfl rfl (any_of HT_.out (by kernel_rfl)) (fun _ _ _ h=>h) (Or.inl ⟨by rfl,?_⟩) ?_ ?_
             rotate_left
             ·intro w'
              go_simp
              with_reducible rfl
             rotate_left
             ·simp only [Act.put,List.setIfInBounds_toArray,List.set_cons_zero,List.set_cons_succ,i64_w,i32_w]
              rfl
             refine take_ (i:=7) (N:=some 24) (v:=?_) (a':=?_) #[t',t',t',t',t',t',t',t',t',t',f',f',f',t',f',f',f',f',f'] rfl rfl (take_ofW HT_.out HW_.out (by kernel_rfl)) (fun _ _ _ h=>h) (Or.inl ⟨by rfl,?_⟩) hHeld ?_ ?_
             rotate_left
             ·rintro w' ⟨s0,s1,s2,s3,s4⟩
              go_simp
              with_reducible rfl
             rotate_left
             ·simp only [Act.put,List.setIfInBounds_toArray,List.set_cons_zero,List.set_cons_succ,i64_w,i32_w]
              rfl
             refine take_ (i:=10) (N:=some 27) (v:=?_) (a':=?_) #[t',t',t',t',t',t',t',t',t',t',t',f',f',t',f',f',f',f',f'] rfl rfl (take_ofW HT_.out HW_.out (by kernel_rfl)) (fun _ _ _ h=>h) (Or.inl ⟨by rfl,?_⟩) hHeld ?_ ?_
             rotate_left
             ·rintro w' ⟨s0,s1,s2,s3,s4⟩
              go_simp
              with_reducible rfl
             rotate_left
             ·simp only [Act.put,List.setIfInBounds_toArray,List.set_cons_zero,List.set_cons_succ,i64_w,i32_w]
              rfl
             refine pure_ (i:=11) (N:=some 28) (v:=?_) (a':=?_) #[t',t',t',t',t',t',t',t',t',t',t',t',f',t',f',f',f',f',f'] rfl rfl (any_of HT_.out (by kernel_rfl)) (fun _ _ _ h=>h) (Or.inl ⟨by rfl,?_⟩) ?_ ?_
             rotate_left
             ·intro w'
              go_simp
              with_reducible rfl
             rotate_left
             ·simp only [Act.put,List.setIfInBounds_toArray,List.set_cons_zero,List.set_cons_succ,i64_w,i32_w]
              rfl
             refine take_ (i:=12) (N:=some 29) (v:=?_) (a':=?_) #[t',t',t',t',t',t',t',t',t',t',t',t',t',t',f',f',f',f',f'] rfl rfl (take_ofW HT_.out HW_.out (by kernel_rfl)) (fun _ _ _ h=>h) (Or.inl ⟨by rfl,?_⟩) hHeld ?_ ?_
             rotate_left
             ·rintro w' ⟨s0,s1,s2,s3,s4⟩
              go_simp
              with_reducible rfl
             rotate_left
             ·simp only [Act.put,List.setIfInBounds_toArray,List.set_cons_zero,List.set_cons_succ,i64_w,i32_w]
              rfl
             refine take_ (i:=14) (N:=some 31) (v:=?_) (a':=?_) #[t',t',t',t',t',t',t',t',t',t',t',t',t',t',t',f',f',f',f'] rfl rfl (take_ofW HT_.out HW_.out (by kernel_rfl)) (fun _ _ _ h=>h) (Or.inl ⟨by rfl,?_⟩) hHeld ?_ ?_
             rotate_left
             ·rintro w' ⟨s0,s1,s2,s3,s4⟩
              go_simp
              with_reducible rfl
             rotate_left
             ·simp only [Act.put,List.setIfInBounds_toArray,List.set_cons_zero,List.set_cons_succ,i64_w,i32_w]
              rfl
             refine pure_ (i:=15) (N:=some 32) (v:=?_) (a':=?_) #[t',t',t',t',t',t',t',t',t',t',t',t',t',t',t',t',f',f',f'] rfl rfl (any_of HT_.out (by kernel_rfl)) (fun _ _ _ h=>h) (Or.inl ⟨by rfl,?_⟩) ?_ ?_
             rotate_left
             ·intro w'
              go_simp
              with_reducible rfl
             rotate_left
             ·simp only [Act.put,List.setIfInBounds_toArray,List.set_cons_zero,List.set_cons_succ,i64_w,i32_w]
              rfl
             refine pure_ (i:=16) (N:=some 33) (v:=?_) (a':=?_) #[t',t',t',t',t',t',t',t',t',t',t',t',t',t',t',t',t',f',f'] rfl rfl (any_of HT_.out (by kernel_rfl)) (fun _ _ _ h=>h) (Or.inl ⟨by rfl,?_⟩) ?_ ?_
             rotate_left
             ·intro w'
              go_simp
              with_reducible rfl
             rotate_left
             ·simp only [Act.put,List.setIfInBounds_toArray,List.set_cons_zero,List.set_cons_succ,i64_w,i32_w]
              rfl
             refine pure_ (i:=17) (N:=some 34) (v:=?_) (a':=?_) #[t',t',t',t',t',t',t',t',t',t',t',t',t',t',t',t',t',t',f'] rfl rfl (any_of HT_.out (by kernel_rfl)) (fun _ _ _ h=>h) (Or.inl ⟨by rfl,?_⟩) ?_ ?_
             rotate_left
             ·intro w'
              go_simp
              with_reducible rfl
             rotate_left
             ·simp only [Act.put,List.setIfInBounds_toArray,List.set_cons_zero,List.set_cons_succ,i64_w,i32_w]
              rfl
             refine last_ (i:=18) (N:=none) #[t',t',t',t',t',t',t',t',t',t',t',t',t',t',t',t',t',t',t'] rfl rfl (one_of HT_.out (by kernel_rfl)) (by decide) (fun K hK=>?_)
             refine skip_ (w1:=?_) (by rfl) rfl ?_ ?_
             rotate_left
             ·go_simp
              rfl
             refine hK.out _ _ ?_
             clear hK K
             refine done_ (done_of HT_.out (by kernel_rfl)) ?_
             try go_wp2
             have n0_:Aside0 (Kd.R (Kd.int .i64) 3 (w23.setCell ⟨go15,(((rd_T79 l0 x13_1).f0):Int).toNat,none⟩ (.int .i64 ji14)) w.heap.size (fun _=>True) (.slice (some ⟨go15,0,none⟩) x5_1.length co24) y488):=⟨by(with_reducible repeat(first|apply Kd.R_alloc|apply Kd.R_drewN|apply Kd.R_drew));exact HQ25.out⟩
             have n1_:Aside0 ((w23.setCell ⟨go15,(((rd_T79 l0 x13_1).f0):Int).toNat,none⟩ (.int .i64 ji14)).heap[gb485]?=some (.cells #[.int .i64 ((rd_T79 l0 x13_1).f0),.int .i64 ((rd_T79 l0 x13_1).f1),.int .i64 ((rd_T79 l0 x13_1).f2)] 79 (0,0))):=⟨by(with_reducible repeat(first|refine blk_drewN ?_ _|refine blk_drew ?_ |refine blk_alloc ?_ _));refine blk_far ?_ (by have h_:=Kd.R_ne HO_5.out BK485.out (by decide);intro e_;exact h_ (by rw [e_];rfl)) _;(with_reducible repeat(first|refine blk_drewN ?_ _|refine blk_drew ?_ |refine blk_alloc ?_ _));exact BK485.out⟩
             have n2_:Aside0 (Below w.heap.size w (w23.setCell ⟨go15,(((rd_T79 l0 x13_1).f0):Int).toNat,none⟩ (.int .i64 ji14))):=⟨by repeat(first|(with_reducible first|exact HB.out|apply below_alloc|apply pw_below_drewN|apply below_drew1|refine below_set ?_ GB15.out|refine below_set ?_ GE485.out)|exact HB.out)⟩
             (try clear HO_5)
             (try clear BK485)
             (try clear HB)
             (try simp only [show ∀ (W_:World) (n_:Nat) (a_:Addr) (v_:Value),(World.drewN W_ n_).setCell a_ v_= (World.setCell W_ a_ v_).drewN n_ from fun _ _ _ _=>rfl])
             generalize (w23.setCell ⟨go15,(((rd_T79 l0 x13_1).f0):Int).toNat,none⟩ (.int .i64 ji14))=w26 at n0_ n1_ n2_ ⊢
             have HO_5:=n0_
             have BK485:=n1_
             have HB:=n2_
             clear n0_ n1_ n2_
             have n0_:=Aside0.mk (Kd.R_drew HO_5.out)
             have n1_:=Aside0.mk (blk_drew BK485.out)
             have n2_:=Aside0.mk (below_drew1 HB.out)
             clear HO_5
             clear BK485
             clear HB
             have HO_5:=n0_
             have BK485:=n1_
             have HB:=n2_
             clear n0_ n1_ n2_
             have p489: 0≤ (((rd_T79 l0 x13_1).f1):Int):=of_decide_eq_true zq1
             have q489:((rd_T79 l0 x13_1).f1)< (y488.length:Int):=(by have h_:(((rd_T79 l0 x13_1).f1):Int)< ((x5_1.length:Int):Int):=of_decide_eq_true zq1;first|(have e_:=(Kd.R_reads' HO_5.out).1;omega)|simpa only [Ny488.out,List.length_set] using h_)
             have ql489:((((rd_T79 l0 x13_1).f1):Int)< ((x5_1.length:Int):Int))=True:=eq_true (of_decide_eq_true zq1)
             obtain⟨ad489,e489,hx489_0⟩:=Kd.at_int (Kd.R_reads' HO_5.out).2.2 ((rd_T79 l0 x13_1).f1) p489 q489
             obtain rfl:(⟨go15,0,none⟩ :Addr)=ad489:=(by injection e489)
             (first|simp only [add_plain] at hx489_0|simp only [add_at] at hx489_0|simp only [Addr.add,Nat.zero_add] at hx489_0|skip)
             replace p489:=eq_true p489
             replace q489:=eq_true q489
             have p490: 0≤ (((rd_T79 l0 x13_1).f0):Int):=of_decide_eq_true zq1
             have q490:((rd_T79 l0 x13_1).f0)< (l1.length:Int):=of_decide_eq_true zq1
             obtain⟨ad490,e490,hx490_0⟩:=Kd.at_int HR1.out ((rd_T79 l0 x13_1).f0) p490 q490
             have hw490_0:=hx490_0
             obtain rfl:ad487=ad490:=(by injection e490)
             replace hx490_0:=(HB.out.cell (World.block_lt_of_cell? w _ hx490_0)).trans hx490_0
             replace p490:=eq_true p490
             replace q490:=eq_true q490
             have p19: 0≤ (((rd_T79 l0 x13_1).f1):Int):=of_decide_eq_true zq1
             have q19:(((rd_T79 l0 x13_1).f1):Int)< ((x5_1.length:Int):Int):=of_decide_eq_true zq1
             obtain⟨hx19_0,hf19_0⟩:=Kd.R_celln 0 HO_5.out (((rd_T79 l0 x13_1).f1):Int) p19 q19
             replace p19:=eq_true p19
             replace q19:=eq_true q19
             have HP28:=Kd.R_putn HO_5.out (((rd_T79 l0 x13_1).f1):Int) ji18
             rw [← Ny491.out] at HP28
             have HQ28:=Aside0.mk HP28
             clear HP28
             refine start_ (n:=19) (S:=fun w'=>w'.cell? ⟨gb485,0,none⟩=some (.int .i64 ((rd_T79 l0 x13_1).f0))∧w'.cell? ⟨gb485,1,none⟩=some (.int .i64 ((rd_T79 l0 x13_1).f1))∧w'.cell? ⟨gb485,2,none⟩=some (.int .i64 ((rd_T79 l0 x13_1).f2))∧w'.cell? ⟨go15,(((rd_T79 l0 x13_1).f1)).toNat,none⟩=some (.int .i64 (rd y488 ((rd_T79 l0 x13_1).f1)))∧w'.cell? (ad487.add (((rd_T79 l0 x13_1).f0)).toNat)=some (.int .i64 (rd l1 ((rd_T79 l0 x13_1).f0)))) (ds:= [18]) #[f',f',f',f',f',f',f',f',f',f',f',f',f',f',f',f',f',f',f'] (by kernel_rfl) rfl rfl ⟨(blk_cell BK485.out 0).trans rfl,(blk_cell BK485.out 1).trans rfl,(blk_cell BK485.out 2).trans rfl,hx489_0,((HB.out.cell (World.block_lt_of_cell? w _ hw490_0)).trans hw490_0)⟩ (fun hHeld=>?_);refine with_tabW impl_relaxed.tab6 impl_relaxed.bits6 (fun HT_ HW_=>?_)
             generalize w26.drew=w27 at HO_5 BK485 HB HQ25 HQ28 hf19_0 hx19_0 hx489_0 hx490_0 hHeld ⊢
             refine pure_ (i:=0) (N:=some 35) (v:=?_) (a':=?_) #[t',f',f',f',f',f',f',f',f',f',f',f',f',f',f',f',f',f',f'] rfl rfl (any_of HT_.out (by kernel_rfl)) (fun _ _ _ h=>h) (Or.inl ⟨by rfl,?_⟩) ?_ ?_
             rotate_left
             ·intro w'
              go_simp
              with_reducible rfl
             rotate_left
             ·simp only [Act.put,List.setIfInBounds_toArray,List.set_cons_zero,List.set_cons_succ,i64_w,i32_w]
              rfl
             refine pure_ (i:=1) (N:=some 36) (v:=?_) (a':=?_) #[t',t',f',f',f',f',f',f',f',f',f',f',f',f',f',f',f',f',f'] rfl rfl (any_of HT_.out (by kernel_rfl)) (fun _ _ _ h=>h) (Or.inl ⟨by rfl,?_⟩) ?_ ?_
             rotate_left
             ·intro w'
              go_simp
              with_reducible rfl
             rotate_left
             ·simp only [Act.put,List.setIfInBounds_toArray,List.set_cons_zero,List.set_cons_succ,i64_w,i32_w]
              rfl
             refine pure_ (i:=3) (N:=some 38) (v:=?_) (a':=?_) #[t',t',f',t',f',f',f',f',f',f',f',f',f',f',f',f',f',f',f'] rfl rfl (any_of HT_.out (by kernel_rfl)) (fun _ _ _ h=>h) (Or.inl ⟨by rfl,?_⟩) ?_ ?_
             rotate_left
             ·intro w'
              go_simp
              with_reducible rfl
             rotate_left
             ·simp only [Act.put,List.setIfInBounds_toArray,List.set_cons_zero,List.set_cons_succ,i64_w,i32_w]
              rfl
             refine pure_ (i:=4) (N:=some 39) (v:=?_) (a':=?_) #[t',t',f',t',t',f',f',f',f',f',f',f',f',f',f',f',f',f',f'] rfl rfl (any_of HT_.out (by kernel_rfl)) (fun _ _ _ h=>h) (Or.inl ⟨by rfl,?_⟩) ?_ ?_
             rotate_left
             ·intro w'
              go_simp
              with_reducible rfl
             rotate_left
             ·simp only [Act.put,List.setIfInBounds_toArray,List.set_cons_zero,List.set_cons_succ,i64_w,i32_w]
              rfl
             refine pure_ (i:=8) (N:=some 43) (v:=?_) (a':=?_) #[t',t',f',t',t',f',f',f',t',f',f',f',f',f',f',f',f',f',f'] rfl rfl (any_of HT_.out (by kernel_rfl)) (fun _ _ _ h=>h) (Or.inl ⟨by rfl,?_⟩) ?_ ?_
             rotate_left
             ·intro w'
              go_simp
              with_reducible rfl
             rotate_left
             ·simp only [Act.put,List.setIfInBounds_toArray,List.set_cons_zero,List.set_cons_succ,i64_w,i32_w]
              rfl
             refine pure_ (i:=9) (N:=some 44) (v:=?_) (a':=?_) #[t',t',f',t',t',f',f',f',t',t',f',f',f',f',f',f',f',f',f'] rfl rfl (any_of HT_.out (by kernel_rfl)) (fun _ _ _ h=>h) (Or.inl ⟨by rfl,?_⟩) ?_ ?_
             rotate_left
             ·intro w'
              go_simp
              with_reducible rfl
             rotate_left
             ·simp only [Act.put,List.setIfInBounds_toArray,List.set_cons_zero,List.set_cons_succ,i64_w,i32_w]
              rfl
             refine pure_ (i:=13) (N:=some 48) (v:=?_) (a':=?_) #[t',t',f',t',t',f',f',f',t',t',f',f',f',t',f',f',f',f',f'] rfl rfl (any_of HT_.out (by kernel_rfl)) (fun _ _ _ h=>h) (Or.inl ⟨by rfl,?_⟩) ?_ ?_
             rotate_left
             ·intro w'
              go_simp
              with_reducible rfl
             rotate_left
             ·simp only [Act.put,List.setIfInBounds_toArray,List.set_cons_zero,List.set_cons_succ,i64_w,i32_w]
              rfl
             refine take_ (i:=2) (N:=some 37) (v:=?_) (a':=?_) #[t',t',t',t',t',f',f',f',t',t',f',f',f',t',f',f',f',f',f'] rfl rfl (take_ofW HT_.out HW_.out (by kernel_rfl)) (fun _ _ _ h=>h) (Or.inl ⟨by rfl,?_⟩) hHeld ?_ ?_
             rotate_left
             ·rintro w' ⟨s0,s1,s2,s3,s4⟩
              go_simp
              with_reducible rfl
             rotate_left
             ·simp only [Act.put,List.setIfInBounds_toArray,List.set_cons_zero,List.set_cons_succ,i64_w,i32_w]
              rfl
             refine take_ (i:=5) (N:=some 40) (v:=?_) (a':=?_) #[t',t',t',t',t',t',f',f',t',t',f',f',f',t',f',f',f',f',f'] rfl rfl (take_ofW HT_.out HW_.out (by kernel_rfl)) (fun _ _ _ h=>h) (Or.inl ⟨by rfl,?_⟩) hHeld ?_ ?_
             rotate_left
             ·rintro w' ⟨s0,s1,s2,s3,s4⟩
              go_simp
              with_reducible rfl
             rotate_left
             ·simp only [Act.put,List.setIfInBounds_toArray,List.set_cons_zero,List.set_cons_succ,i64_w,i32_w]
              rfl
             refine pure_ (i:=6) (N:=some 41) (v:=?_) (a':=?_) #[t',t',t',t',t',t',t',f',t',t',f',f',f',t',f',f',f',f',f'] rfl rfl (any_of HT_.out (by kernel_rfl)) (fun _ _ _ h=>h) (Or.inl ⟨by rfl,?_⟩) ?_ ?_
             rotate_left
             ·intro w'
              go_simp
              with_reducible rfl
             rotate_left
             ·simp only [Act.put,List.setIfInBounds_toArray,List.set_cons_zero,List.set_cons_succ,i64_w,i32_w]
              rfl
             refine take_ (i:=7) (N:=some 42) (v:=?_) (a':=?_) #[t',t',t',t',t',t',t',t',t',t',f',f',f',t',f',f',f',f',f'] rfl rfl (take_ofW HT_.out HW_.out (by kernel_rfl)) (fun _ _ _ h=>h) (Or.inl ⟨by rfl,?_⟩) hHeld ?_ ?_
             rotate_left
             ·rintro w' ⟨s0,s1,s2,s3,s4⟩
              go_simp
              with_reducible rfl
             rotate_left
             ·simp only [Act.put,List.setIfInBounds_toArray,List.set_cons_zero,List.set_cons_succ,i64_w,i32_w]
              rfl
             refine take_ (i:=10) (N:=some 45) (v:=?_) (a':=?_) #[t',t',t',t',t',t',t',t',t',t',t',f',f',t',f',f',f',f',f'] rfl rfl (take_ofW HT_.out HW_.out (by kernel_rfl)) (fun _ _ _ h=>h) (Or.inl ⟨by rfl,?_⟩) hHeld ?_ ?_
             rotate_left
             ·rintro w' ⟨s0,s1,s2,s3,s4⟩
              go_simp
              with_reducible rfl
             rotate_left
             ·simp only [Act.put,List.setIfInBounds_toArray,List.set_cons_zero,List.set_cons_succ,i64_w,i32_w]
              rfl
             refine pure_ (i:=11) (N:=some 46) (v:=?_) (a':=?_) #[t',t',t',t',t',t',t',t',t',t',t',t',f',t',f',f',f',f',f'] rfl rfl (any_of HT_.out (by kernel_rfl)) (fun _ _ _ h=>h) (Or.inl ⟨by rfl,?_⟩) ?_ ?_
             rotate_left
             ·intro w'
              go_simp
              with_reducible rfl
             rotate_left
             ·simp only [Act.put,List.setIfInBounds_toArray,List.set_cons_zero,List.set_cons_succ,i64_w,i32_w]
              rfl
             refine take_ (i:=12) (N:=some 47) (v:=?_) (a':=?_) #[t',t',t',t',t',t',t',t',t',t',t',t',t',t',f',f',f',f',f'] rfl rfl (take_ofW HT_.out HW_.out (by kernel_rfl)) (fun _ _ _ h=>h) (Or.inl ⟨by rfl,?_⟩) hHeld ?_ ?_
             rotate_left
             ·rintro w' ⟨s0,s1,s2,s3,s4⟩
              go_simp
              with_reducible rfl
             rotate_left
             ·simp only [Act.put,List.setIfInBounds_toArray,List.set_cons_zero,List.set_cons_succ,i64_w,i32_w]
              rfl
             refine take_ (i:=14) (N:=some 49) (v:=?_) (a':=?_) #[t',t',t',t',t',t',t',t',t',t',t',t',t',t',t',f',f',f',f'] rfl rfl (take_ofW HT_.out HW_.out (by kernel_rfl)) (fun _ _ _ h=>h) (Or.inl ⟨by rfl,?_⟩) hHeld ?_ ?_
             rotate_left
             ·rintro w' ⟨s0,s1,s2,s3,s4⟩
              go_simp
              with_reducible rfl
             rotate_left
             ·simp only [Act.put,List.setIfInBounds_toArray,List.set_cons_zero,List.set_cons_succ,i64_w,i32_w]
              rfl
             refine pure_ (i:=15) (N:=some 50) (v:=?_) (a':=?_) #[t',t',t',t',t',t',t',t',t',t',t',t',t',t',t',t',f',f',f'] rfl rfl (any_of HT_.out (by kernel_rfl)) (fun _ _ _ h=>h) (Or.inl ⟨by rfl,?_⟩) ?_ ?_
             rotate_left
             ·intro w'
              go_simp
              with_reducible rfl
             rotate_left
             ·simp only [Act.put,List.setIfInBounds_toArray,List.set_cons_zero,List.set_cons_succ,i64_w,i32_w]
              rfl
             refine pure_ (i:=16) (N:=some 51) (v:=?_) (a':=?_) #[t',t',t',t',t',t',t',t',t',t',t',t',t',t',t',t',t',f',f'] rfl rfl (any_of HT_.out (by kernel_rfl)) (fun _ _ _ h=>h) (Or.inl ⟨by rfl,?_⟩) ?_ ?_
             rotate_left
             ·intro w'
              go_simp
              with_reducible rfl
             rotate_left
             ·simp only [Act.put,List.setIfInBounds_toArray,List.set_cons_zero,List.set_cons_succ,i64_w,i32_w]
              rfl
             refine pure_ (i:=17) (N:=some 52) (v:=?_) (a':=?_) #[t',t',t',t',t',t',t',t',t',t',t',t',t',t',t',t',t',t',f'] rfl rfl (any_of HT_.out (by kernel_rfl)) (fun _ _ _ h=>h) (Or.inl ⟨by rfl,?_⟩) ?_ ?_
             rotate_left
             ·intro w'
              go_simp
              with_reducible rfl
             rotate_left
             ·simp only [Act.put,List.setIfInBounds_toArray,List.set_cons_zero,List.set_cons_succ,i64_w,i32_w]
              rfl
             refine last_ (i:=18) (N:=none) #[t',t',t',t',t',t',t',t',t',t',t',t',t',t',t',t',t',t',t'] rfl rfl (one_of HT_.out (by kernel_rfl)) (by decide) (fun K hK=>?_)
             refine skip_ (w1:=?_) (by rfl) rfl ?_ ?_
             rotate_left
             ·go_simp
              rfl
             refine hK.out _ _ ?_
             clear hK K
             refine done_ (done_of HT_.out (by kernel_rfl)) ?_
             try go_wp2
             go_roundg k1
             case measure=>have:=HK1.out;omega
             case rel=>exact⟨(y491),(wrap64 (x13_1+1)),(by first|rfl|(simp;done)|(simp [*];done)),H',⟨by have:=HK1.out;omega⟩,⟨by(with_reducible repeat(first|apply Kd.R_alloc|apply Kd.R_drewN|apply Kd.R_drew));exact HQ28.out⟩,⟨by repeat(first|(with_reducible first|exact HB.out|apply below_alloc|apply pw_below_drewN|apply below_drew1|refine below_set ?_ GB15.out|refine below_set ?_ GE485.out)|exact HB.out)⟩⟩
            ·rw [if_neg c17] at H
             exact absurd H (by simp)
           ·rw [if_neg c16] at H
            exact absurd H (by simp)
          ·rw [if_neg c13] at H
           exact absurd H (by simp)
         ·rw [if_neg c12] at H
          exact absurd H (by simp)
        ·rw [if_neg c11] at H
         exact absurd H (by simp)
       ·rw [if_neg c10] at H
        exact absurd H (by simp)
      ·rw [if_neg c9] at H
       exact absurd H (by simp)
     ·rw [if_neg c8] at H
      exact absurd H (by simp)
    ·rw [if_neg c7] at H
     have c7b0:decide (x13_1< (l0.length:Int))=false:=decide_eq_false c7
     clear c7
     obtain rfl:=Option.some.inj H
     go_wp2
     go_ret
     exact⟨_,by first|rfl|(simp [errW_none,errW_some]<;>rfl)|(simp [*,errW_none,errW_some]<;>rfl),by(with_reducible repeat(first|apply Kd.R_alloc|apply Kd.R_drewN|apply Kd.R_drew));exact HO_5.out,by repeat(first|(with_reducible first|exact HB.out|apply below_alloc|apply pw_below_drewN|apply below_drew1)|exact HB.out)⟩
 ·rw [if_neg c3] at H
  exact absurd H (by simp)
end Go.Proofs.Ytedegfbheihopaa.P

namespace Go.Proofs.Ytedegfbheihopaa.P
open Go.RowKit Go.Proofs.YtedegfbheihopaaW.PrintWords Go.Proofs.YtedegfbheihopaaW.PrintLast Go.Proofs.YtedegfbheihopaaW.PrintMore
attribute [local go_sem] max2_int min2_int max_two min_two max_three min_three max_four min_four   -- for this text's walks alone
set_option linter.unusedVariables false
set_option linter.unusedSimpArgs false
mutual
def impl_fars.l0:Nat→Int→List (S79)→Int→List Int→Int→Int→Option (List Int)
 | 0,_,_,_,_,_,_=>none
 |k+1,x0,x1,x2,x7,x12,x13=>if x13<x12 then(if 0≤x13 then(if x13< (x7.length:Int) then(impl_fars.l0 k x0 x1 x2 (x7.set (x13:Int).toNat 100000) x12 (wrap64 (x13+1))) else(none)) else(none)) else(if 0≤x2 then(if x2< (x7.length:Int) then(impl_fars.l1 k x1 (x7.set (x2:Int).toNat 0) x0 0) else(none)) else(none))
def impl_fars.l1:Nat→List (S79)→List Int→Int→Int→Option (List Int)
 | 0,_,_,_,_=>none
 |k+1,x1,x7,x23,x24=>if x24<x23 then((impl_relaxed.f k x1 x7).bind fun t497=>(impl_fars.l1 k x1 t497 x23 (wrap64 (x24+1)))) else(some x7)
end
def impl_fars.f (k:Nat) (a0:Int) (l1:List (S79)) (a2:Int):Option (List Int):=if 0≤a0 then(if (a0:Int).toNat≤35184372088832 then((some (List.replicate (a0:Int).toNat 0:List Int)).bind fun y492=>(impl_fars.l0 k a0 l1 a2 y492 (y492.length:Int) 0)) else(none)) else(none)
set_option maxHeartbeats 8000000 in
set_option maxRecDepth 100000 in
theorem impl_fars.calls (k:Nat) (a0:Int) (A1:Option Addr) (c1:Nat) (l1:List (S79)) (a2:Int) (r:List Int) (w:World) (hr1:Kd.C k79 w A1 l1.length l1) (hc1:l1.length≤c1) (h:impl_fars.f k a0 l1 a2=some r):
  Calls Try.prog 85 #[.int .i64 a0,.slice A1 l1.length c1,.int .i64 a2] w fun e w'=> ∃ v0_:Value,e= .returned (v0_)∧Kd.R (Kd.int .i64) 3 w' w.heap.size (fun _=>True) v0_ r∧Below w.heap.size w w':=by
 have HR1:=Aside0.mk hr1
 have HC1:=Aside0.mk hc1
 clear hr1 hc1
 have HB:=Aside0.mk (Below.refl w.heap.size w)
 have H:(if 0≤a0 then(if (a0:Int).toNat≤35184372088832 then((some (List.replicate (a0:Int).toNat 0:List Int)).bind fun y492=>(impl_fars.l0 k a0 l1 a2 y492 (y492.length:Int) 0)) else(none)) else(none))=some r:=h
 clear h
 by_cases c4: 0≤a0
 ·rw [if_pos c4] at H
  have c4b0:=eq_true c4
  have c4b1:decide (0≤a0)=true:=decide_eq_true c4
  clear c4
  by_cases c5:(a0:Int).toNat≤35184372088832
  ·rw [if_pos c5] at H
   have c5b0:=eq_true c5
   have c5b1:decide ((a0:Int).toNat≤35184372088832)=true:=decide_eq_true c5
   clear c5
   obtain⟨y492,hy492⟩ :∃ y_:List Int,y_= (List.replicate (a0:Int).toNat 0):=⟨_,rfl⟩
   replace H:(impl_fars.l0 k a0 l1 a2 y492 (y492.length:Int) 0)=some r:=by first|(rw [hy492];with_reducible exact H)|(have H2_:=(Option.bind_some _ _).symm.trans H;rw [hy492];with_reducible exact H2_)|(have H2_:=(Option.bind_some _ _).symm.trans H;with_reducible exact H2_)|with_reducible exact H|(rw [hy492];exact H)|exact H
   have Ny492:=Aside0.mk hy492
   clear hy492
   have H':=Aside0.mk H
   clear H
   go_enter Try.func85,Try.ntmps85
   go_wp2_with (first|((with_reducible refine gate_dst (N:=10) rfl ?_);refine Kd.R_make (Kd.int .i64) _ 3 rfl (N:=10) rfl 22 _ _ rfl a0 rfl rfl Try.underlying22 (.int .i64 0) 8 info3 rfl (by decide) (by omega) 0 (ok:=fun _=>True) (okp:=fun _=>True) rfl (fun _ hk=>hk) trivial (of_decide_eq_true zq1) (Nat.le_trans (Nat.mul_le_mul_right _ (of_decide_eq_true zq1:a0.toNat≤35184372088832)) (by omega)) (Below.refl _ _) (Nat.le_refl _) ?_;intro v493 w6 ho7 hb hg_ hnew_;clear hg_ hnew_;(first|rw [← Ny492.out] at ho7|(simp only [Int.reduceToNat] at ho7;rw [← Ny492.out] at ho7));have n0_:=Aside0.mk (Kd.R_lower ho7 (below_size (zb0 HB)));have n1_:=Aside0.mk (below_step (zb0 HB) hb);clear HB;have HO494:=n0_;have HB:=n1_;clear n0_ n1_;clear hb ho7;obtain⟨Ao8,co8,eo8⟩:=Kd.R_slice HO494.out;subst eo8))
   go_loopg [13] k (fun kq v13 w'=> ∃ (x7_1:List Int) (x13_1:Int),v13= .int .i64 x13_1∧Aside0 (impl_fars.l0 kq a0 l1 a2 x7_1 (y492.length:Int) x13_1=some r)∧Aside0 (kq≤k)∧Aside0 (Kd.R (Kd.int .i64) 3 w' w.heap.size (fun _=>True) (.slice Ao8 y492.length co8) x7_1)∧Aside0 (Below w.heap.size w w'))
   case atStart=>exact⟨(y492),(0),(by first|rfl|(simp;done)|(simp [*];done)),H',⟨Nat.le_refl _⟩,⟨by(with_reducible repeat(first|apply Kd.R_alloc|apply Kd.R_drewN|apply Kd.R_drew));exact HO494.out⟩,⟨by repeat(first|(with_reducible first|exact HB.out|apply below_alloc|apply pw_below_drewN|apply below_drew1)|exact HB.out)⟩⟩
   case round=>
    clear H'
    try clear c1
    try clear p2
    try clear c4
    try clear c4b0
    try clear c4b1
    try clear c5
    try clear c5b0
    try clear c5b1
    try clear c8
    obtain⟨x7_1,x13_1,rfl,HA,HK1,HO_7,HB⟩:=hrel
    have hl7_1:=(Kd.R_reads' HO_7.out).1
    rw [hl7_1] at HO_7
    (try simp only [hl7_1])
    cases gk with
    |zero=>exact absurd HA.out (by simp [impl_fars.l0])
    |succ k1=>
     have H:=HA.out
     clear HA
     simp only [impl_fars.l0] at H
     by_cases c9:x13_1< (y492.length:Int)
     ·rw [if_pos c9] at H
      have c9b0:decide (x13_1< (y492.length:Int))=true:=decide_eq_true c9
      (try(have c9b0L:=c9b0;simp only [hl7_1] at c9b0L))
      clear c9
      by_cases c10: 0≤x13_1
      ·rw [if_pos c10] at H
       have c10b0:decide (0≤x13_1)=true:=decide_eq_true c10
       clear c10
       by_cases c11:x13_1< (x7_1.length:Int)
       ·rw [if_pos c11] at H
        have c11b0:decide (x13_1< (x7_1.length:Int))=true:=decide_eq_true c11
        (try(have c11b0L:=c11b0;simp only [hl7_1] at c11b0L))
        clear c11
        obtain⟨y495,hy495⟩ :∃ y_:List Int,y_= (x7_1.set (x13_1:Int).toNat 100000):=⟨_,rfl⟩
        replace H:(impl_fars.l0 k1 a0 l1 a2 y495 (y492.length:Int) (wrap64 (x13_1+1)))=some r:=by first|(rw [hy495];with_reducible exact H)|(have H2_:=(Option.bind_some _ _).symm.trans H;rw [hy495];with_reducible exact H2_)|(have H2_:=(Option.bind_some _ _).symm.trans H;with_reducible exact H2_)|with_reducible exact H|(rw [hy495];exact H)|exact H
        have Ny495:=Aside0.mk hy495
        clear hy495
        have H':=Aside0.mk H
        clear H
        have p12: 0≤ (x13_1:Int):=of_decide_eq_true zq1
        have q12:(x13_1:Int)< ((x7_1.length:Int):Int):=of_decide_eq_true zq1
        obtain⟨go12,co12,eo12,gb12,gl12,cl12,HG12⟩:=Kd.R_form HO_7.out (by omega)
        (first|cases eo12|(injection eo12 with ea_ en_ ec_;(first|subst ea_|(injection ea_ with ea_;subst ea_));subst ec_;clear en_))
        have GB12:=Aside0.mk gb12
        have GG12:=Aside0.mk HG12
        clear gb12 gl12 HG12
        obtain⟨hx12_0,hf12_0⟩:=Kd.R_celln 0 HO_7.out (x13_1:Int) p12 q12
        replace p12:=eq_true p12
        replace q12:=eq_true q12
        have HP13:=Kd.R_putg HO_7.out (x13_1:Int) 100000
        go_wp2_with (first|((with_reducible refine gate_store (t:=3) (p:=18) rfl ?_);refine store_event (t:=3) (p:=18) (v:=?vo_w14) (w1:=(wr.setCell ⟨go12,(x13_1:Int).toNat,none⟩ (.int .i64 100000))) ?hg ?ho ?hn ?hr ?_;(case ho=>rfl);(case hg=>rfl);(case hn=>rfl);(case hr=>first|(go_simp;done)|(go_simp;rfl));intro w14 hw;have hg:wr.grownBy w14 (some go12):=(by rw [hw];exact HP13.2);have hp_:Kd.R (Kd.int .i64) 3 w14 w.heap.size (fun _=>True) (.slice (some ⟨go12,0,none⟩) x7_1.length co8) y495:=(by rw [hw,Ny495.out];exact HP13.1);clear HP13;have n0_:=Aside0.mk (hp_);have n1_:=Aside0.mk ((by rw [hw];exact below_set (HB.out) GB12.out:Below w.heap.size w w14));clear HO_7;clear HB;have HO_7:=n0_;have HB:=n1_;clear n0_ n1_;clear hg hw hp_))
        (try simp only [← hl7_1])
        go_roundg k1
        case measure=>have:=HK1.out;omega
        case rel=>exact⟨(y495),(wrap64 (x13_1+1)),(by first|rfl|(simp;done)|(simp [*];done)),H',⟨by have:=HK1.out;omega⟩,⟨by(try simp only [hl7_1]);(with_reducible repeat(first|apply Kd.R_alloc|apply Kd.R_drewN|apply Kd.R_drew));exact HO_7.out⟩,⟨by repeat(first|(with_reducible first|exact HB.out|apply below_alloc|apply pw_below_drewN|apply below_drew1)|exact HB.out)⟩⟩
       ·rw [if_neg c11] at H
        exact absurd H (by simp)
      ·rw [if_neg c10] at H
       exact absurd H (by simp)
     ·rw [if_neg c9] at H
      have c9b0:decide (x13_1< (y492.length:Int))=false:=decide_eq_false c9
      (try(have c9b0L:=c9b0;simp only [hl7_1] at c9b0L))
      clear c9
      by_cases c15: 0≤a2
      ·rw [if_pos c15] at H
       have c15b0:decide (0≤a2)=true:=decide_eq_true c15
       clear c15
       by_cases c16:a2< (x7_1.length:Int)
       ·rw [if_pos c16] at H
        have c16b0:decide (a2< (x7_1.length:Int))=true:=decide_eq_true c16
        (try(have c16b0L:=c16b0;simp only [hl7_1] at c16b0L))
        clear c16
        obtain⟨y496,hy496⟩ :∃ y_:List Int,y_= (x7_1.set (a2:Int).toNat 0):=⟨_,rfl⟩
        replace H:(impl_fars.l1 k1 l1 y496 a0 0)=some r:=by first|(rw [hy496];with_reducible exact H)|(have H2_:=(Option.bind_some _ _).symm.trans H;rw [hy496];with_reducible exact H2_)|(have H2_:=(Option.bind_some _ _).symm.trans H;with_reducible exact H2_)|with_reducible exact H|(rw [hy496];exact H)|exact H
        have Ny496:=Aside0.mk hy496
        clear hy496
        have H':=Aside0.mk H
        clear H
        have p17: 0≤ (a2:Int):=of_decide_eq_true zq1
        have q17:(a2:Int)< ((x7_1.length:Int):Int):=of_decide_eq_true zq1
        obtain⟨go17,co17,eo17,gb17,gl17,cl17,HG17⟩:=Kd.R_form HO_7.out (by omega)
        (first|cases eo17|(injection eo17 with ea_ en_ ec_;(first|subst ea_|(injection ea_ with ea_;subst ea_));subst ec_;clear en_))
        have GB17:=Aside0.mk gb17
        have GG17:=Aside0.mk HG17
        clear gb17 gl17 HG17
        obtain⟨hx17_0,hf17_0⟩:=Kd.R_celln 0 HO_7.out (a2:Int) p17 q17
        replace p17:=eq_true p17
        replace q17:=eq_true q17
        have HP18:=Kd.R_putg HO_7.out (a2:Int) 0
        go_wp2_with (first|((with_reducible refine gate_store (t:=3) (p:=22) rfl ?_);refine store_event (t:=3) (p:=22) (v:=?vo_w19) (w1:=(wr.setCell ⟨go17,(a2:Int).toNat,none⟩ (.int .i64 0))) ?hg ?ho ?hn ?hr ?_;(case ho=>rfl);(case hg=>rfl);(case hn=>rfl);(case hr=>first|(go_simp;done)|(go_simp;rfl));intro w19 hw;have hg:wr.grownBy w19 (some go17):=(by rw [hw];exact HP18.2);have hp_:Kd.R (Kd.int .i64) 3 w19 w.heap.size (fun _=>True) (.slice (some ⟨go17,0,none⟩) x7_1.length co8) y496:=(by rw [hw,Ny496.out];exact HP18.1);clear HP18;have n0_:=Aside0.mk (hp_);have n1_:=Aside0.mk ((by rw [hw];exact below_set (HB.out) GB17.out:Below w.heap.size w w19));clear HO_7;clear HB;have HO_7:=n0_;have HB:=n1_;clear n0_ n1_;clear hg hw hp_))
        go_loopg [7,24] k1 (fun kq v7 v24 w'=> ∃ (x7_2:List Int) (x24_2:Int),v24= .int .i64 x24_2∧Aside0 (impl_fars.l1 kq l1 x7_2 a0 x24_2=some r)∧Aside0 (kq≤k1)∧Aside0 (Kd.R (Kd.int .i64) 3 w' w.heap.size (fun _=>True) v7 x7_2)∧Aside0 (Below w.heap.size w w'))
        case atStart=>exact⟨(y496),(0),(by first|rfl|(simp;done)|(simp [*];done)),H',⟨Nat.le_refl _⟩,⟨by(try simp only [hl7_1]);(with_reducible repeat(first|apply Kd.R_alloc|apply Kd.R_drewN|apply Kd.R_drew));exact HO_7.out⟩,⟨by repeat(first|(with_reducible first|exact HB.out|apply below_alloc|apply pw_below_drewN|apply below_drew1)|exact HB.out)⟩⟩
        case round=>
         clear H'
         try clear c1
         try clear p1
         try clear q1
         try clear hx1
         try clear p2
         try clear c4
         try clear c4b0
         try clear c4b1
         try clear c5
         try clear c5b0
         try clear c5b1
         try clear p6
         try clear c8
         try clear c9
         try clear c9b0
         try clear c10
         try clear c10b0
         try clear c11
         try clear c11b0
         try clear p12
         try clear q12
         try clear hx12
         try clear hf12
         try clear c15
         try clear c15b0
         try clear c16
         try clear c16b0
         try clear p17
         try clear q17
         try clear hx17
         try clear hf17
         try clear hx12_0
         try clear hx17_0
         try clear p12
         try clear p17
         try clear p2
         try clear q12
         try clear q17
         obtain⟨x7_2,x24_2,rfl,HA,HK2,HO_7,HB⟩:=hrel
         cases gk with
         |zero=>exact absurd HA.out (by simp [impl_fars.l1])
         |succ k2=>
          have H:=HA.out
          clear HA
          simp only [impl_fars.l1] at H
          by_cases c20:x24_2<a0
          ·rw [if_pos c20] at H
           have c20b0:decide (x24_2<a0)=true:=decide_eq_true c20
           clear c20
           replace H:=Option.bind_eq_some_iff.mp H
           obtain⟨t497,A210,H⟩:=H
           replace H:(impl_fars.l1 k2 l1 t497 a0 (wrap64 (x24_2+1)))=some r:=H
           have A21:=Aside0.mk A210
           clear A210
           have H':=Aside0.mk H
           clear H
           obtain⟨Ao22,co22,eo22⟩:=Kd.R_slice HO_7.out
           subst eo22
           go_wp2_with (first|((with_reducible refine gate_callee (f:=102) rfl ?_);refine goesL_ (some 28) rfl rfl Try.func102 (by kernel_rfl) rfl #[.slice A1 l1.length c1,.slice Ao22 x7_2.length co22] rfl zq2 ?_;(with_reducible refine(impl_relaxed.calls k2 _ _ l1 _ _ x7_2 t497 _ ?side1 ?side2 ?side3 ?side4 A21.out).mono ?_);(case side1=>repeat(first|exact(Kd.C_below HR1.out HB.out)|(with_reducible refine Kd.C_alloc ?_ _)|(with_reducible refine Kd.C_drewN ?_ _)|(with_reducible refine Kd.C_drew ?_)));(case side2=>exact HC1.out);(case side3=>repeat(first|exact(Kd.R_reads' HO_7.out).2.2|(with_reducible refine Kd.C_alloc ?_ _)|(with_reducible refine Kd.C_drewN ?_ _)|(with_reducible refine Kd.C_drew ?_)));(case side4=>exact(Kd.R_reads' HO_7.out).2.1);rintro e w23 ⟨v498,rfl,ho0,hb⟩;refine⟨_,rfl,?_⟩;have n0_:=Aside0.mk (Kd.R_elder' (zq4 HO_7) (Kd.R_base ho0) hb);have n1_:=Aside0.mk (Kd.R_lower (Kd.R_new' ho0 (Kd.R_lt (zq4 HO_7))) (below_size (zb0 HB)));have n2_:=Aside0.mk (below_step (zb0 HB) hb);clear HO_7;clear HB;have HO_7:=n0_;have HO499:=n1_;have HB:=n2_;clear n0_ n1_ n2_;(try clear hb);(try clear hb2);(try clear hk);(try clear hi);(try clear ho0)))
           go_roundg k2
           case measure=>have:=HK1.out;have:=HK2.out;omega
           case rel=>exact⟨(t497),(wrap64 (x24_2+1)),(by first|rfl|(simp;done)|(simp [*];done)),H',⟨by have:=HK1.out;have:=HK2.out;omega⟩,⟨by(try simp only [hl7_1]);(with_reducible repeat(first|apply Kd.R_alloc|apply Kd.R_drewN|apply Kd.R_drew));exact Kd.R_mono HO499.out (fun _ hk=>trivial)⟩,⟨by repeat(first|(with_reducible first|exact HB.out|apply below_alloc|apply pw_below_drewN|apply below_drew1)|exact HB.out)⟩⟩
          ·rw [if_neg c20] at H
           have c20b0:decide (x24_2<a0)=false:=decide_eq_false c20
           clear c20
           obtain rfl:=Option.some.inj H
           go_wp2
           go_ret
           exact⟨_,by first|rfl|(simp [errW_none,errW_some]<;>rfl)|(simp [*,errW_none,errW_some]<;>rfl),by(with_reducible repeat(first|apply Kd.R_alloc|apply Kd.R_drewN|apply Kd.R_drew));exact HO_7.out,by repeat(first|(with_reducible first|exact HB.out|apply below_alloc|apply pw_below_drewN|apply below_drew1)|exact HB.out)⟩
       ·rw [if_neg c16] at H
        exact absurd H (by simp)
      ·rw [if_neg c15] at H
       exact absurd H (by simp)
  ·rw [if_neg c5] at H
   exact absurd H (by simp)
 ·rw [if_neg c4] at H
  exact absurd H (by simp)
def impl_near.l0:Nat→List (S79)→Int→List Int→Int→Int→Option (List Int)
 | 0,_,_,_,_,_=>none
 |k+1,x1,x2,x7,x9,x10=>if x10<x9 then((impl_cost.f k x1 x2 x10).bind fun t500=>(if t500 > 0 then(if x7.length< 17592186044416 then(impl_near.l0 k x1 x2 (x7++ [x10]) x9 (wrap64 (x10+1))) else(none)) else(impl_near.l0 k x1 x2 x7 x9 (wrap64 (x10+1))))) else(some x7)
def impl_near.f (k:Nat) (a0:Int) (l1:List (S79)) (a2:Int):Option (List Int):=impl_near.l0 k l1 a2 ([] :List Int) a0 0
set_option maxHeartbeats 8000000 in
set_option maxRecDepth 100000 in
theorem impl_near.calls (k:Nat) (a0:Int) (A1:Option Addr) (c1:Nat) (l1:List (S79)) (a2:Int) (r:List Int) (w:World) (hr1:Kd.C k79 w A1 l1.length l1) (hc1:l1.length≤c1) (h:impl_near.f k a0 l1 a2=some r):
  Calls Try.prog 107 #[.int .i64 a0,.slice A1 l1.length c1,.int .i64 a2] w fun e w'=> ∃ v0_:Value,e= .returned (v0_)∧Kd.R (Kd.int .i64) 3 w' w.heap.size (fun _=>True) v0_ r∧Below w.heap.size w w':=by
 have HR1:=Aside0.mk hr1
 have HC1:=Aside0.mk hc1
 clear hr1 hc1
 have HB:=Aside0.mk (Below.refl w.heap.size w)
 have H:(impl_near.l0 k l1 a2 ([] :List Int) a0 0)=some r:=h
 clear h
 have H':=Aside0.mk H
 clear H
 go_enter Try.func107,Try.ntmps107
 go_wp2
 go_loopg [7,10] k (fun kq v7 v10 w'=> ∃ (x7_1:List Int) (x10_1:Int),v10= .int .i64 x10_1∧Aside0 (impl_near.l0 kq l1 a2 x7_1 a0 x10_1=some r)∧Aside0 (kq≤k)∧Aside0 (Kd.R (Kd.int .i64) 3 w' w.heap.size (fun _=>True) v7 x7_1)∧Aside0 (Below w.heap.size w w'))
 case atStart=>exact⟨(([] :List Int)),(0),(by first|rfl|(simp;done)|(simp [*];done)),H',⟨Nat.le_refl _⟩,⟨by first|exact Kd.R_nil _ _ _ _ _|exact Kd.N_nil _ _ _ _ _|exact Kd.V_nil _ _ _ _ _|exact Kd.Q_nil _ _ _ _ _|exact Kd.S_nil _ _ _ _ _⟩,⟨by repeat(first|(with_reducible first|exact HB.out|apply below_alloc|apply pw_below_drewN|apply below_drew1)|exact HB.out)⟩⟩
 case round=>
  clear H'
  try clear c1
  try clear p2
  obtain⟨x7_1,x10_1,rfl,HA,HK1,HO_7,HB⟩:=hrel
  cases gk with
  |zero=>exact absurd HA.out (by simp [impl_near.l0])
  |succ k1=>
   have H:=HA.out
   clear HA
   simp only [impl_near.l0] at H
   by_cases c4:x10_1<a0
   ·rw [if_pos c4] at H
    have c4b0:decide (x10_1<a0)=true:=decide_eq_true c4
    clear c4
    replace H:=Option.bind_eq_some_iff.mp H
    obtain⟨t500,A50,H⟩:=H
    replace H:(if t500 > 0 then(if x7_1.length< 17592186044416 then(impl_near.l0 k1 l1 a2 (x7_1++ [x10_1]) a0 (wrap64 (x10_1+1))) else(none)) else(impl_near.l0 k1 l1 a2 x7_1 a0 (wrap64 (x10_1+1))))=some r:=H
    have A5:=Aside0.mk A50
    clear A50
    by_cases c6:t500 > 0
    ·rw [if_pos c6] at H
     have c6b0:decide (0<t500)=true:=decide_eq_true c6
     clear c6
     by_cases c7:x7_1.length< 17592186044416
     ·rw [if_pos c7] at H
      have LMc7:=Aside0.mk c7
      clear c7
      obtain⟨y501,hy501⟩ :∃ y_:List Int,y_= (x7_1++ [x10_1]):=⟨_,rfl⟩
      replace H:(impl_near.l0 k1 l1 a2 y501 a0 (wrap64 (x10_1+1)))=some r:=by first|(rw [hy501];with_reducible exact H)|(have H2_:=(Option.bind_some _ _).symm.trans H;rw [hy501];with_reducible exact H2_)|(have H2_:=(Option.bind_some _ _).symm.trans H;with_reducible exact H2_)|with_reducible exact H|(rw [hy501];exact H)|exact H
      have Ny501:=Aside0.mk hy501
      clear hy501
      have H':=Aside0.mk H
      clear H
      go_wp2_with (first|((with_reducible refine gate_callee (f:=70) rfl ?_);refine goesL_ (some 16) rfl rfl Try.func70 (by kernel_rfl) rfl #[.slice A1 l1.length c1,.int .i64 a2,.int .i64 x10_1] rfl zq2 ?_;(with_reducible refine(impl_cost.calls k1 _ _ l1 a2 x10_1 t500 _ ?side1 ?side2 A5.out).mono ?_);(case side1=>repeat(first|exact(Kd.C_below HR1.out HB.out)|(with_reducible refine Kd.C_alloc ?_ _)|(with_reducible refine Kd.C_drewN ?_ _)|(with_reducible refine Kd.C_drew ?_)));(case side2=>exact HC1.out);rintro e w8 ⟨rfl,hb⟩;refine⟨_,rfl,?_⟩;have n0_:=Aside0.mk (Kd.R_below (zq4 HO_7) hb);have n1_:=Aside0.mk (below_step (zb0 HB) hb);clear HO_7;clear HB;have HO_7:=n0_;have HB:=n1_;clear n0_ n1_;(try clear hb);(try clear hb2);(try clear hk);(try clear hi))|((with_reducible refine gate_builtin (b:= .append) (xs:= #[.tmp 18,.tmp 20]) rfl ?_);at_builtin;refine Kd.R_append (Kd.int .i64) (w0:=w) w.heap.size rfl (.tmp 18) (.tmp 20) 22 3 (.int .i64 0) 8 rfl Try.underlying22 info3 rfl (by decide) (by omega) u7 x7_1 x10_1 [.int .i64 x10_1] (fun _=>True) (fun _=>False) rfl rfl ?aP (fun _ hk=>hk.elim) ?aF ?aO ?aB ?aS ?aL ?_;(case aP=>exact rfl);(case aB=>exact(zb0 HB));(case aF=>exact(fun _ _=>trivial));(case aO=>exact(zq4 HO_7));(case aS=>exact(below_size (zb0 HB)));(case aL=>have:=LMc7.out;omega);intro v502 w9 ho hb hg hat;rw [← Ny501.out] at ho;have n0_:=Aside0.mk (hb);have n1_:=Aside0.mk (ho);clear HB;clear HO_7;have HB:=n0_;have HO503:=n1_;clear n0_ n1_;clear ho hb hg hat))
      go_roundg k1
      case measure=>have:=HK1.out;omega
      case rel=>exact⟨(y501),(wrap64 (x10_1+1)),(by first|rfl|(simp;done)|(simp [*];done)),H',⟨by have:=HK1.out;omega⟩,⟨by(with_reducible repeat(first|apply Kd.R_alloc|apply Kd.R_drewN|apply Kd.R_drew));exact HO503.out⟩,⟨by repeat(first|(with_reducible first|exact HB.out|apply below_alloc|apply pw_below_drewN|apply below_drew1)|exact HB.out)⟩⟩
     ·rw [if_neg c7] at H
      exact absurd H (by simp)
    ·rw [if_neg c6] at H
     have c6b0:decide (0<t500)=false:=decide_eq_false c6
     clear c6
     have H':=Aside0.mk H
     clear H
     go_wp2_with (first|((with_reducible refine gate_callee (f:=70) rfl ?_);refine goesL_ (some 16) rfl rfl Try.func70 (by kernel_rfl) rfl #[.slice A1 l1.length c1,.int .i64 a2,.int .i64 x10_1] rfl zq2 ?_;(with_reducible refine(impl_cost.calls k1 _ _ l1 a2 x10_1 t500 _ ?side1 ?side2 A5.out).mono ?_);(case side1=>repeat(first|exact(Kd.C_below HR1.out HB.out)|(with_reducible refine Kd.C_alloc ?_ _)|(with_reducible refine Kd.C_drewN ?_ _)|(with_reducible refine Kd.C_drew ?_)));(case side2=>exact HC1.out);rintro e w10 ⟨rfl,hb⟩;refine⟨_,rfl,?_⟩;have n0_:=Aside0.mk (Kd.R_below (zq4 HO_7) hb);have n1_:=Aside0.mk (below_step (zb0 HB) hb);clear HO_7;clear HB;have HO_7:=n0_;have HB:=n1_;clear n0_ n1_;(try clear hb);(try clear hb2);(try clear hk);(try clear hi)))
     go_roundg k1
     case measure=>have:=HK1.out;omega
     case rel=>exact⟨(x7_1),(wrap64 (x10_1+1)),(by first|rfl|(simp;done)|(simp [*];done)),H',⟨by have:=HK1.out;omega⟩,⟨by(with_reducible repeat(first|apply Kd.R_alloc|apply Kd.R_drewN|apply Kd.R_drew));exact HO_7.out⟩,⟨by repeat(first|(with_reducible first|exact HB.out|apply below_alloc|apply pw_below_drewN|apply below_drew1)|exact HB.out)⟩⟩
   ·rw [if_neg c4] at H
    have c4b0:decide (x10_1<a0)=false:=decide_eq_false c4
    clear c4
    obtain rfl:=Option.some.inj H
    go_wp2
    go_ret
    exact⟨_,by first|rfl|(simp [errW_none,errW_some]<;>rfl)|(simp [*,errW_none,errW_some]<;>rfl),by(with_reducible repeat(first|apply Kd.R_alloc|apply Kd.R_drewN|apply Kd.R_drew));exact HO_7.out,by repeat(first|(with_reducible first|exact HB.out|apply below_alloc|apply pw_below_drewN|apply below_drew1)|exact HB.out)⟩
end Go.Proofs.Ytedegfbheihopaa.P
