/- Functions, walks and plain lemmas that the law FnExactMatchAll reaches, part 2. -/
import Derived.Test.YtoipbblhmcpneaaCFnExactMatchAll1
import Derived.WalkKit
import Derived.ProofKit
import Derived.OpenShut
import Derived.ChangeOld
import Derived.Below
import Derived.SizedLaws
import Derived.ChangeArms
import Derived.DataElems
import Derived.Deep.Draws
import Derived.Deep.AppendLies
import Derived.Maps.AppendAt
import Derived.OwnWalk
import Derived.Laws.BytesArg
import Derived.Laws.MakeOwn
import Derived.Laws.OwnMore
import Derived.Deep.OwnRows
import Derived.Tactics
import Derived.Lib.ConvBytes
import Derived.Laws.Slices
import Derived.KernelRfl
import Derived.RowKit3
import Derived.Deep.LoopGhost
import Derived.Deep.QuietTactic
import Derived.BigQuiet
import Derived.WideLaws
import Derived.Deep.DeepCutAuto
import Derived.Deep.CutBlock
import Derived.Deep.RegionHeld3
import Derived.Laws.Rows
import Derived.Lib.AppendStr
import Derived.ArgAppend
import Derived.Laws.IdiomCopy
import Derived.OrdersHeld
import Derived.Laws.BitsLemmas
import Derived.RowKit
import Derived.WalkSpells
import Derived.Lib.SliceRun
import Derived.Shelf.Abstract
import Derived.ShutString
namespace Go.Proofs.Ytoipbblhmcpneaa.P
open Go.RowKit Go.Proofs.YtoipbblhmcpneaaW.PrintWords Go.Proofs.YtoipbblhmcpneaaW.PrintLast Go.Proofs.YtoipbblhmcpneaaW.PrintMore
attribute [local go_sem] max2_int min2_int max_two min_two max_three min_three max_four min_four   -- for this text's walks alone
set_option linter.unusedVariables false
set_option linter.unusedSimpArgs false
def laws_eqIntSS.l0:Nat→List (List Int)→List (List Int)→Int→Option (Bool)
 | 0,_,_,_=>none
 |k+1,x0,x1,x5=>if x5< (x0.length:Int) then(if 0≤x5 then(if x5< (x1.length:Int) then((laws_eqIntS.f k (rd_L1 x0 x5) (rd_L1 x1 x5)).bind fun t183=>(if t183=true then(laws_eqIntSS.l0 k x0 x1 (wrap64 (x5+1))) else(some false))) else(none)) else(none)) else(some true)
def laws_eqIntSS.f (k:Nat) (l0:List (List Int)) (l1:List (List Int)):Option (Bool):=if (l0.length:Int)= (l1.length:Int) then(laws_eqIntSS.l0 k l0 l1 0) else(some false)
set_option maxHeartbeats 8000000 in
set_option maxRecDepth 100000 in
theorem laws_eqIntSS.calls (k:Nat) (A0:Option Addr) (c0:Nat) (l0:List (List Int)) (A1:Option Addr) (c1:Nat) (l1:List (List Int)) (r:Bool) (w:World) (hr0:Kd.C (Kd.slice 3 (Kd.int .i64)) w A0 l0.length l0) (hc0:l0.length≤c0) (hr1:Kd.C (Kd.slice 3 (Kd.int .i64)) w A1 l1.length l1) (hc1:l1.length≤c1) (h:laws_eqIntSS.f k l0 l1=some r):
  Calls Try.prog 54 #[.slice A0 l0.length c0,.slice A1 l1.length c1] w fun e w'=>e= .returned (.bool r)∧Drawn0 w w':=by
 have HR0:=Aside0.mk hr0
 have HC0:=Aside0.mk hc0
 clear hr0 hc0
 have HR1:=Aside0.mk hr1
 have HC1:=Aside0.mk hc1
 clear hr1 hc1
 have H:(if (l0.length:Int)= (l1.length:Int) then(laws_eqIntSS.l0 k l0 l1 0) else(some false))=some r:=h
 clear h
 by_cases c3:(l0.length:Int)= (l1.length:Int)
 ·rw [if_pos c3] at H
  have c3b0:((l0.length:Int)== (l1.length:Int))=true:=beq_iff_eq.mpr c3
  have c3b1:((l0.length:Int) != (l1.length:Int))=false:=bne_eq_false_iff_eq.mpr c3
  have c3b2:(l0.length==l1.length)=true:=by first|simpa using c3|(simp at c3 ⊢;omega)
  clear c3
  have H':=Aside0.mk H
  clear H
  go_enter Try.func54,Try.ntmps54
  go_wp2
  repeat(go_quiet (fail);try go_wp2)
  go_loopg [5] k (fun kq v5 w'=> ∃ (x5_1:Int),v5= .int .i64 x5_1∧Aside0 (laws_eqIntSS.l0 kq l0 l1 x5_1=some r)∧Aside0 (kq≤k)∧Drawn0 w w')
  case atStart=>exact⟨(0),(by first|rfl|(simp;done)|(simp [*];done)),H',⟨Nat.le_refl _⟩,by repeat(first|exact Drawn0.refl _|apply Drawn0.step)⟩
  case round=>
   clear H'
   try clear c1
   try clear p2
   try clear c3
   try clear c3b0
   try clear c3b1
   try clear c3b2
   obtain⟨x5_1,rfl,HA,HK1,⟨m1,rfl⟩⟩:=hrel
   cases gk with
   |zero=>exact absurd HA.out (by simp [laws_eqIntSS.l0])
   |succ k1=>
    have H:=HA.out
    clear HA
    simp only [laws_eqIntSS.l0] at H
    by_cases c4:x5_1< (l0.length:Int)
    ·rw [if_pos c4] at H
     have c4b0:decide (x5_1< (l0.length:Int))=true:=decide_eq_true c4
     clear c4
     by_cases c5: 0≤x5_1
     ·rw [if_pos c5] at H
      have c5b0:decide (0≤x5_1)=true:=decide_eq_true c5
      clear c5
      by_cases c6:x5_1< (l1.length:Int)
      ·rw [if_pos c6] at H
       have c6b0:decide (x5_1< (l1.length:Int))=true:=decide_eq_true c6
       clear c6
       replace H:=Option.bind_eq_some_iff.mp H
       obtain⟨t183,A70,H⟩:=H
       replace H:(if t183=true then(laws_eqIntSS.l0 k1 l0 l1 (wrap64 (x5_1+1))) else(some false))=some r:=H
       have A7:=Aside0.mk A70
       clear A70
       by_cases c8:t183=true
       ·subst c8
        have H1:(laws_eqIntSS.l0 k1 l0 l1 (wrap64 (x5_1+1)))=some r:=by rw [if_pos rfl] at H;exact H
        clear H
        have H:=H1
        clear H1
        have H':=Aside0.mk H
        clear H
        have p181: 0≤ (x5_1:Int):=of_decide_eq_true zq1
        have q181:x5_1< (l0.length:Int):=of_decide_eq_true zq1
        obtain⟨ad181,A181_0,c181_0,e181,hx181_0,hl181_0,hi181_0⟩:=at_L1 HR0.out x5_1 p181 q181
        cases e181
        have HR181_0:=Aside0.mk hi181_0
        have HC181_0:=Aside0.mk hl181_0
        clear hi181_0 hl181_0
        replace p181:=eq_true p181
        replace q181:=eq_true q181
        have p182: 0≤ (x5_1:Int):=of_decide_eq_true zq1
        have q182:x5_1< (l1.length:Int):=of_decide_eq_true zq1
        obtain⟨ad182,A182_0,c182_0,e182,hx182_0,hl182_0,hi182_0⟩:=at_L1 HR1.out x5_1 p182 q182
        cases e182
        have HR182_0:=Aside0.mk hi182_0
        have HC182_0:=Aside0.mk hl182_0
        clear hi182_0 hl182_0
        replace p182:=eq_true p182
        replace q182:=eq_true q182
        go_wp2_with (first|(go_at_call 16;(with_reducible refine(laws_eqIntS.calls k1 _ _ (rd_L1 l0 x5_1) _ _ (rd_L1 l1 x5_1) true _ ?side1 ?side2 ?side3 ?side4 A7.out).mono ?_);(case side1=>repeat(first|exact HR181_0.out|(with_reducible refine Kd.C_alloc ?_ _)|(with_reducible refine Kd.C_drewN ?_ _)|(with_reducible refine Kd.C_drew ?_)));(case side2=>exact HC181_0.out);(case side3=>repeat(first|exact HR182_0.out|(with_reducible refine Kd.C_alloc ?_ _)|(with_reducible refine Kd.C_drewN ?_ _)|(with_reducible refine Kd.C_drew ?_)));(case side4=>exact HC182_0.out);rintro e w' ⟨rfl,⟨nd,rfl⟩⟩;(try first|exact⟨rfl,_,World.drewN_drewN _ _ _⟩|exact⟨rfl,_,Eq.trans (World.drewN_drewN _ _ _) (congrArg (World.drewN _) (Nat.add_assoc _ _ _))⟩)))
        repeat(go_quiet (first|(go_at_call 16;(with_reducible refine(laws_eqIntS.calls k1 _ _ (rd_L1 l0 x5_1) _ _ (rd_L1 l1 x5_1) true _ ?side1 ?side2 ?side3 ?side4 A7.out).mono ?_);(case side1=>repeat(first|exact HR181_0.out|(with_reducible refine Kd.C_alloc ?_ _)|(with_reducible refine Kd.C_drewN ?_ _)|(with_reducible refine Kd.C_drew ?_)));(case side2=>exact HC181_0.out);(case side3=>repeat(first|exact HR182_0.out|(with_reducible refine Kd.C_alloc ?_ _)|(with_reducible refine Kd.C_drewN ?_ _)|(with_reducible refine Kd.C_drew ?_)));(case side4=>exact HC182_0.out);rintro e w' ⟨rfl,⟨nd,rfl⟩⟩;(try first|exact⟨rfl,_,World.drewN_drewN _ _ _⟩|exact⟨rfl,_,Eq.trans (World.drewN_drewN _ _ _) (congrArg (World.drewN _) (Nat.add_assoc _ _ _))⟩)));try go_wp2_with (first|(go_at_call 16;(with_reducible refine(laws_eqIntS.calls k1 _ _ (rd_L1 l0 x5_1) _ _ (rd_L1 l1 x5_1) true _ ?side1 ?side2 ?side3 ?side4 A7.out).mono ?_);(case side1=>repeat(first|exact HR181_0.out|(with_reducible refine Kd.C_alloc ?_ _)|(with_reducible refine Kd.C_drewN ?_ _)|(with_reducible refine Kd.C_drew ?_)));(case side2=>exact HC181_0.out);(case side3=>repeat(first|exact HR182_0.out|(with_reducible refine Kd.C_alloc ?_ _)|(with_reducible refine Kd.C_drewN ?_ _)|(with_reducible refine Kd.C_drew ?_)));(case side4=>exact HC182_0.out);rintro e w' ⟨rfl,⟨nd,rfl⟩⟩;(try first|exact⟨rfl,_,World.drewN_drewN _ _ _⟩|exact⟨rfl,_,Eq.trans (World.drewN_drewN _ _ _) (congrArg (World.drewN _) (Nat.add_assoc _ _ _))⟩))))
        go_roundg k1
        case measure=>have:=HK1.out;omega
        case rel=>exact⟨(wrap64 (x5_1+1)),(by first|rfl|(simp;done)|(simp [*];done)),H',⟨by have:=HK1.out;omega⟩,by repeat(first|exact Drawn0.refl _|apply Drawn0.step)⟩
       ·replace c8:=Bool.eq_false_iff.mpr c8
        subst c8
        have H1:(some false)=some r:=by rw [if_neg (show ¬ (false=true) by decide)] at H;exact H
        clear H
        have H:=H1
        clear H1
        obtain rfl:=Option.some.inj H
        have p181: 0≤ (x5_1:Int):=of_decide_eq_true zq1
        have q181:x5_1< (l0.length:Int):=of_decide_eq_true zq1
        obtain⟨ad181,A181_0,c181_0,e181,hx181_0,hl181_0,hi181_0⟩:=at_L1 HR0.out x5_1 p181 q181
        cases e181
        have HR181_0:=Aside0.mk hi181_0
        have HC181_0:=Aside0.mk hl181_0
        clear hi181_0 hl181_0
        replace p181:=eq_true p181
        replace q181:=eq_true q181
        have p182: 0≤ (x5_1:Int):=of_decide_eq_true zq1
        have q182:x5_1< (l1.length:Int):=of_decide_eq_true zq1
        obtain⟨ad182,A182_0,c182_0,e182,hx182_0,hl182_0,hi182_0⟩:=at_L1 HR1.out x5_1 p182 q182
        cases e182
        have HR182_0:=Aside0.mk hi182_0
        have HC182_0:=Aside0.mk hl182_0
        clear hi182_0 hl182_0
        replace p182:=eq_true p182
        replace q182:=eq_true q182
        go_wp2_with (first|(go_at_call 16;(with_reducible refine(laws_eqIntS.calls k1 _ _ (rd_L1 l0 x5_1) _ _ (rd_L1 l1 x5_1) false _ ?side1 ?side2 ?side3 ?side4 A7.out).mono ?_);(case side1=>repeat(first|exact HR181_0.out|(with_reducible refine Kd.C_alloc ?_ _)|(with_reducible refine Kd.C_drewN ?_ _)|(with_reducible refine Kd.C_drew ?_)));(case side2=>exact HC181_0.out);(case side3=>repeat(first|exact HR182_0.out|(with_reducible refine Kd.C_alloc ?_ _)|(with_reducible refine Kd.C_drewN ?_ _)|(with_reducible refine Kd.C_drew ?_)));(case side4=>exact HC182_0.out);rintro e w' ⟨rfl,⟨nd,rfl⟩⟩;(try first|exact⟨rfl,_,World.drewN_drewN _ _ _⟩|exact⟨rfl,_,Eq.trans (World.drewN_drewN _ _ _) (congrArg (World.drewN _) (Nat.add_assoc _ _ _))⟩)))
        repeat(go_quiet (first|(go_at_call 16;(with_reducible refine(laws_eqIntS.calls k1 _ _ (rd_L1 l0 x5_1) _ _ (rd_L1 l1 x5_1) false _ ?side1 ?side2 ?side3 ?side4 A7.out).mono ?_);(case side1=>repeat(first|exact HR181_0.out|(with_reducible refine Kd.C_alloc ?_ _)|(with_reducible refine Kd.C_drewN ?_ _)|(with_reducible refine Kd.C_drew ?_)));(case side2=>exact HC181_0.out);(case side3=>repeat(first|exact HR182_0.out|(with_reducible refine Kd.C_alloc ?_ _)|(with_reducible refine Kd.C_drewN ?_ _)|(with_reducible refine Kd.C_drew ?_)));(case side4=>exact HC182_0.out);rintro e w' ⟨rfl,⟨nd,rfl⟩⟩;(try first|exact⟨rfl,_,World.drewN_drewN _ _ _⟩|exact⟨rfl,_,Eq.trans (World.drewN_drewN _ _ _) (congrArg (World.drewN _) (Nat.add_assoc _ _ _))⟩)));try go_wp2_with (first|(go_at_call 16;(with_reducible refine(laws_eqIntS.calls k1 _ _ (rd_L1 l0 x5_1) _ _ (rd_L1 l1 x5_1) false _ ?side1 ?side2 ?side3 ?side4 A7.out).mono ?_);(case side1=>repeat(first|exact HR181_0.out|(with_reducible refine Kd.C_alloc ?_ _)|(with_reducible refine Kd.C_drewN ?_ _)|(with_reducible refine Kd.C_drew ?_)));(case side2=>exact HC181_0.out);(case side3=>repeat(first|exact HR182_0.out|(with_reducible refine Kd.C_alloc ?_ _)|(with_reducible refine Kd.C_drewN ?_ _)|(with_reducible refine Kd.C_drew ?_)));(case side4=>exact HC182_0.out);rintro e w' ⟨rfl,⟨nd,rfl⟩⟩;(try first|exact⟨rfl,_,World.drewN_drewN _ _ _⟩|exact⟨rfl,_,Eq.trans (World.drewN_drewN _ _ _) (congrArg (World.drewN _) (Nat.add_assoc _ _ _))⟩))))
        go_ret
        exact⟨by first|rfl|(simp;done)|(simp [*];done),by repeat(first|exact Drawn0.refl _|apply Drawn0.step)⟩
      ·rw [if_neg c6] at H
       exact absurd H (by simp)
     ·rw [if_neg c5] at H
      exact absurd H (by simp)
    ·rw [if_neg c4] at H
     have c4b0:decide (x5_1< (l0.length:Int))=false:=decide_eq_false c4
     clear c4
     obtain rfl:=Option.some.inj H
     go_wp2
     repeat(go_quiet (fail);try go_wp2)
     go_ret
     exact⟨by first|rfl|(simp;done)|(simp [*];done),by repeat(first|exact Drawn0.refl _|apply Drawn0.step)⟩
 ·rw [if_neg c3] at H
  have c3b0:((l0.length:Int)== (l1.length:Int))=false:=beq_eq_false_iff_ne.mpr c3
  have c3b1:((l0.length:Int) != (l1.length:Int))=true:=bne_iff_ne.mpr c3
  have c3b2:(l0.length==l1.length)=false:=by first|simpa using c3|(simp at c3 ⊢;omega)
  obtain rfl:=Option.some.inj H
  go_enter Try.func54,Try.ntmps54
  go_wp2
  repeat(go_quiet (fail);try go_wp2)
  go_ret
  exact⟨by first|rfl|(simp;done)|(simp [*];done),by repeat(first|exact Drawn0.refl _|apply Drawn0.step)⟩
def laws_eqWishes.f (k:Nat) (l0_0:List (List Int)) (l0_1:List (List Int)) (l0_2:List Int) (l1_0:List (List Int)) (l1_1:List (List Int)) (l1_2:List Int):Option (Bool):=(laws_eqIntSS.f k l0_0 l1_0).bind fun t186=>(if t186=true then((laws_eqIntSS.f k l0_1 l1_1).bind fun t187=>(if t187=true then((laws_eqIntS.f k l0_2 l1_2).bind fun t188=>(if t188=true then(some true) else(some false))) else(some false))) else(some false))
set_option maxHeartbeats 8000000 in
set_option maxRecDepth 100000 in
theorem laws_eqWishes.calls (k:Nat) (A0_0:Option Addr) (c0_0:Nat) (l0_0:List (List Int)) (A0_1:Option Addr) (c0_1:Nat) (l0_1:List (List Int)) (A0_2:Option Addr) (c0_2:Nat) (l0_2:List Int) (A1_0:Option Addr) (c1_0:Nat) (l1_0:List (List Int)) (A1_1:Option Addr) (c1_1:Nat) (l1_1:List (List Int)) (A1_2:Option Addr) (c1_2:Nat) (l1_2:List Int) (r:Bool) (w:World) (hr0_0:Kd.C (Kd.slice 3 (Kd.int .i64)) w A0_0 l0_0.length l0_0) (hc0_0:l0_0.length≤c0_0) (hr0_1:Kd.C (Kd.slice 3 (Kd.int .i64)) w A0_1 l0_1.length l0_1) (hc0_1:l0_1.length≤c0_1) (hr0_2:Kd.C (Kd.int .i64) w A0_2 l0_2.length l0_2) (hc0_2:l0_2.length≤c0_2) (hr1_0:Kd.C (Kd.slice 3 (Kd.int .i64)) w A1_0 l1_0.length l1_0) (hc1_0:l1_0.length≤c1_0) (hr1_1:Kd.C (Kd.slice 3 (Kd.int .i64)) w A1_1 l1_1.length l1_1) (hc1_1:l1_1.length≤c1_1) (hr1_2:Kd.C (Kd.int .i64) w A1_2 l1_2.length l1_2) (hc1_2:l1_2.length≤c1_2) (h:laws_eqWishes.f k l0_0 l0_1 l0_2 l1_0 l1_1 l1_2=some r):
  Calls Try.prog 21 #[.agg #[.slice A0_0 l0_0.length c0_0,.slice A0_1 l0_1.length c0_1,.slice A0_2 l0_2.length c0_2],.agg #[.slice A1_0 l1_0.length c1_0,.slice A1_1 l1_1.length c1_1,.slice A1_2 l1_2.length c1_2]] w fun e w'=>e= .returned (.bool r)∧Below w.heap.size w w':=by
 have hu33:=Try.underlying33
 have HR0_0:=Aside0.mk hr0_0
 have HC0_0:=Aside0.mk hc0_0
 clear hr0_0 hc0_0
 have HR0_1:=Aside0.mk hr0_1
 have HC0_1:=Aside0.mk hc0_1
 clear hr0_1 hc0_1
 have HR0_2:=Aside0.mk hr0_2
 have HC0_2:=Aside0.mk hc0_2
 clear hr0_2 hc0_2
 have HR1_0:=Aside0.mk hr1_0
 have HC1_0:=Aside0.mk hc1_0
 clear hr1_0 hc1_0
 have HR1_1:=Aside0.mk hr1_1
 have HC1_1:=Aside0.mk hc1_1
 clear hr1_1 hc1_1
 have HR1_2:=Aside0.mk hr1_2
 have HC1_2:=Aside0.mk hc1_2
 clear hr1_2 hc1_2
 have HB:=Aside0.mk (Below.refl w.heap.size w)
 have H:((laws_eqIntSS.f k l0_0 l1_0).bind fun t186=>(if t186=true then((laws_eqIntSS.f k l0_1 l1_1).bind fun t187=>(if t187=true then((laws_eqIntS.f k l0_2 l1_2).bind fun t188=>(if t188=true then(some true) else(some false))) else(some false))) else(some false)))=some r:=h
 clear h
 replace H:=Option.bind_eq_some_iff.mp H
 obtain⟨t186,A30,H⟩:=H
 replace H:(if t186=true then((laws_eqIntSS.f k l0_1 l1_1).bind fun t187=>(if t187=true then((laws_eqIntS.f k l0_2 l1_2).bind fun t188=>(if t188=true then(some true) else(some false))) else(some false))) else(some false))=some r:=H
 have A3:=Aside0.mk A30
 clear A30
 by_cases c4:t186=true
 ·subst c4
  have H1:((laws_eqIntSS.f k l0_1 l1_1).bind fun t187=>(if t187=true then((laws_eqIntS.f k l0_2 l1_2).bind fun t188=>(if t188=true then(some true) else(some false))) else(some false)))=some r:=by rw [if_pos rfl] at H;exact H
  clear H
  have H:=H1
  clear H1
  replace H:=Option.bind_eq_some_iff.mp H
  obtain⟨t187,A50,H⟩:=H
  replace H:(if t187=true then((laws_eqIntS.f k l0_2 l1_2).bind fun t188=>(if t188=true then(some true) else(some false))) else(some false))=some r:=H
  have A5:=Aside0.mk A50
  clear A50
  by_cases c6:t187=true
  ·subst c6
   have H1:((laws_eqIntS.f k l0_2 l1_2).bind fun t188=>(if t188=true then(some true) else(some false)))=some r:=by rw [if_pos rfl] at H;exact H
   clear H
   have H:=H1
   clear H1
   replace H:=Option.bind_eq_some_iff.mp H
   obtain⟨t188,A70,H⟩:=H
   replace H:(if t188=true then(some true) else(some false))=some r:=H
   have A7:=Aside0.mk A70
   clear A70
   by_cases c8:t188=true
   ·subst c8
    have H1:(some true)=some r:=by rw [if_pos rfl] at H;exact H
    clear H
    have H:=H1
    clear H1
    obtain rfl:=Option.some.inj H
    go_enter Try.func21,Try.ntmps21
    go_wp2_with (first|((with_reducible refine gate_dst (N:=2) rfl ?_);refine box_event ?hg (N:=2) ?hd (cs:= #[.slice A0_0 l0_0.length c0_0,.slice A0_1 l0_1.length c0_1,.slice A0_2 l0_2.length c0_2]) (t:=33) ?hr ?_;(case hd=>rfl);(case hg=>rfl);(case hr=>first|(go_simp;done)|(go_simp;rfl));intro gb184 hg w9 hbox hb;have n0_:=Aside0.mk (below_step (zb0 HB) hb);have n1_:=Aside0.mk (hbox);have n2_:=Aside0.mk ((by rw [hg];exact(below_size (zb0 HB)):w.heap.size≤gb184));have n3_:=Aside0.mk ((by rw [hg];exact(below_size (zb0 HB)):w.heap.size≤gb184));clear HB;have HB:=n0_;have BK184:=n1_;have GW184:=n2_;have GE184:=n3_;clear n0_ n1_ n2_ n3_;clear hb hbox hg)|((with_reducible refine gate_dst (N:=3) rfl ?_);refine box_event ?hg (N:=3) ?hd (cs:= #[.slice A1_0 l1_0.length c1_0,.slice A1_1 l1_1.length c1_1,.slice A1_2 l1_2.length c1_2]) (t:=33) ?hr ?_;(case hd=>rfl);(case hg=>rfl);(case hr=>first|(go_simp;done)|(go_simp;rfl));intro gb185 hg w10 hbox hb;have n0_:=Aside0.mk (blk_below (g:=gb184) (o:= .cells #[.slice A0_0 l0_0.length c0_0,.slice A0_1 l0_1.length c0_1,.slice A0_2 l0_2.length c0_2] 33 (0,0)) (zq3 BK184) hb);have n1_:=Aside0.mk (below_step (zb1 HB GE184) hb);have n2_:=Aside0.mk (hbox);have n3_:=Aside0.mk ((by rw [hg];exact(below_size (zb1 HB GE184)):w.heap.size≤gb185));have n4_:=Aside0.mk ((by rw [hg];exact(below_size (zb1 HB GE184)):w.heap.size≤gb185));have n5_:=Aside0.mk ((by rw [hg];exact Nat.ne_of_lt (blk_lt (g:=gb184) (o:= .cells #[.slice A0_0 l0_0.length c0_0,.slice A0_1 l0_1.length c0_1,.slice A0_2 l0_2.length c0_2] 33 (0,0)) (zq3 BK184)):gb184≠gb185));have n6_:=Aside0.mk ((by rw [hg];exact Nat.ne_of_gt (blk_lt (g:=gb184) (o:= .cells #[.slice A0_0 l0_0.length c0_0,.slice A0_1 l0_1.length c0_1,.slice A0_2 l0_2.length c0_2] 33 (0,0)) (zq3 BK184)):gb185≠gb184));clear BK184;clear HB;have BK184:=n0_;have HB:=n1_;have BK185:=n2_;have GW185:=n3_;have GE185:=n4_;have NB184_185:=n5_;have NB185_184:=n6_;clear n0_ n1_ n2_ n3_ n4_ n5_ n6_;clear hb hbox hg;have hnb11:=NB184_185.out;have hnc11:=NB185_184.out;have hcz12_0:w10.cell? ⟨gb184,0,none⟩=some (.slice A0_0 l0_0.length c0_0):=(blk_cell BK184.out 0).trans rfl;have hcz12_1:w10.cell? ⟨gb184,1,none⟩=some (.slice A0_1 l0_1.length c0_1):=(blk_cell BK184.out 1).trans rfl;have hcz12_2:w10.cell? ⟨gb184,2,none⟩=some (.slice A0_2 l0_2.length c0_2):=(blk_cell BK184.out 2).trans rfl;have hfz12_0:=blk_frozen BK184.out 0;have hfz12_1:=blk_frozen BK184.out 1;have hfz12_2:=blk_frozen BK184.out 2;have hcz13_0:w10.cell? ⟨gb185,0,none⟩=some (.slice A1_0 l1_0.length c1_0):=(blk_cell BK185.out 0).trans rfl;have hcz13_1:w10.cell? ⟨gb185,1,none⟩=some (.slice A1_1 l1_1.length c1_1):=(blk_cell BK185.out 1).trans rfl;have hcz13_2:w10.cell? ⟨gb185,2,none⟩=some (.slice A1_2 l1_2.length c1_2):=(blk_cell BK185.out 2).trans rfl;have hfz13_0:=blk_frozen BK185.out 0;have hfz13_1:=blk_frozen BK185.out 1;have hfz13_2:=blk_frozen BK185.out 2)|((with_reducible refine gate_callee (f:=54) rfl ?_);refine goesL_ (some 9) rfl rfl Try.func54 (by kernel_rfl) rfl #[.slice A0_0 l0_0.length c0_0,.slice A1_0 l1_0.length c1_0] rfl zq2 ?_;(with_reducible refine(laws_eqIntSS.calls k _ _ l0_0 _ _ l1_0 true _ ?side1 ?side2 ?side3 ?side4 A3.out).mono ?_);(case side1=>repeat(first|exact(Kd.C_below HR0_0.out HB.out)|(with_reducible refine Kd.C_alloc ?_ _)|(with_reducible refine Kd.C_drewN ?_ _)|(with_reducible refine Kd.C_drew ?_)));(case side2=>exact HC0_0.out);(case side3=>repeat(first|exact(Kd.C_below HR1_0.out HB.out)|(with_reducible refine Kd.C_alloc ?_ _)|(with_reducible refine Kd.C_drewN ?_ _)|(with_reducible refine Kd.C_drew ?_)));(case side4=>exact HC1_0.out);rintro e w' ⟨rfl,⟨nd,rfl⟩⟩;refine⟨_,rfl,?_⟩)|((with_reducible refine gate_callee (f:=54) rfl ?_);refine goesL_ (some 15) rfl rfl Try.func54 (by kernel_rfl) rfl #[.slice A0_1 l0_1.length c0_1,.slice A1_1 l1_1.length c1_1] rfl zq2 ?_;(with_reducible refine(laws_eqIntSS.calls k _ _ l0_1 _ _ l1_1 true _ ?side1 ?side2 ?side3 ?side4 A5.out).mono ?_);(case side1=>repeat(first|exact(Kd.C_below HR0_1.out (zb2 HB GE184 GE185))|(with_reducible refine Kd.C_alloc ?_ _)|(with_reducible refine Kd.C_drewN ?_ _)|(with_reducible refine Kd.C_drew ?_)));(case side2=>exact HC0_1.out);(case side3=>repeat(first|exact(Kd.C_below HR1_1.out (zb2 HB GE184 GE185))|(with_reducible refine Kd.C_alloc ?_ _)|(with_reducible refine Kd.C_drewN ?_ _)|(with_reducible refine Kd.C_drew ?_)));(case side4=>exact HC1_1.out);rintro e w' ⟨rfl,⟨nd,rfl⟩⟩;refine⟨_,rfl,?_⟩)|((with_reducible refine gate_callee (f:=16) rfl ?_);refine goesL_ (some 21) rfl rfl Try.func16 (by kernel_rfl) rfl #[.slice A0_2 l0_2.length c0_2,.slice A1_2 l1_2.length c1_2] rfl zq2 ?_;(with_reducible refine(laws_eqIntS.calls k _ _ l0_2 _ _ l1_2 true _ ?side1 ?side2 ?side3 ?side4 A7.out).mono ?_);(case side1=>repeat(first|exact(Kd.C_below HR0_2.out (zb2 HB GE184 GE185))|(with_reducible refine Kd.C_alloc ?_ _)|(with_reducible refine Kd.C_drewN ?_ _)|(with_reducible refine Kd.C_drew ?_)));(case side2=>exact HC0_2.out);(case side3=>repeat(first|exact(Kd.C_below HR1_2.out (zb2 HB GE184 GE185))|(with_reducible refine Kd.C_alloc ?_ _)|(with_reducible refine Kd.C_drewN ?_ _)|(with_reducible refine Kd.C_drew ?_)));(case side4=>exact HC1_2.out);rintro e w' ⟨rfl,⟨nd,rfl⟩⟩;refine⟨_,rfl,?_⟩))
    go_ret
    exact⟨by first|rfl|(simp [errW_none,errW_some]<;>rfl)|(simp [*,errW_none,errW_some]<;>rfl),by repeat(first|(with_reducible first|exact HB.out|apply below_alloc|apply pw_below_drewN|apply below_drew1|refine below_set ?_ GE184.out|refine below_set ?_ GE185.out)|exact HB.out)⟩
   ·replace c8:=Bool.eq_false_iff.mpr c8
    subst c8
    have H1:(some false)=some r:=by rw [if_neg (show ¬ (false=true) by decide)] at H;exact H
    clear H
    have H:=H1
    clear H1
    obtain rfl:=Option.some.inj H
    go_enter Try.func21,Try.ntmps21
    go_wp2_with (first|((with_reducible refine gate_dst (N:=2) rfl ?_);refine box_event ?hg (N:=2) ?hd (cs:= #[.slice A0_0 l0_0.length c0_0,.slice A0_1 l0_1.length c0_1,.slice A0_2 l0_2.length c0_2]) (t:=33) ?hr ?_;(case hd=>rfl);(case hg=>rfl);(case hr=>first|(go_simp;done)|(go_simp;rfl));intro gb184 hg w14 hbox hb;have n0_:=Aside0.mk (below_step (zb0 HB) hb);have n1_:=Aside0.mk (hbox);have n2_:=Aside0.mk ((by rw [hg];exact(below_size (zb0 HB)):w.heap.size≤gb184));have n3_:=Aside0.mk ((by rw [hg];exact(below_size (zb0 HB)):w.heap.size≤gb184));clear HB;have HB:=n0_;have BK184:=n1_;have GW184:=n2_;have GE184:=n3_;clear n0_ n1_ n2_ n3_;clear hb hbox hg)|((with_reducible refine gate_dst (N:=3) rfl ?_);refine box_event ?hg (N:=3) ?hd (cs:= #[.slice A1_0 l1_0.length c1_0,.slice A1_1 l1_1.length c1_1,.slice A1_2 l1_2.length c1_2]) (t:=33) ?hr ?_;(case hd=>rfl);(case hg=>rfl);(case hr=>first|(go_simp;done)|(go_simp;rfl));intro gb185 hg w15 hbox hb;have n0_:=Aside0.mk (blk_below (g:=gb184) (o:= .cells #[.slice A0_0 l0_0.length c0_0,.slice A0_1 l0_1.length c0_1,.slice A0_2 l0_2.length c0_2] 33 (0,0)) (zq3 BK184) hb);have n1_:=Aside0.mk (below_step (zb1 HB GE184) hb);have n2_:=Aside0.mk (hbox);have n3_:=Aside0.mk ((by rw [hg];exact(below_size (zb1 HB GE184)):w.heap.size≤gb185));have n4_:=Aside0.mk ((by rw [hg];exact(below_size (zb1 HB GE184)):w.heap.size≤gb185));have n5_:=Aside0.mk ((by rw [hg];exact Nat.ne_of_lt (blk_lt (g:=gb184) (o:= .cells #[.slice A0_0 l0_0.length c0_0,.slice A0_1 l0_1.length c0_1,.slice A0_2 l0_2.length c0_2] 33 (0,0)) (zq3 BK184)):gb184≠gb185));have n6_:=Aside0.mk ((by rw [hg];exact Nat.ne_of_gt (blk_lt (g:=gb184) (o:= .cells #[.slice A0_0 l0_0.length c0_0,.slice A0_1 l0_1.length c0_1,.slice A0_2 l0_2.length c0_2] 33 (0,0)) (zq3 BK184)):gb185≠gb184));clear BK184;clear HB;have BK184:=n0_;have HB:=n1_;have BK185:=n2_;have GW185:=n3_;have GE185:=n4_;have NB184_185:=n5_;have NB185_184:=n6_;clear n0_ n1_ n2_ n3_ n4_ n5_ n6_;clear hb hbox hg;have hnb16:=NB184_185.out;have hnc16:=NB185_184.out;have hcz17_0:w15.cell? ⟨gb184,0,none⟩=some (.slice A0_0 l0_0.length c0_0):=(blk_cell BK184.out 0).trans rfl;have hcz17_1:w15.cell? ⟨gb184,1,none⟩=some (.slice A0_1 l0_1.length c0_1):=(blk_cell BK184.out 1).trans rfl;have hcz17_2:w15.cell? ⟨gb184,2,none⟩=some (.slice A0_2 l0_2.length c0_2):=(blk_cell BK184.out 2).trans rfl;have hfz17_0:=blk_frozen BK184.out 0;have hfz17_1:=blk_frozen BK184.out 1;have hfz17_2:=blk_frozen BK184.out 2;have hcz18_0:w15.cell? ⟨gb185,0,none⟩=some (.slice A1_0 l1_0.length c1_0):=(blk_cell BK185.out 0).trans rfl;have hcz18_1:w15.cell? ⟨gb185,1,none⟩=some (.slice A1_1 l1_1.length c1_1):=(blk_cell BK185.out 1).trans rfl;have hcz18_2:w15.cell? ⟨gb185,2,none⟩=some (.slice A1_2 l1_2.length c1_2):=(blk_cell BK185.out 2).trans rfl;have hfz18_0:=blk_frozen BK185.out 0;have hfz18_1:=blk_frozen BK185.out 1;have hfz18_2:=blk_frozen BK185.out 2)|((with_reducible refine gate_callee (f:=54) rfl ?_);refine goesL_ (some 9) rfl rfl Try.func54 (by kernel_rfl) rfl #[.slice A0_0 l0_0.length c0_0,.slice A1_0 l1_0.length c1_0] rfl zq2 ?_;(with_reducible refine(laws_eqIntSS.calls k _ _ l0_0 _ _ l1_0 true _ ?side1 ?side2 ?side3 ?side4 A3.out).mono ?_);(case side1=>repeat(first|exact(Kd.C_below HR0_0.out HB.out)|(with_reducible refine Kd.C_alloc ?_ _)|(with_reducible refine Kd.C_drewN ?_ _)|(with_reducible refine Kd.C_drew ?_)));(case side2=>exact HC0_0.out);(case side3=>repeat(first|exact(Kd.C_below HR1_0.out HB.out)|(with_reducible refine Kd.C_alloc ?_ _)|(with_reducible refine Kd.C_drewN ?_ _)|(with_reducible refine Kd.C_drew ?_)));(case side4=>exact HC1_0.out);rintro e w' ⟨rfl,⟨nd,rfl⟩⟩;refine⟨_,rfl,?_⟩)|((with_reducible refine gate_callee (f:=54) rfl ?_);refine goesL_ (some 15) rfl rfl Try.func54 (by kernel_rfl) rfl #[.slice A0_1 l0_1.length c0_1,.slice A1_1 l1_1.length c1_1] rfl zq2 ?_;(with_reducible refine(laws_eqIntSS.calls k _ _ l0_1 _ _ l1_1 true _ ?side1 ?side2 ?side3 ?side4 A5.out).mono ?_);(case side1=>repeat(first|exact(Kd.C_below HR0_1.out (zb2 HB GE184 GE185))|(with_reducible refine Kd.C_alloc ?_ _)|(with_reducible refine Kd.C_drewN ?_ _)|(with_reducible refine Kd.C_drew ?_)));(case side2=>exact HC0_1.out);(case side3=>repeat(first|exact(Kd.C_below HR1_1.out (zb2 HB GE184 GE185))|(with_reducible refine Kd.C_alloc ?_ _)|(with_reducible refine Kd.C_drewN ?_ _)|(with_reducible refine Kd.C_drew ?_)));(case side4=>exact HC1_1.out);rintro e w' ⟨rfl,⟨nd,rfl⟩⟩;refine⟨_,rfl,?_⟩)|((with_reducible refine gate_callee (f:=16) rfl ?_);refine goesL_ (some 21) rfl rfl Try.func16 (by kernel_rfl) rfl #[.slice A0_2 l0_2.length c0_2,.slice A1_2 l1_2.length c1_2] rfl zq2 ?_;(with_reducible refine(laws_eqIntS.calls k _ _ l0_2 _ _ l1_2 false _ ?side1 ?side2 ?side3 ?side4 A7.out).mono ?_);(case side1=>repeat(first|exact(Kd.C_below HR0_2.out (zb2 HB GE184 GE185))|(with_reducible refine Kd.C_alloc ?_ _)|(with_reducible refine Kd.C_drewN ?_ _)|(with_reducible refine Kd.C_drew ?_)));(case side2=>exact HC0_2.out);(case side3=>repeat(first|exact(Kd.C_below HR1_2.out (zb2 HB GE184 GE185))|(with_reducible refine Kd.C_alloc ?_ _)|(with_reducible refine Kd.C_drewN ?_ _)|(with_reducible refine Kd.C_drew ?_)));(case side4=>exact HC1_2.out);rintro e w' ⟨rfl,⟨nd,rfl⟩⟩;refine⟨_,rfl,?_⟩))
    go_ret
    exact⟨by first|rfl|(simp [errW_none,errW_some]<;>rfl)|(simp [*,errW_none,errW_some]<;>rfl),by repeat(first|(with_reducible first|exact HB.out|apply below_alloc|apply pw_below_drewN|apply below_drew1|refine below_set ?_ GE184.out|refine below_set ?_ GE185.out)|exact HB.out)⟩
  ·replace c6:=Bool.eq_false_iff.mpr c6
   subst c6
   have H1:(some false)=some r:=by rw [if_neg (show ¬ (false=true) by decide)] at H;exact H
   clear H
   have H:=H1
   clear H1
   obtain rfl:=Option.some.inj H
   go_enter Try.func21,Try.ntmps21
   go_wp2_with (first|((with_reducible refine gate_dst (N:=2) rfl ?_);refine box_event ?hg (N:=2) ?hd (cs:= #[.slice A0_0 l0_0.length c0_0,.slice A0_1 l0_1.length c0_1,.slice A0_2 l0_2.length c0_2]) (t:=33) ?hr ?_;(case hd=>rfl);(case hg=>rfl);(case hr=>first|(go_simp;done)|(go_simp;rfl));intro gb184 hg w19 hbox hb;have n0_:=Aside0.mk (below_step (zb0 HB) hb);have n1_:=Aside0.mk (hbox);have n2_:=Aside0.mk ((by rw [hg];exact(below_size (zb0 HB)):w.heap.size≤gb184));have n3_:=Aside0.mk ((by rw [hg];exact(below_size (zb0 HB)):w.heap.size≤gb184));clear HB;have HB:=n0_;have BK184:=n1_;have GW184:=n2_;have GE184:=n3_;clear n0_ n1_ n2_ n3_;clear hb hbox hg)|((with_reducible refine gate_dst (N:=3) rfl ?_);refine box_event ?hg (N:=3) ?hd (cs:= #[.slice A1_0 l1_0.length c1_0,.slice A1_1 l1_1.length c1_1,.slice A1_2 l1_2.length c1_2]) (t:=33) ?hr ?_;(case hd=>rfl);(case hg=>rfl);(case hr=>first|(go_simp;done)|(go_simp;rfl));intro gb185 hg w20 hbox hb;have n0_:=Aside0.mk (blk_below (g:=gb184) (o:= .cells #[.slice A0_0 l0_0.length c0_0,.slice A0_1 l0_1.length c0_1,.slice A0_2 l0_2.length c0_2] 33 (0,0)) (zq3 BK184) hb);have n1_:=Aside0.mk (below_step (zb1 HB GE184) hb);have n2_:=Aside0.mk (hbox);have n3_:=Aside0.mk ((by rw [hg];exact(below_size (zb1 HB GE184)):w.heap.size≤gb185));have n4_:=Aside0.mk ((by rw [hg];exact(below_size (zb1 HB GE184)):w.heap.size≤gb185));have n5_:=Aside0.mk ((by rw [hg];exact Nat.ne_of_lt (blk_lt (g:=gb184) (o:= .cells #[.slice A0_0 l0_0.length c0_0,.slice A0_1 l0_1.length c0_1,.slice A0_2 l0_2.length c0_2] 33 (0,0)) (zq3 BK184)):gb184≠gb185));have n6_:=Aside0.mk ((by rw [hg];exact Nat.ne_of_gt (blk_lt (g:=gb184) (o:= .cells #[.slice A0_0 l0_0.length c0_0,.slice A0_1 l0_1.length c0_1,.slice A0_2 l0_2.length c0_2] 33 (0,0)) (zq3 BK184)):gb185≠gb184));clear BK184;clear HB;have BK184:=n0_;have HB:=n1_;have BK185:=n2_;have GW185:=n3_;have GE185:=n4_;have NB184_185:=n5_;have NB185_184:=n6_;clear n0_ n1_ n2_ n3_ n4_ n5_ n6_;clear hb hbox hg;have hnb21:=NB184_185.out;have hnc21:=NB185_184.out;have hcz22_0:w20.cell? ⟨gb184,0,none⟩=some (.slice A0_0 l0_0.length c0_0):=(blk_cell BK184.out 0).trans rfl;have hcz22_1:w20.cell? ⟨gb184,1,none⟩=some (.slice A0_1 l0_1.length c0_1):=(blk_cell BK184.out 1).trans rfl;have hcz22_2:w20.cell? ⟨gb184,2,none⟩=some (.slice A0_2 l0_2.length c0_2):=(blk_cell BK184.out 2).trans rfl;have hfz22_0:=blk_frozen BK184.out 0;have hfz22_1:=blk_frozen BK184.out 1;have hfz22_2:=blk_frozen BK184.out 2;have hcz23_0:w20.cell? ⟨gb185,0,none⟩=some (.slice A1_0 l1_0.length c1_0):=(blk_cell BK185.out 0).trans rfl;have hcz23_1:w20.cell? ⟨gb185,1,none⟩=some (.slice A1_1 l1_1.length c1_1):=(blk_cell BK185.out 1).trans rfl;have hcz23_2:w20.cell? ⟨gb185,2,none⟩=some (.slice A1_2 l1_2.length c1_2):=(blk_cell BK185.out 2).trans rfl;have hfz23_0:=blk_frozen BK185.out 0;have hfz23_1:=blk_frozen BK185.out 1;have hfz23_2:=blk_frozen BK185.out 2)|((with_reducible refine gate_callee (f:=54) rfl ?_);refine goesL_ (some 9) rfl rfl Try.func54 (by kernel_rfl) rfl #[.slice A0_0 l0_0.length c0_0,.slice A1_0 l1_0.length c1_0] rfl zq2 ?_;(with_reducible refine(laws_eqIntSS.calls k _ _ l0_0 _ _ l1_0 true _ ?side1 ?side2 ?side3 ?side4 A3.out).mono ?_);(case side1=>repeat(first|exact(Kd.C_below HR0_0.out HB.out)|(with_reducible refine Kd.C_alloc ?_ _)|(with_reducible refine Kd.C_drewN ?_ _)|(with_reducible refine Kd.C_drew ?_)));(case side2=>exact HC0_0.out);(case side3=>repeat(first|exact(Kd.C_below HR1_0.out HB.out)|(with_reducible refine Kd.C_alloc ?_ _)|(with_reducible refine Kd.C_drewN ?_ _)|(with_reducible refine Kd.C_drew ?_)));(case side4=>exact HC1_0.out);rintro e w' ⟨rfl,⟨nd,rfl⟩⟩;refine⟨_,rfl,?_⟩)|((with_reducible refine gate_callee (f:=54) rfl ?_);refine goesL_ (some 15) rfl rfl Try.func54 (by kernel_rfl) rfl #[.slice A0_1 l0_1.length c0_1,.slice A1_1 l1_1.length c1_1] rfl zq2 ?_;(with_reducible refine(laws_eqIntSS.calls k _ _ l0_1 _ _ l1_1 false _ ?side1 ?side2 ?side3 ?side4 A5.out).mono ?_);(case side1=>repeat(first|exact(Kd.C_below HR0_1.out (zb2 HB GE184 GE185))|(with_reducible refine Kd.C_alloc ?_ _)|(with_reducible refine Kd.C_drewN ?_ _)|(with_reducible refine Kd.C_drew ?_)));(case side2=>exact HC0_1.out);(case side3=>repeat(first|exact(Kd.C_below HR1_1.out (zb2 HB GE184 GE185))|(with_reducible refine Kd.C_alloc ?_ _)|(with_reducible refine Kd.C_drewN ?_ _)|(with_reducible refine Kd.C_drew ?_)));(case side4=>exact HC1_1.out);rintro e w' ⟨rfl,⟨nd,rfl⟩⟩;refine⟨_,rfl,?_⟩))
   go_ret
   exact⟨by first|rfl|(simp [errW_none,errW_some]<;>rfl)|(simp [*,errW_none,errW_some]<;>rfl),by repeat(first|(with_reducible first|exact HB.out|apply below_alloc|apply pw_below_drewN|apply below_drew1|refine below_set ?_ GE184.out|refine below_set ?_ GE185.out)|exact HB.out)⟩
 ·replace c4:=Bool.eq_false_iff.mpr c4
  subst c4
  have H1:(some false)=some r:=by rw [if_neg (show ¬ (false=true) by decide)] at H;exact H
  clear H
  have H:=H1
  clear H1
  obtain rfl:=Option.some.inj H
  go_enter Try.func21,Try.ntmps21
  go_wp2_with (first|((with_reducible refine gate_dst (N:=2) rfl ?_);refine box_event ?hg (N:=2) ?hd (cs:= #[.slice A0_0 l0_0.length c0_0,.slice A0_1 l0_1.length c0_1,.slice A0_2 l0_2.length c0_2]) (t:=33) ?hr ?_;(case hd=>rfl);(case hg=>rfl);(case hr=>first|(go_simp;done)|(go_simp;rfl));intro gb184 hg w24 hbox hb;have n0_:=Aside0.mk (below_step (zb0 HB) hb);have n1_:=Aside0.mk (hbox);have n2_:=Aside0.mk ((by rw [hg];exact(below_size (zb0 HB)):w.heap.size≤gb184));have n3_:=Aside0.mk ((by rw [hg];exact(below_size (zb0 HB)):w.heap.size≤gb184));clear HB;have HB:=n0_;have BK184:=n1_;have GW184:=n2_;have GE184:=n3_;clear n0_ n1_ n2_ n3_;clear hb hbox hg)|((with_reducible refine gate_dst (N:=3) rfl ?_);refine box_event ?hg (N:=3) ?hd (cs:= #[.slice A1_0 l1_0.length c1_0,.slice A1_1 l1_1.length c1_1,.slice A1_2 l1_2.length c1_2]) (t:=33) ?hr ?_;(case hd=>rfl);(case hg=>rfl);(case hr=>first|(go_simp;done)|(go_simp;rfl));intro gb185 hg w25 hbox hb;have n0_:=Aside0.mk (blk_below (g:=gb184) (o:= .cells #[.slice A0_0 l0_0.length c0_0,.slice A0_1 l0_1.length c0_1,.slice A0_2 l0_2.length c0_2] 33 (0,0)) (zq3 BK184) hb);have n1_:=Aside0.mk (below_step (zb1 HB GE184) hb);have n2_:=Aside0.mk (hbox);have n3_:=Aside0.mk ((by rw [hg];exact(below_size (zb1 HB GE184)):w.heap.size≤gb185));have n4_:=Aside0.mk ((by rw [hg];exact(below_size (zb1 HB GE184)):w.heap.size≤gb185));have n5_:=Aside0.mk ((by rw [hg];exact Nat.ne_of_lt (blk_lt (g:=gb184) (o:= .cells #[.slice A0_0 l0_0.length c0_0,.slice A0_1 l0_1.length c0_1,.slice A0_2 l0_2.length c0_2] 33 (0,0)) (zq3 BK184)):gb184≠gb185));have n6_:=Aside0.mk ((by rw [hg];exact Nat.ne_of_gt (blk_lt (g:=gb184) (o:= .cells #[.slice A0_0 l0_0.length c0_0,.slice A0_1 l0_1.length c0_1,.slice A0_2 l0_2.length c0_2] 33 (0,0)) (zq3 BK184)):gb185≠gb184));clear BK184;clear HB;have BK184:=n0_;have HB:=n1_;have BK185:=n2_;have GW185:=n3_;have GE185:=n4_;have NB184_185:=n5_;have NB185_184:=n6_;clear n0_ n1_ n2_ n3_ n4_ n5_ n6_;clear hb hbox hg;have hnb26:=NB184_185.out;have hnc26:=NB185_184.out;have hcz27_0:w25.cell? ⟨gb184,0,none⟩=some (.slice A0_0 l0_0.length c0_0):=(blk_cell BK184.out 0).trans rfl;have hcz27_1:w25.cell? ⟨gb184,1,none⟩=some (.slice A0_1 l0_1.length c0_1):=(blk_cell BK184.out 1).trans rfl;have hcz27_2:w25.cell? ⟨gb184,2,none⟩=some (.slice A0_2 l0_2.length c0_2):=(blk_cell BK184.out 2).trans rfl;have hfz27_0:=blk_frozen BK184.out 0;have hfz27_1:=blk_frozen BK184.out 1;have hfz27_2:=blk_frozen BK184.out 2;have hcz28_0:w25.cell? ⟨gb185,0,none⟩=some (.slice A1_0 l1_0.length c1_0):=(blk_cell BK185.out 0).trans rfl;have hcz28_1:w25.cell? ⟨gb185,1,none⟩=some (.slice A1_1 l1_1.length c1_1):=(blk_cell BK185.out 1).trans rfl;have hcz28_2:w25.cell? ⟨gb185,2,none⟩=some (.slice A1_2 l1_2.length c1_2):=(blk_cell BK185.out 2).trans rfl;have hfz28_0:=blk_frozen BK185.out 0;have hfz28_1:=blk_frozen BK185.out 1;have hfz28_2:=blk_frozen BK185.out 2)|((with_reducible refine gate_callee (f:=54) rfl ?_);refine goesL_ (some 9) rfl rfl Try.func54 (by kernel_rfl) rfl #[.slice A0_0 l0_0.length c0_0,.slice A1_0 l1_0.length c1_0] rfl zq2 ?_;(with_reducible refine(laws_eqIntSS.calls k _ _ l0_0 _ _ l1_0 false _ ?side1 ?side2 ?side3 ?side4 A3.out).mono ?_);(case side1=>repeat(first|exact(Kd.C_below HR0_0.out HB.out)|(with_reducible refine Kd.C_alloc ?_ _)|(with_reducible refine Kd.C_drewN ?_ _)|(with_reducible refine Kd.C_drew ?_)));(case side2=>exact HC0_0.out);(case side3=>repeat(first|exact(Kd.C_below HR1_0.out HB.out)|(with_reducible refine Kd.C_alloc ?_ _)|(with_reducible refine Kd.C_drewN ?_ _)|(with_reducible refine Kd.C_drew ?_)));(case side4=>exact HC1_0.out);rintro e w' ⟨rfl,⟨nd,rfl⟩⟩;refine⟨_,rfl,?_⟩))
  go_ret
  exact⟨by first|rfl|(simp [errW_none,errW_some]<;>rfl)|(simp [*,errW_none,errW_some]<;>rfl),by repeat(first|(with_reducible first|exact HB.out|apply below_alloc|apply pw_below_drewN|apply below_drew1|refine below_set ?_ GE184.out|refine below_set ?_ GE185.out)|exact HB.out)⟩
end Go.Proofs.Ytoipbblhmcpneaa.P

namespace Go.Proofs.Ytoipbblhmcpneaa.P
open Go.RowKit Go.Proofs.YtoipbblhmcpneaaW.PrintWords Go.Proofs.YtoipbblhmcpneaaW.PrintLast Go.Proofs.YtoipbblhmcpneaaW.PrintMore
attribute [local go_sem] max2_int min2_int max_two min_two max_three min_three max_four min_four   -- for this text's walks alone
set_option linter.unusedVariables false
set_option linter.unusedSimpArgs false
def laws_heldIntS.l0:Nat→List Int→Int→Int→Option (Int)
 | 0,_,_,_=>none
 |k+1,x0,x1,x5=>if x5< (x0.length:Int) then(if 0≤x5 then(if (rd x0 x5)=x1 then(laws_heldIntS.l0 k x0 (wrap64 (x1+1)) (wrap64 (x5+1))) else(some (-1))) else(none)) else(some x1)
def laws_heldIntS.f (k:Nat) (l0:List Int) (a1:Int):Option (Int):=laws_heldIntS.l0 k l0 a1 0
set_option maxHeartbeats 8000000 in
set_option maxRecDepth 100000 in
theorem laws_heldIntS.calls (k:Nat) (A0:Option Addr) (c0:Nat) (l0:List Int) (a1:Int) (r:Int) (w:World) (hr0:Kd.C (Kd.int .i64) w A0 l0.length l0) (hc0:l0.length≤c0) (h:laws_heldIntS.f k l0 a1=some r):
  Calls Try.prog 28 #[.slice A0 l0.length c0,.int .i64 a1] w fun e w'=>e= .returned (.int .i64 r)∧Drawn0 w w':=by
 have HR0:=Aside0.mk hr0
 have HC0:=Aside0.mk hc0
 clear hr0 hc0
 have H:(laws_heldIntS.l0 k l0 a1 0)=some r:=h
 clear h
 have H':=Aside0.mk H
 clear H
 go_enter Try.func28,Try.ntmps28
 go_wp2
 go_loopg [1,5] k (fun kq v1 v5 w'=> ∃ (x1_1:Int) (x5_1:Int),v1= .int .i64 x1_1∧v5= .int .i64 x5_1∧Aside0 (laws_heldIntS.l0 kq l0 x1_1 x5_1=some r)∧Aside0 (kq≤k)∧Drawn0 w w')
 case atStart=>exact⟨(a1),(0),(by first|rfl|(simp;done)|(simp [*];done)),(by first|rfl|(simp;done)|(simp [*];done)),H',⟨Nat.le_refl _⟩,by repeat(first|exact Drawn0.refl _|apply Drawn0.step)⟩
 case round=>
  clear H'
  try clear c2
  try clear p2
  obtain⟨x1_1,x5_1,rfl,rfl,HA,HK1,⟨m1,rfl⟩⟩:=hrel
  cases gk with
  |zero=>exact absurd HA.out (by simp [laws_heldIntS.l0])
  |succ k1=>
   have H:=HA.out
   clear HA
   simp only [laws_heldIntS.l0] at H
   by_cases c3:x5_1< (l0.length:Int)
   ·rw [if_pos c3] at H
    have c3b0:decide (x5_1< (l0.length:Int))=true:=decide_eq_true c3
    clear c3
    by_cases c4: 0≤x5_1
    ·rw [if_pos c4] at H
     have c4b0:decide (0≤x5_1)=true:=decide_eq_true c4
     clear c4
     by_cases c5:(rd l0 x5_1)=x1_1
     ·rw [if_pos c5] at H
      have c5b0:((rd l0 x5_1)==x1_1)=true:=beq_iff_eq.mpr c5
      have c5b1:((rd l0 x5_1) !=x1_1)=false:=bne_eq_false_iff_eq.mpr c5
      clear c5
      have H':=Aside0.mk H
      clear H
      have p306: 0≤ (x5_1:Int):=of_decide_eq_true zq1
      have q306:x5_1< (l0.length:Int):=of_decide_eq_true zq1
      obtain⟨ad306,e306,hx306_0⟩:=Kd.at_int HR0.out x5_1 p306 q306
      cases e306
      replace p306:=eq_true p306
      replace q306:=eq_true q306
      go_wp2
      go_roundg k1
      case measure=>have:=HK1.out;omega
      case rel=>exact⟨(wrap64 (x1_1+1)),(wrap64 (x5_1+1)),(by first|rfl|(simp;done)|(simp [*];done)),(by first|rfl|(simp;done)|(simp [*];done)),H',⟨by have:=HK1.out;omega⟩,by repeat(first|exact Drawn0.refl _|apply Drawn0.step)⟩
     ·rw [if_neg c5] at H
      have c5b0:((rd l0 x5_1)==x1_1)=false:=beq_eq_false_iff_ne.mpr c5
      have c5b1:((rd l0 x5_1) !=x1_1)=true:=bne_iff_ne.mpr c5
      obtain rfl:=Option.some.inj H
      have p306: 0≤ (x5_1:Int):=of_decide_eq_true zq1
      have q306:x5_1< (l0.length:Int):=of_decide_eq_true zq1
      obtain⟨ad306,e306,hx306_0⟩:=Kd.at_int HR0.out x5_1 p306 q306
      cases e306
      replace p306:=eq_true p306
      replace q306:=eq_true q306
      go_wp2
      go_ret
      exact⟨by first|rfl|(simp;done)|(simp [*];done),by repeat(first|exact Drawn0.refl _|apply Drawn0.step)⟩
    ·rw [if_neg c4] at H
     exact absurd H (by simp)
   ·rw [if_neg c3] at H
    have c3b0:decide (x5_1< (l0.length:Int))=false:=decide_eq_false c3
    clear c3
    obtain rfl:=Option.some.inj H
    go_wp2
    go_ret
    exact⟨by first|rfl|(simp;done)|(simp [*];done),by repeat(first|exact Drawn0.refl _|apply Drawn0.step)⟩
end Go.Proofs.Ytoipbblhmcpneaa.P

namespace Go.Proofs.Ytoipbblhmcpneaa.P
open Go.RowKit Go.Proofs.YtoipbblhmcpneaaW.PrintWords Go.Proofs.YtoipbblhmcpneaaW.PrintLast Go.Proofs.YtoipbblhmcpneaaW.PrintMore
attribute [local go_sem] max2_int min2_int max_two min_two max_three min_three max_four min_four   -- for this text's walks alone
set_option linter.unusedVariables false
set_option linter.unusedSimpArgs false
def spec_l12Worst.l0:Nat→Int→Int→List Int→Int→Int→List (List Int)→List (List Int)→List Int→Option (Int)
 | 0,_,_,_,_,_,_,_,_=>none
 |k+1,x2,x7,x12,x13,x14,x481000,x481001,x481002=>if x14<x13 then(if 0≤x14 then(if x14< (x12.length:Int) then(if x7< 0 then(spec_l12Worst.l0 k x2 (rd x12 x14) x12 x13 (wrap64 (x14+1)) x481000 x481001 x481002) else(if 0≤x2 then(if x2< (x481001.length:Int) then((spec_l12Place.f k (rd_L1 x481001 x2) (rd x12 x14)).bind fun t486=>((spec_l12Place.f k (rd_L1 x481001 x2) x7).bind fun t488=>(if t486 > t488 then(spec_l12Worst.l0 k x2 (rd x12 x14) x12 x13 (wrap64 (x14+1)) x481000 x481001 x481002) else(spec_l12Worst.l0 k x2 x7 x12 x13 (wrap64 (x14+1)) x481000 x481001 x481002)))) else(none)) else(none))) else(none)) else(none)) else(some x7)
def spec_l12Worst.f (k:Nat) (l0_0:List (List Int)) (l0_1:List (List Int)) (l0_2:List Int) (l1:List Int) (a2:Int):Option (Int):=(spec_l12Has.f k l1 a2).bind fun t481=>(spec_l12Worst.l0 k a2 (-1) t481 (t481.length:Int) 0 l0_0 l0_1 l0_2)
set_option maxHeartbeats 8000000 in
set_option maxRecDepth 100000 in
theorem spec_l12Worst.calls (k:Nat) (A0_0:Option Addr) (c0_0:Nat) (l0_0:List (List Int)) (A0_1:Option Addr) (c0_1:Nat) (l0_1:List (List Int)) (A0_2:Option Addr) (c0_2:Nat) (l0_2:List Int) (A1:Option Addr) (c1:Nat) (l1:List Int) (a2:Int) (r:Int) (w:World) (hr0_0:Kd.C (Kd.slice 3 (Kd.int .i64)) w A0_0 l0_0.length l0_0) (hc0_0:l0_0.length≤c0_0) (hr0_1:Kd.C (Kd.slice 3 (Kd.int .i64)) w A0_1 l0_1.length l0_1) (hc0_1:l0_1.length≤c0_1) (hr0_2:Kd.C (Kd.int .i64) w A0_2 l0_2.length l0_2) (hc0_2:l0_2.length≤c0_2) (hr1:Kd.C (Kd.int .i64) w A1 l1.length l1) (hc1:l1.length≤c1) (h:spec_l12Worst.f k l0_0 l0_1 l0_2 l1 a2=some r):
  Calls Try.prog 62 #[.agg #[.slice A0_0 l0_0.length c0_0,.slice A0_1 l0_1.length c0_1,.slice A0_2 l0_2.length c0_2],.slice A1 l1.length c1,.int .i64 a2] w fun e w'=>e= .returned (.int .i64 r)∧Below w.heap.size w w':=by
 have hu33:=Try.underlying33
 have HR0_0:=Aside0.mk hr0_0
 have HC0_0:=Aside0.mk hc0_0
 clear hr0_0 hc0_0
 have HR0_1:=Aside0.mk hr0_1
 have HC0_1:=Aside0.mk hc0_1
 clear hr0_1 hc0_1
 have HR0_2:=Aside0.mk hr0_2
 have HC0_2:=Aside0.mk hc0_2
 clear hr0_2 hc0_2
 have HR1:=Aside0.mk hr1
 have HC1:=Aside0.mk hc1
 clear hr1 hc1
 have HB:=Aside0.mk (Below.refl w.heap.size w)
 have H:((spec_l12Has.f k l1 a2).bind fun t481=>(spec_l12Worst.l0 k a2 (-1) t481 (t481.length:Int) 0 l0_0 l0_1 l0_2))=some r:=h
 clear h
 replace H:=Option.bind_eq_some_iff.mp H
 obtain⟨t481,A40,H⟩:=H
 replace H:(spec_l12Worst.l0 k a2 (-1) t481 (t481.length:Int) 0 l0_0 l0_1 l0_2)=some r:=H
 have A4:=Aside0.mk A40
 clear A40
 have H':=Aside0.mk H
 clear H
 go_enter Try.func62,Try.ntmps62
 go_wp2_with (first|((with_reducible refine gate_dst (N:=3) rfl ?_);refine box_event ?hg (N:=3) ?hd (cs:= #[.slice A0_0 l0_0.length c0_0,.slice A0_1 l0_1.length c0_1,.slice A0_2 l0_2.length c0_2]) (t:=33) ?hr ?_;(case hd=>rfl);(case hg=>rfl);(case hr=>first|(go_simp;done)|(go_simp;rfl));intro gb480 hg w5 hbox hb;have n0_:=Aside0.mk (below_step (zb0 HB) hb);have n1_:=Aside0.mk (hbox);have n2_:=Aside0.mk ((by rw [hg];exact(below_size (zb0 HB)):w.heap.size≤gb480));have n3_:=Aside0.mk ((by rw [hg];exact(below_size (zb0 HB)):w.heap.size≤gb480));clear HB;have HB:=n0_;have BK480:=n1_;have GW480:=n2_;have GE480:=n3_;clear n0_ n1_ n2_ n3_;clear hb hbox hg)|(go_at_call 55;(with_reducible refine(spec_l12Has.calls k _ _ l1 a2 t481 _ ?side1 ?side2 A4.out).mono ?_);(case side1=>repeat(first|exact(Kd.C_below HR1.out HB.out)|(with_reducible refine Kd.C_alloc ?_ _)|(with_reducible refine Kd.C_drewN ?_ _)|(with_reducible refine Kd.C_drew ?_)));(case side2=>exact HC1.out);rintro e w6 ⟨v482,rfl,ho0,hb⟩;have n0_:=Aside0.mk (Kd.R_lower ho0 (below_size (zb1 HB GE480)));have n1_:=Aside0.mk (blk_below (g:=gb480) (o:= .cells #[.slice A0_0 l0_0.length c0_0,.slice A0_1 l0_1.length c0_1,.slice A0_2 l0_2.length c0_2] 33 (0,0)) (zq3 BK480) hb);have n2_:=Aside0.mk (below_step (zb1 HB GE480) hb);clear BK480;clear HB;have HO483:=n0_;have BK480:=n1_;have HB:=n2_;clear n0_ n1_ n2_;(try clear hb);(try clear hb2);(try clear hk);(try clear hi);(try clear ho0);obtain⟨Ao7,co7,eo7⟩:=Kd.R_slice HO483.out;subst eo7))
 repeat(go_quiet (first|((with_reducible refine gate_dst (N:=3) rfl ?_);refine box_event ?hg (N:=3) ?hd (cs:= #[.slice A0_0 l0_0.length c0_0,.slice A0_1 l0_1.length c0_1,.slice A0_2 l0_2.length c0_2]) (t:=33) ?hr ?_;(case hd=>rfl);(case hg=>rfl);(case hr=>first|(go_simp;done)|(go_simp;rfl));intro gb480 hg w5 hbox hb;have n0_:=Aside0.mk (below_step (zb0 HB) hb);have n1_:=Aside0.mk (hbox);have n2_:=Aside0.mk ((by rw [hg];exact(below_size (zb0 HB)):w.heap.size≤gb480));have n3_:=Aside0.mk ((by rw [hg];exact(below_size (zb0 HB)):w.heap.size≤gb480));clear HB;have HB:=n0_;have BK480:=n1_;have GW480:=n2_;have GE480:=n3_;clear n0_ n1_ n2_ n3_;clear hb hbox hg)|(go_at_call 55;(with_reducible refine(spec_l12Has.calls k _ _ l1 a2 t481 _ ?side1 ?side2 A4.out).mono ?_);(case side1=>repeat(first|exact(Kd.C_below HR1.out HB.out)|(with_reducible refine Kd.C_alloc ?_ _)|(with_reducible refine Kd.C_drewN ?_ _)|(with_reducible refine Kd.C_drew ?_)));(case side2=>exact HC1.out);rintro e w6 ⟨v482,rfl,ho0,hb⟩;have n0_:=Aside0.mk (Kd.R_lower ho0 (below_size (zb1 HB GE480)));have n1_:=Aside0.mk (blk_below (g:=gb480) (o:= .cells #[.slice A0_0 l0_0.length c0_0,.slice A0_1 l0_1.length c0_1,.slice A0_2 l0_2.length c0_2] 33 (0,0)) (zq3 BK480) hb);have n2_:=Aside0.mk (below_step (zb1 HB GE480) hb);clear BK480;clear HB;have HO483:=n0_;have BK480:=n1_;have HB:=n2_;clear n0_ n1_ n2_;(try clear hb);(try clear hb2);(try clear hk);(try clear hi);(try clear ho0);obtain⟨Ao7,co7,eo7⟩:=Kd.R_slice HO483.out;subst eo7));try go_wp2_with (first|((with_reducible refine gate_dst (N:=3) rfl ?_);refine box_event ?hg (N:=3) ?hd (cs:= #[.slice A0_0 l0_0.length c0_0,.slice A0_1 l0_1.length c0_1,.slice A0_2 l0_2.length c0_2]) (t:=33) ?hr ?_;(case hd=>rfl);(case hg=>rfl);(case hr=>first|(go_simp;done)|(go_simp;rfl));intro gb480 hg w5 hbox hb;have n0_:=Aside0.mk (below_step (zb0 HB) hb);have n1_:=Aside0.mk (hbox);have n2_:=Aside0.mk ((by rw [hg];exact(below_size (zb0 HB)):w.heap.size≤gb480));have n3_:=Aside0.mk ((by rw [hg];exact(below_size (zb0 HB)):w.heap.size≤gb480));clear HB;have HB:=n0_;have BK480:=n1_;have GW480:=n2_;have GE480:=n3_;clear n0_ n1_ n2_ n3_;clear hb hbox hg)|(go_at_call 55;(with_reducible refine(spec_l12Has.calls k _ _ l1 a2 t481 _ ?side1 ?side2 A4.out).mono ?_);(case side1=>repeat(first|exact(Kd.C_below HR1.out HB.out)|(with_reducible refine Kd.C_alloc ?_ _)|(with_reducible refine Kd.C_drewN ?_ _)|(with_reducible refine Kd.C_drew ?_)));(case side2=>exact HC1.out);rintro e w6 ⟨v482,rfl,ho0,hb⟩;have n0_:=Aside0.mk (Kd.R_lower ho0 (below_size (zb1 HB GE480)));have n1_:=Aside0.mk (blk_below (g:=gb480) (o:= .cells #[.slice A0_0 l0_0.length c0_0,.slice A0_1 l0_1.length c0_1,.slice A0_2 l0_2.length c0_2] 33 (0,0)) (zq3 BK480) hb);have n2_:=Aside0.mk (below_step (zb1 HB GE480) hb);clear BK480;clear HB;have HO483:=n0_;have BK480:=n1_;have HB:=n2_;clear n0_ n1_ n2_;(try clear hb);(try clear hb2);(try clear hk);(try clear hi);(try clear ho0);obtain⟨Ao7,co7,eo7⟩:=Kd.R_slice HO483.out;subst eo7)))
 go_loopg [7,14] k (fun kq v7 v14 w'=> ∃ (x7_1:Int) (x14_1:Int),v7= .int .i64 x7_1∧v14= .int .i64 x14_1∧Aside0 (spec_l12Worst.l0 kq a2 x7_1 t481 (t481.length:Int) x14_1 l0_0 l0_1 l0_2=some r)∧Aside0 (kq≤k)∧Aside0 (Kd.R (Kd.int .i64) 3 w' w.heap.size (fun _=>True) (.slice Ao7 t481.length co7) t481)∧Aside0 (w'.heap[gb480]?=some (.cells #[(.slice A0_0 l0_0.length c0_0),(.slice A0_1 l0_1.length c0_1),(.slice A0_2 l0_2.length c0_2)] 33 (0,0)))∧Aside0 (Below w.heap.size w w'))
 case atStart=>exact⟨((-1)),(0),(by first|rfl|(simp;done)|(simp [*];done)),(by first|rfl|(simp;done)|(simp [*];done)),H',⟨Nat.le_refl _⟩,⟨by(with_reducible repeat(first|apply Kd.R_alloc|apply Kd.R_drewN|apply Kd.R_drew));exact HO483.out⟩,⟨by(with_reducible repeat(first|refine blk_drewN ?_ _|refine blk_drew ?_ |refine blk_alloc ?_ _));exact BK480.out⟩,⟨by repeat(first|(with_reducible first|exact HB.out|apply below_alloc|apply pw_below_drewN|apply below_drew1|refine below_set ?_ GE480.out)|exact HB.out)⟩⟩
 case round=>
  clear H'
  try clear c1
  try clear p2
  try clear c6
  obtain⟨x7_1,x14_1,rfl,rfl,HA,HK1,HO_12,BK480,HB⟩:=hrel
  cases gk with
  |zero=>exact absurd HA.out (by simp [spec_l12Worst.l0])
  |succ k1=>
   have H:=HA.out
   clear HA
   simp only [spec_l12Worst.l0] at H
   by_cases c8:x14_1< (t481.length:Int)
   ·rw [if_pos c8] at H
    have c8b0:decide (x14_1< (t481.length:Int))=true:=decide_eq_true c8
    clear c8
    by_cases c9: 0≤x14_1
    ·rw [if_pos c9] at H
     have c9b0:decide (0≤x14_1)=true:=decide_eq_true c9
     clear c9
     by_cases c10:x14_1< (t481.length:Int)
     ·rw [if_pos c10] at H
      have c10b0:decide (x14_1< (t481.length:Int))=true:=decide_eq_true c10
      clear c10
      by_cases c11:x7_1< 0
      ·rw [if_pos c11] at H
       have c11b0:decide (x7_1< 0)=true:=decide_eq_true c11
       clear c11
       have H':=Aside0.mk H
       clear H
       have p484: 0≤ (x14_1:Int):=of_decide_eq_true zq1
       have q484:x14_1< (t481.length:Int):=of_decide_eq_true zq1
       obtain⟨ad484,e484,hx484_0⟩:=Kd.at_int (Kd.R_reads' HO_12.out).2.2 x14_1 p484 q484
       cases e484
       replace p484:=eq_true p484
       replace q484:=eq_true q484
       go_wp2
       repeat(go_quiet (fail);try go_wp2)
       go_roundg k1
       case measure=>have:=HK1.out;omega
       case rel=>exact⟨(rd t481 x14_1),(wrap64 (x14_1+1)),(by first|rfl|(simp;done)|(simp [*];done)),(by first|rfl|(simp;done)|(simp [*];done)),H',⟨by have:=HK1.out;omega⟩,⟨by(with_reducible repeat(first|apply Kd.R_alloc|apply Kd.R_drewN|apply Kd.R_drew));exact HO_12.out⟩,⟨by(with_reducible repeat(first|refine blk_drewN ?_ _|refine blk_drew ?_ |refine blk_alloc ?_ _));exact BK480.out⟩,⟨by repeat(first|(with_reducible first|exact HB.out|apply below_alloc|apply pw_below_drewN|apply below_drew1|refine below_set ?_ GE480.out)|exact HB.out)⟩⟩
      ·rw [if_neg c11] at H
       have c11b0:decide (x7_1< 0)=false:=decide_eq_false c11
       clear c11
       by_cases c12: 0≤a2
       ·rw [if_pos c12] at H
        have c12b0:decide (0≤a2)=true:=decide_eq_true c12
        clear c12
        by_cases c13:a2< (l0_1.length:Int)
        ·rw [if_pos c13] at H
         have c13b0:decide (a2< (l0_1.length:Int))=true:=decide_eq_true c13
         clear c13
         replace H:=Option.bind_eq_some_iff.mp H
         obtain⟨t486,A140,H⟩:=H
         replace H:((spec_l12Place.f k1 (rd_L1 l0_1 a2) x7_1).bind fun t488=>(if t486 > t488 then(spec_l12Worst.l0 k1 a2 (rd t481 x14_1) t481 (t481.length:Int) (wrap64 (x14_1+1)) l0_0 l0_1 l0_2) else(spec_l12Worst.l0 k1 a2 x7_1 t481 (t481.length:Int) (wrap64 (x14_1+1)) l0_0 l0_1 l0_2)))=some r:=H
         have A14:=Aside0.mk A140
         clear A140
         replace H:=Option.bind_eq_some_iff.mp H
         obtain⟨t488,A150,H⟩:=H
         replace H:(if t486 > t488 then(spec_l12Worst.l0 k1 a2 (rd t481 x14_1) t481 (t481.length:Int) (wrap64 (x14_1+1)) l0_0 l0_1 l0_2) else(spec_l12Worst.l0 k1 a2 x7_1 t481 (t481.length:Int) (wrap64 (x14_1+1)) l0_0 l0_1 l0_2))=some r:=H
         have A15:=Aside0.mk A150
         clear A150
         by_cases c16:t486 > t488
         ·rw [if_pos c16] at H
          have c16b0:decide (t488<t486)=true:=decide_eq_true c16
          clear c16
          have H':=Aside0.mk H
          clear H
          have p484: 0≤ (x14_1:Int):=of_decide_eq_true zq1
          have q484:x14_1< (t481.length:Int):=of_decide_eq_true zq1
          obtain⟨ad484,e484,hx484_0⟩:=Kd.at_int (Kd.R_reads' HO_12.out).2.2 x14_1 p484 q484
          cases e484
          replace p484:=eq_true p484
          replace q484:=eq_true q484
          have hcz17_0:wr.cell? ⟨gb480,0,none⟩=some (.slice A0_0 l0_0.length c0_0):=(blk_cell BK480.out 0).trans rfl
          have hcz17_1:wr.cell? ⟨gb480,1,none⟩=some (.slice A0_1 l0_1.length c0_1):=(blk_cell BK480.out 1).trans rfl
          have hcz17_2:wr.cell? ⟨gb480,2,none⟩=some (.slice A0_2 l0_2.length c0_2):=(blk_cell BK480.out 2).trans rfl
          have hfz17_0:=blk_frozen BK480.out 0
          have hfz17_1:=blk_frozen BK480.out 1
          have hfz17_2:=blk_frozen BK480.out 2
          have p485: 0≤ (a2:Int):=of_decide_eq_true zq1
          have q485:a2< (l0_1.length:Int):=of_decide_eq_true zq1
          obtain⟨ad485,A485_0,c485_0,e485,hx485_0,hl485_0,hi485_0⟩:=at_L1 HR0_1.out a2 p485 q485
          cases e485
          replace hx485_0:=(HB.out.cell (World.block_lt_of_cell? w _ hx485_0)).trans hx485_0
          have HR485_0:=Aside0.mk hi485_0
          have HC485_0:=Aside0.mk hl485_0
          clear hi485_0 hl485_0
          replace p485:=eq_true p485
          replace q485:=eq_true q485
          go_wp2_with (first|(go_at_call 44;(with_reducible refine(spec_l12Place.calls k1 _ _ (rd_L1 l0_1 a2) (rd t481 x14_1) t486 _ ?side1 ?side2 A14.out).mono ?_);(case side1=>repeat(first|exact(Kd.C_below HR485_0.out HB.out)|(with_reducible refine Kd.C_alloc ?_ _)|(with_reducible refine Kd.C_drewN ?_ _)|(with_reducible refine Kd.C_drew ?_)));(case side2=>exact HC485_0.out);rintro e w' ⟨rfl,⟨nd,rfl⟩⟩;(try first|exact⟨rfl,_,World.drewN_drewN _ _ _⟩|exact⟨rfl,_,Eq.trans (World.drewN_drewN _ _ _) (congrArg (World.drewN _) (Nat.add_assoc _ _ _))⟩);have p487: 0≤ (a2:Int):=of_decide_eq_true zq1;have q487:a2< (l0_1.length:Int):=of_decide_eq_true zq1;obtain⟨ad487,A487_0,c487_0,e487,hx487_0,hl487_0,hi487_0⟩:=at_L1 HR0_1.out a2 p487 q487;obtain rfl:ad485=ad487:=(by injection e487);replace hx487_0:=(HB.out.cell (World.block_lt_of_cell? w _ hx487_0)).trans hx487_0;have HR487_0:=Aside0.mk hi487_0;have HC487_0:=Aside0.mk hl487_0;clear hi487_0 hl487_0;replace p487:=eq_true p487;replace q487:=eq_true q487;have ea_:=Option.some.inj (hx485_0.symm.trans hx487_0);injection ea_ with ea_ en_ ec_;subst ea_;subst ec_;clear en_)|(go_at_call 44;(with_reducible refine(spec_l12Place.calls k1 _ _ (rd_L1 l0_1 a2) x7_1 t488 _ ?side1 ?side2 A15.out).mono ?_);(case side1=>repeat(first|exact(Kd.C_below HR487_0.out (zb1 HB GE480))|(with_reducible refine Kd.C_alloc ?_ _)|(with_reducible refine Kd.C_drewN ?_ _)|(with_reducible refine Kd.C_drew ?_)));(case side2=>exact HC487_0.out);rintro e w' ⟨rfl,⟨nd,rfl⟩⟩;(try first|exact⟨rfl,_,World.drewN_drewN _ _ _⟩|exact⟨rfl,_,Eq.trans (World.drewN_drewN _ _ _) (congrArg (World.drewN _) (Nat.add_assoc _ _ _))⟩)))
          repeat(go_quiet (first|(go_at_call 44;(with_reducible refine(spec_l12Place.calls k1 _ _ (rd_L1 l0_1 a2) (rd t481 x14_1) t486 _ ?side1 ?side2 A14.out).mono ?_);(case side1=>repeat(first|exact(Kd.C_below HR485_0.out HB.out)|(with_reducible refine Kd.C_alloc ?_ _)|(with_reducible refine Kd.C_drewN ?_ _)|(with_reducible refine Kd.C_drew ?_)));(case side2=>exact HC485_0.out);rintro e w' ⟨rfl,⟨nd,rfl⟩⟩;(try first|exact⟨rfl,_,World.drewN_drewN _ _ _⟩|exact⟨rfl,_,Eq.trans (World.drewN_drewN _ _ _) (congrArg (World.drewN _) (Nat.add_assoc _ _ _))⟩);have p487: 0≤ (a2:Int):=of_decide_eq_true zq1;have q487:a2< (l0_1.length:Int):=of_decide_eq_true zq1;obtain⟨ad487,A487_0,c487_0,e487,hx487_0,hl487_0,hi487_0⟩:=at_L1 HR0_1.out a2 p487 q487;obtain rfl:ad485=ad487:=(by injection e487);replace hx487_0:=(HB.out.cell (World.block_lt_of_cell? w _ hx487_0)).trans hx487_0;have HR487_0:=Aside0.mk hi487_0;have HC487_0:=Aside0.mk hl487_0;clear hi487_0 hl487_0;replace p487:=eq_true p487;replace q487:=eq_true q487;have ea_:=Option.some.inj (hx485_0.symm.trans hx487_0);injection ea_ with ea_ en_ ec_;subst ea_;subst ec_;clear en_)|(go_at_call 44;(with_reducible refine(spec_l12Place.calls k1 _ _ (rd_L1 l0_1 a2) x7_1 t488 _ ?side1 ?side2 A15.out).mono ?_);(case side1=>repeat(first|exact(Kd.C_below HR487_0.out (zb1 HB GE480))|(with_reducible refine Kd.C_alloc ?_ _)|(with_reducible refine Kd.C_drewN ?_ _)|(with_reducible refine Kd.C_drew ?_)));(case side2=>exact HC487_0.out);rintro e w' ⟨rfl,⟨nd,rfl⟩⟩;(try first|exact⟨rfl,_,World.drewN_drewN _ _ _⟩|exact⟨rfl,_,Eq.trans (World.drewN_drewN _ _ _) (congrArg (World.drewN _) (Nat.add_assoc _ _ _))⟩)));try go_wp2_with (first|(go_at_call 44;(with_reducible refine(spec_l12Place.calls k1 _ _ (rd_L1 l0_1 a2) (rd t481 x14_1) t486 _ ?side1 ?side2 A14.out).mono ?_);(case side1=>repeat(first|exact(Kd.C_below HR485_0.out HB.out)|(with_reducible refine Kd.C_alloc ?_ _)|(with_reducible refine Kd.C_drewN ?_ _)|(with_reducible refine Kd.C_drew ?_)));(case side2=>exact HC485_0.out);rintro e w' ⟨rfl,⟨nd,rfl⟩⟩;(try first|exact⟨rfl,_,World.drewN_drewN _ _ _⟩|exact⟨rfl,_,Eq.trans (World.drewN_drewN _ _ _) (congrArg (World.drewN _) (Nat.add_assoc _ _ _))⟩);have p487: 0≤ (a2:Int):=of_decide_eq_true zq1;have q487:a2< (l0_1.length:Int):=of_decide_eq_true zq1;obtain⟨ad487,A487_0,c487_0,e487,hx487_0,hl487_0,hi487_0⟩:=at_L1 HR0_1.out a2 p487 q487;obtain rfl:ad485=ad487:=(by injection e487);replace hx487_0:=(HB.out.cell (World.block_lt_of_cell? w _ hx487_0)).trans hx487_0;have HR487_0:=Aside0.mk hi487_0;have HC487_0:=Aside0.mk hl487_0;clear hi487_0 hl487_0;replace p487:=eq_true p487;replace q487:=eq_true q487;have ea_:=Option.some.inj (hx485_0.symm.trans hx487_0);injection ea_ with ea_ en_ ec_;subst ea_;subst ec_;clear en_)|(go_at_call 44;(with_reducible refine(spec_l12Place.calls k1 _ _ (rd_L1 l0_1 a2) x7_1 t488 _ ?side1 ?side2 A15.out).mono ?_);(case side1=>repeat(first|exact(Kd.C_below HR487_0.out (zb1 HB GE480))|(with_reducible refine Kd.C_alloc ?_ _)|(with_reducible refine Kd.C_drewN ?_ _)|(with_reducible refine Kd.C_drew ?_)));(case side2=>exact HC487_0.out);rintro e w' ⟨rfl,⟨nd,rfl⟩⟩;(try first|exact⟨rfl,_,World.drewN_drewN _ _ _⟩|exact⟨rfl,_,Eq.trans (World.drewN_drewN _ _ _) (congrArg (World.drewN _) (Nat.add_assoc _ _ _))⟩))))
          go_roundg k1
          case measure=>have:=HK1.out;omega
          case rel=>exact⟨(rd t481 x14_1),(wrap64 (x14_1+1)),(by first|rfl|(simp;done)|(simp [*];done)),(by first|rfl|(simp;done)|(simp [*];done)),H',⟨by have:=HK1.out;omega⟩,⟨by(with_reducible repeat(first|apply Kd.R_alloc|apply Kd.R_drewN|apply Kd.R_drew));exact HO_12.out⟩,⟨by(with_reducible repeat(first|refine blk_drewN ?_ _|refine blk_drew ?_ |refine blk_alloc ?_ _));exact BK480.out⟩,⟨by repeat(first|(with_reducible first|exact HB.out|apply below_alloc|apply pw_below_drewN|apply below_drew1|refine below_set ?_ GE480.out)|exact HB.out)⟩⟩
         ·rw [if_neg c16] at H
          have c16b0:decide (t488<t486)=false:=decide_eq_false c16
          clear c16
          have H':=Aside0.mk H
          clear H
          have p484: 0≤ (x14_1:Int):=of_decide_eq_true zq1
          have q484:x14_1< (t481.length:Int):=of_decide_eq_true zq1
          obtain⟨ad484,e484,hx484_0⟩:=Kd.at_int (Kd.R_reads' HO_12.out).2.2 x14_1 p484 q484
          cases e484
          replace p484:=eq_true p484
          replace q484:=eq_true q484
          have hcz18_0:wr.cell? ⟨gb480,0,none⟩=some (.slice A0_0 l0_0.length c0_0):=(blk_cell BK480.out 0).trans rfl
          have hcz18_1:wr.cell? ⟨gb480,1,none⟩=some (.slice A0_1 l0_1.length c0_1):=(blk_cell BK480.out 1).trans rfl
          have hcz18_2:wr.cell? ⟨gb480,2,none⟩=some (.slice A0_2 l0_2.length c0_2):=(blk_cell BK480.out 2).trans rfl
          have hfz18_0:=blk_frozen BK480.out 0
          have hfz18_1:=blk_frozen BK480.out 1
          have hfz18_2:=blk_frozen BK480.out 2
          have p485: 0≤ (a2:Int):=of_decide_eq_true zq1
          have q485:a2< (l0_1.length:Int):=of_decide_eq_true zq1
          obtain⟨ad485,A485_0,c485_0,e485,hx485_0,hl485_0,hi485_0⟩:=at_L1 HR0_1.out a2 p485 q485
          cases e485
          replace hx485_0:=(HB.out.cell (World.block_lt_of_cell? w _ hx485_0)).trans hx485_0
          have HR485_0:=Aside0.mk hi485_0
          have HC485_0:=Aside0.mk hl485_0
          clear hi485_0 hl485_0
          replace p485:=eq_true p485
          replace q485:=eq_true q485
          go_wp2_with (first|(go_at_call 44;(with_reducible refine(spec_l12Place.calls k1 _ _ (rd_L1 l0_1 a2) (rd t481 x14_1) t486 _ ?side1 ?side2 A14.out).mono ?_);(case side1=>repeat(first|exact(Kd.C_below HR485_0.out HB.out)|(with_reducible refine Kd.C_alloc ?_ _)|(with_reducible refine Kd.C_drewN ?_ _)|(with_reducible refine Kd.C_drew ?_)));(case side2=>exact HC485_0.out);rintro e w' ⟨rfl,⟨nd,rfl⟩⟩;(try first|exact⟨rfl,_,World.drewN_drewN _ _ _⟩|exact⟨rfl,_,Eq.trans (World.drewN_drewN _ _ _) (congrArg (World.drewN _) (Nat.add_assoc _ _ _))⟩);have p487: 0≤ (a2:Int):=of_decide_eq_true zq1;have q487:a2< (l0_1.length:Int):=of_decide_eq_true zq1;obtain⟨ad487,A487_0,c487_0,e487,hx487_0,hl487_0,hi487_0⟩:=at_L1 HR0_1.out a2 p487 q487;obtain rfl:ad485=ad487:=(by injection e487);replace hx487_0:=(HB.out.cell (World.block_lt_of_cell? w _ hx487_0)).trans hx487_0;have HR487_0:=Aside0.mk hi487_0;have HC487_0:=Aside0.mk hl487_0;clear hi487_0 hl487_0;replace p487:=eq_true p487;replace q487:=eq_true q487;have ea_:=Option.some.inj (hx485_0.symm.trans hx487_0);injection ea_ with ea_ en_ ec_;subst ea_;subst ec_;clear en_)|(go_at_call 44;(with_reducible refine(spec_l12Place.calls k1 _ _ (rd_L1 l0_1 a2) x7_1 t488 _ ?side1 ?side2 A15.out).mono ?_);(case side1=>repeat(first|exact(Kd.C_below HR487_0.out (zb1 HB GE480))|(with_reducible refine Kd.C_alloc ?_ _)|(with_reducible refine Kd.C_drewN ?_ _)|(with_reducible refine Kd.C_drew ?_)));(case side2=>exact HC487_0.out);rintro e w' ⟨rfl,⟨nd,rfl⟩⟩;(try first|exact⟨rfl,_,World.drewN_drewN _ _ _⟩|exact⟨rfl,_,Eq.trans (World.drewN_drewN _ _ _) (congrArg (World.drewN _) (Nat.add_assoc _ _ _))⟩)))
          repeat(go_quiet (first|(go_at_call 44;(with_reducible refine(spec_l12Place.calls k1 _ _ (rd_L1 l0_1 a2) (rd t481 x14_1) t486 _ ?side1 ?side2 A14.out).mono ?_);(case side1=>repeat(first|exact(Kd.C_below HR485_0.out HB.out)|(with_reducible refine Kd.C_alloc ?_ _)|(with_reducible refine Kd.C_drewN ?_ _)|(with_reducible refine Kd.C_drew ?_)));(case side2=>exact HC485_0.out);rintro e w' ⟨rfl,⟨nd,rfl⟩⟩;(try first|exact⟨rfl,_,World.drewN_drewN _ _ _⟩|exact⟨rfl,_,Eq.trans (World.drewN_drewN _ _ _) (congrArg (World.drewN _) (Nat.add_assoc _ _ _))⟩);have p487: 0≤ (a2:Int):=of_decide_eq_true zq1;have q487:a2< (l0_1.length:Int):=of_decide_eq_true zq1;obtain⟨ad487,A487_0,c487_0,e487,hx487_0,hl487_0,hi487_0⟩:=at_L1 HR0_1.out a2 p487 q487;obtain rfl:ad485=ad487:=(by injection e487);replace hx487_0:=(HB.out.cell (World.block_lt_of_cell? w _ hx487_0)).trans hx487_0;have HR487_0:=Aside0.mk hi487_0;have HC487_0:=Aside0.mk hl487_0;clear hi487_0 hl487_0;replace p487:=eq_true p487;replace q487:=eq_true q487;have ea_:=Option.some.inj (hx485_0.symm.trans hx487_0);injection ea_ with ea_ en_ ec_;subst ea_;subst ec_;clear en_)|(go_at_call 44;(with_reducible refine(spec_l12Place.calls k1 _ _ (rd_L1 l0_1 a2) x7_1 t488 _ ?side1 ?side2 A15.out).mono ?_);(case side1=>repeat(first|exact(Kd.C_below HR487_0.out (zb1 HB GE480))|(with_reducible refine Kd.C_alloc ?_ _)|(with_reducible refine Kd.C_drewN ?_ _)|(with_reducible refine Kd.C_drew ?_)));(case side2=>exact HC487_0.out);rintro e w' ⟨rfl,⟨nd,rfl⟩⟩;(try first|exact⟨rfl,_,World.drewN_drewN _ _ _⟩|exact⟨rfl,_,Eq.trans (World.drewN_drewN _ _ _) (congrArg (World.drewN _) (Nat.add_assoc _ _ _))⟩)));try go_wp2_with (first|(go_at_call 44;(with_reducible refine(spec_l12Place.calls k1 _ _ (rd_L1 l0_1 a2) (rd t481 x14_1) t486 _ ?side1 ?side2 A14.out).mono ?_);(case side1=>repeat(first|exact(Kd.C_below HR485_0.out HB.out)|(with_reducible refine Kd.C_alloc ?_ _)|(with_reducible refine Kd.C_drewN ?_ _)|(with_reducible refine Kd.C_drew ?_)));(case side2=>exact HC485_0.out);rintro e w' ⟨rfl,⟨nd,rfl⟩⟩;(try first|exact⟨rfl,_,World.drewN_drewN _ _ _⟩|exact⟨rfl,_,Eq.trans (World.drewN_drewN _ _ _) (congrArg (World.drewN _) (Nat.add_assoc _ _ _))⟩);have p487: 0≤ (a2:Int):=of_decide_eq_true zq1;have q487:a2< (l0_1.length:Int):=of_decide_eq_true zq1;obtain⟨ad487,A487_0,c487_0,e487,hx487_0,hl487_0,hi487_0⟩:=at_L1 HR0_1.out a2 p487 q487;obtain rfl:ad485=ad487:=(by injection e487);replace hx487_0:=(HB.out.cell (World.block_lt_of_cell? w _ hx487_0)).trans hx487_0;have HR487_0:=Aside0.mk hi487_0;have HC487_0:=Aside0.mk hl487_0;clear hi487_0 hl487_0;replace p487:=eq_true p487;replace q487:=eq_true q487;have ea_:=Option.some.inj (hx485_0.symm.trans hx487_0);injection ea_ with ea_ en_ ec_;subst ea_;subst ec_;clear en_)|(go_at_call 44;(with_reducible refine(spec_l12Place.calls k1 _ _ (rd_L1 l0_1 a2) x7_1 t488 _ ?side1 ?side2 A15.out).mono ?_);(case side1=>repeat(first|exact(Kd.C_below HR487_0.out (zb1 HB GE480))|(with_reducible refine Kd.C_alloc ?_ _)|(with_reducible refine Kd.C_drewN ?_ _)|(with_reducible refine Kd.C_drew ?_)));(case side2=>exact HC487_0.out);rintro e w' ⟨rfl,⟨nd,rfl⟩⟩;(try first|exact⟨rfl,_,World.drewN_drewN _ _ _⟩|exact⟨rfl,_,Eq.trans (World.drewN_drewN _ _ _) (congrArg (World.drewN _) (Nat.add_assoc _ _ _))⟩))))
          go_roundg k1
          case measure=>have:=HK1.out;omega
          case rel=>exact⟨(x7_1),(wrap64 (x14_1+1)),(by first|rfl|(simp;done)|(simp [*];done)),(by first|rfl|(simp;done)|(simp [*];done)),H',⟨by have:=HK1.out;omega⟩,⟨by(with_reducible repeat(first|apply Kd.R_alloc|apply Kd.R_drewN|apply Kd.R_drew));exact HO_12.out⟩,⟨by(with_reducible repeat(first|refine blk_drewN ?_ _|refine blk_drew ?_ |refine blk_alloc ?_ _));exact BK480.out⟩,⟨by repeat(first|(with_reducible first|exact HB.out|apply below_alloc|apply pw_below_drewN|apply below_drew1|refine below_set ?_ GE480.out)|exact HB.out)⟩⟩
        ·rw [if_neg c13] at H
         exact absurd H (by simp)
       ·rw [if_neg c12] at H
        exact absurd H (by simp)
     ·rw [if_neg c10] at H
      exact absurd H (by simp)
    ·rw [if_neg c9] at H
     exact absurd H (by simp)
   ·rw [if_neg c8] at H
    have c8b0:decide (x14_1< (t481.length:Int))=false:=decide_eq_false c8
    clear c8
    obtain rfl:=Option.some.inj H
    go_wp2
    repeat(go_quiet (fail);try go_wp2)
    go_ret
    exact⟨by first|rfl|(simp [errW_none,errW_some]<;>rfl)|(simp [*,errW_none,errW_some]<;>rfl),by repeat(first|(with_reducible first|exact HB.out|apply below_alloc|apply pw_below_drewN|apply below_drew1|refine below_set ?_ GE480.out)|exact HB.out)⟩
end Go.Proofs.Ytoipbblhmcpneaa.P

namespace Go.Proofs.Ytoipbblhmcpneaa.P
open Go.RowKit Go.Proofs.YtoipbblhmcpneaaW.PrintWords Go.Proofs.YtoipbblhmcpneaaW.PrintLast Go.Proofs.YtoipbblhmcpneaaW.PrintMore
attribute [local go_sem] max2_int min2_int max_two min_two max_three min_three max_four min_four   -- for this text's walks alone
set_option linter.unusedVariables false
set_option linter.unusedSimpArgs false
def spec_l12Would.f (k:Nat) (l0_0:List (List Int)) (l0_1:List (List Int)) (l0_2:List Int) (l1:List Int) (a2:Int) (a3:Int):Option (Bool):=(spec_l12Has.f k l1 a2).bind fun t490=>(if 0≤a2 then(if a2< (l0_2.length:Int) then(if (t490.length:Int)< (rd l0_2 a2) then(some true) else((spec_l12Worst.f k l0_0 l0_1 l0_2 l1 a2).bind fun t494=>(if t494≥0 then(if a2< (l0_1.length:Int) then((spec_l12Place.f k (rd_L1 l0_1 a2) a3).bind fun t496=>((spec_l12Place.f k (rd_L1 l0_1 a2) t494).bind fun t498=>(some (decide (t496<t498))))) else(none)) else(some false)))) else(none)) else(none))
def spec_l12Would.T1:Bool × List (List Nat × List Nat):=(true,[([],[]),([],[]),([0,1],[0,1]),([2],[2]),([],[]),([4],[4]),([],[]),([5,6],[5,6]),([7],[7]),([3,8],[3,8])])
def spec_l12Would.B1:List Nat:= [0,0,3,7,0,16,0,112,240,511]
theorem spec_l12Would.tab1:rtab .any (opsOf Try.f61 1)=spec_l12Would.T1:=by kernel_rfl
theorem spec_l12Would.bits1:waitsOk spec_l12Would.T1.2 spec_l12Would.B1=true:=by kernel_rfl
def spec_l12Would.T4:Bool × List (List Nat × List Nat):=(true,[([],[]),([0],[0]),([1],[1]),([2],[2]),([3,2],[2,3]),([2],[2]),([4,5,2],[2,4,5]),([6,2],[2,6]),([2],[2]),([7,8,2,2],[2,7,8]),([2],[2]),([10,2],[2,10]),([2],[2]),([11,12,2],[2,11,12]),([13,2],[2,13]),([2],[2]),([14,15,9,2],[2,14,15]),([9,16,2],[2,9,16]),([2,17],[2,17]),([18,16,0,1,2,3,4,5,6,7,8,9,10,11,12,13,14,15,16,17,18],[18])])
def spec_l12Would.B4:List Nat:= [0,1,3,7,15,7,63,127,7,511,7,1031,7,7175,15367,7,65535,131071,262143,524287]
theorem spec_l12Would.tab4:rtab .any (opsOf Try.f61 4)=spec_l12Would.T4:=by kernel_rfl
theorem spec_l12Would.bits4:waitsOk spec_l12Would.T4.2 spec_l12Would.B4=true:=by kernel_rfl
abbrev f':=false
abbrev t':=true
theorem zq5 {α :Type} (l:List α) (i:Nat) (a: α):l.toArray.setIfInBounds i a= (l.set i a).toArray:=List.setIfInBounds_toArray ..
theorem zq6 {α :Type} (a b: α) (l:List α):(a::l).set 0 b=b::l:=rfl
theorem zq7 {α :Type} (a b: α) (l:List α) (n:Nat):(a::l).set (n+1) b=a::l.set n b:=rfl
set_option maxHeartbeats 8000000 in
set_option maxRecDepth 100000 in
theorem spec_l12Would.calls (k:Nat) (A0_0:Option Addr) (c0_0:Nat) (l0_0:List (List Int)) (A0_1:Option Addr) (c0_1:Nat) (l0_1:List (List Int)) (A0_2:Option Addr) (c0_2:Nat) (l0_2:List Int) (A1:Option Addr) (c1:Nat) (l1:List Int) (a2:Int) (a3:Int) (r:Bool) (w:World) (hr0_0:Kd.C (Kd.slice 3 (Kd.int .i64)) w A0_0 l0_0.length l0_0) (hc0_0:l0_0.length≤c0_0) (hr0_1:Kd.C (Kd.slice 3 (Kd.int .i64)) w A0_1 l0_1.length l0_1) (hc0_1:l0_1.length≤c0_1) (hr0_2:Kd.C (Kd.int .i64) w A0_2 l0_2.length l0_2) (hc0_2:l0_2.length≤c0_2) (hr1:Kd.C (Kd.int .i64) w A1 l1.length l1) (hc1:l1.length≤c1) (h:spec_l12Would.f k l0_0 l0_1 l0_2 l1 a2 a3=some r):
  Calls Try.prog 61 #[.agg #[.slice A0_0 l0_0.length c0_0,.slice A0_1 l0_1.length c0_1,.slice A0_2 l0_2.length c0_2],.slice A1 l1.length c1,.int .i64 a2,.int .i64 a3] w fun e w'=>e= .returned (.bool r)∧Below w.heap.size w w':=by
 have hu33:=Try.underlying33
 have HR0_0:=Aside0.mk hr0_0
 have HC0_0:=Aside0.mk hc0_0
 clear hr0_0 hc0_0
 have HR0_1:=Aside0.mk hr0_1
 have HC0_1:=Aside0.mk hc0_1
 clear hr0_1 hc0_1
 have HR0_2:=Aside0.mk hr0_2
 have HC0_2:=Aside0.mk hc0_2
 clear hr0_2 hc0_2
 have HR1:=Aside0.mk hr1
 have HC1:=Aside0.mk hc1
 clear hr1 hc1
 have HB:=Aside0.mk (Below.refl w.heap.size w)
 have H:((spec_l12Has.f k l1 a2).bind fun t490=>(if 0≤a2 then(if a2< (l0_2.length:Int) then(if (t490.length:Int)< (rd l0_2 a2) then(some true) else((spec_l12Worst.f k l0_0 l0_1 l0_2 l1 a2).bind fun t494=>(if t494≥0 then(if a2< (l0_1.length:Int) then((spec_l12Place.f k (rd_L1 l0_1 a2) a3).bind fun t496=>((spec_l12Place.f k (rd_L1 l0_1 a2) t494).bind fun t498=>(some (decide (t496<t498))))) else(none)) else(some false)))) else(none)) else(none)))=some r:=h
 clear h
 replace H:=Option.bind_eq_some_iff.mp H
 obtain⟨t490,A50,H⟩:=H
 replace H:(if 0≤a2 then(if a2< (l0_2.length:Int) then(if (t490.length:Int)< (rd l0_2 a2) then(some true) else((spec_l12Worst.f k l0_0 l0_1 l0_2 l1 a2).bind fun t494=>(if t494≥0 then(if a2< (l0_1.length:Int) then((spec_l12Place.f k (rd_L1 l0_1 a2) a3).bind fun t496=>((spec_l12Place.f k (rd_L1 l0_1 a2) t494).bind fun t498=>(some (decide (t496<t498))))) else(none)) else(some false)))) else(none)) else(none))=some r:=H
 have A5:=Aside0.mk A50
 clear A50
 by_cases c6: 0≤a2
 ·rw [if_pos c6] at H
  have c6b0:decide (0≤a2)=true:=decide_eq_true c6
  clear c6
  by_cases c7:a2< (l0_2.length:Int)
  ·rw [if_pos c7] at H
   have c7b0:decide (a2< (l0_2.length:Int))=true:=decide_eq_true c7
   clear c7
   by_cases c8:(t490.length:Int)< (rd l0_2 a2)
   ·rw [if_pos c8] at H
    have c8b0:decide ((t490.length:Int)< (rd l0_2 a2))=true:=decide_eq_true c8
    clear c8
    obtain rfl:=Option.some.inj H
    go_enter Try.func61,Try.ntmps61
    try go_wp2_with (first|((with_reducible refine gate_dst (N:=4) rfl ?_);refine box_event ?hg (N:=4) ?hd (cs:= #[.slice A0_0 l0_0.length c0_0,.slice A0_1 l0_1.length c0_1,.slice A0_2 l0_2.length c0_2]) (t:=33) ?hr ?_;(case hd=>rfl);(case hg=>rfl);(case hr=>first|(go_simp;done)|(go_simp;rfl));intro gb489 hg w9 hbox hb;have n0_:=Aside0.mk (below_step (zb0 HB) hb);have n1_:=Aside0.mk (hbox);have n2_:=Aside0.mk ((by rw [hg];exact(below_size (zb0 HB)):w.heap.size≤gb489));have n3_:=Aside0.mk ((by rw [hg];exact(below_size (zb0 HB)):w.heap.size≤gb489));clear HB;have HB:=n0_;have BK489:=n1_;have GW489:=n2_;have GE489:=n3_;clear n0_ n1_ n2_ n3_;clear hb hbox hg))
    have n0_:=Aside0.mk (blk_drew BK489.out)
    have n1_:=Aside0.mk (below_drew1 HB.out)
    clear BK489
    clear HB
    have BK489:=n0_
    have HB:=n1_
    clear n0_ n1_
    have p493: 0≤ (a2:Int):=of_decide_eq_true zq1
    have q493:a2< (l0_2.length:Int):=of_decide_eq_true zq1
    obtain⟨ad493,e493,hx493_0⟩:=Kd.at_int HR0_2.out a2 p493 q493
    have hw493_0:=hx493_0
    cases e493
    replace hx493_0:=(HB.out.cell (World.block_lt_of_cell? w _ hx493_0)).trans hx493_0
    replace p493:=eq_true p493
    replace q493:=eq_true q493
    refine start_ (n:=10) (S:=fun w'=>w'.cell? ⟨gb489,0,none⟩=some (.slice A0_0 l0_0.length c0_0)∧w'.cell? ⟨gb489,1,none⟩=some (.slice A0_1 l0_1.length c0_1)∧w'.cell? ⟨gb489,2,none⟩=some (.slice (some ad493) l0_2.length c0_2)∧w'.cell? (ad493.add (a2).toNat)=some (.int .i64 (rd l0_2 a2))) (ds:= []) #[f',f',f',f',f',f',f',f',f',f'] (by kernel_rfl) rfl rfl ⟨(blk_cell BK489.out 0).trans rfl,(blk_cell BK489.out 1).trans rfl,(blk_cell BK489.out 2).trans rfl,((HB.out.cell (World.block_lt_of_cell? w _ hw493_0)).trans hw493_0)⟩ (fun hHeld=>?_);refine with_tabW spec_l12Would.tab1 spec_l12Would.bits1 (fun HT_ HW_=>?_)
    generalize w9.drew=w10 at BK489 HB hx493_0 hHeld ⊢
    refine pure_ (i:=0) (N:=some 10) (v:=?_) (a':=?_) #[t',f',f',f',f',f',f',f',f',f'] rfl rfl (any_of HT_.out (by kernel_rfl)) (fun _ _ _ h=>h) (Or.inl ⟨by rfl,?_⟩) ?_ ?_
    rotate_left
    ·intro w'
     go_simp
     with_reducible rfl
    rotate_left
    ·simp only [Act.put,zq5,zq6,zq7,i64_w,i32_w]
     rfl
    refine pure_ (i:=1) (N:=some 11) (v:=?_) (a':=?_) #[t',t',f',f',f',f',f',f',f',f'] rfl rfl (any_of HT_.out (by kernel_rfl)) (fun _ _ _ h=>h) (Or.inl ⟨by rfl,?_⟩) ?_ ?_
    rotate_left
    ·intro w'
     go_simp
     with_reducible rfl
    rotate_left
    ·simp only [Act.put,zq5,zq6,zq7,i64_w,i32_w]
     rfl
    refine pure_ (i:=4) (N:=some 14) (v:=?_) (a':=?_) #[t',t',f',f',t',f',f',f',f',f'] rfl rfl (any_of HT_.out (by kernel_rfl)) (fun _ _ _ h=>h) (Or.inl ⟨by rfl,?_⟩) ?_ ?_
    rotate_left
    ·intro w'
     go_simp
     with_reducible rfl
    rotate_left
    ·simp only [Act.put,zq5,zq6,zq7,i64_w,i32_w]
     rfl
    refine pure_ (i:=6) (N:=some 16) (v:=?_) (a':=?_) #[t',t',f',f',t',f',t',f',f',f'] rfl rfl (any_of HT_.out (by kernel_rfl)) (fun _ _ _ h=>h) (Or.inl ⟨by rfl,?_⟩) ?_ ?_
    rotate_left
    ·intro w'
     go_simp
     with_reducible rfl
    rotate_left
    ·simp only [Act.put,zq5,zq6,zq7,i64_w,i32_w]
     rfl
    refine take_ (i:=5) (N:=some 15) (v:=?_) (a':=?_) #[t',t',f',f',t',t',t',f',f',f'] rfl rfl (take_ofW HT_.out HW_.out (by kernel_rfl)) (fun _ _ _ h=>h) (Or.inl ⟨by rfl,?_⟩) hHeld ?_ ?_
    rotate_left
    ·rintro w' ⟨s0,s1,s2,s3⟩
     go_simp
     with_reducible rfl
    rotate_left
    ·simp only [Act.put,zq5,zq6,zq7,i64_w,i32_w]
     rfl
    refine pure_ (i:=7) (N:=some 17) (v:=?_) (a':=?_) #[t',t',f',f',t',t',t',t',f',f'] rfl rfl (any_of HT_.out (by kernel_rfl)) (fun _ _ _ h=>h) (Or.inl ⟨by rfl,?_⟩) ?_ ?_
    rotate_left
    ·intro w'
     go_simp
     with_reducible rfl
    rotate_left
    ·simp only [Act.put,zq5,zq6,zq7,i64_w,i32_w]
     rfl
    refine take_ (i:=8) (N:=some 18) (v:=?_) (a':=?_) #[t',t',f',f',t',t',t',t',t',f'] rfl rfl (take_ofW HT_.out HW_.out (by kernel_rfl)) (fun _ _ _ h=>h) (Or.inl ⟨by rfl,?_⟩) hHeld ?_ ?_
    rotate_left
    ·rintro w' ⟨s0,s1,s2,s3⟩
     go_simp
     with_reducible rfl
    rotate_left
    ·simp only [Act.put,zq5,zq6,zq7,i64_w,i32_w]
     rfl
    refine one_ (i:=2) (N:=some 12) #[t',t',t',f',t',t',t',t',t',f'] rfl rfl (one_of HT_.out (by kernel_rfl)) (by decide) (fun K hK=>?_)
    refine goes_ Try.func55 (by kernel_rfl) rfl #[.slice A1 l1.length c1,.int .i64 a2] (by rfl) rfl rfl zq2 ?_
    with_reducible refine(spec_l12Has.calls k _ _ l1 a2 t490 _ ?side1 ?side2 A5.out).mono ?_
    (case side1=>repeat(first|exact(Kd.C_below HR1.out HB.out)|(with_reducible refine Kd.C_alloc ?_ _)|(with_reducible refine Kd.C_drewN ?_ _)|(with_reducible refine Kd.C_drew ?_)))
    (case side2=>exact HC1.out)
    rintro e w11 ⟨v491,rfl,ho0,hb⟩
    refine⟨_,rfl,?_⟩
    have n0_:=Aside0.mk (Kd.R_lower ho0 (below_size (zb1 HB GE489)))
    have n1_:=Aside0.mk (blk_below (g:=gb489) (o:= .cells #[.slice A0_0 l0_0.length c0_0,.slice A0_1 l0_1.length c0_1,.slice (some ad493) l0_2.length c0_2] 33 (0,0)) (zq3 BK489) hb)
    have n2_:=Aside0.mk (below_step (zb1 HB GE489) hb)
    clear BK489
    clear HB
    have HO492:=n0_
    have BK489:=n1_
    have HB:=n2_
    clear n0_ n1_ n2_
    (try clear hb)
    (try clear hb2)
    (try clear hk)
    (try clear hi)
    (try clear ho0)
    obtain⟨Ao12,co12,eo12⟩:=Kd.R_slice HO492.out
    (first|subst eo12|(injection eo12 with f1_ f2_ f3_;have f4_:=f1_.symm;have f5_:=f3_.symm;clear f1_ f2_ f3_;subst f4_;subst f5_))
    refine hK.out _ _ ⟨(blk_cell BK489.out 0).trans rfl,(blk_cell BK489.out 1).trans rfl,(blk_cell BK489.out 2).trans rfl,((HB.out.cell (World.block_lt_of_cell? w _ hw493_0)).trans hw493_0)⟩ (fun hHeld=>?_)
    clear hK K
    refine norm_ (a':=?_) ?_ ?_
    rotate_left
    ·show Act.put _ (some 12) _=_
     simp only [Act.put,zq5,zq6,zq7,i64_w,i32_w]
     rfl
    refine pure_ (i:=3) (N:=some 13) (v:=?_) (a':=?_) #[t',t',t',t',t',t',t',t',t',f'] rfl rfl (any_of HT_.out (by kernel_rfl)) (fun _ _ _ h=>h) (Or.inl ⟨by rfl,?_⟩) ?_ ?_
    rotate_left
    ·intro w'
     go_simp
     with_reducible rfl
    rotate_left
    ·simp only [Act.put,zq5,zq6,zq7,i64_w,i32_w]
     rfl
    refine pure_ (i:=9) (N:=some 19) (v:=?_) (a':=?_) #[t',t',t',t',t',t',t',t',t',t'] rfl rfl (any_of HT_.out (by kernel_rfl)) (fun _ _ _ h=>h) (Or.inl ⟨by rfl,?_⟩) ?_ ?_
    rotate_left
    ·intro w'
     go_simp
     with_reducible rfl
    rotate_left
    ·simp only [Act.put,zq5,zq6,zq7,i64_w,i32_w]
     rfl
    refine done_ (done_of HT_.out (by kernel_rfl)) ?_
    try go_wp2
    go_ret
    exact⟨by first|rfl|(simp [errW_none,errW_some]<;>rfl)|(simp [*,errW_none,errW_some]<;>rfl),by repeat(first|(with_reducible first|exact HB.out|apply below_alloc|apply pw_below_drewN|apply below_drew1|refine below_set ?_ GE489.out)|exact HB.out)⟩
   ·rw [if_neg c8] at H
    have c8b0:decide ((t490.length:Int)< (rd l0_2 a2))=false:=decide_eq_false c8
    clear c8
    replace H:=Option.bind_eq_some_iff.mp H
    obtain⟨t494,A130,H⟩:=H
    replace H:(if t494≥0 then(if a2< (l0_1.length:Int) then((spec_l12Place.f k (rd_L1 l0_1 a2) a3).bind fun t496=>((spec_l12Place.f k (rd_L1 l0_1 a2) t494).bind fun t498=>(some (decide (t496<t498))))) else(none)) else(some false))=some r:=H
    have A13:=Aside0.mk A130
    clear A130
    by_cases c14:t494≥0
    ·rw [if_pos c14] at H
     have c14b0:decide (0≤t494)=true:=decide_eq_true c14
     clear c14
     by_cases c15:a2< (l0_1.length:Int)
     ·rw [if_pos c15] at H
      have c15b0:decide (a2< (l0_1.length:Int))=true:=decide_eq_true c15
      clear c15
      replace H:=Option.bind_eq_some_iff.mp H
      obtain⟨t496,A160,H⟩:=H
      replace H:((spec_l12Place.f k (rd_L1 l0_1 a2) t494).bind fun t498=>(some (decide (t496<t498))))=some r:=H
      have A16:=Aside0.mk A160
      clear A160
      replace H:=Option.bind_eq_some_iff.mp H
      obtain⟨t498,A170,H⟩:=H
      replace H:(some (decide (t496<t498)))=some r:=H
      have A17:=Aside0.mk A170
      clear A170
      obtain rfl:=Option.some.inj H
      go_enter Try.func61,Try.ntmps61
      try go_wp2_with (first|((with_reducible refine gate_dst (N:=4) rfl ?_);refine box_event ?hg (N:=4) ?hd (cs:= #[.slice A0_0 l0_0.length c0_0,.slice A0_1 l0_1.length c0_1,.slice A0_2 l0_2.length c0_2]) (t:=33) ?hr ?_;(case hd=>rfl);(case hg=>rfl);(case hr=>first|(go_simp;done)|(go_simp;rfl));intro gb489 hg w18 hbox hb;have n0_:=Aside0.mk (below_step (zb0 HB) hb);have n1_:=Aside0.mk (hbox);have n2_:=Aside0.mk ((by rw [hg];exact(below_size (zb0 HB)):w.heap.size≤gb489));have n3_:=Aside0.mk ((by rw [hg];exact(below_size (zb0 HB)):w.heap.size≤gb489));clear HB;have HB:=n0_;have BK489:=n1_;have GW489:=n2_;have GE489:=n3_;clear n0_ n1_ n2_ n3_;clear hb hbox hg))
      have n0_:=Aside0.mk (blk_drew BK489.out)
      have n1_:=Aside0.mk (below_drew1 HB.out)
      clear BK489
      clear HB
      have BK489:=n0_
      have HB:=n1_
      clear n0_ n1_
      have p493: 0≤ (a2:Int):=of_decide_eq_true zq1
      have q493:a2< (l0_2.length:Int):=of_decide_eq_true zq1
      obtain⟨ad493,e493,hx493_0⟩:=Kd.at_int HR0_2.out a2 p493 q493
      have hw493_0:=hx493_0
      cases e493
      replace hx493_0:=(HB.out.cell (World.block_lt_of_cell? w _ hx493_0)).trans hx493_0
      replace p493:=eq_true p493
      replace q493:=eq_true q493
      refine start_ (n:=10) (S:=fun w'=>w'.cell? ⟨gb489,0,none⟩=some (.slice A0_0 l0_0.length c0_0)∧w'.cell? ⟨gb489,1,none⟩=some (.slice A0_1 l0_1.length c0_1)∧w'.cell? ⟨gb489,2,none⟩=some (.slice (some ad493) l0_2.length c0_2)∧w'.cell? (ad493.add (a2).toNat)=some (.int .i64 (rd l0_2 a2))) (ds:= []) #[f',f',f',f',f',f',f',f',f',f'] (by kernel_rfl) rfl rfl ⟨(blk_cell BK489.out 0).trans rfl,(blk_cell BK489.out 1).trans rfl,(blk_cell BK489.out 2).trans rfl,((HB.out.cell (World.block_lt_of_cell? w _ hw493_0)).trans hw493_0)⟩ (fun hHeld=>?_);refine with_tabW spec_l12Would.tab1 spec_l12Would.bits1 (fun HT_ HW_=>?_)
      generalize w18.drew=w19 at BK489 HB hx493_0 hHeld ⊢
      refine pure_ (i:=0) (N:=some 10) (v:=?_) (a':=?_) #[t',f',f',f',f',f',f',f',f',f'] rfl rfl (any_of HT_.out (by kernel_rfl)) (fun _ _ _ h=>h) (Or.inl ⟨by rfl,?_⟩) ?_ ?_
      rotate_left
      ·intro w'
       go_simp
       with_reducible rfl
      rotate_left
      ·simp only [Act.put,zq5,zq6,zq7,i64_w,i32_w]
       rfl
      refine pure_ (i:=1) (N:=some 11) (v:=?_) (a':=?_) #[t',t',f',f',f',f',f',f',f',f'] rfl rfl (any_of HT_.out (by kernel_rfl)) (fun _ _ _ h=>h) (Or.inl ⟨by rfl,?_⟩) ?_ ?_
      rotate_left
      ·intro w'
       go_simp
       with_reducible rfl
      rotate_left
      ·simp only [Act.put,zq5,zq6,zq7,i64_w,i32_w]
       rfl
      refine pure_ (i:=4) (N:=some 14) (v:=?_) (a':=?_) #[t',t',f',f',t',f',f',f',f',f'] rfl rfl (any_of HT_.out (by kernel_rfl)) (fun _ _ _ h=>h) (Or.inl ⟨by rfl,?_⟩) ?_ ?_
      rotate_left
      ·intro w'
       go_simp
       with_reducible rfl
      rotate_left
      ·simp only [Act.put,zq5,zq6,zq7,i64_w,i32_w]
       rfl
      refine pure_ (i:=6) (N:=some 16) (v:=?_) (a':=?_) #[t',t',f',f',t',f',t',f',f',f'] rfl rfl (any_of HT_.out (by kernel_rfl)) (fun _ _ _ h=>h) (Or.inl ⟨by rfl,?_⟩) ?_ ?_
      rotate_left
      ·intro w'
       go_simp
       with_reducible rfl
      rotate_left
      ·simp only [Act.put,zq5,zq6,zq7,i64_w,i32_w]
       rfl
      refine take_ (i:=5) (N:=some 15) (v:=?_) (a':=?_) #[t',t',f',f',t',t',t',f',f',f'] rfl rfl (take_ofW HT_.out HW_.out (by kernel_rfl)) (fun _ _ _ h=>h) (Or.inl ⟨by rfl,?_⟩) hHeld ?_ ?_
      rotate_left
      ·rintro w' ⟨s0,s1,s2,s3⟩
       go_simp
       with_reducible rfl
      rotate_left
      ·simp only [Act.put,zq5,zq6,zq7,i64_w,i32_w]
       rfl
      refine pure_ (i:=7) (N:=some 17) (v:=?_) (a':=?_) #[t',t',f',f',t',t',t',t',f',f'] rfl rfl (any_of HT_.out (by kernel_rfl)) (fun _ _ _ h=>h) (Or.inl ⟨by rfl,?_⟩) ?_ ?_
      rotate_left
      ·intro w'
       go_simp
       with_reducible rfl
      rotate_left
      ·simp only [Act.put,zq5,zq6,zq7,i64_w,i32_w]
       rfl
      refine take_ (i:=8) (N:=some 18) (v:=?_) (a':=?_) #[t',t',f',f',t',t',t',t',t',f'] rfl rfl (take_ofW HT_.out HW_.out (by kernel_rfl)) (fun _ _ _ h=>h) (Or.inl ⟨by rfl,?_⟩) hHeld ?_ ?_
      rotate_left
      ·rintro w' ⟨s0,s1,s2,s3⟩
       go_simp
       with_reducible rfl
      rotate_left
      ·simp only [Act.put,zq5,zq6,zq7,i64_w,i32_w]
       rfl
      refine one_ (i:=2) (N:=some 12) #[t',t',t',f',t',t',t',t',t',f'] rfl rfl (one_of HT_.out (by kernel_rfl)) (by decide) (fun K hK=>?_)
      refine goes_ Try.func55 (by kernel_rfl) rfl #[.slice A1 l1.length c1,.int .i64 a2] (by rfl) rfl rfl zq2 ?_
      with_reducible refine(spec_l12Has.calls k _ _ l1 a2 t490 _ ?side1 ?side2 A5.out).mono ?_
      (case side1=>repeat(first|exact(Kd.C_below HR1.out HB.out)|(with_reducible refine Kd.C_alloc ?_ _)|(with_reducible refine Kd.C_drewN ?_ _)|(with_reducible refine Kd.C_drew ?_)))
      (case side2=>exact HC1.out)
      rintro e w20 ⟨v491,rfl,ho0,hb⟩
      refine⟨_,rfl,?_⟩
      have n0_:=Aside0.mk (Kd.R_lower ho0 (below_size (zb1 HB GE489)))
      have n1_:=Aside0.mk (blk_below (g:=gb489) (o:= .cells #[.slice A0_0 l0_0.length c0_0,.slice A0_1 l0_1.length c0_1,.slice (some ad493) l0_2.length c0_2] 33 (0,0)) (zq3 BK489) hb)
      have n2_:=Aside0.mk (below_step (zb1 HB GE489) hb)
      clear BK489
      clear HB
      have HO492:=n0_
      have BK489:=n1_
      have HB:=n2_
      clear n0_ n1_ n2_
      (try clear hb)
      (try clear hb2)
      (try clear hk)
      (try clear hi)
      (try clear ho0)
      obtain⟨Ao21,co21,eo21⟩:=Kd.R_slice HO492.out
      (first|subst eo21|(injection eo21 with f1_ f2_ f3_;have f4_:=f1_.symm;have f5_:=f3_.symm;clear f1_ f2_ f3_;subst f4_;subst f5_))
      refine hK.out _ _ ⟨(blk_cell BK489.out 0).trans rfl,(blk_cell BK489.out 1).trans rfl,(blk_cell BK489.out 2).trans rfl,((HB.out.cell (World.block_lt_of_cell? w _ hw493_0)).trans hw493_0)⟩ (fun hHeld=>?_)
      clear hK K
      refine norm_ (a':=?_) ?_ ?_
      rotate_left
      ·show Act.put _ (some 12) _=_
       simp only [Act.put,zq5,zq6,zq7,i64_w,i32_w]
       rfl
      refine pure_ (i:=3) (N:=some 13) (v:=?_) (a':=?_) #[t',t',t',t',t',t',t',t',t',f'] rfl rfl (any_of HT_.out (by kernel_rfl)) (fun _ _ _ h=>h) (Or.inl ⟨by rfl,?_⟩) ?_ ?_
      rotate_left
      ·intro w'
       go_simp
       with_reducible rfl
      rotate_left
      ·simp only [Act.put,zq5,zq6,zq7,i64_w,i32_w]
       rfl
      refine pure_ (i:=9) (N:=some 19) (v:=?_) (a':=?_) #[t',t',t',t',t',t',t',t',t',t'] rfl rfl (any_of HT_.out (by kernel_rfl)) (fun _ _ _ h=>h) (Or.inl ⟨by rfl,?_⟩) ?_ ?_
      rotate_left
      ·intro w'
       go_simp
       with_reducible rfl
      rotate_left
      ·simp only [Act.put,zq5,zq6,zq7,i64_w,i32_w]
       rfl
      refine done_ (done_of HT_.out (by kernel_rfl)) ?_
      have hcz22_0:w20.cell? ⟨gb489,0,none⟩=some (.slice A0_0 l0_0.length c0_0):=(blk_cell BK489.out 0).trans rfl
      have hcz22_1:w20.cell? ⟨gb489,1,none⟩=some (.slice A0_1 l0_1.length c0_1):=(blk_cell BK489.out 1).trans rfl
      have hcz22_2:w20.cell? ⟨gb489,2,none⟩=some (.slice (some ad493) l0_2.length c0_2):=(blk_cell BK489.out 2).trans rfl
      have hfz22_0:=blk_frozen BK489.out 0
      have hfz22_1:=blk_frozen BK489.out 1
      have hfz22_2:=blk_frozen BK489.out 2
      try go_wp2_with (first|((with_reducible refine gate_callee (f:=62) rfl ?_);refine goesL_ (some 23) rfl rfl Try.func62 (by kernel_rfl) rfl #[.agg #[.slice A0_0 l0_0.length c0_0,.slice A0_1 l0_1.length c0_1,.slice (some ad493) l0_2.length c0_2],.slice A1 l1.length c1,.int .i64 a2] rfl zq2 ?_;(with_reducible refine(spec_l12Worst.calls k _ _ l0_0 _ _ l0_1 _ _ l0_2 _ _ l1 a2 t494 _ ?side1 ?side2 ?side3 ?side4 ?side5 ?side6 ?side7 ?side8 A13.out).mono ?_);(case side1=>repeat(first|exact(Kd.C_below HR0_0.out HB.out)|(with_reducible refine Kd.C_alloc ?_ _)|(with_reducible refine Kd.C_drewN ?_ _)|(with_reducible refine Kd.C_drew ?_)));(case side2=>exact HC0_0.out);(case side3=>repeat(first|exact(Kd.C_below HR0_1.out HB.out)|(with_reducible refine Kd.C_alloc ?_ _)|(with_reducible refine Kd.C_drewN ?_ _)|(with_reducible refine Kd.C_drew ?_)));(case side4=>exact HC0_1.out);(case side5=>repeat(first|exact(Kd.C_below HR0_2.out HB.out)|(with_reducible refine Kd.C_alloc ?_ _)|(with_reducible refine Kd.C_drewN ?_ _)|(with_reducible refine Kd.C_drew ?_)));(case side6=>exact HC0_2.out);(case side7=>repeat(first|exact(Kd.C_below HR1.out HB.out)|(with_reducible refine Kd.C_alloc ?_ _)|(with_reducible refine Kd.C_drewN ?_ _)|(with_reducible refine Kd.C_drew ?_)));(case side8=>exact HC1.out);rintro e w23 ⟨rfl,hb⟩;refine⟨_,rfl,?_⟩;have n0_:=Aside0.mk (Kd.R_below (zq4 HO492) hb);have n1_:=Aside0.mk (blk_below (g:=gb489) (o:= .cells #[.slice A0_0 l0_0.length c0_0,.slice A0_1 l0_1.length c0_1,.slice (some ad493) l0_2.length c0_2] 33 (0,0)) (zq3 BK489) hb);have n2_:=Aside0.mk (below_step (zb1 HB GE489) hb);clear HO492;clear BK489;clear HB;have HO492:=n0_;have BK489:=n1_;have HB:=n2_;clear n0_ n1_ n2_;(try clear hb);(try clear hb2);(try clear hk);(try clear hi)))
      have n0_:=Aside0.mk (Kd.R_drew HO492.out)
      have n1_:=Aside0.mk (blk_drew BK489.out)
      have n2_:=Aside0.mk (below_drew1 HB.out)
      clear HO492
      clear BK489
      clear HB
      have HO492:=n0_
      have BK489:=n1_
      have HB:=n2_
      clear n0_ n1_ n2_
      have p495: 0≤ (a2:Int):=of_decide_eq_true zq1
      have q495:a2< (l0_1.length:Int):=of_decide_eq_true zq1
      obtain⟨ad495,A495_0,c495_0,e495,hx495_0,hl495_0,hi495_0⟩:=at_L1 HR0_1.out a2 p495 q495
      have hw495_0:=hx495_0
      cases e495
      replace hx495_0:=(HB.out.cell (World.block_lt_of_cell? w _ hx495_0)).trans hx495_0
      have HR495_0:=Aside0.mk hi495_0
      have HC495_0:=Aside0.mk hl495_0
      clear hi495_0 hl495_0
      replace p495:=eq_true p495
      replace q495:=eq_true q495
      have p497: 0≤ (a2:Int):=of_decide_eq_true zq1
      have q497:a2< (l0_1.length:Int):=of_decide_eq_true zq1
      obtain⟨ad497,A497_0,c497_0,e497,hx497_0,hl497_0,hi497_0⟩:=at_L1 HR0_1.out a2 p497 q497
      have hw497_0:=hx497_0
      obtain rfl:ad495=ad497:=(by injection e497)
      replace hx497_0:=(HB.out.cell (World.block_lt_of_cell? w _ hx497_0)).trans hx497_0
      have HR497_0:=Aside0.mk hi497_0
      have HC497_0:=Aside0.mk hl497_0
      clear hi497_0 hl497_0
      replace p497:=eq_true p497
      replace q497:=eq_true q497
      have ea_:=Option.some.inj (hx495_0.symm.trans hx497_0)
      injection ea_ with ea_ en_ ec_
      subst ea_
      subst ec_
      clear en_
      refine start_ (n:=20) (S:=fun w'=>w'.cell? ⟨gb489,0,none⟩=some (.slice A0_0 l0_0.length c0_0)∧w'.cell? ⟨gb489,1,none⟩=some (.slice (some ad495) l0_1.length c0_1)∧w'.cell? ⟨gb489,2,none⟩=some (.slice (some ad493) l0_2.length c0_2)∧w'.cell? (ad495.add (a2).toNat)=some (.slice A495_0 (rd_L1 l0_1 a2).length c495_0)∧w'.cell? (ad495.add (a2).toNat)=some (.slice A495_0 (rd_L1 l0_1 a2).length c495_0)) (ds:= []) #[f',f',f',f',f',f',f',f',f',f',f',f',f',f',f',f',f',f',f',f'] (by kernel_rfl) rfl rfl ⟨(blk_cell BK489.out 0).trans rfl,(blk_cell BK489.out 1).trans rfl,(blk_cell BK489.out 2).trans rfl,((HB.out.cell (World.block_lt_of_cell? w _ hw495_0)).trans hw495_0),((HB.out.cell (World.block_lt_of_cell? w _ hw497_0)).trans hw497_0)⟩ (fun hHeld=>?_);refine with_tabW spec_l12Would.tab4 spec_l12Would.bits4 (fun HT_ HW_=>?_)
      generalize w23.drew=w24 at HO492 BK489 HB HR495_0 HR497_0 hx495_0 hx497_0 hHeld ⊢
      refine pure_ (i:=0) (N:=some 24) (v:=?_) (a':=?_) #[t',f',f',f',f',f',f',f',f',f',f',f',f',f',f',f',f',f',f',f'] rfl rfl (any_of HT_.out (by kernel_rfl)) (fun _ _ _ h=>h) (Or.inl ⟨by rfl,?_⟩) ?_ ?_
      rotate_left
      ·intro w'
       go_simp
       with_reducible rfl
      rotate_left
      ·simp only [Act.put,zq5,zq6,zq7,i64_w,i32_w]
       rfl
      refine pure_ (i:=1) (N:=some 25) (v:=?_) (a':=?_) #[t',t',f',f',f',f',f',f',f',f',f',f',f',f',f',f',f',f',f',f'] rfl rfl (any_of HT_.out (by kernel_rfl)) (fun _ _ _ h=>h) (Or.inl ⟨by rfl,?_⟩) ?_ ?_
      rotate_left
      ·intro w'
       go_simp
       with_reducible rfl
      rotate_left
      ·simp only [Act.put,zq5,zq6,zq7,i64_w,i32_w]
       rfl
      refine pure_ (i:=2) (N:=some 26) (v:=?_) (a':=?_) #[t',t',t',f',f',f',f',f',f',f',f',f',f',f',f',f',f',f',f',f'] rfl rfl (any_of HT_.out (by kernel_rfl)) (fun _ _ _ h=>h) (Or.inl ⟨by rfl,?_⟩) ?_ ?_
      rotate_left
      ·intro w'
       go_simp
       with_reducible rfl
      rotate_left
      ·simp only [Act.put,zq5,zq6,zq7,i64_w,i32_w]
       rfl
      refine pure_ (i:=3) (N:=some 27) (v:=?_) (a':=?_) #[t',t',t',t',f',f',f',f',f',f',f',f',f',f',f',f',f',f',f',f'] rfl rfl (any_of HT_.out (by kernel_rfl)) (fun _ _ _ h=>h) (Or.inl ⟨by rfl,?_⟩) ?_ ?_
      rotate_left
      ·intro w'
       go_simp
       with_reducible rfl
      rotate_left
      ·simp only [Act.put,zq5,zq6,zq7,i64_w,i32_w]
       rfl
      refine pure_ (i:=5) (N:=some 29) (v:=?_) (a':=?_) #[t',t',t',t',f',t',f',f',f',f',f',f',f',f',f',f',f',f',f',f'] rfl rfl (any_of HT_.out (by kernel_rfl)) (fun _ _ _ h=>h) (Or.inl ⟨by rfl,?_⟩) ?_ ?_
      rotate_left
      ·intro w'
       go_simp
       with_reducible rfl
      rotate_left
      ·simp only [Act.put,zq5,zq6,zq7,i64_w,i32_w]
       rfl
      refine pure_ (i:=8) (N:=some 32) (v:=?_) (a':=?_) #[t',t',t',t',f',t',f',f',t',f',f',f',f',f',f',f',f',f',f',f'] rfl rfl (any_of HT_.out (by kernel_rfl)) (fun _ _ _ h=>h) (Or.inl ⟨by rfl,?_⟩) ?_ ?_
      rotate_left
      ·intro w'
       go_simp
       with_reducible rfl
      rotate_left
      ·simp only [Act.put,zq5,zq6,zq7,i64_w,i32_w]
       rfl
      refine pure_ (i:=10) (N:=some 34) (v:=?_) (a':=?_) #[t',t',t',t',f',t',f',f',t',f',t',f',f',f',f',f',f',f',f',f'] rfl rfl (any_of HT_.out (by kernel_rfl)) (fun _ _ _ h=>h) (Or.inl ⟨by rfl,?_⟩) ?_ ?_
      rotate_left
      ·intro w'
       go_simp
       with_reducible rfl
      rotate_left
      ·simp only [Act.put,zq5,zq6,zq7,i64_w,i32_w]
       rfl
      refine pure_ (i:=12) (N:=some 36) (v:=?_) (a':=?_) #[t',t',t',t',f',t',f',f',t',f',t',f',t',f',f',f',f',f',f',f'] rfl rfl (any_of HT_.out (by kernel_rfl)) (fun _ _ _ h=>h) (Or.inl ⟨by rfl,?_⟩) ?_ ?_
      rotate_left
      ·intro w'
       go_simp
       with_reducible rfl
      rotate_left
      ·simp only [Act.put,zq5,zq6,zq7,i64_w,i32_w]
       rfl
      refine pure_ (i:=15) (N:=some 39) (v:=?_) (a':=?_) #[t',t',t',t',f',t',f',f',t',f',t',f',t',f',f',t',f',f',f',f'] rfl rfl (any_of HT_.out (by kernel_rfl)) (fun _ _ _ h=>h) (Or.inl ⟨by rfl,?_⟩) ?_ ?_
      rotate_left
      ·intro w'
       go_simp
       with_reducible rfl
      rotate_left
      ·simp only [Act.put,zq5,zq6,zq7,i64_w,i32_w]
       rfl
      refine take_ (i:=4) (N:=some 28) (v:=?_) (a':=?_) #[t',t',t',t',t',t',f',f',t',f',t',f',t',f',f',t',f',f',f',f'] rfl rfl (take_ofW HT_.out HW_.out (by kernel_rfl)) (fun _ _ _ h=>h) (Or.inl ⟨by rfl,?_⟩) hHeld ?_ ?_
      rotate_left
      ·rintro w' ⟨s0,s1,s2,s3,s4⟩
       go_simp
       with_reducible rfl
      rotate_left
      ·simp only [Act.put,zq5,zq6,zq7,i64_w,i32_w]
       rfl
      refine pure_ (i:=6) (N:=some 30) (v:=?_) (a':=?_) #[t',t',t',t',t',t',t',f',t',f',t',f',t',f',f',t',f',f',f',f'] rfl rfl (any_of HT_.out (by kernel_rfl)) (fun _ _ _ h=>h) (Or.inl ⟨by rfl,?_⟩) ?_ ?_
      rotate_left
      ·intro w'
       go_simp
       with_reducible rfl
      rotate_left
      ·simp only [Act.put,zq5,zq6,zq7,i64_w,i32_w]
       rfl
      refine take_ (i:=7) (N:=some 31) (v:=?_) (a':=?_) #[t',t',t',t',t',t',t',t',t',f',t',f',t',f',f',t',f',f',f',f'] rfl rfl (take_ofW HT_.out HW_.out (by kernel_rfl)) (fun _ _ _ h=>h) (Or.inl ⟨by rfl,?_⟩) hHeld ?_ ?_
      rotate_left
      ·rintro w' ⟨s0,s1,s2,s3,s4⟩
       go_simp
       with_reducible rfl
      rotate_left
      ·simp only [Act.put,zq5,zq6,zq7,i64_w,i32_w]
       rfl
      refine take_ (i:=11) (N:=some 35) (v:=?_) (a':=?_) #[t',t',t',t',t',t',t',t',t',f',t',t',t',f',f',t',f',f',f',f'] rfl rfl (take_ofW HT_.out HW_.out (by kernel_rfl)) (fun _ _ _ h=>h) (Or.inl ⟨by rfl,?_⟩) hHeld ?_ ?_
      rotate_left
      ·rintro w' ⟨s0,s1,s2,s3,s4⟩
       go_simp
       with_reducible rfl
      rotate_left
      ·simp only [Act.put,zq5,zq6,zq7,i64_w,i32_w]
       rfl
      refine pure_ (i:=13) (N:=some 37) (v:=?_) (a':=?_) #[t',t',t',t',t',t',t',t',t',f',t',t',t',t',f',t',f',f',f',f'] rfl rfl (any_of HT_.out (by kernel_rfl)) (fun _ _ _ h=>h) (Or.inl ⟨by rfl,?_⟩) ?_ ?_
      rotate_left
      ·intro w'
       go_simp
       with_reducible rfl
      rotate_left
      ·simp only [Act.put,zq5,zq6,zq7,i64_w,i32_w]
       rfl
      refine take_ (i:=14) (N:=some 38) (v:=?_) (a':=?_) #[t',t',t',t',t',t',t',t',t',f',t',t',t',t',t',t',f',f',f',f'] rfl rfl (take_ofW HT_.out HW_.out (by kernel_rfl)) (fun _ _ _ h=>h) (Or.inl ⟨by rfl,?_⟩) hHeld ?_ ?_
      rotate_left
      ·rintro w' ⟨s0,s1,s2,s3,s4⟩
       go_simp
       with_reducible rfl
      rotate_left
      ·simp only [Act.put,zq5,zq6,zq7,i64_w,i32_w]
       rfl
      refine one_ (i:=9) (N:=some 33) #[t',t',t',t',t',t',t',t',t',t',t',t',t',t',t',t',f',f',f',f'] rfl rfl (one_of HT_.out (by kernel_rfl)) (by decide) (fun K hK=>?_)
      refine goes_ Try.func44 (by kernel_rfl) rfl #[.slice A495_0 (rd_L1 l0_1 a2).length c495_0,.int .i64 a3] (by rfl) rfl rfl zq2 ?_
      with_reducible refine(spec_l12Place.calls k _ _ (rd_L1 l0_1 a2) a3 t496 _ ?side1 ?side2 A16.out).mono ?_
      (case side1=>repeat(first|exact(Kd.C_below HR495_0.out HB.out)|(with_reducible refine Kd.C_alloc ?_ _)|(with_reducible refine Kd.C_drewN ?_ _)|(with_reducible refine Kd.C_drew ?_)))
      (case side2=>exact HC495_0.out)
      rintro e w' ⟨rfl,⟨nd,rfl⟩⟩
      refine⟨_,rfl,?_⟩
      refine hK.out _ _ ⟨(blk_cell BK489.out 0).trans rfl,(blk_cell BK489.out 1).trans rfl,(blk_cell BK489.out 2).trans rfl,((HB.out.cell (World.block_lt_of_cell? w _ hw495_0)).trans hw495_0),((HB.out.cell (World.block_lt_of_cell? w _ hw497_0)).trans hw497_0)⟩ (fun hHeld=>?_)
      clear hK K
      refine norm_ (a':=?_) ?_ ?_
      rotate_left
      ·show Act.put _ (some 33) _=_
       simp only [Act.put,zq5,zq6,zq7,i64_w,i32_w]
       rfl
      refine one_ (i:=16) (N:=some 40) #[t',t',t',t',t',t',t',t',t',t',t',t',t',t',t',t',t',f',f',f'] rfl rfl (one_of HT_.out (by kernel_rfl)) (by decide) (fun K hK=>?_)
      refine goes_ Try.func44 (by kernel_rfl) rfl #[.slice A495_0 (rd_L1 l0_1 a2).length c495_0,.int .i64 t494] (by rfl) rfl rfl zq2 ?_
      with_reducible refine(spec_l12Place.calls k _ _ (rd_L1 l0_1 a2) t494 t498 _ ?side1 ?side2 A17.out).mono ?_
      (case side1=>repeat(first|exact(Kd.C_below HR497_0.out (zb1 HB GE489))|(with_reducible refine Kd.C_alloc ?_ _)|(with_reducible refine Kd.C_drewN ?_ _)|(with_reducible refine Kd.C_drew ?_)))
      (case side2=>exact HC497_0.out)
      rintro e w' ⟨rfl,⟨nd,rfl⟩⟩
      refine⟨_,rfl,?_⟩
      refine hK.out _ _ ⟨(blk_cell BK489.out 0).trans rfl,(blk_cell BK489.out 1).trans rfl,(blk_cell BK489.out 2).trans rfl,((HB.out.cell (World.block_lt_of_cell? w _ hw495_0)).trans hw495_0),((HB.out.cell (World.block_lt_of_cell? w _ hw497_0)).trans hw497_0)⟩ (fun hHeld=>?_)
      clear hK K
      refine norm_ (a':=?_) ?_ ?_
      rotate_left
      ·show Act.put _ (some 40) _=_
       simp only [Act.put,zq5,zq6,zq7,i64_w,i32_w]
       rfl
      refine pure_ (i:=17) (N:=some 41) (v:=?_) (a':=?_) #[t',t',t',t',t',t',t',t',t',t',t',t',t',t',t',t',t',t',f',f'] rfl rfl (any_of HT_.out (by kernel_rfl)) (fun _ _ _ h=>h) (Or.inl ⟨by rfl,?_⟩) ?_ ?_
      rotate_left
      ·intro w'
       go_simp
       with_reducible rfl
      rotate_left
      ·simp only [Act.put,zq5,zq6,zq7,i64_w,i32_w]
       rfl
      refine pure_ (i:=18) (N:=some 42) (v:=?_) (a':=?_) #[t',t',t',t',t',t',t',t',t',t',t',t',t',t',t',t',t',t',t',f'] rfl rfl (any_of HT_.out (by kernel_rfl)) (fun _ _ _ h=>h) (Or.inl ⟨by rfl,?_⟩) ?_ ?_
      rotate_left
      ·intro w'
       go_simp
       with_reducible rfl
      rotate_left
      ·simp only [Act.put,zq5,zq6,zq7,i64_w,i32_w]
       rfl
      refine pure_ (i:=19) (N:=some 8) (v:=?_) (a':=?_) #[t',t',t',t',t',t',t',t',t',t',t',t',t',t',t',t',t',t',t',t'] rfl rfl (any_of HT_.out (by kernel_rfl)) (fun _ _ _ h=>h) (Or.inl ⟨by rfl,?_⟩) ?_ ?_
      rotate_left
      ·intro w'
       go_simp
       with_reducible rfl
      rotate_left
      ·simp only [Act.put,zq5,zq6,zq7,i64_w,i32_w]
       rfl
      refine done_ (done_of HT_.out (by kernel_rfl)) ?_
      try go_wp2
      go_ret
      exact⟨by first|rfl|(simp [errW_none,errW_some]<;>rfl)|(simp [*,errW_none,errW_some]<;>rfl),by repeat(first|(with_reducible first|exact HB.out|apply below_alloc|apply pw_below_drewN|apply below_drew1|refine below_set ?_ GE489.out)|exact HB.out)⟩
     ·rw [if_neg c15] at H
      exact absurd H (by simp)
    ·rw [if_neg c14] at H
     have c14b0:decide (0≤t494)=false:=decide_eq_false c14
     clear c14
     obtain rfl:=Option.some.inj H
     go_enter Try.func61,Try.ntmps61
     try go_wp2_with (first|((with_reducible refine gate_dst (N:=4) rfl ?_);refine box_event ?hg (N:=4) ?hd (cs:= #[.slice A0_0 l0_0.length c0_0,.slice A0_1 l0_1.length c0_1,.slice A0_2 l0_2.length c0_2]) (t:=33) ?hr ?_;(case hd=>rfl);(case hg=>rfl);(case hr=>first|(go_simp;done)|(go_simp;rfl));intro gb489 hg w25 hbox hb;have n0_:=Aside0.mk (below_step (zb0 HB) hb);have n1_:=Aside0.mk (hbox);have n2_:=Aside0.mk ((by rw [hg];exact(below_size (zb0 HB)):w.heap.size≤gb489));have n3_:=Aside0.mk ((by rw [hg];exact(below_size (zb0 HB)):w.heap.size≤gb489));clear HB;have HB:=n0_;have BK489:=n1_;have GW489:=n2_;have GE489:=n3_;clear n0_ n1_ n2_ n3_;clear hb hbox hg))
     have n0_:=Aside0.mk (blk_drew BK489.out)
     have n1_:=Aside0.mk (below_drew1 HB.out)
     clear BK489
     clear HB
     have BK489:=n0_
     have HB:=n1_
     clear n0_ n1_
     have p493: 0≤ (a2:Int):=of_decide_eq_true zq1
     have q493:a2< (l0_2.length:Int):=of_decide_eq_true zq1
     obtain⟨ad493,e493,hx493_0⟩:=Kd.at_int HR0_2.out a2 p493 q493
     have hw493_0:=hx493_0
     cases e493
     replace hx493_0:=(HB.out.cell (World.block_lt_of_cell? w _ hx493_0)).trans hx493_0
     replace p493:=eq_true p493
     replace q493:=eq_true q493
     refine start_ (n:=10) (S:=fun w'=>w'.cell? ⟨gb489,0,none⟩=some (.slice A0_0 l0_0.length c0_0)∧w'.cell? ⟨gb489,1,none⟩=some (.slice A0_1 l0_1.length c0_1)∧w'.cell? ⟨gb489,2,none⟩=some (.slice (some ad493) l0_2.length c0_2)∧w'.cell? (ad493.add (a2).toNat)=some (.int .i64 (rd l0_2 a2))) (ds:= []) #[f',f',f',f',f',f',f',f',f',f'] (by kernel_rfl) rfl rfl ⟨(blk_cell BK489.out 0).trans rfl,(blk_cell BK489.out 1).trans rfl,(blk_cell BK489.out 2).trans rfl,((HB.out.cell (World.block_lt_of_cell? w _ hw493_0)).trans hw493_0)⟩ (fun hHeld=>?_);refine with_tabW spec_l12Would.tab1 spec_l12Would.bits1 (fun HT_ HW_=>?_)
     generalize w25.drew=w26 at BK489 HB hx493_0 hHeld ⊢
     refine pure_ (i:=0) (N:=some 10) (v:=?_) (a':=?_) #[t',f',f',f',f',f',f',f',f',f'] rfl rfl (any_of HT_.out (by kernel_rfl)) (fun _ _ _ h=>h) (Or.inl ⟨by rfl,?_⟩) ?_ ?_
     rotate_left
     ·intro w'
      go_simp
      with_reducible rfl
     rotate_left
     ·simp only [Act.put,zq5,zq6,zq7,i64_w,i32_w]
      rfl
     refine pure_ (i:=1) (N:=some 11) (v:=?_) (a':=?_) #[t',t',f',f',f',f',f',f',f',f'] rfl rfl (any_of HT_.out (by kernel_rfl)) (fun _ _ _ h=>h) (Or.inl ⟨by rfl,?_⟩) ?_ ?_
     rotate_left
     ·intro w'
      go_simp
      with_reducible rfl
     rotate_left
     ·simp only [Act.put,zq5,zq6,zq7,i64_w,i32_w]
      rfl
     refine pure_ (i:=4) (N:=some 14) (v:=?_) (a':=?_) #[t',t',f',f',t',f',f',f',f',f'] rfl rfl (any_of HT_.out (by kernel_rfl)) (fun _ _ _ h=>h) (Or.inl ⟨by rfl,?_⟩) ?_ ?_
     rotate_left
     ·intro w'
      go_simp
      with_reducible rfl
     rotate_left
     ·simp only [Act.put,zq5,zq6,zq7,i64_w,i32_w]
      rfl
     refine pure_ (i:=6) (N:=some 16) (v:=?_) (a':=?_) #[t',t',f',f',t',f',t',f',f',f'] rfl rfl (any_of HT_.out (by kernel_rfl)) (fun _ _ _ h=>h) (Or.inl ⟨by rfl,?_⟩) ?_ ?_
     rotate_left
     ·intro w'
      go_simp
      with_reducible rfl
     rotate_left
     ·simp only [Act.put,zq5,zq6,zq7,i64_w,i32_w]
      rfl
     refine take_ (i:=5) (N:=some 15) (v:=?_) (a':=?_) #[t',t',f',f',t',t',t',f',f',f'] rfl rfl (take_ofW HT_.out HW_.out (by kernel_rfl)) (fun _ _ _ h=>h) (Or.inl ⟨by rfl,?_⟩) hHeld ?_ ?_
     rotate_left
     ·rintro w' ⟨s0,s1,s2,s3⟩
      go_simp
      with_reducible rfl
     rotate_left
     ·simp only [Act.put,zq5,zq6,zq7,i64_w,i32_w]
      rfl
     refine pure_ (i:=7) (N:=some 17) (v:=?_) (a':=?_) #[t',t',f',f',t',t',t',t',f',f'] rfl rfl (any_of HT_.out (by kernel_rfl)) (fun _ _ _ h=>h) (Or.inl ⟨by rfl,?_⟩) ?_ ?_
     rotate_left
     ·intro w'
      go_simp
      with_reducible rfl
     rotate_left
     ·simp only [Act.put,zq5,zq6,zq7,i64_w,i32_w]
      rfl
     refine take_ (i:=8) (N:=some 18) (v:=?_) (a':=?_) #[t',t',f',f',t',t',t',t',t',f'] rfl rfl (take_ofW HT_.out HW_.out (by kernel_rfl)) (fun _ _ _ h=>h) (Or.inl ⟨by rfl,?_⟩) hHeld ?_ ?_
     rotate_left
     ·rintro w' ⟨s0,s1,s2,s3⟩
      go_simp
      with_reducible rfl
     rotate_left
     ·simp only [Act.put,zq5,zq6,zq7,i64_w,i32_w]
      rfl
     refine one_ (i:=2) (N:=some 12) #[t',t',t',f',t',t',t',t',t',f'] rfl rfl (one_of HT_.out (by kernel_rfl)) (by decide) (fun K hK=>?_)
     refine goes_ Try.func55 (by kernel_rfl) rfl #[.slice A1 l1.length c1,.int .i64 a2] (by rfl) rfl rfl zq2 ?_
     with_reducible refine(spec_l12Has.calls k _ _ l1 a2 t490 _ ?side1 ?side2 A5.out).mono ?_
     (case side1=>repeat(first|exact(Kd.C_below HR1.out HB.out)|(with_reducible refine Kd.C_alloc ?_ _)|(with_reducible refine Kd.C_drewN ?_ _)|(with_reducible refine Kd.C_drew ?_)))
     (case side2=>exact HC1.out)
     rintro e w27 ⟨v491,rfl,ho0,hb⟩
     refine⟨_,rfl,?_⟩
     have n0_:=Aside0.mk (Kd.R_lower ho0 (below_size (zb1 HB GE489)))
     have n1_:=Aside0.mk (blk_below (g:=gb489) (o:= .cells #[.slice A0_0 l0_0.length c0_0,.slice A0_1 l0_1.length c0_1,.slice (some ad493) l0_2.length c0_2] 33 (0,0)) (zq3 BK489) hb)
     have n2_:=Aside0.mk (below_step (zb1 HB GE489) hb)
     clear BK489
     clear HB
     have HO492:=n0_
     have BK489:=n1_
     have HB:=n2_
     clear n0_ n1_ n2_
     (try clear hb)
     (try clear hb2)
     (try clear hk)
     (try clear hi)
     (try clear ho0)
     obtain⟨Ao28,co28,eo28⟩:=Kd.R_slice HO492.out
     (first|subst eo28|(injection eo28 with f1_ f2_ f3_;have f4_:=f1_.symm;have f5_:=f3_.symm;clear f1_ f2_ f3_;subst f4_;subst f5_))
     refine hK.out _ _ ⟨(blk_cell BK489.out 0).trans rfl,(blk_cell BK489.out 1).trans rfl,(blk_cell BK489.out 2).trans rfl,((HB.out.cell (World.block_lt_of_cell? w _ hw493_0)).trans hw493_0)⟩ (fun hHeld=>?_)
     clear hK K
     refine norm_ (a':=?_) ?_ ?_
     rotate_left
     ·show Act.put _ (some 12) _=_
      simp only [Act.put,zq5,zq6,zq7,i64_w,i32_w]
      rfl
     refine pure_ (i:=3) (N:=some 13) (v:=?_) (a':=?_) #[t',t',t',t',t',t',t',t',t',f'] rfl rfl (any_of HT_.out (by kernel_rfl)) (fun _ _ _ h=>h) (Or.inl ⟨by rfl,?_⟩) ?_ ?_
     rotate_left
     ·intro w'
      go_simp
      with_reducible rfl
     rotate_left
     ·simp only [Act.put,zq5,zq6,zq7,i64_w,i32_w]
      rfl
     refine pure_ (i:=9) (N:=some 19) (v:=?_) (a':=?_) #[t',t',t',t',t',t',t',t',t',t'] rfl rfl (any_of HT_.out (by kernel_rfl)) (fun _ _ _ h=>h) (Or.inl ⟨by rfl,?_⟩) ?_ ?_
     rotate_left
     ·intro w'
      go_simp
      with_reducible rfl
     rotate_left
     ·simp only [Act.put,zq5,zq6,zq7,i64_w,i32_w]
      rfl
     refine done_ (done_of HT_.out (by kernel_rfl)) ?_
     have hcz29_0:w27.cell? ⟨gb489,0,none⟩=some (.slice A0_0 l0_0.length c0_0):=(blk_cell BK489.out 0).trans rfl
     have hcz29_1:w27.cell? ⟨gb489,1,none⟩=some (.slice A0_1 l0_1.length c0_1):=(blk_cell BK489.out 1).trans rfl
     have hcz29_2:w27.cell? ⟨gb489,2,none⟩=some (.slice (some ad493) l0_2.length c0_2):=(blk_cell BK489.out 2).trans rfl
     have hfz29_0:=blk_frozen BK489.out 0
     have hfz29_1:=blk_frozen BK489.out 1
     have hfz29_2:=blk_frozen BK489.out 2
     try go_wp2_with (first|((with_reducible refine gate_callee (f:=62) rfl ?_);refine goesL_ (some 23) rfl rfl Try.func62 (by kernel_rfl) rfl #[.agg #[.slice A0_0 l0_0.length c0_0,.slice A0_1 l0_1.length c0_1,.slice (some ad493) l0_2.length c0_2],.slice A1 l1.length c1,.int .i64 a2] rfl zq2 ?_;(with_reducible refine(spec_l12Worst.calls k _ _ l0_0 _ _ l0_1 _ _ l0_2 _ _ l1 a2 t494 _ ?side1 ?side2 ?side3 ?side4 ?side5 ?side6 ?side7 ?side8 A13.out).mono ?_);(case side1=>repeat(first|exact(Kd.C_below HR0_0.out HB.out)|(with_reducible refine Kd.C_alloc ?_ _)|(with_reducible refine Kd.C_drewN ?_ _)|(with_reducible refine Kd.C_drew ?_)));(case side2=>exact HC0_0.out);(case side3=>repeat(first|exact(Kd.C_below HR0_1.out HB.out)|(with_reducible refine Kd.C_alloc ?_ _)|(with_reducible refine Kd.C_drewN ?_ _)|(with_reducible refine Kd.C_drew ?_)));(case side4=>exact HC0_1.out);(case side5=>repeat(first|exact(Kd.C_below HR0_2.out HB.out)|(with_reducible refine Kd.C_alloc ?_ _)|(with_reducible refine Kd.C_drewN ?_ _)|(with_reducible refine Kd.C_drew ?_)));(case side6=>exact HC0_2.out);(case side7=>repeat(first|exact(Kd.C_below HR1.out HB.out)|(with_reducible refine Kd.C_alloc ?_ _)|(with_reducible refine Kd.C_drewN ?_ _)|(with_reducible refine Kd.C_drew ?_)));(case side8=>exact HC1.out);rintro e w30 ⟨rfl,hb⟩;refine⟨_,rfl,?_⟩;have n0_:=Aside0.mk (Kd.R_below (zq4 HO492) hb);have n1_:=Aside0.mk (blk_below (g:=gb489) (o:= .cells #[.slice A0_0 l0_0.length c0_0,.slice A0_1 l0_1.length c0_1,.slice (some ad493) l0_2.length c0_2] 33 (0,0)) (zq3 BK489) hb);have n2_:=Aside0.mk (below_step (zb1 HB GE489) hb);clear HO492;clear BK489;clear HB;have HO492:=n0_;have BK489:=n1_;have HB:=n2_;clear n0_ n1_ n2_;(try clear hb);(try clear hb2);(try clear hk);(try clear hi)))
     have n0_:=Aside0.mk (Kd.R_drew HO492.out)
     have n1_:=Aside0.mk (blk_drew BK489.out)
     have n2_:=Aside0.mk (below_drew1 HB.out)
     clear HO492
     clear BK489
     clear HB
     have HO492:=n0_
     have BK489:=n1_
     have HB:=n2_
     clear n0_ n1_ n2_
     refine start_ (n:=20) (S:=fun w'=>True) (ds:= []) #[f',f',f',f',f',f',f',f',f',f',f',f',f',f',f',f',f',f',f',f'] (by kernel_rfl) rfl rfl trivial (fun hHeld=>?_);refine with_tabW spec_l12Would.tab4 spec_l12Would.bits4 (fun HT_ HW_=>?_)
     generalize w30.drew=w31 at HO492 BK489 HB hHeld ⊢
     refine pure_ (i:=0) (N:=some 24) (v:=?_) (a':=?_) #[t',f',f',f',f',f',f',f',f',f',f',f',f',f',f',f',f',f',f',f'] rfl rfl (any_of HT_.out (by kernel_rfl)) (fun _ _ _ h=>h) (Or.inl ⟨by rfl,?_⟩) ?_ ?_
     rotate_left
     ·intro w'
      go_simp
      with_reducible rfl
     rotate_left
     ·simp only [Act.put,zq5,zq6,zq7,i64_w,i32_w]
      rfl
     refine pure_ (i:=1) (N:=some 25) (v:=?_) (a':=?_) #[t',t',f',f',f',f',f',f',f',f',f',f',f',f',f',f',f',f',f',f'] rfl rfl (any_of HT_.out (by kernel_rfl)) (fun _ _ _ h=>h) (Or.inl ⟨by rfl,?_⟩) ?_ ?_
     rotate_left
     ·intro w'
      go_simp
      with_reducible rfl
     rotate_left
     ·simp only [Act.put,zq5,zq6,zq7,i64_w,i32_w]
      rfl
     refine pure_ (i:=2) (N:=some 26) (v:=?_) (a':=?_) #[t',t',t',f',f',f',f',f',f',f',f',f',f',f',f',f',f',f',f',f'] rfl rfl (any_of HT_.out (by kernel_rfl)) (fun _ _ _ h=>h) (Or.inl ⟨by rfl,?_⟩) ?_ ?_
     rotate_left
     ·intro w'
      go_simp
      with_reducible rfl
     rotate_left
     ·simp only [Act.put,zq5,zq6,zq7,i64_w,i32_w]
      rfl
     refine pure_ (i:=3) (N:=some 27) (v:=undef) (a':=?_) #[t',t',t',t',f',f',f',f',f',f',f',f',f',f',f',f',f',f',f',f'] rfl rfl (any_of HT_.out (by kernel_rfl)) (fun _ _ _ h=>h) (Or.inr ⟨by rfl,rfl⟩) ?_ ?_
     rotate_left
     ·simp only [Act.put,zq5,zq6,zq7,i64_w,i32_w]
      rfl
     refine pure_ (i:=4) (N:=some 28) (v:=undef) (a':=?_) #[t',t',t',t',t',f',f',f',f',f',f',f',f',f',f',f',f',f',f',f'] rfl rfl (any_of HT_.out (by kernel_rfl)) (fun _ _ _ h=>h) (Or.inr ⟨by rfl,rfl⟩) ?_ ?_
     rotate_left
     ·simp only [Act.put,zq5,zq6,zq7,i64_w,i32_w]
      rfl
     refine pure_ (i:=5) (N:=some 29) (v:=undef) (a':=?_) #[t',t',t',t',t',t',f',f',f',f',f',f',f',f',f',f',f',f',f',f'] rfl rfl (any_of HT_.out (by kernel_rfl)) (fun _ _ _ h=>h) (Or.inr ⟨by rfl,rfl⟩) ?_ ?_
     rotate_left
     ·simp only [Act.put,zq5,zq6,zq7,i64_w,i32_w]
      rfl
     refine pure_ (i:=6) (N:=some 30) (v:=undef) (a':=?_) #[t',t',t',t',t',t',t',f',f',f',f',f',f',f',f',f',f',f',f',f'] rfl rfl (any_of HT_.out (by kernel_rfl)) (fun _ _ _ h=>h) (Or.inr ⟨by rfl,rfl⟩) ?_ ?_
     rotate_left
     ·simp only [Act.put,zq5,zq6,zq7,i64_w,i32_w]
      rfl
     refine pure_ (i:=7) (N:=some 31) (v:=undef) (a':=?_) #[t',t',t',t',t',t',t',t',f',f',f',f',f',f',f',f',f',f',f',f'] rfl rfl (any_of HT_.out (by kernel_rfl)) (fun _ _ _ h=>h) (Or.inr ⟨by rfl,rfl⟩) ?_ ?_
     rotate_left
     ·simp only [Act.put,zq5,zq6,zq7,i64_w,i32_w]
      rfl
     refine pure_ (i:=8) (N:=some 32) (v:=undef) (a':=?_) #[t',t',t',t',t',t',t',t',t',f',f',f',f',f',f',f',f',f',f',f'] rfl rfl (any_of HT_.out (by kernel_rfl)) (fun _ _ _ h=>h) (Or.inr ⟨by rfl,rfl⟩) ?_ ?_
     rotate_left
     ·simp only [Act.put,zq5,zq6,zq7,i64_w,i32_w]
      rfl
     refine pure_ (i:=9) (N:=some 33) (v:=undef) (a':=?_) #[t',t',t',t',t',t',t',t',t',t',f',f',f',f',f',f',f',f',f',f'] rfl rfl (any_of HT_.out (by kernel_rfl)) (fun _ _ _ h=>h) (Or.inr ⟨by rfl,rfl⟩) ?_ ?_
     rotate_left
     ·simp only [Act.put,zq5,zq6,zq7,i64_w,i32_w]
      rfl
     refine pure_ (i:=10) (N:=some 34) (v:=undef) (a':=?_) #[t',t',t',t',t',t',t',t',t',t',t',f',f',f',f',f',f',f',f',f'] rfl rfl (any_of HT_.out (by kernel_rfl)) (fun _ _ _ h=>h) (Or.inr ⟨by rfl,rfl⟩) ?_ ?_
     rotate_left
     ·simp only [Act.put,zq5,zq6,zq7,i64_w,i32_w]
      rfl
     refine pure_ (i:=11) (N:=some 35) (v:=undef) (a':=?_) #[t',t',t',t',t',t',t',t',t',t',t',t',f',f',f',f',f',f',f',f'] rfl rfl (any_of HT_.out (by kernel_rfl)) (fun _ _ _ h=>h) (Or.inr ⟨by rfl,rfl⟩) ?_ ?_
     rotate_left
     ·simp only [Act.put,zq5,zq6,zq7,i64_w,i32_w]
      rfl
     refine pure_ (i:=12) (N:=some 36) (v:=undef) (a':=?_) #[t',t',t',t',t',t',t',t',t',t',t',t',t',f',f',f',f',f',f',f'] rfl rfl (any_of HT_.out (by kernel_rfl)) (fun _ _ _ h=>h) (Or.inr ⟨by rfl,rfl⟩) ?_ ?_
     rotate_left
     ·simp only [Act.put,zq5,zq6,zq7,i64_w,i32_w]
      rfl
     refine pure_ (i:=13) (N:=some 37) (v:=undef) (a':=?_) #[t',t',t',t',t',t',t',t',t',t',t',t',t',t',f',f',f',f',f',f'] rfl rfl (any_of HT_.out (by kernel_rfl)) (fun _ _ _ h=>h) (Or.inr ⟨by rfl,rfl⟩) ?_ ?_
     rotate_left
     ·simp only [Act.put,zq5,zq6,zq7,i64_w,i32_w]
      rfl
     refine pure_ (i:=14) (N:=some 38) (v:=undef) (a':=?_) #[t',t',t',t',t',t',t',t',t',t',t',t',t',t',t',f',f',f',f',f'] rfl rfl (any_of HT_.out (by kernel_rfl)) (fun _ _ _ h=>h) (Or.inr ⟨by rfl,rfl⟩) ?_ ?_
     rotate_left
     ·simp only [Act.put,zq5,zq6,zq7,i64_w,i32_w]
      rfl
     refine pure_ (i:=15) (N:=some 39) (v:=undef) (a':=?_) #[t',t',t',t',t',t',t',t',t',t',t',t',t',t',t',t',f',f',f',f'] rfl rfl (any_of HT_.out (by kernel_rfl)) (fun _ _ _ h=>h) (Or.inr ⟨by rfl,rfl⟩) ?_ ?_
     rotate_left
     ·simp only [Act.put,zq5,zq6,zq7,i64_w,i32_w]
      rfl
     refine pure_ (i:=16) (N:=some 40) (v:=undef) (a':=?_) #[t',t',t',t',t',t',t',t',t',t',t',t',t',t',t',t',t',f',f',f'] rfl rfl (any_of HT_.out (by kernel_rfl)) (fun _ _ _ h=>h) (Or.inr ⟨by rfl,rfl⟩) ?_ ?_
     rotate_left
     ·simp only [Act.put,zq5,zq6,zq7,i64_w,i32_w]
      rfl
     refine pure_ (i:=17) (N:=some 41) (v:=undef) (a':=?_) #[t',t',t',t',t',t',t',t',t',t',t',t',t',t',t',t',t',t',f',f'] rfl rfl (any_of HT_.out (by kernel_rfl)) (fun _ _ _ h=>h) (Or.inr ⟨by rfl,rfl⟩) ?_ ?_
     rotate_left
     ·simp only [Act.put,zq5,zq6,zq7,i64_w,i32_w]
      rfl
     refine pure_ (i:=18) (N:=some 42) (v:=?_) (a':=?_) #[t',t',t',t',t',t',t',t',t',t',t',t',t',t',t',t',t',t',t',f'] rfl rfl (any_of HT_.out (by kernel_rfl)) (fun _ _ _ h=>h) (Or.inl ⟨by rfl,?_⟩) ?_ ?_
     rotate_left
     ·intro w'
      go_simp
      with_reducible rfl
     rotate_left
     ·simp only [Act.put,zq5,zq6,zq7,i64_w,i32_w]
      rfl
     refine pure_ (i:=19) (N:=some 8) (v:=?_) (a':=?_) #[t',t',t',t',t',t',t',t',t',t',t',t',t',t',t',t',t',t',t',t'] rfl rfl (any_of HT_.out (by kernel_rfl)) (fun _ _ _ h=>h) (Or.inl ⟨by rfl,?_⟩) ?_ ?_
     rotate_left
     ·intro w'
      go_simp
      with_reducible rfl
     rotate_left
     ·simp only [Act.put,zq5,zq6,zq7,i64_w,i32_w]
      rfl
     refine done_ (done_of HT_.out (by kernel_rfl)) ?_
     try go_wp2
     go_ret
     exact⟨by first|rfl|(simp [errW_none,errW_some]<;>rfl)|(simp [*,errW_none,errW_some]<;>rfl),by repeat(first|(with_reducible first|exact HB.out|apply below_alloc|apply pw_below_drewN|apply below_drew1|refine below_set ?_ GE489.out)|exact HB.out)⟩
  ·rw [if_neg c7] at H
   exact absurd H (by simp)
 ·rw [if_neg c6] at H
  exact absurd H (by simp)
end Go.Proofs.Ytoipbblhmcpneaa.P
