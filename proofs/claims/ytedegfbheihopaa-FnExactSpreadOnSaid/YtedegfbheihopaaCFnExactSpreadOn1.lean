/- Functions, walks and plain lemmas that the law FnExactSpreadOn reaches, part 1. -/
import Derived.Test.YtedegfbheihopaaCFnExactSpreadOn0
import Derived.Below
import Derived.Deep.Draws
import Derived.Deep.AppendLies
import Derived.Maps.AppendAt
import Derived.OwnWalk
import Derived.Laws.BytesArg
import Derived.Laws.MakeOwn
import Derived.Laws.OwnMore
import Derived.Deep.OwnRows
import Derived.Tactics
import Derived.Lib.ConvBytes
import Derived.Laws.Slices
import Derived.WalkKit
import Derived.KernelRfl
import Derived.RowKit3
import Derived.Deep.LoopGhost
import Derived.Deep.QuietTactic
import Derived.BigQuiet
import Derived.WideLaws
import Derived.Deep.DeepCutAuto
import Derived.Deep.CutBlock
import Derived.Deep.RegionHeld3
import Derived.Laws.Rows
import Derived.Lib.AppendStr
import Derived.ArgAppend
import Derived.Laws.IdiomCopy
import Derived.OrdersHeld
import Derived.Laws.BitsLemmas
import Derived.RowKit
import Derived.WalkSpells
import Derived.Lib.SliceRun
import Derived.Shelf.Abstract
import Derived.ProofKit
import Derived.OpenShut
import Derived.ShutString
import Derived.ChangeOld
import Derived.SizedLaws
namespace Go.Proofs.Ytedegfbheihopaa.P
open Go.RowKit Go.Proofs.YtedegfbheihopaaW.PrintWords Go.Proofs.YtedegfbheihopaaW.PrintLast Go.Proofs.YtedegfbheihopaaW.PrintMore
attribute [local go_sem] max2_int min2_int max_two min_two max_three min_three max_four min_four   -- for this text's walks alone
set_option linter.unusedVariables false
set_option linter.unusedSimpArgs false
theorem info3:(Try.prog.info? 3).map (fun i=>(i.zero,i.size,i.bytes))=some (some (.int .i64 0),1,8):=by kernel_rfl
theorem info61:(Try.prog.info? 61).map (fun i=>(i.zero,i.size,i.bytes))=some (some (.agg #[(.int .i64 0),(.int .i64 0)]),2,16):=by kernel_rfl
theorem info101:(Try.prog.info? 101).map (fun i=>(i.zero,i.size,i.bytes))=some (some (.agg #[(.int .i64 0),(.int .i64 0)]),2,16):=by kernel_rfl
-- the values' own types
structure S101 where
 f0:Int
 f1:Int
def z101:S101:=⟨(0:Int),(0:Int)⟩
def k101:Kd S101:=Kd.iso (Kd.pair (Kd.int .i64) (Kd.int .i64)) (fun x:S101=>(x.f0,x.f1))
theorem k101_open {w:World} {x:S101} {cs:List Value} (h:k101.K w x cs):cs= [.int .i64 x.f0,.int .i64 x.f1]:=by
 obtain⟨_,_,rfl,rfl,rfl⟩:=h
 exact rfl
theorem k101_mkM (w:World) (base:Nat) (ok:Nat→Prop) (x:S101)  :k101.M w base ok x [.int .i64 x.f0,.int .i64 x.f1]:=⟨[.int .i64 x.f0],[.int .i64 x.f1],rfl,rfl,rfl⟩
def rd_T101 (xs:List S101) (i:Int):S101:=xs.getD i.toNat z101
theorem at_T101 {w:World} {A:Option Addr} {n:Nat} {xs:List S101} (h:Kd.C k101 w A n xs) (i:Int) (h0: 0≤i) (h1:i<n):∃ ad ,A=some ad∧w.cell? (ad.add (i.toNat * 2))=some (.int .i64 (rd_T101 xs i).f0)∧w.cell? ⟨(ad.add (i.toNat * 2)).block,(ad.add (i.toNat * 2)).off+1,none⟩=some (.int .i64 (rd_T101 xs i).f1):=by
 obtain⟨ad,c,e,_,hK,hc0⟩:=Kd.C_get h z101 i h0 h1
 have hc:∀ j u,c[j]?=some u→w.cell? (ad.add (i.toNat * 2+j))=some u:=hc0
 obtain rfl:=k101_open hK
 exact⟨ad,e,hc 0 _ rfl,by rw [← add_field _ _ 1 (by omega)];exact hc 1 _ rfl⟩
structure S61 where
 f0:Int
 f1:Int
def z61:S61:=⟨(0:Int),(0:Int)⟩
def k61:Kd S61:=Kd.iso (Kd.pair (Kd.int .i64) (Kd.int .i64)) (fun x:S61=>(x.f0,x.f1))
theorem k61_open {w:World} {x:S61} {cs:List Value} (h:k61.K w x cs):cs= [.int .i64 x.f0,.int .i64 x.f1]:=by
 obtain⟨_,_,rfl,rfl,rfl⟩:=h
 exact rfl
theorem k61_openM {w:World} {base:Nat} {ok:Nat→Prop} {x:S61} {cs:List Value} (h:k61.M w base ok x cs):cs= [.int .i64 x.f0,.int .i64 x.f1]:=by
 obtain⟨_,_,rfl,rfl,rfl⟩:=h
 exact rfl
theorem k61_mkM (w:World) (base:Nat) (ok:Nat→Prop) (x:S61)  :k61.M w base ok x [.int .i64 x.f0,.int .i64 x.f1]:=⟨[.int .i64 x.f0],[.int .i64 x.f1],rfl,rfl,rfl⟩
def rd_T61 (xs:List S61) (i:Int):S61:=xs.getD i.toNat z61
theorem at_T61 {w:World} {A:Option Addr} {n:Nat} {xs:List S61} (h:Kd.C k61 w A n xs) (i:Int) (h0: 0≤i) (h1:i<n):∃ ad ,A=some ad∧w.cell? (ad.add (i.toNat * 2))=some (.int .i64 (rd_T61 xs i).f0)∧w.cell? ⟨(ad.add (i.toNat * 2)).block,(ad.add (i.toNat * 2)).off+1,none⟩=some (.int .i64 (rd_T61 xs i).f1):=by
 obtain⟨ad,c,e,_,hK,hc0⟩:=Kd.C_get h z61 i h0 h1
 have hc:∀ j u,c[j]?=some u→w.cell? (ad.add (i.toNat * 2+j))=some u:=hc0
 obtain rfl:=k61_open hK
 exact⟨ad,e,hc 0 _ rfl,by rw [← add_field _ _ 1 (by omega)];exact hc 1 _ rfl⟩
end Go.Proofs.Ytedegfbheihopaa.P

namespace Go.Proofs.Ytedegfbheihopaa.P
open Go.RowKit Go.Proofs.YtedegfbheihopaaW.PrintWords Go.Proofs.YtedegfbheihopaaW.PrintLast Go.Proofs.YtedegfbheihopaaW.PrintMore
attribute [local go_sem] max2_int min2_int max_two min_two max_three min_three max_four min_four   -- for this text's walks alone
set_option linter.unusedVariables false
set_option linter.unusedSimpArgs false
def spec_l1In.f (a0:Int) (a1:Int) (a2:Int):Option (Bool):=if a0≥a1 then(some (decide (a0≤a2))) else(some false)
set_option maxHeartbeats 8000000 in
set_option maxRecDepth 100000 in
theorem spec_l1In.calls (a0:Int) (a1:Int) (a2:Int) (r:Bool) (w:World) (h:spec_l1In.f a0 a1 a2=some r):
  Calls Try.prog 59 #[.int .i64 a0,.int .i64 a1,.int .i64 a2] w fun e w'=>e= .returned (.bool r)∧Drawn0 w w':=by
 have H:(if a0≥a1 then(some (decide (a0≤a2))) else(some false))=some r:=h
 clear h
 by_cases c4:a0≥a1
 ·rw [if_pos c4] at H
  have c4b0:decide (a1≤a0)=true:=decide_eq_true c4
  clear c4
  obtain rfl:=Option.some.inj H
  go_enter Try.func59,Try.ntmps59
  go_wp2
  go_ret
  exact⟨by first|rfl|(simp;done)|(simp [*];done),by repeat(first|exact Drawn0.refl _|apply Drawn0.step)⟩
 ·rw [if_neg c4] at H
  have c4b0:decide (a1≤a0)=false:=decide_eq_false c4
  clear c4
  obtain rfl:=Option.some.inj H
  go_enter Try.func59,Try.ntmps59
  go_wp2
  go_ret
  exact⟨by first|rfl|(simp;done)|(simp [*];done),by repeat(first|exact Drawn0.refl _|apply Drawn0.step)⟩
mutual
def spec_GoodParents.l0:Nat→List Int→Int→List Int→Int→Int→Option (Bool)
 | 0,_,_,_,_,_=>none
 |k+1,x0,x3,x10,x11,x12=>if x12<x11 then(if 0≤x12 then(if x12< (x10.length:Int) then((spec_l1In.f (rd x10 x12) (-1) (wrap64 (x3 - 1))).bind fun t103=>(if t103=true then(spec_GoodParents.l1 k x0 x3 0 x12 x10 x11 x12) else(some false))) else(none)) else(none)) else((spec_l1In.f x3 1 12).bind fun t101=>(some t101))
def spec_GoodParents.l1:Nat→List Int→Int→Int→Int→List Int→Int→Int→Option (Bool)
 | 0,_,_,_,_,_,_,_=>none
 |k+1,x0,x3,x6,x7,x10,x11,x12=>if x7≥0 then(if (wrap64 (x6+1)) > x3 then(some false) else(if 0≤x7 then(if x7< (x0.length:Int) then((spec_l1In.f (rd x0 x7) (-1) (wrap64 (x3 - 1))).bind fun t105=>(if t105=true then(spec_GoodParents.l1 k x0 x3 (wrap64 (x6+1)) (rd x0 x7) x10 x11 x12) else(some false))) else(none)) else(none))) else(spec_GoodParents.l0 k x0 x3 x10 x11 (wrap64 (x12+1)))
end
def spec_GoodParents.f (k:Nat) (l0:List Int):Option (Bool):=spec_GoodParents.l0 k l0 (l0.length:Int) l0 (l0.length:Int) 0
theorem zb0 {q p:Prop} (b:Aside0 q) (h:q→p:=by intro z;repeat(first|(with_reducible first|exact z|apply below_alloc|apply pw_below_drewN|apply below_drew1)|exact z)):p:=h b.out
theorem zq1 {p:Prop} (h:p:=by first|(with_reducible assumption)|assumption):p:=h
theorem zq2 {p:Prop} (h:p:=by(try simp only [List.map_toArray,List.map_cons,List.map_nil]);first|done|rfl|(simp only [List.length_drop,List.length_take];rfl)):p:=h
set_option maxHeartbeats 8000000 in
set_option maxRecDepth 100000 in
theorem spec_GoodParents.calls (k:Nat) (A0:Option Addr) (c0:Nat) (l0:List Int) (r:Bool) (w:World) (hr0:Kd.C (Kd.int .i64) w A0 l0.length l0) (hc0:l0.length≤c0) (h:spec_GoodParents.f k l0=some r):
  Calls Try.prog 13 #[.slice A0 l0.length c0] w fun e w'=>e= .returned (.bool r)∧Drawn0 w w':=by
 have HR0:=Aside0.mk hr0
 have HC0:=Aside0.mk hc0
 clear hr0 hc0
 have H:(spec_GoodParents.l0 k l0 (l0.length:Int) l0 (l0.length:Int) 0)=some r:=h
 clear h
 have H':=Aside0.mk H
 clear H
 go_enter Try.func13,Try.ntmps13
 go_wp2
 go_loopg [12] k (fun kq v12 w'=> ∃ (x12_1:Int),v12= .int .i64 x12_1∧Aside0 (spec_GoodParents.l0 kq l0 (l0.length:Int) l0 (l0.length:Int) x12_1=some r)∧Aside0 (kq≤k)∧Drawn0 w w')
 case atStart=>exact⟨(0),(by first|rfl|(simp;done)|(simp [*];done)),H',⟨Nat.le_refl _⟩,by repeat(first|exact Drawn0.refl _|apply Drawn0.step)⟩
 case round=>
  clear H'
  try clear c1
  obtain⟨x12_1,rfl,HA,HK1,⟨m1,rfl⟩⟩:=hrel
  cases gk with
  |zero=>exact absurd HA.out (by simp [spec_GoodParents.l0])
  |succ k1=>
   have H:=HA.out
   clear HA
   simp only [spec_GoodParents.l0] at H
   by_cases c2:x12_1< (l0.length:Int)
   ·rw [if_pos c2] at H
    have c2b0:decide (x12_1< (l0.length:Int))=true:=decide_eq_true c2
    clear c2
    by_cases c3: 0≤x12_1
    ·rw [if_pos c3] at H
     have c3b0:decide (0≤x12_1)=true:=decide_eq_true c3
     clear c3
     by_cases c4:x12_1< (l0.length:Int)
     ·rw [if_pos c4] at H
      have c4b0:decide (x12_1< (l0.length:Int))=true:=decide_eq_true c4
      clear c4
      replace H:=Option.bind_eq_some_iff.mp H
      obtain⟨t103,A50,H⟩:=H
      replace H:(if t103=true then(spec_GoodParents.l1 k1 l0 (l0.length:Int) 0 x12_1 l0 (l0.length:Int) x12_1) else(some false))=some r:=H
      have A5:=Aside0.mk A50
      clear A50
      by_cases c6:t103=true
      ·subst c6
       have H1:(spec_GoodParents.l1 k1 l0 (l0.length:Int) 0 x12_1 l0 (l0.length:Int) x12_1)=some r:=by rw [if_pos rfl] at H;exact H
       clear H
       have H:=H1
       clear H1
       have H':=Aside0.mk H
       clear H
       have p102: 0≤ (x12_1:Int):=of_decide_eq_true zq1
       have q102:x12_1< (l0.length:Int):=of_decide_eq_true zq1
       obtain⟨ad102,e102,hx102_0⟩:=Kd.at_int HR0.out x12_1 p102 q102
       cases e102
       replace p102:=eq_true p102
       replace q102:=eq_true q102
       go_wp2_with (first|((with_reducible refine gate_callee (f:=59) rfl ?_);refine goesL_ (some 20) rfl rfl Try.func59 (by kernel_rfl) rfl #[.int .i64 (rd l0 x12_1),.int .i64 (-1),.int .i64 (wrap64 ((l0.length:Int) - 1))] rfl zq2 ?_;(with_reducible refine(spec_l1In.calls (rd l0 x12_1) (-1) (wrap64 ((l0.length:Int) - 1)) true _ A5.out).mono ?_);rintro e w' ⟨rfl,⟨nd,rfl⟩⟩;refine⟨_,rfl,?_⟩))
       go_loopg [6,7] k1 (fun kq v6 v7 w'=> ∃ (x6_2:Int) (x7_2:Int),v6= .int .i64 x6_2∧v7= .int .i64 x7_2∧Aside0 (spec_GoodParents.l1 kq l0 (l0.length:Int) x6_2 x7_2 l0 (l0.length:Int) x12_1=some r)∧Aside0 (kq≤k1)∧Drawn0 w w')
       case atStart=>exact⟨(0),(x12_1),(by first|rfl|(simp;done)|(simp [*];done)),(by first|rfl|(simp;done)|(simp [*];done)),H',⟨Nat.le_refl _⟩,by repeat(first|exact Drawn0.refl _|apply Drawn0.step)⟩
       case round=>
        clear H'
        try clear c1
        try clear p1
        try clear q1
        try clear hx1
        try clear c2
        try clear c2b0
        try clear p2
        try clear c3
        try clear c3b0
        try clear c4
        try clear c4b0
        try clear c5
        try clear c6
        try clear p6
        try clear hx102_0
        try clear p102
        try clear q102
        obtain⟨x6_2,x7_2,rfl,rfl,HA,HK2,⟨m2,rfl⟩⟩:=hrel
        cases gk with
        |zero=>exact absurd HA.out (by simp [spec_GoodParents.l1])
        |succ k2=>
         have H:=HA.out
         clear HA
         simp only [spec_GoodParents.l1] at H
         by_cases c7:x7_2≥0
         ·rw [if_pos c7] at H
          have c7b0:decide (0≤x7_2)=true:=decide_eq_true c7
          clear c7
          by_cases c8:(wrap64 (x6_2+1)) > (l0.length:Int)
          ·rw [if_pos c8] at H
           have c8b0:decide ((l0.length:Int)< (wrap64 (x6_2+1)))=true:=decide_eq_true c8
           clear c8
           obtain rfl:=Option.some.inj H
           go_wp2
           go_ret
           exact⟨by first|rfl|(simp;done)|(simp [*];done),by repeat(first|exact Drawn0.refl _|apply Drawn0.step)⟩
          ·rw [if_neg c8] at H
           have c8b0:decide ((l0.length:Int)< (wrap64 (x6_2+1)))=false:=decide_eq_false c8
           clear c8
           by_cases c9: 0≤x7_2
           ·rw [if_pos c9] at H
            have c9b0:decide (0≤x7_2)=true:=decide_eq_true c9
            clear c9
            by_cases c10:x7_2< (l0.length:Int)
            ·rw [if_pos c10] at H
             have c10b0:decide (x7_2< (l0.length:Int))=true:=decide_eq_true c10
             clear c10
             replace H:=Option.bind_eq_some_iff.mp H
             obtain⟨t105,A110,H⟩:=H
             replace H:(if t105=true then(spec_GoodParents.l1 k2 l0 (l0.length:Int) (wrap64 (x6_2+1)) (rd l0 x7_2) l0 (l0.length:Int) x12_1) else(some false))=some r:=H
             have A11:=Aside0.mk A110
             clear A110
             by_cases c12:t105=true
             ·subst c12
              have H1:(spec_GoodParents.l1 k2 l0 (l0.length:Int) (wrap64 (x6_2+1)) (rd l0 x7_2) l0 (l0.length:Int) x12_1)=some r:=by rw [if_pos rfl] at H;exact H
              clear H
              have H:=H1
              clear H1
              have H':=Aside0.mk H
              clear H
              have p104: 0≤ (x7_2:Int):=of_decide_eq_true zq1
              have q104:x7_2< (l0.length:Int):=of_decide_eq_true zq1
              obtain⟨ad104,e104,hx104_0⟩:=Kd.at_int HR0.out x7_2 p104 q104
              obtain rfl:ad102=ad104:=(by injection e104)
              replace p104:=eq_true p104
              replace q104:=eq_true q104
              go_wp2_with (first|(go_at_call 59;(with_reducible refine(spec_l1In.calls (rd l0 x7_2) (-1) (wrap64 ((l0.length:Int) - 1)) true _ A11.out).mono ?_);rintro e w' ⟨rfl,⟨nd,rfl⟩⟩;have p106: 0≤ (x7_2:Int):=of_decide_eq_true zq1;have q106:x7_2< (l0.length:Int):=of_decide_eq_true zq1;obtain⟨ad106,e106,hx106_0⟩:=Kd.at_int HR0.out x7_2 p106 q106;obtain rfl:ad102=ad106:=(by injection e106);replace p106:=eq_true p106;replace q106:=eq_true q106))
              go_roundg k2
              case measure=>have:=HK1.out;have:=HK2.out;omega
              case rel=>exact⟨(wrap64 (x6_2+1)),(rd l0 x7_2),(by first|rfl|(simp;done)|(simp [*];done)),(by first|rfl|(simp;done)|(simp [*];done)),H',⟨by have:=HK1.out;have:=HK2.out;omega⟩,by repeat(first|exact Drawn0.refl _|apply Drawn0.step)⟩
             ·replace c12:=Bool.eq_false_iff.mpr c12
              subst c12
              have H1:(some false)=some r:=by rw [if_neg (show ¬ (false=true) by decide)] at H;exact H
              clear H
              have H:=H1
              clear H1
              obtain rfl:=Option.some.inj H
              have p104: 0≤ (x7_2:Int):=of_decide_eq_true zq1
              have q104:x7_2< (l0.length:Int):=of_decide_eq_true zq1
              obtain⟨ad104,e104,hx104_0⟩:=Kd.at_int HR0.out x7_2 p104 q104
              obtain rfl:ad102=ad104:=(by injection e104)
              replace p104:=eq_true p104
              replace q104:=eq_true q104
              go_wp2_with (first|(go_at_call 59;(with_reducible refine(spec_l1In.calls (rd l0 x7_2) (-1) (wrap64 ((l0.length:Int) - 1)) false _ A11.out).mono ?_);rintro e w' ⟨rfl,⟨nd,rfl⟩⟩))
              go_ret
              exact⟨by first|rfl|(simp;done)|(simp [*];done),by repeat(first|exact Drawn0.refl _|apply Drawn0.step)⟩
            ·rw [if_neg c10] at H
             exact absurd H (by simp)
           ·rw [if_neg c9] at H
            exact absurd H (by simp)
         ·rw [if_neg c7] at H
          have c7b0:decide (0≤x7_2)=false:=decide_eq_false c7
          clear c7
          have H':=Aside0.mk H
          clear H
          go_wp2
          go_roundg k2
          case measure=>have:=HK1.out;have:=HK2.out;omega
          case rel=>exact⟨(wrap64 (x12_1+1)),(by first|rfl|(simp;done)|(simp [*];done)),H',⟨by have:=HK1.out;have:=HK2.out;omega⟩,by repeat(first|exact Drawn0.refl _|apply Drawn0.step)⟩
      ·replace c6:=Bool.eq_false_iff.mpr c6
       subst c6
       have H1:(some false)=some r:=by rw [if_neg (show ¬ (false=true) by decide)] at H;exact H
       clear H
       have H:=H1
       clear H1
       obtain rfl:=Option.some.inj H
       have p102: 0≤ (x12_1:Int):=of_decide_eq_true zq1
       have q102:x12_1< (l0.length:Int):=of_decide_eq_true zq1
       obtain⟨ad102,e102,hx102_0⟩:=Kd.at_int HR0.out x12_1 p102 q102
       cases e102
       replace p102:=eq_true p102
       replace q102:=eq_true q102
       go_wp2_with (first|((with_reducible refine gate_callee (f:=59) rfl ?_);refine goesL_ (some 20) rfl rfl Try.func59 (by kernel_rfl) rfl #[.int .i64 (rd l0 x12_1),.int .i64 (-1),.int .i64 (wrap64 ((l0.length:Int) - 1))] rfl zq2 ?_;(with_reducible refine(spec_l1In.calls (rd l0 x12_1) (-1) (wrap64 ((l0.length:Int) - 1)) false _ A5.out).mono ?_);rintro e w' ⟨rfl,⟨nd,rfl⟩⟩;refine⟨_,rfl,?_⟩))
       go_ret
       exact⟨by first|rfl|(simp;done)|(simp [*];done),by repeat(first|exact Drawn0.refl _|apply Drawn0.step)⟩
     ·rw [if_neg c4] at H
      exact absurd H (by simp)
    ·rw [if_neg c3] at H
     exact absurd H (by simp)
   ·rw [if_neg c2] at H
    have c2b0:decide (x12_1< (l0.length:Int))=false:=decide_eq_false c2
    clear c2
    replace H:=Option.bind_eq_some_iff.mp H
    obtain⟨t101,A130,H⟩:=H
    replace H:(some t101)=some r:=H
    have A13:=Aside0.mk A130
    clear A130
    obtain rfl:=Option.some.inj H
    go_wp2_with (first|((with_reducible refine gate_callee (f:=59) rfl ?_);refine goesL_ (some 46) rfl rfl Try.func59 (by kernel_rfl) rfl #[.int .i64 (l0.length:Int),.int .i64 1,.int .i64 12] rfl zq2 ?_;(with_reducible refine(spec_l1In.calls (l0.length:Int) 1 12 t101 _ A13.out).mono ?_);rintro e w' ⟨rfl,⟨nd,rfl⟩⟩;refine⟨_,rfl,?_⟩))
    go_ret
    exact⟨by first|rfl|(simp;done)|(simp [*];done),by repeat(first|exact Drawn0.refl _|apply Drawn0.step)⟩
def laws_toIntS.l0:Nat→List Int→List Int→Int→Option (List Int)
 | 0,_,_,_=>none
 |k+1,x0,x3,x4=>if x4< (x0.length:Int) then(if 0≤x4 then(if x4< (x3.length:Int) then(laws_toIntS.l0 k x0 (x3.set (x4:Int).toNat (rd x0 x4)) (wrap64 (x4+1))) else(none)) else(none)) else(some x3)
def laws_toIntS.f (k:Nat) (l0:List Int):Option (List Int):=if 0≤ (l0.length:Int) then(if ((l0.length:Int):Int).toNat≤35184372088832 then(laws_toIntS.l0 k l0 (List.replicate ((l0.length:Int):Int).toNat 0) 0) else(none)) else(none)
set_option maxHeartbeats 8000000 in
set_option maxRecDepth 100000 in
theorem laws_toIntS.calls (k:Nat) (A0:Option Addr) (c0:Nat) (l0:List Int) (r:List Int) (w:World) (hr0:Kd.C (Kd.int .i64) w A0 l0.length l0) (hc0:l0.length≤c0) (h:laws_toIntS.f k l0=some r):
  Calls Try.prog 14 #[.slice A0 l0.length c0] w fun e w'=> ∃ v0_:Value,e= .returned (v0_)∧Kd.R (Kd.int .i64) 3 w' w.heap.size (fun _=>True) v0_ r∧Below w.heap.size w w':=by
 have HR0:=Aside0.mk hr0
 have HC0:=Aside0.mk hc0
 clear hr0 hc0
 have HB:=Aside0.mk (Below.refl w.heap.size w)
 have H:(if 0≤ (l0.length:Int) then(if ((l0.length:Int):Int).toNat≤35184372088832 then(laws_toIntS.l0 k l0 (List.replicate ((l0.length:Int):Int).toNat 0) 0) else(none)) else(none))=some r:=h
 clear h
 by_cases c2: 0≤ (l0.length:Int)
 ·rw [if_pos c2] at H
  have c2b0:=eq_true c2
  have c2b1:decide (0≤ (l0.length:Int))=true:=decide_eq_true c2
  clear c2
  by_cases c3:((l0.length:Int):Int).toNat≤35184372088832
  ·rw [if_pos c3] at H
   have c3b0:=eq_true c3
   have c3b1:decide (((l0.length:Int):Int).toNat≤35184372088832)=true:=decide_eq_true c3
   clear c3
   obtain⟨y107,hy107⟩ :∃ y_:List Int,y_= (List.replicate ((l0.length:Int):Int).toNat 0):=⟨_,rfl⟩
   replace H:(laws_toIntS.l0 k l0 y107 0)=some r:=by first|(rw [hy107];with_reducible exact H)|(have H2_:=(Option.bind_some _ _).symm.trans H;rw [hy107];with_reducible exact H2_)|(have H2_:=(Option.bind_some _ _).symm.trans H;with_reducible exact H2_)|with_reducible exact H|(rw [hy107];exact H)|exact H
   have Ny107:=Aside0.mk hy107
   clear hy107
   have H':=Aside0.mk H
   clear H
   go_enter Try.func14,Try.ntmps14
   go_wp2_with (first|((with_reducible refine gate_dst (N:=7) rfl ?_);refine Kd.R_make (Kd.int .i64) _ 3 rfl (N:=7) rfl 22 _ _ rfl (l0.length:Int) rfl rfl Try.underlying22 (.int .i64 0) 8 info3 rfl (by decide) (by omega) 0 (ok:=fun _=>True) (okp:=fun _=>True) rfl (fun _ hk=>hk) trivial (of_decide_eq_true zq1) (Nat.le_trans (Nat.mul_le_mul_right _ (of_decide_eq_true zq1:(l0.length:Int).toNat≤35184372088832)) (by omega)) (Below.refl _ _) (Nat.le_refl _) ?_;intro v108 w4 ho5 hb hg_ hnew_;clear hg_ hnew_;(first|rw [← Ny107.out] at ho5|(simp only [Int.reduceToNat] at ho5;rw [← Ny107.out] at ho5));have n0_:=Aside0.mk (Kd.R_lower ho5 (below_size (zb0 HB)));have n1_:=Aside0.mk (below_step (zb0 HB) hb);clear HB;have HO109:=n0_;have HB:=n1_;clear n0_ n1_;clear hb ho5))
   go_loopg [4] k (fun kq v4 w'=> ∃ (x3_1:List Int) (x4_1:Int),v4= .int .i64 x4_1∧Aside0 (laws_toIntS.l0 kq l0 x3_1 x4_1=some r)∧Aside0 (kq≤k)∧Aside0 (Kd.R (Kd.int .i64) 3 w' w.heap.size (fun _=>True) v108 x3_1)∧Aside0 (Below w.heap.size w w'))
   case atStart=>exact⟨(y107),(0),(by first|rfl|(simp;done)|(simp [*];done)),H',⟨Nat.le_refl _⟩,⟨by(with_reducible repeat(first|apply Kd.R_alloc|apply Kd.R_drewN|apply Kd.R_drew));exact HO109.out⟩,⟨by repeat(first|(with_reducible first|exact HB.out|apply below_alloc|apply pw_below_drewN|apply below_drew1)|exact HB.out)⟩⟩
   case round=>
    clear H'
    try clear c1
    try clear c2
    try clear c2b0
    try clear c2b1
    try clear p2
    try clear c3
    try clear c3b0
    try clear c3b1
    obtain⟨x3_1,x4_1,rfl,HA,HK1,HO_3,HB⟩:=hrel
    cases gk with
    |zero=>exact absurd HA.out (by simp [laws_toIntS.l0])
    |succ k1=>
     have H:=HA.out
     clear HA
     simp only [laws_toIntS.l0] at H
     by_cases c6:x4_1< (l0.length:Int)
     ·rw [if_pos c6] at H
      have c6b0:decide (x4_1< (l0.length:Int))=true:=decide_eq_true c6
      clear c6
      by_cases c7: 0≤x4_1
      ·rw [if_pos c7] at H
       have c7b0:decide (0≤x4_1)=true:=decide_eq_true c7
       clear c7
       by_cases c8:x4_1< (x3_1.length:Int)
       ·rw [if_pos c8] at H
        have c8b0:decide (x4_1< (x3_1.length:Int))=true:=decide_eq_true c8
        clear c8
        obtain⟨y111,hy111⟩ :∃ y_:List Int,y_= (x3_1.set (x4_1:Int).toNat (rd l0 x4_1)):=⟨_,rfl⟩
        replace H:(laws_toIntS.l0 k1 l0 y111 (wrap64 (x4_1+1)))=some r:=by first|(rw [hy111];with_reducible exact H)|(have H2_:=(Option.bind_some _ _).symm.trans H;rw [hy111];with_reducible exact H2_)|(have H2_:=(Option.bind_some _ _).symm.trans H;with_reducible exact H2_)|with_reducible exact H|(rw [hy111];exact H)|exact H
        have Ny111:=Aside0.mk hy111
        clear hy111
        have H':=Aside0.mk H
        clear H
        have p110: 0≤ (x4_1:Int):=of_decide_eq_true zq1
        have q110:x4_1< (l0.length:Int):=of_decide_eq_true zq1
        obtain⟨ad110,e110,hx110_0⟩:=Kd.at_int HR0.out x4_1 p110 q110
        cases e110
        replace hx110_0:=(HB.out.cell (World.block_lt_of_cell? w _ hx110_0)).trans hx110_0
        replace p110:=eq_true p110
        replace q110:=eq_true q110
        have p9: 0≤ (x4_1:Int):=of_decide_eq_true zq1
        have q9:(x4_1:Int)< ((x3_1.length:Int):Int):=of_decide_eq_true zq1
        obtain⟨go9,co9,eo9,gb9,gl9,cl9,HG9⟩:=Kd.R_form HO_3.out (by omega)
        (first|cases eo9|(injection eo9 with ea_ en_ ec_;(first|subst ea_|(injection ea_ with ea_;subst ea_));subst ec_;clear en_))
        have GB9:=Aside0.mk gb9
        have GG9:=Aside0.mk HG9
        clear gb9 gl9 HG9
        obtain⟨hx9_0,hf9_0⟩:=Kd.R_celln 0 HO_3.out (x4_1:Int) p9 q9
        replace p9:=eq_true p9
        replace q9:=eq_true q9
        have HP10:=Kd.R_putg HO_3.out (x4_1:Int) (rd l0 x4_1)
        go_wp2_with (first|((with_reducible refine gate_store (t:=3) (p:=20) rfl ?_);refine store_event (t:=3) (p:=20) (v:=?vo_w11) (w1:=(wr.setCell ⟨go9,(x4_1:Int).toNat,none⟩ (.int .i64 (rd l0 x4_1)))) ?hg ?ho ?hn ?hr ?_;(case ho=>rfl);(case hg=>rfl);(case hn=>rfl);(case hr=>first|(go_simp;done)|(go_simp;rfl));intro w11 hw;have hg:wr.grownBy w11 (some go9):=(by rw [hw];exact HP10.2);have hp_:Kd.R (Kd.int .i64) 3 w11 w.heap.size (fun _=>True) (.slice (some ⟨go9,0,none⟩) x3_1.length co9) y111:=(by rw [hw,Ny111.out];exact HP10.1);clear HP10;have n0_:=Aside0.mk (hp_);have n1_:=Aside0.mk ((by rw [hw];exact below_set (HB.out) GB9.out:Below w.heap.size w w11));clear HO_3;clear HB;have HO_3:=n0_;have HB:=n1_;clear n0_ n1_;clear hg hw hp_))
        go_roundg k1
        case measure=>have:=HK1.out;omega
        case rel=>exact⟨(y111),(wrap64 (x4_1+1)),(by first|rfl|(simp;done)|(simp [*];done)),H',⟨by have:=HK1.out;omega⟩,⟨by(with_reducible repeat(first|apply Kd.R_alloc|apply Kd.R_drewN|apply Kd.R_drew));exact HO_3.out⟩,⟨by repeat(first|(with_reducible first|exact HB.out|apply below_alloc|apply pw_below_drewN|apply below_drew1)|exact HB.out)⟩⟩
       ·rw [if_neg c8] at H
        exact absurd H (by simp)
      ·rw [if_neg c7] at H
       exact absurd H (by simp)
     ·rw [if_neg c6] at H
      have c6b0:decide (x4_1< (l0.length:Int))=false:=decide_eq_false c6
      clear c6
      obtain rfl:=Option.some.inj H
      go_wp2
      go_ret
      exact⟨_,by first|rfl|(simp [errW_none,errW_some]<;>rfl)|(simp [*,errW_none,errW_some]<;>rfl),by(with_reducible repeat(first|apply Kd.R_alloc|apply Kd.R_drewN|apply Kd.R_drew));exact HO_3.out,by repeat(first|(with_reducible first|exact HB.out|apply below_alloc|apply pw_below_drewN|apply below_drew1)|exact HB.out)⟩
  ·rw [if_neg c3] at H
   exact absurd H (by simp)
 ·rw [if_neg c2] at H
  exact absurd H (by simp)
def impl_in.f (a0:Int) (a1:Int) (a2:Int):Option (Bool):=if a0≥a1 then(some (decide (a0≤a2))) else(some false)
set_option maxHeartbeats 8000000 in
set_option maxRecDepth 100000 in
theorem impl_in.calls (a0:Int) (a1:Int) (a2:Int) (r:Bool) (w:World) (h:impl_in.f a0 a1 a2=some r):
  Calls Try.prog 78 #[.int .i64 a0,.int .i64 a1,.int .i64 a2] w fun e w'=>e= .returned (.bool r)∧Drawn0 w w':=by
 have H:(if a0≥a1 then(some (decide (a0≤a2))) else(some false))=some r:=h
 clear h
 by_cases c4:a0≥a1
 ·rw [if_pos c4] at H
  have c4b0:decide (a1≤a0)=true:=decide_eq_true c4
  clear c4
  obtain rfl:=Option.some.inj H
  go_enter Try.func78,Try.ntmps78
  go_wp2
  go_ret
  exact⟨by first|rfl|(simp;done)|(simp [*];done),by repeat(first|exact Drawn0.refl _|apply Drawn0.step)⟩
 ·rw [if_neg c4] at H
  have c4b0:decide (a1≤a0)=false:=decide_eq_false c4
  clear c4
  obtain rfl:=Option.some.inj H
  go_enter Try.func78,Try.ntmps78
  go_wp2
  go_ret
  exact⟨by first|rfl|(simp;done)|(simp [*];done),by repeat(first|exact Drawn0.refl _|apply Drawn0.step)⟩
def impl_isSpots.f (a0:Int):Option (Bool):=(impl_in.f a0 1 12).bind fun t112=>(some t112)
set_option maxHeartbeats 8000000 in
set_option maxRecDepth 100000 in
theorem impl_isSpots.calls (a0:Int) (r:Bool) (w:World) (h:impl_isSpots.f a0=some r):
  Calls Try.prog 60 #[.int .i64 a0] w fun e w'=>e= .returned (.bool r)∧Drawn0 w w':=by
 have H:((impl_in.f a0 1 12).bind fun t112=>(some t112))=some r:=h
 clear h
 replace H:=Option.bind_eq_some_iff.mp H
 obtain⟨t112,A20,H⟩:=H
 replace H:(some t112)=some r:=H
 have A2:=Aside0.mk A20
 clear A20
 obtain rfl:=Option.some.inj H
 go_enter Try.func60,Try.ntmps60
 go_wp2_with (first|((with_reducible refine gate_callee (f:=78) rfl ?_);refine goesL_ (some 4) rfl rfl Try.func78 (by kernel_rfl) rfl #[.int .i64 a0,.int .i64 1,.int .i64 12] rfl zq2 ?_;(with_reducible refine(impl_in.calls a0 1 12 t112 _ A2.out).mono ?_);rintro e w' ⟨rfl,⟨nd,rfl⟩⟩;refine⟨_,rfl,?_⟩))
 go_ret
 exact⟨by first|rfl|(simp;done)|(simp [*];done),by repeat(first|exact Drawn0.refl _|apply Drawn0.step)⟩
end Go.Proofs.Ytedegfbheihopaa.P

namespace Go.Proofs.Ytedegfbheihopaa.P
open Go.RowKit Go.Proofs.YtedegfbheihopaaW.PrintWords Go.Proofs.YtedegfbheihopaaW.PrintLast Go.Proofs.YtedegfbheihopaaW.PrintMore
attribute [local go_sem] max2_int min2_int max_two min_two max_three min_three max_four min_four   -- for this text's walks alone
set_option linter.unusedVariables false
set_option linter.unusedSimpArgs false
def impl_allIn.l0:Nat→Int→Int→List Int→Int→Int→Option (Bool)
 | 0,_,_,_,_,_=>none
 |k+1,x1,x2,x9,x10,x11=>if x11<x10 then(if 0≤x11 then(if x11< (x9.length:Int) then((impl_in.f (rd x9 x11) x1 x2).bind fun t114=>(if t114=true then(impl_allIn.l0 k x1 x2 x9 x10 (wrap64 (x11+1))) else(some false))) else(none)) else(none)) else(some true)
def impl_allIn.f (k:Nat) (l0:List Int) (a1:Int) (a2:Int):Option (Bool):=impl_allIn.l0 k a1 a2 l0 (l0.length:Int) 0
set_option maxHeartbeats 8000000 in
set_option maxRecDepth 100000 in
theorem impl_allIn.calls (k:Nat) (A0:Option Addr) (c0:Nat) (l0:List Int) (a1:Int) (a2:Int) (r:Bool) (w:World) (hr0:Kd.C (Kd.int .i64) w A0 l0.length l0) (hc0:l0.length≤c0) (h:impl_allIn.f k l0 a1 a2=some r):
  Calls Try.prog 61 #[.slice A0 l0.length c0,.int .i64 a1,.int .i64 a2] w fun e w'=>e= .returned (.bool r)∧Drawn0 w w':=by
 have HR0:=Aside0.mk hr0
 have HC0:=Aside0.mk hc0
 clear hr0 hc0
 have H:(impl_allIn.l0 k a1 a2 l0 (l0.length:Int) 0)=some r:=h
 clear h
 have H':=Aside0.mk H
 clear H
 go_enter Try.func61,Try.ntmps61
 go_wp2
 go_loopg [11] k (fun kq v11 w'=> ∃ (x11_1:Int),v11= .int .i64 x11_1∧Aside0 (impl_allIn.l0 kq a1 a2 l0 (l0.length:Int) x11_1=some r)∧Aside0 (kq≤k)∧Drawn0 w w')
 case atStart=>exact⟨(0),(by first|rfl|(simp;done)|(simp [*];done)),H',⟨Nat.le_refl _⟩,by repeat(first|exact Drawn0.refl _|apply Drawn0.step)⟩
 case round=>
  clear H'
  try clear p2
  obtain⟨x11_1,rfl,HA,HK1,⟨m1,rfl⟩⟩:=hrel
  cases gk with
  |zero=>exact absurd HA.out (by simp [impl_allIn.l0])
  |succ k1=>
   have H:=HA.out
   clear HA
   simp only [impl_allIn.l0] at H
   by_cases c4:x11_1< (l0.length:Int)
   ·rw [if_pos c4] at H
    have c4b0:decide (x11_1< (l0.length:Int))=true:=decide_eq_true c4
    clear c4
    by_cases c5: 0≤x11_1
    ·rw [if_pos c5] at H
     have c5b0:decide (0≤x11_1)=true:=decide_eq_true c5
     clear c5
     by_cases c6:x11_1< (l0.length:Int)
     ·rw [if_pos c6] at H
      have c6b0:decide (x11_1< (l0.length:Int))=true:=decide_eq_true c6
      clear c6
      replace H:=Option.bind_eq_some_iff.mp H
      obtain⟨t114,A70,H⟩:=H
      replace H:(if t114=true then(impl_allIn.l0 k1 a1 a2 l0 (l0.length:Int) (wrap64 (x11_1+1))) else(some false))=some r:=H
      have A7:=Aside0.mk A70
      clear A70
      by_cases c8:t114=true
      ·subst c8
       have H1:(impl_allIn.l0 k1 a1 a2 l0 (l0.length:Int) (wrap64 (x11_1+1)))=some r:=by rw [if_pos rfl] at H;exact H
       clear H
       have H:=H1
       clear H1
       have H':=Aside0.mk H
       clear H
       have p113: 0≤ (x11_1:Int):=of_decide_eq_true zq1
       have q113:x11_1< (l0.length:Int):=of_decide_eq_true zq1
       obtain⟨ad113,e113,hx113_0⟩:=Kd.at_int HR0.out x11_1 p113 q113
       cases e113
       replace p113:=eq_true p113
       replace q113:=eq_true q113
       go_wp2_with (first|((with_reducible refine gate_callee (f:=78) rfl ?_);refine goesL_ (some 18) rfl rfl Try.func78 (by kernel_rfl) rfl #[.int .i64 (rd l0 x11_1),.int .i64 a1,.int .i64 a2] rfl zq2 ?_;(with_reducible refine(impl_in.calls (rd l0 x11_1) a1 a2 true _ A7.out).mono ?_);rintro e w' ⟨rfl,⟨nd,rfl⟩⟩;refine⟨_,rfl,?_⟩))
       go_roundg k1
       case measure=>have:=HK1.out;omega
       case rel=>exact⟨(wrap64 (x11_1+1)),(by first|rfl|(simp;done)|(simp [*];done)),H',⟨by have:=HK1.out;omega⟩,by repeat(first|exact Drawn0.refl _|apply Drawn0.step)⟩
      ·replace c8:=Bool.eq_false_iff.mpr c8
       subst c8
       have H1:(some false)=some r:=by rw [if_neg (show ¬ (false=true) by decide)] at H;exact H
       clear H
       have H:=H1
       clear H1
       obtain rfl:=Option.some.inj H
       have p113: 0≤ (x11_1:Int):=of_decide_eq_true zq1
       have q113:x11_1< (l0.length:Int):=of_decide_eq_true zq1
       obtain⟨ad113,e113,hx113_0⟩:=Kd.at_int HR0.out x11_1 p113 q113
       cases e113
       replace p113:=eq_true p113
       replace q113:=eq_true q113
       go_wp2_with (first|((with_reducible refine gate_callee (f:=78) rfl ?_);refine goesL_ (some 18) rfl rfl Try.func78 (by kernel_rfl) rfl #[.int .i64 (rd l0 x11_1),.int .i64 a1,.int .i64 a2] rfl zq2 ?_;(with_reducible refine(impl_in.calls (rd l0 x11_1) a1 a2 false _ A7.out).mono ?_);rintro e w' ⟨rfl,⟨nd,rfl⟩⟩;refine⟨_,rfl,?_⟩))
       go_ret
       exact⟨by first|rfl|(simp;done)|(simp [*];done),by repeat(first|exact Drawn0.refl _|apply Drawn0.step)⟩
     ·rw [if_neg c6] at H
      exact absurd H (by simp)
    ·rw [if_neg c5] at H
     exact absurd H (by simp)
   ·rw [if_neg c4] at H
    have c4b0:decide (x11_1< (l0.length:Int))=false:=decide_eq_false c4
    clear c4
    obtain rfl:=Option.some.inj H
    go_wp2
    go_ret
    exact⟨by first|rfl|(simp;done)|(simp [*];done),by repeat(first|exact Drawn0.refl _|apply Drawn0.step)⟩
mutual
def impl_GoodParents.j0:Nat→List Int→Bool→Option (Bool)
 | 0,_,_=>none
 |k+1,x0,x16=>if x16=true then(some false) else(impl_GoodParents.l0 k x0 (x0.length:Int) 0)
def impl_GoodParents.l0:Nat→List Int→Int→Int→Option (Bool)
 | 0,_,_,_=>none
 |k+1,x0,x18,x19=>if x19<x18 then(impl_GoodParents.l1 k x0 x19 x18 x19 (x0.length:Int) 0) else(some true)
def impl_GoodParents.l1:Nat→List Int→Int→Int→Int→Int→Int→Option (Bool)
 | 0,_,_,_,_,_,_=>none
 |k+1,x0,x4,x18,x19,x24,x25=>if x25<x24 then(if x4≥0 then(if 0≤x4 then(if x4< (x0.length:Int) then(impl_GoodParents.l1 k x0 (rd x0 x4) x18 x19 x24 (wrap64 (x25+1))) else(none)) else(none)) else(impl_GoodParents.l1 k x0 x4 x18 x19 x24 (wrap64 (x25+1)))) else(if x4≥0 then(some false) else(impl_GoodParents.l0 k x0 x18 (wrap64 (x19+1))))
end
def impl_GoodParents.f (k:Nat) (l0:List Int):Option (Bool):=(impl_isSpots.f (l0.length:Int)).bind fun t115=>(if t115=true then((impl_allIn.f k l0 (-1) (wrap64 ((l0.length:Int) - 1))).bind fun t116=>(impl_GoodParents.j0 k l0 (!t116))) else(impl_GoodParents.j0 k l0 true))
set_option maxHeartbeats 8000000 in
set_option maxRecDepth 100000 in
theorem impl_GoodParents.calls (k:Nat) (A0:Option Addr) (c0:Nat) (l0:List Int) (r:Bool) (w:World) (hr0:Kd.C (Kd.int .i64) w A0 l0.length l0) (hc0:l0.length≤c0) (h:impl_GoodParents.f k l0=some r):
  Calls Try.prog 15 #[.slice A0 l0.length c0] w fun e w'=>e= .returned (.bool r)∧Drawn0 w w':=by
 have HR0:=Aside0.mk hr0
 have HC0:=Aside0.mk hc0
 clear hr0 hc0
 have H:((impl_isSpots.f (l0.length:Int)).bind fun t115=>(if t115=true then((impl_allIn.f k l0 (-1) (wrap64 ((l0.length:Int) - 1))).bind fun t116=>(impl_GoodParents.j0 k l0 (!t116))) else(impl_GoodParents.j0 k l0 true)))=some r:=h
 clear h
 have HC2:=Aside0.mk H
 clear H
 go_enter Try.func15,Try.ntmps15
 go_upto_region 1 with (fail)
 go_cut [16] (fun v16 wc=> ∃ (kq:Nat) (x16_1:Bool),v16= .bool x16_1∧Aside0 (impl_GoodParents.j0 kq l0 x16_1=some r)∧Aside0 (kq≤k)∧Drawn0 w wc)
 case first=>
  have H:=HC2.out
  clear HC2
  replace H:=Option.bind_eq_some_iff.mp H
  obtain⟨t115,A30,H⟩:=H
  replace H:(if t115=true then((impl_allIn.f k l0 (-1) (wrap64 ((l0.length:Int) - 1))).bind fun t116=>(impl_GoodParents.j0 k l0 (!t116))) else(impl_GoodParents.j0 k l0 true))=some r:=H
  have A3:=Aside0.mk A30
  clear A30
  by_cases c4:t115=true
  ·subst c4
   have H1:((impl_allIn.f k l0 (-1) (wrap64 ((l0.length:Int) - 1))).bind fun t116=>(impl_GoodParents.j0 k l0 (!t116)))=some r:=by rw [if_pos rfl] at H;exact H
   clear H
   have H:=H1
   clear H1
   replace H:=Option.bind_eq_some_iff.mp H
   obtain⟨t116,A50,H⟩:=H
   replace H:(impl_GoodParents.j0 k l0 (!t116))=some r:=H
   have A5:=Aside0.mk A50
   clear A50
   have H':=Aside0.mk H
   clear H
   go_wp2_with (first|((with_reducible refine gate_callee (f:=60) rfl ?_);refine goesL_ (some 7) rfl rfl Try.func60 (by kernel_rfl) rfl #[.int .i64 (l0.length:Int)] rfl zq2 ?_;(with_reducible refine(impl_isSpots.calls (l0.length:Int) true _ A3.out).mono ?_);rintro e w' ⟨rfl,⟨nd,rfl⟩⟩;refine⟨_,rfl,?_⟩)|(go_at_call 61;(with_reducible refine(impl_allIn.calls k _ _ l0 (-1) (wrap64 ((l0.length:Int) - 1)) t116 _ ?side1 ?side2 A5.out).mono ?_);(case side1=>repeat(first|exact HR0.out|(with_reducible refine Kd.C_alloc ?_ _)|(with_reducible refine Kd.C_drewN ?_ _)|(with_reducible refine Kd.C_drew ?_)));(case side2=>exact HC0.out);rintro e w' ⟨rfl,⟨nd,rfl⟩⟩))
   go_meet
   case rel=>exact⟨_,(!t116),(by first|rfl|(simp;done)|(simp [*];done)),H',⟨by first|omega|exact Nat.le_refl _⟩,by repeat(first|exact Drawn0.refl _|apply Drawn0.step)⟩
  ·replace c4:=Bool.eq_false_iff.mpr c4
   subst c4
   have H1:(impl_GoodParents.j0 k l0 true)=some r:=by rw [if_neg (show ¬ (false=true) by decide)] at H;exact H
   clear H
   have H:=H1
   clear H1
   have H':=Aside0.mk H
   clear H
   go_wp2_with (first|((with_reducible refine gate_callee (f:=60) rfl ?_);refine goesL_ (some 7) rfl rfl Try.func60 (by kernel_rfl) rfl #[.int .i64 (l0.length:Int)] rfl zq2 ?_;(with_reducible refine(impl_isSpots.calls (l0.length:Int) false _ A3.out).mono ?_);rintro e w' ⟨rfl,⟨nd,rfl⟩⟩;refine⟨_,rfl,?_⟩))
   go_meet
   case rel=>exact⟨_,(true),(by first|rfl|(simp;done)|(simp [*];done)),H',⟨by first|omega|exact Nat.le_refl _⟩,by repeat(first|exact Drawn0.refl _|apply Drawn0.step)⟩
 case rest=>
  clear HC2
  try clear c1
  try clear p2
  try clear c4
  obtain⟨kq,x16_1,rfl,HA,HJ1,⟨mc1,rfl⟩⟩:=hcut
  cases kq with
  |zero=>exact absurd HA.out (by simp [impl_GoodParents.j0])
  |succ kj1=>
   have H:=HA.out
   clear HA
   simp only [impl_GoodParents.j0] at H
   by_cases c6:x16_1=true
   ·subst c6
    have H1:(some false)=some r:=by rw [if_pos rfl] at H;exact H
    clear H
    have H:=H1
    clear H1
    obtain rfl:=Option.some.inj H
    go_wp2
    go_ret
    exact⟨by first|rfl|(simp;done)|(simp [*];done),by repeat(first|exact Drawn0.refl _|apply Drawn0.step)⟩
   ·replace c6:=Bool.eq_false_iff.mpr c6
    subst c6
    have H1:(impl_GoodParents.l0 kj1 l0 (l0.length:Int) 0)=some r:=by rw [if_neg (show ¬ (false=true) by decide)] at H;exact H
    clear H
    have H:=H1
    clear H1
    have H':=Aside0.mk H
    clear H
    go_wp2
    go_loopg [19] kj1 (fun kq v19 w'=> ∃ (x19_2:Int),v19= .int .i64 x19_2∧Aside0 (impl_GoodParents.l0 kq l0 (l0.length:Int) x19_2=some r)∧Aside0 (kq≤kj1)∧Drawn0 w w')
    case atStart=>exact⟨(0),(by first|rfl|(simp;done)|(simp [*];done)),H',⟨Nat.le_refl _⟩,by repeat(first|exact Drawn0.refl _|apply Drawn0.step)⟩
    case round=>
     clear H'
     try clear c1
     try clear p2
     try clear c4
     try clear c6
     try clear p6
     try clear p2
     obtain⟨x19_2,rfl,HA,HK2,⟨m2,rfl⟩⟩:=hrel
     cases gk with
     |zero=>exact absurd HA.out (by simp [impl_GoodParents.l0])
     |succ k2=>
      have H:=HA.out
      clear HA
      simp only [impl_GoodParents.l0] at H
      by_cases c7:x19_2< (l0.length:Int)
      ·rw [if_pos c7] at H
       have c7b0:decide (x19_2< (l0.length:Int))=true:=decide_eq_true c7
       clear c7
       have H':=Aside0.mk H
       clear H
       go_wp2
       go_loopg [4,25] k2 (fun kq v4 v25 w'=> ∃ (x4_3:Int) (x25_3:Int),v4= .int .i64 x4_3∧v25= .int .i64 x25_3∧Aside0 (impl_GoodParents.l1 kq l0 x4_3 (l0.length:Int) x19_2 (l0.length:Int) x25_3=some r)∧Aside0 (kq≤k2)∧Drawn0 w w')
       case atStart=>exact⟨(x19_2),(0),(by first|rfl|(simp;done)|(simp [*];done)),(by first|rfl|(simp;done)|(simp [*];done)),H',⟨Nat.le_refl _⟩,by repeat(first|exact Drawn0.refl _|apply Drawn0.step)⟩
       case round=>
        clear H'
        try clear c1
        try clear p2
        try clear c4
        try clear c6
        try clear p6
        try clear c7
        try clear c7b0
        try clear p2
        try clear p6
        obtain⟨x4_3,x25_3,rfl,rfl,HA,HK3,⟨m3,rfl⟩⟩:=hrel
        cases gk with
        |zero=>exact absurd HA.out (by simp [impl_GoodParents.l1])
        |succ k3=>
         have H:=HA.out
         clear HA
         simp only [impl_GoodParents.l1] at H
         by_cases c8:x25_3< (l0.length:Int)
         ·rw [if_pos c8] at H
          have c8b0:decide (x25_3< (l0.length:Int))=true:=decide_eq_true c8
          clear c8
          by_cases c9:x4_3≥0
          ·rw [if_pos c9] at H
           have c9b0:decide (0≤x4_3)=true:=decide_eq_true c9
           clear c9
           by_cases c10: 0≤x4_3
           ·rw [if_pos c10] at H
            have c10b0:decide (0≤x4_3)=true:=decide_eq_true c10
            clear c10
            by_cases c11:x4_3< (l0.length:Int)
            ·rw [if_pos c11] at H
             have c11b0:decide (x4_3< (l0.length:Int))=true:=decide_eq_true c11
             clear c11
             have H':=Aside0.mk H
             clear H
             have p117: 0≤ (x4_3:Int):=of_decide_eq_true zq1
             have q117:x4_3< (l0.length:Int):=of_decide_eq_true zq1
             obtain⟨ad117,e117,hx117_0⟩:=Kd.at_int HR0.out x4_3 p117 q117
             cases e117
             replace p117:=eq_true p117
             replace q117:=eq_true q117
             go_wp2
             go_roundg k3
             case measure=>have:=HJ1.out;have:=HK2.out;have:=HK3.out;omega
             case rel=>exact⟨(rd l0 x4_3),(wrap64 (x25_3+1)),(by first|rfl|(simp;done)|(simp [*];done)),(by first|rfl|(simp;done)|(simp [*];done)),H',⟨by have:=HJ1.out;have:=HK2.out;have:=HK3.out;omega⟩,by repeat(first|exact Drawn0.refl _|apply Drawn0.step)⟩
            ·rw [if_neg c11] at H
             exact absurd H (by simp)
           ·rw [if_neg c10] at H
            exact absurd H (by simp)
          ·rw [if_neg c9] at H
           have c9b0:decide (0≤x4_3)=false:=decide_eq_false c9
           clear c9
           have H':=Aside0.mk H
           clear H
           go_wp2
           go_roundg k3
           case measure=>have:=HJ1.out;have:=HK2.out;have:=HK3.out;omega
           case rel=>exact⟨(x4_3),(wrap64 (x25_3+1)),(by first|rfl|(simp;done)|(simp [*];done)),(by first|rfl|(simp;done)|(simp [*];done)),H',⟨by have:=HJ1.out;have:=HK2.out;have:=HK3.out;omega⟩,by repeat(first|exact Drawn0.refl _|apply Drawn0.step)⟩
         ·rw [if_neg c8] at H
          have c8b0:decide (x25_3< (l0.length:Int))=false:=decide_eq_false c8
          clear c8
          by_cases c12:x4_3≥0
          ·rw [if_pos c12] at H
           have c12b0:decide (0≤x4_3)=true:=decide_eq_true c12
           clear c12
           obtain rfl:=Option.some.inj H
           go_wp2
           go_ret
           exact⟨by first|rfl|(simp;done)|(simp [*];done),by repeat(first|exact Drawn0.refl _|apply Drawn0.step)⟩
          ·rw [if_neg c12] at H
           have c12b0:decide (0≤x4_3)=false:=decide_eq_false c12
           clear c12
           have H':=Aside0.mk H
           clear H
           go_wp2
           go_roundg k3
           case measure=>have:=HJ1.out;have:=HK2.out;have:=HK3.out;omega
           case rel=>exact⟨(wrap64 (x19_2+1)),(by first|rfl|(simp;done)|(simp [*];done)),H',⟨by have:=HJ1.out;have:=HK2.out;have:=HK3.out;omega⟩,by repeat(first|exact Drawn0.refl _|apply Drawn0.step)⟩
      ·rw [if_neg c7] at H
       have c7b0:decide (x19_2< (l0.length:Int))=false:=decide_eq_false c7
       clear c7
       obtain rfl:=Option.some.inj H
       go_wp2
       go_ret
       exact⟨by first|rfl|(simp;done)|(simp [*];done),by repeat(first|exact Drawn0.refl _|apply Drawn0.step)⟩
end Go.Proofs.Ytedegfbheihopaa.P

namespace Go.Proofs.Ytedegfbheihopaa.P
open Go.RowKit Go.Proofs.YtedegfbheihopaaW.PrintWords Go.Proofs.YtedegfbheihopaaW.PrintLast Go.Proofs.YtedegfbheihopaaW.PrintMore
attribute [local go_sem] max2_int min2_int max_two min_two max_three min_three max_four min_four   -- for this text's walks alone
set_option linter.unusedVariables false
set_option linter.unusedSimpArgs false
def laws_eqIntS.l0:Nat→List Int→List Int→Int→Option (Bool)
 | 0,_,_,_=>none
 |k+1,x0,x1,x5=>if x5< (x0.length:Int) then(if 0≤x5 then(if x5< (x1.length:Int) then(if (rd x0 x5)= (rd x1 x5) then(laws_eqIntS.l0 k x0 x1 (wrap64 (x5+1))) else(some false)) else(none)) else(none)) else(some true)
def laws_eqIntS.f (k:Nat) (l0:List Int) (l1:List Int):Option (Bool):=if (l0.length:Int)= (l1.length:Int) then(laws_eqIntS.l0 k l0 l1 0) else(some false)
set_option maxHeartbeats 8000000 in
set_option maxRecDepth 100000 in
theorem laws_eqIntS.calls (k:Nat) (A0:Option Addr) (c0:Nat) (l0:List Int) (A1:Option Addr) (c1:Nat) (l1:List Int) (r:Bool) (w:World) (hr0:Kd.C (Kd.int .i64) w A0 l0.length l0) (hc0:l0.length≤c0) (hr1:Kd.C (Kd.int .i64) w A1 l1.length l1) (hc1:l1.length≤c1) (h:laws_eqIntS.f k l0 l1=some r):
  Calls Try.prog 16 #[.slice A0 l0.length c0,.slice A1 l1.length c1] w fun e w'=>e= .returned (.bool r)∧Drawn0 w w':=by
 have HR0:=Aside0.mk hr0
 have HC0:=Aside0.mk hc0
 clear hr0 hc0
 have HR1:=Aside0.mk hr1
 have HC1:=Aside0.mk hc1
 clear hr1 hc1
 have H:(if (l0.length:Int)= (l1.length:Int) then(laws_eqIntS.l0 k l0 l1 0) else(some false))=some r:=h
 clear h
 by_cases c3:(l0.length:Int)= (l1.length:Int)
 ·rw [if_pos c3] at H
  have c3b0:((l0.length:Int)== (l1.length:Int))=true:=beq_iff_eq.mpr c3
  have c3b1:((l0.length:Int) != (l1.length:Int))=false:=bne_eq_false_iff_eq.mpr c3
  have c3b2:(l0.length==l1.length)=true:=by first|simpa using c3|(simp at c3 ⊢;omega)
  clear c3
  have H':=Aside0.mk H
  clear H
  go_enter Try.func16,Try.ntmps16
  go_wp2
  repeat(go_quiet (fail);try go_wp2)
  go_loopg [5] k (fun kq v5 w'=> ∃ (x5_1:Int),v5= .int .i64 x5_1∧Aside0 (laws_eqIntS.l0 kq l0 l1 x5_1=some r)∧Aside0 (kq≤k)∧Drawn0 w w')
  case atStart=>exact⟨(0),(by first|rfl|(simp;done)|(simp [*];done)),H',⟨Nat.le_refl _⟩,by repeat(first|exact Drawn0.refl _|apply Drawn0.step)⟩
  case round=>
   clear H'
   try clear c1
   try clear p2
   try clear c3
   try clear c3b0
   try clear c3b1
   try clear c3b2
   obtain⟨x5_1,rfl,HA,HK1,⟨m1,rfl⟩⟩:=hrel
   cases gk with
   |zero=>exact absurd HA.out (by simp [laws_eqIntS.l0])
   |succ k1=>
    have H:=HA.out
    clear HA
    simp only [laws_eqIntS.l0] at H
    by_cases c4:x5_1< (l0.length:Int)
    ·rw [if_pos c4] at H
     have c4b0:decide (x5_1< (l0.length:Int))=true:=decide_eq_true c4
     clear c4
     by_cases c5: 0≤x5_1
     ·rw [if_pos c5] at H
      have c5b0:decide (0≤x5_1)=true:=decide_eq_true c5
      clear c5
      by_cases c6:x5_1< (l1.length:Int)
      ·rw [if_pos c6] at H
       have c6b0:decide (x5_1< (l1.length:Int))=true:=decide_eq_true c6
       clear c6
       by_cases c7:(rd l0 x5_1)= (rd l1 x5_1)
       ·rw [if_pos c7] at H
        have c7b0:((rd l0 x5_1)== (rd l1 x5_1))=true:=beq_iff_eq.mpr c7
        have c7b1:((rd l0 x5_1) != (rd l1 x5_1))=false:=bne_eq_false_iff_eq.mpr c7
        clear c7
        have H':=Aside0.mk H
        clear H
        have p118: 0≤ (x5_1:Int):=of_decide_eq_true zq1
        have q118:x5_1< (l0.length:Int):=of_decide_eq_true zq1
        obtain⟨ad118,e118,hx118_0⟩:=Kd.at_int HR0.out x5_1 p118 q118
        cases e118
        replace p118:=eq_true p118
        replace q118:=eq_true q118
        have p119: 0≤ (x5_1:Int):=of_decide_eq_true zq1
        have q119:x5_1< (l1.length:Int):=of_decide_eq_true zq1
        obtain⟨ad119,e119,hx119_0⟩:=Kd.at_int HR1.out x5_1 p119 q119
        cases e119
        replace p119:=eq_true p119
        replace q119:=eq_true q119
        go_wp2
        repeat(go_quiet (fail);try go_wp2)
        go_roundg k1
        case measure=>have:=HK1.out;omega
        case rel=>exact⟨(wrap64 (x5_1+1)),(by first|rfl|(simp;done)|(simp [*];done)),H',⟨by have:=HK1.out;omega⟩,by repeat(first|exact Drawn0.refl _|apply Drawn0.step)⟩
       ·rw [if_neg c7] at H
        have c7b0:((rd l0 x5_1)== (rd l1 x5_1))=false:=beq_eq_false_iff_ne.mpr c7
        have c7b1:((rd l0 x5_1) != (rd l1 x5_1))=true:=bne_iff_ne.mpr c7
        obtain rfl:=Option.some.inj H
        have p118: 0≤ (x5_1:Int):=of_decide_eq_true zq1
        have q118:x5_1< (l0.length:Int):=of_decide_eq_true zq1
        obtain⟨ad118,e118,hx118_0⟩:=Kd.at_int HR0.out x5_1 p118 q118
        cases e118
        replace p118:=eq_true p118
        replace q118:=eq_true q118
        have p119: 0≤ (x5_1:Int):=of_decide_eq_true zq1
        have q119:x5_1< (l1.length:Int):=of_decide_eq_true zq1
        obtain⟨ad119,e119,hx119_0⟩:=Kd.at_int HR1.out x5_1 p119 q119
        cases e119
        replace p119:=eq_true p119
        replace q119:=eq_true q119
        go_wp2
        repeat(go_quiet (fail);try go_wp2)
        go_ret
        exact⟨by first|rfl|(simp;done)|(simp [*];done),by repeat(first|exact Drawn0.refl _|apply Drawn0.step)⟩
      ·rw [if_neg c6] at H
       exact absurd H (by simp)
     ·rw [if_neg c5] at H
      exact absurd H (by simp)
    ·rw [if_neg c4] at H
     have c4b0:decide (x5_1< (l0.length:Int))=false:=decide_eq_false c4
     clear c4
     obtain rfl:=Option.some.inj H
     go_wp2
     repeat(go_quiet (fail);try go_wp2)
     go_ret
     exact⟨by first|rfl|(simp;done)|(simp [*];done),by repeat(first|exact Drawn0.refl _|apply Drawn0.step)⟩
 ·rw [if_neg c3] at H
  have c3b0:((l0.length:Int)== (l1.length:Int))=false:=beq_eq_false_iff_ne.mpr c3
  have c3b1:((l0.length:Int) != (l1.length:Int))=true:=bne_iff_ne.mpr c3
  have c3b2:(l0.length==l1.length)=false:=by first|simpa using c3|(simp at c3 ⊢;omega)
  obtain rfl:=Option.some.inj H
  go_enter Try.func16,Try.ntmps16
  go_wp2
  repeat(go_quiet (fail);try go_wp2)
  go_ret
  exact⟨by first|rfl|(simp;done)|(simp [*];done),by repeat(first|exact Drawn0.refl _|apply Drawn0.step)⟩
def spec_l10Two.f (k:Nat) (l0:List Int) (a1:Int) (a2:Int):Option (Bool):=(spec_GoodParents.f k l0).bind fun t132=>(if t132=true then((spec_l1In.f a1 0 (wrap64 ((l0.length:Int) - 1))).bind fun t133=>(if t133=true then((spec_l1In.f a2 0 (wrap64 ((l0.length:Int) - 1))).bind fun t134=>(some t134)) else(some false))) else(some false))
set_option maxHeartbeats 8000000 in
set_option maxRecDepth 100000 in
theorem spec_l10Two.calls (k:Nat) (A0:Option Addr) (c0:Nat) (l0:List Int) (a1:Int) (a2:Int) (r:Bool) (w:World) (hr0:Kd.C (Kd.int .i64) w A0 l0.length l0) (hc0:l0.length≤c0) (h:spec_l10Two.f k l0 a1 a2=some r):
  Calls Try.prog 62 #[.slice A0 l0.length c0,.int .i64 a1,.int .i64 a2] w fun e w'=>e= .returned (.bool r)∧Drawn0 w w':=by
 have HR0:=Aside0.mk hr0
 have HC0:=Aside0.mk hc0
 clear hr0 hc0
 have H:((spec_GoodParents.f k l0).bind fun t132=>(if t132=true then((spec_l1In.f a1 0 (wrap64 ((l0.length:Int) - 1))).bind fun t133=>(if t133=true then((spec_l1In.f a2 0 (wrap64 ((l0.length:Int) - 1))).bind fun t134=>(some t134)) else(some false))) else(some false)))=some r:=h
 clear h
 replace H:=Option.bind_eq_some_iff.mp H
 obtain⟨t132,A40,H⟩:=H
 replace H:(if t132=true then((spec_l1In.f a1 0 (wrap64 ((l0.length:Int) - 1))).bind fun t133=>(if t133=true then((spec_l1In.f a2 0 (wrap64 ((l0.length:Int) - 1))).bind fun t134=>(some t134)) else(some false))) else(some false))=some r:=H
 have A4:=Aside0.mk A40
 clear A40
 by_cases c5:t132=true
 ·subst c5
  have H1:((spec_l1In.f a1 0 (wrap64 ((l0.length:Int) - 1))).bind fun t133=>(if t133=true then((spec_l1In.f a2 0 (wrap64 ((l0.length:Int) - 1))).bind fun t134=>(some t134)) else(some false)))=some r:=by rw [if_pos rfl] at H;exact H
  clear H
  have H:=H1
  clear H1
  replace H:=Option.bind_eq_some_iff.mp H
  obtain⟨t133,A60,H⟩:=H
  replace H:(if t133=true then((spec_l1In.f a2 0 (wrap64 ((l0.length:Int) - 1))).bind fun t134=>(some t134)) else(some false))=some r:=H
  have A6:=Aside0.mk A60
  clear A60
  by_cases c7:t133=true
  ·subst c7
   have H1:((spec_l1In.f a2 0 (wrap64 ((l0.length:Int) - 1))).bind fun t134=>(some t134))=some r:=by rw [if_pos rfl] at H;exact H
   clear H
   have H:=H1
   clear H1
   replace H:=Option.bind_eq_some_iff.mp H
   obtain⟨t134,A80,H⟩:=H
   replace H:(some t134)=some r:=H
   have A8:=Aside0.mk A80
   clear A80
   obtain rfl:=Option.some.inj H
   go_enter Try.func62,Try.ntmps62
   go_wp2_with (first|((with_reducible refine gate_callee (f:=13) rfl ?_);refine goesL_ (some 8) rfl rfl Try.func13 (by kernel_rfl) rfl #[.slice A0 l0.length c0] rfl zq2 ?_;(with_reducible refine(spec_GoodParents.calls k _ _ l0 true _ ?side1 ?side2 A4.out).mono ?_);(case side1=>repeat(first|exact HR0.out|(with_reducible refine Kd.C_alloc ?_ _)|(with_reducible refine Kd.C_drewN ?_ _)|(with_reducible refine Kd.C_drew ?_)));(case side2=>exact HC0.out);rintro e w' ⟨rfl,⟨nd,rfl⟩⟩;refine⟨_,rfl,?_⟩)|(go_at_call 59;(with_reducible refine(spec_l1In.calls a1 0 (wrap64 ((l0.length:Int) - 1)) true _ A6.out).mono ?_);rintro e w' ⟨rfl,⟨nd,rfl⟩⟩)|(go_at_call 59;(with_reducible refine(spec_l1In.calls a2 0 (wrap64 ((l0.length:Int) - 1)) t134 _ A8.out).mono ?_);rintro e w' ⟨rfl,⟨nd,rfl⟩⟩))
   go_ret
   exact⟨by first|rfl|(simp;done)|(simp [*];done),by repeat(first|exact Drawn0.refl _|apply Drawn0.step)⟩
  ·replace c7:=Bool.eq_false_iff.mpr c7
   subst c7
   have H1:(some false)=some r:=by rw [if_neg (show ¬ (false=true) by decide)] at H;exact H
   clear H
   have H:=H1
   clear H1
   obtain rfl:=Option.some.inj H
   go_enter Try.func62,Try.ntmps62
   go_wp2_with (first|((with_reducible refine gate_callee (f:=13) rfl ?_);refine goesL_ (some 8) rfl rfl Try.func13 (by kernel_rfl) rfl #[.slice A0 l0.length c0] rfl zq2 ?_;(with_reducible refine(spec_GoodParents.calls k _ _ l0 true _ ?side1 ?side2 A4.out).mono ?_);(case side1=>repeat(first|exact HR0.out|(with_reducible refine Kd.C_alloc ?_ _)|(with_reducible refine Kd.C_drewN ?_ _)|(with_reducible refine Kd.C_drew ?_)));(case side2=>exact HC0.out);rintro e w' ⟨rfl,⟨nd,rfl⟩⟩;refine⟨_,rfl,?_⟩)|(go_at_call 59;(with_reducible refine(spec_l1In.calls a1 0 (wrap64 ((l0.length:Int) - 1)) false _ A6.out).mono ?_);rintro e w' ⟨rfl,⟨nd,rfl⟩⟩))
   go_ret
   exact⟨by first|rfl|(simp;done)|(simp [*];done),by repeat(first|exact Drawn0.refl _|apply Drawn0.step)⟩
 ·replace c5:=Bool.eq_false_iff.mpr c5
  subst c5
  have H1:(some false)=some r:=by rw [if_neg (show ¬ (false=true) by decide)] at H;exact H
  clear H
  have H:=H1
  clear H1
  obtain rfl:=Option.some.inj H
  go_enter Try.func62,Try.ntmps62
  go_wp2_with (first|((with_reducible refine gate_callee (f:=13) rfl ?_);refine goesL_ (some 8) rfl rfl Try.func13 (by kernel_rfl) rfl #[.slice A0 l0.length c0] rfl zq2 ?_;(with_reducible refine(spec_GoodParents.calls k _ _ l0 false _ ?side1 ?side2 A4.out).mono ?_);(case side1=>repeat(first|exact HR0.out|(with_reducible refine Kd.C_alloc ?_ _)|(with_reducible refine Kd.C_drewN ?_ _)|(with_reducible refine Kd.C_drew ?_)));(case side2=>exact HC0.out);rintro e w' ⟨rfl,⟨nd,rfl⟩⟩;refine⟨_,rfl,?_⟩))
  go_ret
  exact⟨by first|rfl|(simp;done)|(simp [*];done),by repeat(first|exact Drawn0.refl _|apply Drawn0.step)⟩
end Go.Proofs.Ytedegfbheihopaa.P

namespace Go.Proofs.Ytedegfbheihopaa.P
open Go.RowKit Go.Proofs.YtedegfbheihopaaW.PrintWords Go.Proofs.YtedegfbheihopaaW.PrintLast Go.Proofs.YtedegfbheihopaaW.PrintMore
attribute [local go_sem] max2_int min2_int max_two min_two max_three min_three max_four min_four   -- for this text's walks alone
set_option linter.unusedVariables false
set_option linter.unusedSimpArgs false
def impl_goodTree.f (k:Nat) (l0:List Int) (l1:List Int):Option (Bool):=(impl_GoodParents.f k l0).bind fun t167=>(if t167=true then((impl_allIn.f k l1 0 (wrap64 ((l0.length:Int) - 1))).bind fun t168=>(some t168)) else(some false))
set_option maxHeartbeats 8000000 in
set_option maxRecDepth 100000 in
theorem impl_goodTree.calls (k:Nat) (A0:Option Addr) (c0:Nat) (l0:List Int) (A1:Option Addr) (c1:Nat) (l1:List Int) (r:Bool) (w:World) (hr0:Kd.C (Kd.int .i64) w A0 l0.length l0) (hc0:l0.length≤c0) (hr1:Kd.C (Kd.int .i64) w A1 l1.length l1) (hc1:l1.length≤c1) (h:impl_goodTree.f k l0 l1=some r):
  Calls Try.prog 64 #[.slice A0 l0.length c0,.slice A1 l1.length c1] w fun e w'=>e= .returned (.bool r)∧Drawn0 w w':=by
 have HR0:=Aside0.mk hr0
 have HC0:=Aside0.mk hc0
 clear hr0 hc0
 have HR1:=Aside0.mk hr1
 have HC1:=Aside0.mk hc1
 clear hr1 hc1
 have H:((impl_GoodParents.f k l0).bind fun t167=>(if t167=true then((impl_allIn.f k l1 0 (wrap64 ((l0.length:Int) - 1))).bind fun t168=>(some t168)) else(some false)))=some r:=h
 clear h
 replace H:=Option.bind_eq_some_iff.mp H
 obtain⟨t167,A30,H⟩:=H
 replace H:(if t167=true then((impl_allIn.f k l1 0 (wrap64 ((l0.length:Int) - 1))).bind fun t168=>(some t168)) else(some false))=some r:=H
 have A3:=Aside0.mk A30
 clear A30
 by_cases c4:t167=true
 ·subst c4
  have H1:((impl_allIn.f k l1 0 (wrap64 ((l0.length:Int) - 1))).bind fun t168=>(some t168))=some r:=by rw [if_pos rfl] at H;exact H
  clear H
  have H:=H1
  clear H1
  replace H:=Option.bind_eq_some_iff.mp H
  obtain⟨t168,A50,H⟩:=H
  replace H:(some t168)=some r:=H
  have A5:=Aside0.mk A50
  clear A50
  obtain rfl:=Option.some.inj H
  go_enter Try.func64,Try.ntmps64
  go_wp2_with (first|((with_reducible refine gate_callee (f:=15) rfl ?_);refine goesL_ (some 6) rfl rfl Try.func15 (by kernel_rfl) rfl #[.slice A0 l0.length c0] rfl zq2 ?_;(with_reducible refine(impl_GoodParents.calls k _ _ l0 true _ ?side1 ?side2 A3.out).mono ?_);(case side1=>repeat(first|exact HR0.out|(with_reducible refine Kd.C_alloc ?_ _)|(with_reducible refine Kd.C_drewN ?_ _)|(with_reducible refine Kd.C_drew ?_)));(case side2=>exact HC0.out);rintro e w' ⟨rfl,⟨nd,rfl⟩⟩;refine⟨_,rfl,?_⟩)|(go_at_call 61;(with_reducible refine(impl_allIn.calls k _ _ l1 0 (wrap64 ((l0.length:Int) - 1)) t168 _ ?side1 ?side2 A5.out).mono ?_);(case side1=>repeat(first|exact HR1.out|(with_reducible refine Kd.C_alloc ?_ _)|(with_reducible refine Kd.C_drewN ?_ _)|(with_reducible refine Kd.C_drew ?_)));(case side2=>exact HC1.out);rintro e w' ⟨rfl,⟨nd,rfl⟩⟩))
  go_ret
  exact⟨by first|rfl|(simp;done)|(simp [*];done),by repeat(first|exact Drawn0.refl _|apply Drawn0.step)⟩
 ·replace c4:=Bool.eq_false_iff.mpr c4
  subst c4
  have H1:(some false)=some r:=by rw [if_neg (show ¬ (false=true) by decide)] at H;exact H
  clear H
  have H:=H1
  clear H1
  obtain rfl:=Option.some.inj H
  go_enter Try.func64,Try.ntmps64
  go_wp2_with (first|((with_reducible refine gate_callee (f:=15) rfl ?_);refine goesL_ (some 6) rfl rfl Try.func15 (by kernel_rfl) rfl #[.slice A0 l0.length c0] rfl zq2 ?_;(with_reducible refine(impl_GoodParents.calls k _ _ l0 false _ ?side1 ?side2 A3.out).mono ?_);(case side1=>repeat(first|exact HR0.out|(with_reducible refine Kd.C_alloc ?_ _)|(with_reducible refine Kd.C_drewN ?_ _)|(with_reducible refine Kd.C_drew ?_)));(case side2=>exact HC0.out);rintro e w' ⟨rfl,⟨nd,rfl⟩⟩;refine⟨_,rfl,?_⟩))
  go_ret
  exact⟨by first|rfl|(simp;done)|(simp [*];done),by repeat(first|exact Drawn0.refl _|apply Drawn0.step)⟩
def impl_branches.l0:Nat→List Int→Int→List Int→List Int→Int→Int→Option (List Int)
 | 0,_,_,_,_,_,_=>none
 |k+1,x0,x1,x5,x8,x9,x10=>if x10<x9 then(if 0≤x10 then(if x10< (x8.length:Int) then(if (rd x8 x10)=x1 then(if x5.length< 17592186044416 then(impl_branches.l0 k x0 x1 (x5++ [x10]) x8 x9 (wrap64 (x10+1))) else(none)) else(if 0≤x1 then(if x1< (x0.length:Int) then(if (rd x0 x1)=x10 then(if x5.length< 17592186044416 then(impl_branches.l0 k x0 x1 (x5++ [x10]) x8 x9 (wrap64 (x10+1))) else(none)) else(impl_branches.l0 k x0 x1 x5 x8 x9 (wrap64 (x10+1)))) else(none)) else(none))) else(none)) else(none)) else(some x5)
def impl_branches.f (k:Nat) (l0:List Int) (a1:Int):Option (List Int):=impl_branches.l0 k l0 a1 ([] :List Int) l0 (l0.length:Int) 0
theorem zq4 {q p:Prop} (b:Aside0 q) (h:q→p:=by intro z;(with_reducible repeat(first|apply Kd.R_alloc|apply Kd.R_drewN|apply Kd.R_drew));exact z):p:=h b.out
set_option maxHeartbeats 8000000 in
set_option maxRecDepth 100000 in
theorem impl_branches.calls (k:Nat) (A0:Option Addr) (c0:Nat) (l0:List Int) (a1:Int) (r:List Int) (w:World) (hr0:Kd.C (Kd.int .i64) w A0 l0.length l0) (hc0:l0.length≤c0) (h:impl_branches.f k l0 a1=some r):
  Calls Try.prog 95 #[.slice A0 l0.length c0,.int .i64 a1] w fun e w'=> ∃ v0_:Value,e= .returned (v0_)∧Kd.R (Kd.int .i64) 3 w' w.heap.size (fun _=>True) v0_ r∧Below w.heap.size w w':=by
 have HR0:=Aside0.mk hr0
 have HC0:=Aside0.mk hc0
 clear hr0 hc0
 have HB:=Aside0.mk (Below.refl w.heap.size w)
 have H:(impl_branches.l0 k l0 a1 ([] :List Int) l0 (l0.length:Int) 0)=some r:=h
 clear h
 have H':=Aside0.mk H
 clear H
 go_enter Try.func95,Try.ntmps95
 go_wp2
 go_loopg [5,10] k (fun kq v5 v10 w'=> ∃ (x5_1:List Int) (x10_1:Int),v10= .int .i64 x10_1∧Aside0 (impl_branches.l0 kq l0 a1 x5_1 l0 (l0.length:Int) x10_1=some r)∧Aside0 (kq≤k)∧Aside0 (Kd.R (Kd.int .i64) 3 w' w.heap.size (fun _=>True) v5 x5_1)∧Aside0 (Below w.heap.size w w'))
 case atStart=>exact⟨(([] :List Int)),(0),(by first|rfl|(simp;done)|(simp [*];done)),H',⟨Nat.le_refl _⟩,⟨by first|exact Kd.R_nil _ _ _ _ _|exact Kd.N_nil _ _ _ _ _|exact Kd.V_nil _ _ _ _ _|exact Kd.Q_nil _ _ _ _ _|exact Kd.S_nil _ _ _ _ _⟩,⟨by repeat(first|(with_reducible first|exact HB.out|apply below_alloc|apply pw_below_drewN|apply below_drew1)|exact HB.out)⟩⟩
 case round=>
  clear H'
  try clear p2
  obtain⟨x5_1,x10_1,rfl,HA,HK1,HO_5,HB⟩:=hrel
  cases gk with
  |zero=>exact absurd HA.out (by simp [impl_branches.l0])
  |succ k1=>
   have H:=HA.out
   clear HA
   simp only [impl_branches.l0] at H
   by_cases c3:x10_1< (l0.length:Int)
   ·rw [if_pos c3] at H
    have c3b0:decide (x10_1< (l0.length:Int))=true:=decide_eq_true c3
    clear c3
    by_cases c4: 0≤x10_1
    ·rw [if_pos c4] at H
     have c4b0:decide (0≤x10_1)=true:=decide_eq_true c4
     clear c4
     by_cases c5:x10_1< (l0.length:Int)
     ·rw [if_pos c5] at H
      have c5b0:decide (x10_1< (l0.length:Int))=true:=decide_eq_true c5
      clear c5
      by_cases c6:(rd l0 x10_1)=a1
      ·rw [if_pos c6] at H
       have c6b0:((rd l0 x10_1)==a1)=true:=beq_iff_eq.mpr c6
       have c6b1:((rd l0 x10_1) !=a1)=false:=bne_eq_false_iff_eq.mpr c6
       clear c6
       by_cases c7:x5_1.length< 17592186044416
       ·rw [if_pos c7] at H
        have LMc7:=Aside0.mk c7
        clear c7
        obtain⟨y170,hy170⟩ :∃ y_:List Int,y_= (x5_1++ [x10_1]):=⟨_,rfl⟩
        replace H:(impl_branches.l0 k1 l0 a1 y170 l0 (l0.length:Int) (wrap64 (x10_1+1)))=some r:=by first|(rw [hy170];with_reducible exact H)|(have H2_:=(Option.bind_some _ _).symm.trans H;rw [hy170];with_reducible exact H2_)|(have H2_:=(Option.bind_some _ _).symm.trans H;with_reducible exact H2_)|with_reducible exact H|(rw [hy170];exact H)|exact H
        have Ny170:=Aside0.mk hy170
        clear hy170
        have H':=Aside0.mk H
        clear H
        have p169: 0≤ (x10_1:Int):=of_decide_eq_true zq1
        have q169:x10_1< (l0.length:Int):=of_decide_eq_true zq1
        obtain⟨ad169,e169,hx169_0⟩:=Kd.at_int HR0.out x10_1 p169 q169
        cases e169
        replace hx169_0:=(HB.out.cell (World.block_lt_of_cell? w _ hx169_0)).trans hx169_0
        replace p169:=eq_true p169
        replace q169:=eq_true q169
        go_wp2_with (first|((with_reducible refine gate_builtin (b:= .append) (xs:= #[.tmp 26,.tmp 28]) rfl ?_);at_builtin;refine Kd.R_append (Kd.int .i64) (w0:=w) w.heap.size rfl (.tmp 26) (.tmp 28) 22 3 (.int .i64 0) 8 rfl Try.underlying22 info3 rfl (by decide) (by omega) u5 x5_1 x10_1 [.int .i64 x10_1] (fun _=>True) (fun _=>False) rfl rfl ?aP (fun _ hk=>hk.elim) ?aF ?aO ?aB ?aS ?aL ?_;(case aP=>exact rfl);(case aB=>exact(zb0 HB));(case aF=>exact(fun _ _=>trivial));(case aO=>exact(zq4 HO_5));(case aS=>exact(below_size (zb0 HB)));(case aL=>have:=LMc7.out;omega);intro v171 w8 ho hb hg hat;rw [← Ny170.out] at ho;have n0_:=Aside0.mk (hb);have n1_:=Aside0.mk (ho);clear HB;clear HO_5;have HB:=n0_;have HO172:=n1_;clear n0_ n1_;clear ho hb hg hat))
        go_roundg k1
        case measure=>have:=HK1.out;omega
        case rel=>exact⟨(y170),(wrap64 (x10_1+1)),(by first|rfl|(simp;done)|(simp [*];done)),H',⟨by have:=HK1.out;omega⟩,⟨by(with_reducible repeat(first|apply Kd.R_alloc|apply Kd.R_drewN|apply Kd.R_drew));exact HO172.out⟩,⟨by repeat(first|(with_reducible first|exact HB.out|apply below_alloc|apply pw_below_drewN|apply below_drew1)|exact HB.out)⟩⟩
       ·rw [if_neg c7] at H
        exact absurd H (by simp)
      ·rw [if_neg c6] at H
       have c6b0:((rd l0 x10_1)==a1)=false:=beq_eq_false_iff_ne.mpr c6
       have c6b1:((rd l0 x10_1) !=a1)=true:=bne_iff_ne.mpr c6
       by_cases c9: 0≤a1
       ·rw [if_pos c9] at H
        have c9b0:decide (0≤a1)=true:=decide_eq_true c9
        clear c9
        by_cases c10:a1< (l0.length:Int)
        ·rw [if_pos c10] at H
         have c10b0:decide (a1< (l0.length:Int))=true:=decide_eq_true c10
         clear c10
         by_cases c11:(rd l0 a1)=x10_1
         ·rw [if_pos c11] at H
          have c11b0:((rd l0 a1)==x10_1)=true:=beq_iff_eq.mpr c11
          have c11b1:((rd l0 a1) !=x10_1)=false:=bne_eq_false_iff_eq.mpr c11
          clear c11
          by_cases c12:x5_1.length< 17592186044416
          ·rw [if_pos c12] at H
           have LMc12:=Aside0.mk c12
           clear c12
           obtain⟨y174,hy174⟩ :∃ y_:List Int,y_= (x5_1++ [x10_1]):=⟨_,rfl⟩
           replace H:(impl_branches.l0 k1 l0 a1 y174 l0 (l0.length:Int) (wrap64 (x10_1+1)))=some r:=by first|(rw [hy174];with_reducible exact H)|(have H2_:=(Option.bind_some _ _).symm.trans H;rw [hy174];with_reducible exact H2_)|(have H2_:=(Option.bind_some _ _).symm.trans H;with_reducible exact H2_)|with_reducible exact H|(rw [hy174];exact H)|exact H
           have Ny174:=Aside0.mk hy174
           clear hy174
           have H':=Aside0.mk H
           clear H
           have p169: 0≤ (x10_1:Int):=of_decide_eq_true zq1
           have q169:x10_1< (l0.length:Int):=of_decide_eq_true zq1
           obtain⟨ad169,e169,hx169_0⟩:=Kd.at_int HR0.out x10_1 p169 q169
           cases e169
           replace hx169_0:=(HB.out.cell (World.block_lt_of_cell? w _ hx169_0)).trans hx169_0
           replace p169:=eq_true p169
           replace q169:=eq_true q169
           have p173: 0≤ (a1:Int):=of_decide_eq_true zq1
           have q173:a1< (l0.length:Int):=of_decide_eq_true zq1
           obtain⟨ad173,e173,hx173_0⟩:=Kd.at_int HR0.out a1 p173 q173
           obtain rfl:ad169=ad173:=(by injection e173)
           replace hx173_0:=(HB.out.cell (World.block_lt_of_cell? w _ hx173_0)).trans hx173_0
           replace p173:=eq_true p173
           replace q173:=eq_true q173
           go_wp2_with (first|((with_reducible refine gate_builtin (b:= .append) (xs:= #[.tmp 26,.tmp 28]) rfl ?_);at_builtin;refine Kd.R_append (Kd.int .i64) (w0:=w) w.heap.size rfl (.tmp 26) (.tmp 28) 22 3 (.int .i64 0) 8 rfl Try.underlying22 info3 rfl (by decide) (by omega) u5 x5_1 x10_1 [.int .i64 x10_1] (fun _=>True) (fun _=>False) rfl rfl ?aP (fun _ hk=>hk.elim) ?aF ?aO ?aB ?aS ?aL ?_;(case aP=>exact rfl);(case aB=>exact(zb0 HB));(case aF=>exact(fun _ _=>trivial));(case aO=>exact(zq4 HO_5));(case aS=>exact(below_size (zb0 HB)));(case aL=>have:=LMc12.out;omega);intro v175 w13 ho hb hg hat;rw [← Ny174.out] at ho;have n0_:=Aside0.mk (hb);have n1_:=Aside0.mk (ho);clear HB;clear HO_5;have HB:=n0_;have HO176:=n1_;clear n0_ n1_;clear ho hb hg hat))
           go_roundg k1
           case measure=>have:=HK1.out;omega
           case rel=>exact⟨(y174),(wrap64 (x10_1+1)),(by first|rfl|(simp;done)|(simp [*];done)),H',⟨by have:=HK1.out;omega⟩,⟨by(with_reducible repeat(first|apply Kd.R_alloc|apply Kd.R_drewN|apply Kd.R_drew));exact HO176.out⟩,⟨by repeat(first|(with_reducible first|exact HB.out|apply below_alloc|apply pw_below_drewN|apply below_drew1)|exact HB.out)⟩⟩
          ·rw [if_neg c12] at H
           exact absurd H (by simp)
         ·rw [if_neg c11] at H
          have c11b0:((rd l0 a1)==x10_1)=false:=beq_eq_false_iff_ne.mpr c11
          have c11b1:((rd l0 a1) !=x10_1)=true:=bne_iff_ne.mpr c11
          have H':=Aside0.mk H
          clear H
          have p169: 0≤ (x10_1:Int):=of_decide_eq_true zq1
          have q169:x10_1< (l0.length:Int):=of_decide_eq_true zq1
          obtain⟨ad169,e169,hx169_0⟩:=Kd.at_int HR0.out x10_1 p169 q169
          cases e169
          replace hx169_0:=(HB.out.cell (World.block_lt_of_cell? w _ hx169_0)).trans hx169_0
          replace p169:=eq_true p169
          replace q169:=eq_true q169
          have p173: 0≤ (a1:Int):=of_decide_eq_true zq1
          have q173:a1< (l0.length:Int):=of_decide_eq_true zq1
          obtain⟨ad173,e173,hx173_0⟩:=Kd.at_int HR0.out a1 p173 q173
          obtain rfl:ad169=ad173:=(by injection e173)
          replace hx173_0:=(HB.out.cell (World.block_lt_of_cell? w _ hx173_0)).trans hx173_0
          replace p173:=eq_true p173
          replace q173:=eq_true q173
          go_wp2
          go_roundg k1
          case measure=>have:=HK1.out;omega
          case rel=>exact⟨(x5_1),(wrap64 (x10_1+1)),(by first|rfl|(simp;done)|(simp [*];done)),H',⟨by have:=HK1.out;omega⟩,⟨by(with_reducible repeat(first|apply Kd.R_alloc|apply Kd.R_drewN|apply Kd.R_drew));exact HO_5.out⟩,⟨by repeat(first|(with_reducible first|exact HB.out|apply below_alloc|apply pw_below_drewN|apply below_drew1)|exact HB.out)⟩⟩
        ·rw [if_neg c10] at H
         exact absurd H (by simp)
       ·rw [if_neg c9] at H
        exact absurd H (by simp)
     ·rw [if_neg c5] at H
      exact absurd H (by simp)
    ·rw [if_neg c4] at H
     exact absurd H (by simp)
   ·rw [if_neg c3] at H
    have c3b0:decide (x10_1< (l0.length:Int))=false:=decide_eq_false c3
    clear c3
    obtain rfl:=Option.some.inj H
    go_wp2
    go_ret
    exact⟨_,by first|rfl|(simp [errW_none,errW_some]<;>rfl)|(simp [*,errW_none,errW_some]<;>rfl),by(with_reducible repeat(first|apply Kd.R_alloc|apply Kd.R_drewN|apply Kd.R_drew));exact HO_5.out,by repeat(first|(with_reducible first|exact HB.out|apply below_alloc|apply pw_below_drewN|apply below_drew1)|exact HB.out)⟩
end Go.Proofs.Ytedegfbheihopaa.P

namespace Go.Proofs.Ytedegfbheihopaa.P
open Go.RowKit Go.Proofs.YtedegfbheihopaaW.PrintWords Go.Proofs.YtedegfbheihopaaW.PrintLast Go.Proofs.YtedegfbheihopaaW.PrintMore
attribute [local go_sem] max2_int min2_int max_two min_two max_three min_three max_four min_four   -- for this text's walks alone
set_option linter.unusedVariables false
set_option linter.unusedSimpArgs false
mutual
def impl_spread.l0:Nat→List Int→List (S61)→List (S101)→Option ((List (S61)))
 | 0,_,_,_=>none
 |k+1,x0,x5,x6=>if (x6.length:Int) > 0 then(if 0< (x6.length:Int) then((impl_branches.f k x0 ((rd_T101 x6 0).f0)).bind fun t182=>(impl_spread.l1 k x0 x5 x6 t182 (t182.length:Int) 0 ((rd_T101 x6 0).f0) ((rd_T101 x6 0).f1))) else(none)) else(some x5)
def impl_spread.l1:Nat→List Int→List (S61)→List (S101)→List Int→Int→Int→Int→Int→Option ((List (S61)))
 | 0,_,_,_,_,_,_,_,_=>none
 |k+1,x0,x5,x6,x24,x25,x26,x182000,x182001=>if x26<x25 then(if 0≤x26 then(if x26< (x24.length:Int) then(if (rd x24 x26)=x182001 then(impl_spread.l1 k x0 x5 x6 x24 x25 (wrap64 (x26+1)) x182000 x182001) else(if x5.length< 8796093022208 then(if x6.length< 8796093022208 then(impl_spread.l1 k x0 (x5++ [(⟨x182000,rd x24 x26⟩ :S61)]) (x6++ [(⟨rd x24 x26,x182000⟩ :S101)]) x24 x25 (wrap64 (x26+1)) x182000 x182001) else(none)) else(none))) else(none)) else(none)) else(if 1≤ (x6.length:Int) then(impl_spread.l0 k x0 x5 (x6.drop (1:Int).toNat)) else(none))
end
def impl_spread.f (k:Nat) (l0:List Int) (a1:Int):Option ((List (S61))):=impl_spread.l0 k l0 ([] :List (S61)) (([(⟨a1,(-1)⟩ :S101)] :List (S101)))
theorem zb1 {q p q0:Prop} (b:Aside0 q) (b0:Aside0 q0) (h:q→q0→p:=by intro z z0;repeat(first|(with_reducible first|exact z|apply below_alloc|apply pw_below_drewN|apply below_drew1|refine below_set ?_ z0)|exact z)):p:=h b.out b0.out
theorem zq3 {q p:Prop} (b:Aside0 q) (h:q→p:=by intro z;(with_reducible repeat(first|refine blk_drewN ?_ _|refine blk_drew ?_ |refine blk_alloc ?_ _));exact z):p:=h b.out
set_option maxHeartbeats 8000000 in
set_option maxRecDepth 100000 in
theorem impl_spread.calls (k:Nat) (A0:Option Addr) (c0:Nat) (l0:List Int) (a1:Int) (r:List (S61)) (w:World) (hr0:Kd.C (Kd.int .i64) w A0 l0.length l0) (hc0:l0.length≤c0) (h:impl_spread.f k l0 a1=some r):
  Calls Try.prog 73 #[.slice A0 l0.length c0,.int .i64 a1] w fun e w'=> ∃ v0_:Value,e= .returned (v0_)∧Kd.R k61 61 w' w.heap.size (fun _=>True) v0_ r∧Below w.heap.size w w':=by
 have hu101:=Try.underlying101
 have hu61:=Try.underlying61
 have HR0:=Aside0.mk hr0
 have HC0:=Aside0.mk hc0
 clear hr0 hc0
 have HB:=Aside0.mk (Below.refl w.heap.size w)
 have H:(impl_spread.l0 k l0 ([] :List (S61)) (([(⟨a1,(-1)⟩ :S101)] :List (S101))))=some r:=h
 clear h
 obtain⟨y177,hy177⟩ :∃ y_:List (S101),y_= (([(⟨a1,(-1)⟩ :S101)] :List (S101))):=⟨_,rfl⟩
 replace H:(impl_spread.l0 k l0 ([] :List (S61)) y177)=some r:=by first|(rw [hy177];with_reducible exact H)|(have H2_:=(Option.bind_some _ _).symm.trans H;rw [hy177];with_reducible exact H2_)|(have H2_:=(Option.bind_some _ _).symm.trans H;with_reducible exact H2_)|with_reducible exact H|(rw [hy177];exact H)|exact H
 have Ny177:=Aside0.mk hy177
 clear hy177
 have H':=Aside0.mk H
 clear H
 go_enter Try.func73,Try.ntmps73
 go_wp2_with (first|((with_reducible refine gate_dst (N:=12) rfl ?_);refine Kd.R_lit k101 _ 101 ?hg (N:=12) ?hd (xs:=([(⟨a1,(-1)⟩ :S101)] :List (S101))) (inner:= [.int .i64 a1,.int .i64 (-1)]) (ok:=fun _=>True) (okp:=fun _=>True) ?hr ?hp (fun _ hk=>hk) trivial (Below.refl _ _) (Nat.le_refl _) (by simp) ?_;(case hd=>rfl);(case hg=>rfl);(case hr=>first|(go_simp;done)|(go_simp;rfl));(case hp=>exact(Reps.c2 (show Kd.M k101 _ _ _ (⟨a1,(-1)⟩ :S101) [.int .i64 a1,.int .i64 (-1)] from (k101_mkM _ _ _ (⟨a1,(-1)⟩ :S101) )) (Reps.none _ _)));intro v178 w3 ho4 hb hg_ hnew_;clear hg_ hnew_;(first|rw [← Ny177.out] at ho4|(simp only [Int.reduceToNat] at ho4;rw [← Ny177.out] at ho4));have n0_:=Aside0.mk (Kd.R_lower ho4 (below_size (zb0 HB)));have n1_:=Aside0.mk (below_step (zb0 HB) hb);clear HB;have HO179:=n0_;have HB:=n1_;clear n0_ n1_;clear hb ho4))
 go_loopg [5,6] k (fun kq v5 v6 w'=> ∃ (x5_1:List (S61)) (x6_1:List (S101)),Aside0 (impl_spread.l0 kq l0 x5_1 x6_1=some r)∧Aside0 (kq≤k)∧Aside0 (Kd.R k61 61 w' w.heap.size (fun _=>True) v5 x5_1)∧Aside0 (Kd.Q k101 101 w' w.heap.size (fun _=>True) v6 x6_1)∧Aside0 (Below w.heap.size w w'))
 case atStart=>exact⟨(([] :List (S61))),(y177),H',⟨Nat.le_refl _⟩,⟨by first|exact Kd.R_nil _ _ _ _ _|exact Kd.N_nil _ _ _ _ _|exact Kd.V_nil _ _ _ _ _|exact Kd.Q_nil _ _ _ _ _|exact Kd.S_nil _ _ _ _ _⟩,⟨Kd.Q_of_R (zq4 HO179)⟩,⟨by repeat(first|(with_reducible first|exact HB.out|apply below_alloc|apply pw_below_drewN|apply below_drew1)|exact HB.out)⟩⟩
 case round=>
  clear H'
  try clear c2
  try clear p2
  obtain⟨x5_1,x6_1,HA,HK1,HO_5,HO_6,HB⟩:=hrel
  cases gk with
  |zero=>exact absurd HA.out (by simp [impl_spread.l0])
  |succ k1=>
   have H:=HA.out
   clear HA
   simp only [impl_spread.l0] at H
   by_cases c5:(x6_1.length:Int) > 0
   ·rw [if_pos c5] at H
    have c5b0:decide (0< (x6_1.length:Int))=true:=decide_eq_true c5
    have c5b1:decide (0<x6_1.length)=true:=decide_eq_true (by omega)
    clear c5
    by_cases c6: 0< (x6_1.length:Int)
    ·rw [if_pos c6] at H
     have c6b0:decide (0< (x6_1.length:Int))=true:=decide_eq_true c6
     have c6b1:decide (0<x6_1.length)=true:=decide_eq_true (by omega)
     clear c6
     replace H:=Option.bind_eq_some_iff.mp H
     obtain⟨t182,A70,H⟩:=H
     replace H:(impl_spread.l1 k1 l0 x5_1 x6_1 t182 (t182.length:Int) 0 ((rd_T101 x6_1 0).f0) ((rd_T101 x6_1 0).f1))=some r:=H
     have A7:=Aside0.mk A70
     clear A70
     have H':=Aside0.mk H
     clear H
     obtain⟨Ao8,co8,eo8,_⟩:=Kd.Q_slice HO_6.out
     subst eo8
     have p180: 0≤ (0:Int):=(by omega)
     have q180: 0< (x6_1.length:Int):=of_decide_eq_true zq1
     obtain⟨ad180,e180,hx180_0,hx180_1⟩:=at_T101 (Kd.Q_reads' HO_6.out).2.2 0 p180 q180
     cases e180
     have qi180:(0<x6_1.length)=True:=eq_true (by omega)
     (try rw [show ((0:Int)).toNat=0 from rfl] at hx180_0)
     (try rw [show 0 * 2=0 from rfl] at hx180_0)
     (try rw [Addr.add_zero'] at hx180_0)
     (try rw [show ((0:Int)).toNat=0 from rfl] at hx180_1)
     (try rw [show 0 * 2=0 from rfl] at hx180_1)
     (try rw [Addr.add_zero'] at hx180_1)
     replace p180:=eq_true p180
     replace q180:=eq_true q180
     go_wp2_with (first|((with_reducible refine gate_dst (N:=7) rfl ?_);refine box_event ?hg (N:=7) ?hd (cs:= #[.int .i64 0,.int .i64 0]) (t:=101) ?hr ?_;(case hd=>rfl);(case hg=>rfl);(case hr=>first|(go_simp;done)|(go_simp;rfl));intro gb181 hg w9 hbox hb;have n0_:=Aside0.mk (Kd.R_below (zq4 HO_5) hb);have n1_:=Aside0.mk (Kd.Q_below (Kd.Q_elderB (by(with_reducible repeat(first|apply Kd.Q_alloc|apply Kd.Q_drewN|apply Kd.Q_drew));exact HO_6.out) gb181 (Nat.le_of_eq hg.symm)) hb);have n2_:=Aside0.mk (below_step (zb0 HB) hb);have n3_:=Aside0.mk (hbox);have n4_:=Aside0.mk ((by rw [hg];exact(below_size (zb0 HB)):w.heap.size≤gb181));have n5_:=Aside0.mk ((by rw [hg];exact(below_size (zb0 HB)):w.heap.size≤gb181));clear HO_5;clear HO_6;clear HB;have HO_5:=n0_;have HO_6:=n1_;have HB:=n2_;have BK181:=n3_;have GW181:=n4_;have GE181:=n5_;clear n0_ n1_ n2_ n3_ n4_ n5_;clear hb hbox hg;have hcz10_0:w9.cell? ⟨gb181,0,none⟩=some (.int .i64 0):=(blk_cell BK181.out 0).trans rfl;have hcz10_1:w9.cell? ⟨gb181,1,none⟩=some (.int .i64 0):=(blk_cell BK181.out 1).trans rfl;have hfz10_0:=blk_frozen BK181.out 0;have hfz10_1:=blk_frozen BK181.out 1)|((with_reducible refine gate_callee (f:=95) rfl ?_);refine goesL_ (some 24) rfl rfl Try.func95 (by kernel_rfl) rfl #[.slice A0 l0.length c0,.int .i64 ((rd_T101 x6_1 0).f0)] rfl zq2 ?_;(with_reducible refine(impl_branches.calls k1 _ _ l0 ((rd_T101 x6_1 0).f0) t182 _ ?side1 ?side2 A7.out).mono ?_);(case side1=>exact Kd.C_below HR0.out (zb1 HB GE181));(case side2=>exact HC0.out);rintro e w11 ⟨v183,rfl,ho0,hb⟩;refine⟨_,rfl,?_⟩;have n0_:=Aside0.mk (Kd.R_below (by(with_reducible repeat(first|apply Kd.R_alloc|apply Kd.R_drewN|apply Kd.R_drew));exact(Kd.R_mono (Kd.R_far (p:=⟨gb181,1,none⟩) (Kd.R_far (p:=⟨gb181,0,none⟩) (Kd.R_types HO_5.out BK181.out (by decide)) (fun _ hk=>hk.2) (.int .i64 ((rd_T101 x6_1 0).f0))) (fun _ hk=>hk.2) (.int .i64 ((rd_T101 x6_1 0).f1))) (fun _ h_=>h_.1))) hb);have n1_:=Aside0.mk (Kd.Q_below (by(with_reducible repeat(first|apply Kd.Q_alloc|apply Kd.Q_drewN|apply Kd.Q_drew));exact(Kd.Q_mono (Kd.Q_far (p:=⟨gb181,1,none⟩) (Kd.Q_far (p:=⟨gb181,0,none⟩) (Kd.Q_mono HO_6.out (fun k_ hk=>(⟨hk,hk.2⟩ :_∧k_≠gb181))) (fun _ hk=>hk.2) (.int .i64 ((rd_T101 x6_1 0).f0))) (fun _ hk=>hk.2) (.int .i64 ((rd_T101 x6_1 0).f1))) (fun _ h_=>h_.1))) hb);have n2_:=Aside0.mk (Kd.R_lower ho0 (below_size (zb1 HB GE181)));have n3_:=Aside0.mk (blk_below (g:=gb181) (o:= .cells #[.int .i64 ((rd_T101 x6_1 0).f0),.int .i64 ((rd_T101 x6_1 0).f1)] 101 (0,0)) (by(with_reducible repeat(first|refine blk_drewN ?_ _|refine blk_drew ?_ |refine blk_alloc ?_ _));refine blk_put (cs:= #[.int .i64 ((rd_T101 x6_1 0).f0),.int .i64 0]) ?_ 1 _ rfl;(with_reducible repeat(first|refine blk_drewN ?_ _|refine blk_drew ?_ |refine blk_alloc ?_ _));refine blk_put (cs:= #[.int .i64 0,.int .i64 0]) ?_ 0 _ rfl;(with_reducible repeat(first|refine blk_drewN ?_ _|refine blk_drew ?_ |refine blk_alloc ?_ _));exact BK181.out) hb);have n4_:=Aside0.mk (below_step (zb1 HB GE181) hb);clear HO_5;clear HO_6;clear BK181;clear HB;have HO_5:=n0_;have HO_6:=n1_;have HO184:=n2_;have BK181:=n3_;have HB:=n4_;clear n0_ n1_ n2_ n3_ n4_;(try clear hb);(try clear hb2);(try clear hk);(try clear hi);(try clear ho0);obtain⟨Ao12,co12,eo12⟩:=Kd.R_slice HO184.out;subst eo12))
     go_loopg [5,6,26] k1 (fun kq v5 v6 v26 w'=> ∃ (x5_2:List (S61)) (x6_2:List (S101)) (x26_2:Int),v26= .int .i64 x26_2∧Aside0 (impl_spread.l1 kq l0 x5_2 x6_2 t182 (t182.length:Int) x26_2 ((rd_T101 x6_1 0).f0) ((rd_T101 x6_1 0).f1)=some r)∧Aside0 (kq≤k1)∧Aside0 (Kd.R k61 61 w' w.heap.size (fun _=>True) v5 x5_2)∧Aside0 (Kd.Q k101 101 w' w.heap.size (fun k_=>k_≠gb181) v6 x6_2)∧Aside0 (Kd.R (Kd.int .i64) 3 w' w.heap.size (fun _=>True) (.slice Ao12 t182.length co12) t182)∧Aside0 (w'.heap[gb181]?=some (.cells #[.int .i64 ((rd_T101 x6_1 0).f0),.int .i64 ((rd_T101 x6_1 0).f1)] 101 (0,0)))∧Aside0 (Below w.heap.size w w'))
     case atStart=>exact⟨(x5_1),(x6_1),(0),(by first|rfl|(simp;done)|(simp [*];done)),H',⟨Nat.le_refl _⟩,⟨by(with_reducible repeat(first|apply Kd.R_alloc|apply Kd.R_drewN|apply Kd.R_drew));exact HO_5.out⟩,⟨by(with_reducible repeat(first|apply Kd.Q_alloc|apply Kd.Q_drewN|apply Kd.Q_drew));exact Kd.Q_mono HO_6.out (fun _ hk=>hk.2)⟩,⟨by(with_reducible repeat(first|apply Kd.R_alloc|apply Kd.R_drewN|apply Kd.R_drew));exact HO184.out⟩,⟨by(with_reducible repeat(first|refine blk_drewN ?_ _|refine blk_drew ?_ |refine blk_alloc ?_ _));exact BK181.out⟩,⟨by repeat(first|(with_reducible first|exact HB.out|apply below_alloc|apply pw_below_drewN|apply below_drew1|refine below_set ?_ GE181.out)|exact HB.out)⟩⟩
     case round=>
      clear H'
      try clear p1
      try clear q1
      try clear hx1
      try clear qi1
      try clear c2
      try clear p2
      try clear c5
      try clear c5b0
      try clear c5b1
      try clear c6
      try clear c6b0
      try clear c6b1
      try clear c7
      try clear c9
      try clear hcz10_0
      try clear hcz10_1
      try clear hfz10_0
      try clear hfz10_1
      try clear hx180_0
      try clear hx180_1
      try clear p180
      try clear p2
      try clear q180
      obtain⟨x5_2,x6_2,x26_2,rfl,HA,HK2,HO_5,HO_6,HO_24,BK181,HB⟩:=hrel
      cases gk with
      |zero=>exact absurd HA.out (by simp [impl_spread.l1])
      |succ k2=>
       have H:=HA.out
       clear HA
       simp only [impl_spread.l1] at H
       by_cases c13:x26_2< (t182.length:Int)
       ·rw [if_pos c13] at H
        have c13b0:decide (x26_2< (t182.length:Int))=true:=decide_eq_true c13
        clear c13
        by_cases c14: 0≤x26_2
        ·rw [if_pos c14] at H
         have c14b0:decide (0≤x26_2)=true:=decide_eq_true c14
         clear c14
         by_cases c15:x26_2< (t182.length:Int)
         ·rw [if_pos c15] at H
          have c15b0:decide (x26_2< (t182.length:Int))=true:=decide_eq_true c15
          clear c15
          by_cases c16:(rd t182 x26_2)= ((rd_T101 x6_1 0).f1)
          ·rw [if_pos c16] at H
           have c16b0:((rd t182 x26_2)== ((rd_T101 x6_1 0).f1))=true:=beq_iff_eq.mpr c16
           have c16b1:((rd t182 x26_2) != ((rd_T101 x6_1 0).f1))=false:=bne_eq_false_iff_eq.mpr c16
           clear c16
           have H':=Aside0.mk H
           clear H
           have p185: 0≤ (x26_2:Int):=of_decide_eq_true zq1
           have q185:x26_2< (t182.length:Int):=of_decide_eq_true zq1
           obtain⟨ad185,e185,hx185_0⟩:=Kd.at_int (Kd.R_reads' HO_24.out).2.2 x26_2 p185 q185
           cases e185
           replace p185:=eq_true p185
           replace q185:=eq_true q185
           have hcz17_0:wr.cell? ⟨gb181,0,none⟩=some (.int .i64 ((rd_T101 x6_1 0).f0)):=(blk_cell BK181.out 0).trans rfl
           have hcz17_1:wr.cell? ⟨gb181,1,none⟩=some (.int .i64 ((rd_T101 x6_1 0).f1)):=(blk_cell BK181.out 1).trans rfl
           have hfz17_0:=blk_frozen BK181.out 0
           have hfz17_1:=blk_frozen BK181.out 1
           go_wp2
           go_roundg k2
           case measure=>have:=HK1.out;have:=HK2.out;omega
           case rel=>exact⟨(x5_2),(x6_2),(wrap64 (x26_2+1)),(by first|rfl|(simp;done)|(simp [*];done)),H',⟨by have:=HK1.out;have:=HK2.out;omega⟩,⟨by(with_reducible repeat(first|apply Kd.R_alloc|apply Kd.R_drewN|apply Kd.R_drew));exact HO_5.out⟩,⟨by(with_reducible repeat(first|apply Kd.Q_alloc|apply Kd.Q_drewN|apply Kd.Q_drew));exact HO_6.out⟩,⟨by(with_reducible repeat(first|apply Kd.R_alloc|apply Kd.R_drewN|apply Kd.R_drew));exact HO_24.out⟩,⟨by(with_reducible repeat(first|refine blk_drewN ?_ _|refine blk_drew ?_ |refine blk_alloc ?_ _));exact BK181.out⟩,⟨by repeat(first|(with_reducible first|exact HB.out|apply below_alloc|apply pw_below_drewN|apply below_drew1|refine below_set ?_ GE181.out)|exact HB.out)⟩⟩
          ·rw [if_neg c16] at H
           have c16b0:((rd t182 x26_2)== ((rd_T101 x6_1 0).f1))=false:=beq_eq_false_iff_ne.mpr c16
           have c16b1:((rd t182 x26_2) != ((rd_T101 x6_1 0).f1))=true:=bne_iff_ne.mpr c16
           by_cases c18:x5_2.length< 8796093022208
           ·rw [if_pos c18] at H
            have LMc18:=Aside0.mk c18
            clear c18
            obtain⟨y186,hy186⟩ :∃ y_:List (S61),y_= (x5_2++ [(⟨((rd_T101 x6_1 0).f0),rd t182 x26_2⟩ :S61)]):=⟨_,rfl⟩
            replace H:(if x6_2.length< 8796093022208 then(impl_spread.l1 k2 l0 y186 (x6_2++ [(⟨rd t182 x26_2,((rd_T101 x6_1 0).f0)⟩ :S101)]) t182 (t182.length:Int) (wrap64 (x26_2+1)) ((rd_T101 x6_1 0).f0) ((rd_T101 x6_1 0).f1)) else(none))=some r:=by first|(rw [hy186];with_reducible exact H)|(have H2_:=(Option.bind_some _ _).symm.trans H;rw [hy186];with_reducible exact H2_)|(have H2_:=(Option.bind_some _ _).symm.trans H;with_reducible exact H2_)|with_reducible exact H|(rw [hy186];exact H)|exact H
            have Ny186:=Aside0.mk hy186
            clear hy186
            by_cases c19:x6_2.length< 8796093022208
            ·rw [if_pos c19] at H
             have LMc19:=Aside0.mk c19
             clear c19
             obtain⟨y189,hy189⟩ :∃ y_:List (S101),y_= (x6_2++ [(⟨rd t182 x26_2,((rd_T101 x6_1 0).f0)⟩ :S101)]):=⟨_,rfl⟩
             replace H:(impl_spread.l1 k2 l0 y186 y189 t182 (t182.length:Int) (wrap64 (x26_2+1)) ((rd_T101 x6_1 0).f0) ((rd_T101 x6_1 0).f1))=some r:=by first|(rw [hy189];with_reducible exact H)|(have H2_:=(Option.bind_some _ _).symm.trans H;rw [hy189];with_reducible exact H2_)|(have H2_:=(Option.bind_some _ _).symm.trans H;with_reducible exact H2_)|with_reducible exact H|(rw [hy189];exact H)|exact H
             have Ny189:=Aside0.mk hy189
             clear hy189
             have H':=Aside0.mk H
             clear H
             have p185: 0≤ (x26_2:Int):=of_decide_eq_true zq1
             have q185:x26_2< (t182.length:Int):=of_decide_eq_true zq1
             obtain⟨ad185,e185,hx185_0⟩:=Kd.at_int (Kd.R_reads' HO_24.out).2.2 x26_2 p185 q185
             cases e185
             replace p185:=eq_true p185
             replace q185:=eq_true q185
             have hcz20_0:wr.cell? ⟨gb181,0,none⟩=some (.int .i64 ((rd_T101 x6_1 0).f0)):=(blk_cell BK181.out 0).trans rfl
             have hcz20_1:wr.cell? ⟨gb181,1,none⟩=some (.int .i64 ((rd_T101 x6_1 0).f1)):=(blk_cell BK181.out 1).trans rfl
             have hfz20_0:=blk_frozen BK181.out 0
             have hfz20_1:=blk_frozen BK181.out 1
             go_wp2_with (first|((with_reducible refine gate_builtin (b:= .append) (xs:= #[.tmp 34,.tmp 39]) rfl ?_);at_builtin;refine Kd.R_append k61 (w0:=w) w.heap.size rfl (.tmp 34) (.tmp 39) 39 61 (.agg #[(.int .i64 0),(.int .i64 0)]) 16 rfl Try.underlying39 info61 rfl (by decide) (by omega) u5 x5_2 (⟨((rd_T101 x6_1 0).f0),rd t182 x26_2⟩ :S61) [.int .i64 ((rd_T101 x6_1 0).f0),.int .i64 (rd t182 x26_2)] (fun _=>True) (fun _=>False) rfl rfl ?aP (fun _ hk=>hk.elim) ?aF ?aO ?aB ?aS ?aL ?_;(case aP=>exact k61_mkM _ _ _ (⟨((rd_T101 x6_1 0).f0),rd t182 x26_2⟩ :S61));(case aB=>exact(zb1 HB GE181));(case aF=>exact(fun _ _=>trivial));(case aO=>exact(zq4 HO_5));(case aS=>exact(below_size (zb1 HB GE181)));(case aL=>have:=LMc18.out;omega);intro v187 w21 ho hb hg hat;rw [← Ny186.out] at ho;have n0_:=Aside0.mk (Kd.Q_over' (by(with_reducible repeat(first|apply Kd.Q_alloc|apply Kd.Q_drewN|apply Kd.Q_drew));exact HO_6.out) (Kd.R_typed (zq4 HO_5)) (by decide) hg);have n1_:=Aside0.mk (Kd.R_over' (zq4 HO_24) (Kd.R_typed (zq4 HO_5)) (by decide) hg);have n2_:=Aside0.mk (blk_grown (g:=gb181) (o:= .cells #[.int .i64 ((rd_T101 x6_1 0).f0),.int .i64 ((rd_T101 x6_1 0).f1)] 101 (0,0)) (zq3 BK181) hg (Kd.R_ne HO_5.out BK181.out (by decide)));have n3_:=Aside0.mk (hb);have n4_:=Aside0.mk (ho);clear HO_6;clear HO_24;clear BK181;clear HB;clear HO_5;have HO_6:=n0_;have HO_24:=n1_;have BK181:=n2_;have HB:=n3_;have HO188:=n4_;clear n0_ n1_ n2_ n3_ n4_;clear ho hb hg hat;have hcz22_0:w21.cell? ⟨gb181,0,none⟩=some (.int .i64 ((rd_T101 x6_1 0).f0)):=(blk_cell BK181.out 0).trans rfl;have hcz22_1:w21.cell? ⟨gb181,1,none⟩=some (.int .i64 ((rd_T101 x6_1 0).f1)):=(blk_cell BK181.out 1).trans rfl;have hfz22_0:=blk_frozen BK181.out 0;have hfz22_1:=blk_frozen BK181.out 1)|((with_reducible refine gate_builtin (b:= .append) (xs:= #[.tmp 41,.tmp 46]) rfl ?_);at_builtin;refine Kd.Q_append k101 (w0:=w) w.heap.size rfl (.tmp 41) (.tmp 46) 102 101 (.agg #[(.int .i64 0),(.int .i64 0)]) 16 rfl Try.underlying102 info101 rfl (by decide) (by omega) u6 x6_2 (⟨rd t182 x26_2,((rd_T101 x6_1 0).f0)⟩ :S101) [.int .i64 (rd t182 x26_2),.int .i64 ((rd_T101 x6_1 0).f0)] (fun k_=>k_≠gb181) (fun _=>False) rfl rfl ?aP (fun _ hk=>hk.elim) ?aF ?aO ?aB ?aS ?aL ?_;(case aP=>exact k101_mkM _ _ _ (⟨rd t182 x26_2,((rd_T101 x6_1 0).f0)⟩ :S101));(case aB=>exact(zb1 HB GE181));(case aF=>exact(fun k_ hk=>Kd.freshB (g:=gb181) (o:= .cells #[.int .i64 ((rd_T101 x6_1 0).f0),.int .i64 ((rd_T101 x6_1 0).f1)] 101 (0,0)) (zq3 BK181) k_ hk));(case aO=>exact(by(with_reducible repeat(first|apply Kd.Q_alloc|apply Kd.Q_drewN|apply Kd.Q_drew));exact HO_6.out));(case aS=>exact(below_size (zb1 HB GE181)));(case aL=>have:=LMc19.out;omega);intro v190 w23 ho hb hg hat;rw [← Ny189.out] at ho;have n0_:=Aside0.mk (Kd.R_over' (zq4 HO_24) (Kd.Q_typed (by(with_reducible repeat(first|apply Kd.Q_alloc|apply Kd.Q_drewN|apply Kd.Q_drew));exact HO_6.out)) (by decide) hg);have n1_:=Aside0.mk (blk_grown (g:=gb181) (o:= .cells #[.int .i64 ((rd_T101 x6_1 0).f0),.int .i64 ((rd_T101 x6_1 0).f1)] 101 (0,0)) (zq3 BK181) hg (Kd.Q_away HO_6.out (fun _ hk=>hk)));have n2_:=Aside0.mk (Kd.R_over' (zq4 HO188) (Kd.Q_typed (by(with_reducible repeat(first|apply Kd.Q_alloc|apply Kd.Q_drewN|apply Kd.Q_drew));exact HO_6.out)) (by decide) hg);have n3_:=Aside0.mk (hb);have n4_:=Aside0.mk (ho);clear HO_24;clear BK181;clear HO188;clear HB;clear HO_6;have HO_24:=n0_;have BK181:=n1_;have HO188:=n2_;have HB:=n3_;have HO191:=n4_;clear n0_ n1_ n2_ n3_ n4_;clear ho hb hg hat))
             go_roundg k2
             case measure=>have:=HK1.out;have:=HK2.out;omega
             case rel=>exact⟨(y186),(y189),(wrap64 (x26_2+1)),(by first|rfl|(simp;done)|(simp [*];done)),H',⟨by have:=HK1.out;have:=HK2.out;omega⟩,⟨by(with_reducible repeat(first|apply Kd.R_alloc|apply Kd.R_drewN|apply Kd.R_drew));exact HO188.out⟩,⟨by(with_reducible repeat(first|apply Kd.Q_alloc|apply Kd.Q_drewN|apply Kd.Q_drew));exact HO191.out⟩,⟨by(with_reducible repeat(first|apply Kd.R_alloc|apply Kd.R_drewN|apply Kd.R_drew));exact HO_24.out⟩,⟨by(with_reducible repeat(first|refine blk_drewN ?_ _|refine blk_drew ?_ |refine blk_alloc ?_ _));exact BK181.out⟩,⟨by repeat(first|(with_reducible first|exact HB.out|apply below_alloc|apply pw_below_drewN|apply below_drew1|refine below_set ?_ GE181.out)|exact HB.out)⟩⟩
            ·rw [if_neg c19] at H
             exact absurd H (by simp)
           ·rw [if_neg c18] at H
            exact absurd H (by simp)
         ·rw [if_neg c15] at H
          exact absurd H (by simp)
        ·rw [if_neg c14] at H
         exact absurd H (by simp)
       ·rw [if_neg c13] at H
        have c13b0:decide (x26_2< (t182.length:Int))=false:=decide_eq_false c13
        clear c13
        by_cases c24: 1≤ (x6_2.length:Int)
        ·rw [if_pos c24] at H
         have c24b0:=eq_true c24
         have c24b1:decide (1≤ (x6_2.length:Int))=true:=decide_eq_true c24
         clear c24
         obtain⟨y192,hy192⟩ :∃ y_:List (S101),y_= (x6_2.drop (1:Int).toNat):=⟨_,rfl⟩
         replace H:(impl_spread.l0 k2 l0 x5_2 y192)=some r:=by first|(rw [hy192];with_reducible exact H)|(have H2_:=(Option.bind_some _ _).symm.trans H;rw [hy192];with_reducible exact H2_)|(have H2_:=(Option.bind_some _ _).symm.trans H;with_reducible exact H2_)|with_reducible exact H|(rw [hy192];exact H)|exact H
         have Ny192:=Aside0.mk hy192
         clear hy192
         have H':=Aside0.mk H
         clear H
         obtain⟨Ao25,co25,eo25,_⟩:=Kd.Q_slice HO_6.out
         subst eo25
         have q26:(1:Int)≤ ((x6_2.length:Int):Int):=of_decide_eq_true zq1
         obtain⟨i026,hi026,_,hsz26,_⟩:=info_parts info101
         have hcut26:=cut_from (P:=Try.prog) 102 101 .i64 Try.underlying102 hi026 2 hsz26 Ao25 x6_2.length co25 1 (by omega) q26
         have hr26:=Kd.Q_drop (k:=(1:Int).toNat) HO_6.out (by omega)
         obtain⟨A26,hA26⟩ :∃ A1,A1= (if co25= (1:Int).toNat then Ao25 else(Ao25:Option Addr).map (·.add ((1:Int).toNat * 2))):=⟨_,rfl⟩
         obtain⟨c26,hc26⟩ :∃ c1,c1=co25 - (1:Int).toNat:=⟨_,rfl⟩
         have hy26:y192.length=x6_2.length - (1:Int).toNat:=(by rw [Ny192.out,List.length_drop])
         rw [← Ny192.out] at hr26
         rw [← hy26,← hA26,← hc26] at hcut26
         replace hr26:Kd.Q k101 101 wr w.heap.size (fun k_=>k_≠gb181) (.slice A26 y192.length c26) y192:=(by rw [hA26,hc26,hy26];exact hr26)
         have HE26:Aside0 ((Value.slice A26 y192.length c26).ownBlock= (.slice Ao25 x6_2.length co25:Value).ownBlock):=⟨by rw [hA26];split<;>(cases (Ao25:Option Addr)<;>rfl)⟩
         clear hy26 hi026 hsz26 HO_6 hA26 hc26
         have HO194:=Aside0.mk hr26
         clear hr26
         replace q26:=eq_true q26
         go_wp2
         go_roundg k2
         case measure=>have:=HK1.out;have:=HK2.out;omega
         case rel=>exact⟨(x5_2),(y192),H',⟨by have:=HK1.out;have:=HK2.out;omega⟩,⟨by(with_reducible repeat(first|apply Kd.R_alloc|apply Kd.R_drewN|apply Kd.R_drew));exact HO_5.out⟩,⟨by(with_reducible repeat(first|apply Kd.Q_alloc|apply Kd.Q_drewN|apply Kd.Q_drew));exact Kd.Q_mono HO194.out (fun _ hk=>trivial)⟩,⟨by repeat(first|(with_reducible first|exact HB.out|apply below_alloc|apply pw_below_drewN|apply below_drew1|refine below_set ?_ GE181.out)|exact HB.out)⟩⟩
        ·rw [if_neg c24] at H
         exact absurd H (by simp)
    ·rw [if_neg c6] at H
     exact absurd H (by simp)
   ·rw [if_neg c5] at H
    have c5b0:decide (0< (x6_1.length:Int))=false:=decide_eq_false c5
    have c5b1:decide (0<x6_1.length)=false:=decide_eq_false (by omega)
    clear c5
    obtain rfl:=Option.some.inj H
    obtain⟨Ao27,co27,eo27,_⟩:=Kd.Q_slice HO_6.out
    subst eo27
    go_wp2
    go_ret
    exact⟨_,by first|rfl|(simp [errW_none,errW_some]<;>rfl)|(simp [*,errW_none,errW_some]<;>rfl),by(with_reducible repeat(first|apply Kd.R_alloc|apply Kd.R_drewN|apply Kd.R_drew));exact HO_5.out,by repeat(first|(with_reducible first|exact HB.out|apply below_alloc|apply pw_below_drewN|apply below_drew1)|exact HB.out)⟩
-- NOT PRINTED: function 65 (impl_onTree)
-- NOT PRINTED: function 18 (impl_ComesFrom)
-- NOT PRINTED: function 4 (laws_FnExactComesFrom)
def laws_markIntS.l0:Nat→List Int→Int→Int→Option (Int × List Int)
 | 0,_,_,_=>none
 |k+1,x0,x1,x5=>if x5< (x0.length:Int) then(if 0≤x5 then(laws_markIntS.l0 k (x0.set (x5:Int).toNat x1) (wrap64 (x1+1)) (wrap64 (x5+1))) else(none)) else(some (x1,x0))
def laws_markIntS.f (k:Nat) (l0:List Int) (a1:Int):Option (Int × List Int):=laws_markIntS.l0 k l0 a1 0
set_option maxHeartbeats 8000000 in
set_option maxRecDepth 100000 in
theorem laws_markIntS.calls (k:Nat) (P0_:Nat→Prop) (u9000_:Value) (l0:List Int) (a1:Int) (r1:Int) (r2:List Int) (w0 w:World) (hB:Below w0.heap.size w0 w) (ho0:Kd.R (Kd.int .i64) 3 w w0.heap.size P0_ u9000_ l0) (h:laws_markIntS.f k l0 a1=some (r1,r2)):
  Calls Try.prog 21 #[u9000_,.int .i64 a1] w fun e w'=>e= .returned (.int .i64 r1)∧Kd.R (Kd.int .i64) 3 w' w0.heap.size (fun k_=>(P0_ k_∨w.heap.size≤k_)) u9000_ r2∧Below w0.heap.size w0 w'∧Kept w w' (fun k_=>P0_ k_):=by
 have HO0:=Aside0.mk (show Kd.R (Kd.int .i64) 3 w w0.heap.size (fun k_=>(P0_ k_∨w.heap.size≤k_)) u9000_ l0 from Kd.R_mono ho0 (fun k_ hk=>(.inl hk)))
 have HK:=Aside0.mk (Kept.refl w (fun k_=>P0_ k_))
 have HW0:=Aside0.mk hB.size
 have HB:=Aside0.mk hB
 clear hB
 have H:(laws_markIntS.l0 k l0 a1 0)=some (r1,r2):=h
 clear h
 have H':=Aside0.mk H
 clear H
 go_enter Try.func21,Try.ntmps21
 go_wp2
 go_loopg [1,5] k (fun kq v1 v5 w'=> ∃ (x0_1:List Int) (x1_1:Int) (x5_1:Int),v1= .int .i64 x1_1∧v5= .int .i64 x5_1∧Aside0 (laws_markIntS.l0 kq x0_1 x1_1 x5_1=some (r1,r2))∧Aside0 (kq≤k)∧Aside0 (Kd.R (Kd.int .i64) 3 w' w0.heap.size (fun k_=>(P0_ k_∨w.heap.size≤k_)) u9000_ x0_1)∧Aside0 (Kept w w' (fun k_=>P0_ k_))∧Aside0 (Below w0.heap.size w0 w'))
 case atStart=>exact⟨(l0),(a1),(0),(by first|rfl|(simp;done)|(simp [*];done)),(by first|rfl|(simp;done)|(simp [*];done)),H',⟨Nat.le_refl _⟩,⟨by(with_reducible repeat(first|apply Kd.R_alloc|apply Kd.R_drewN|apply Kd.R_drew));exact HO0.out⟩,⟨by repeat(first|(with_reducible first|exact HK.out|apply Kept.alloc|apply Kept.drewN|apply Kept.drew)|exact HK.out)⟩,⟨by repeat(first|(with_reducible first|exact HB.out|apply below_alloc|apply pw_below_drewN|apply below_drew1)|exact HB.out)⟩⟩
 case round=>
  clear H'
  try clear c2
  try clear p2
  obtain⟨x0_1,x1_1,x5_1,rfl,rfl,HA,HK1,HO_0,HK,HB⟩:=hrel
  cases gk with
  |zero=>exact absurd HA.out (by simp [laws_markIntS.l0])
  |succ k1=>
   have H:=HA.out
   clear HA
   simp only [laws_markIntS.l0] at H
   by_cases c3:x5_1< (x0_1.length:Int)
   ·rw [if_pos c3] at H
    have c3b0:decide (x5_1< (x0_1.length:Int))=true:=decide_eq_true c3
    clear c3
    by_cases c4: 0≤x5_1
    ·rw [if_pos c4] at H
     have c4b0:decide (0≤x5_1)=true:=decide_eq_true c4
     clear c4
     obtain⟨y216,hy216⟩ :∃ y_:List Int,y_= (x0_1.set (x5_1:Int).toNat x1_1):=⟨_,rfl⟩
     replace H:(laws_markIntS.l0 k1 y216 (wrap64 (x1_1+1)) (wrap64 (x5_1+1)))=some (r1,r2):=by first|(rw [hy216];with_reducible exact H)|(have H2_:=(Option.bind_some _ _).symm.trans H;rw [hy216];with_reducible exact H2_)|(have H2_:=(Option.bind_some _ _).symm.trans H;with_reducible exact H2_)|with_reducible exact H|(rw [hy216];exact H)|exact H
     have Ny216:=Aside0.mk hy216
     clear hy216
     have H':=Aside0.mk H
     clear H
     obtain⟨Ao6,co6,eo6⟩:=Kd.R_slice HO_0.out
     subst eo6
     have p5: 0≤ (x5_1:Int):=of_decide_eq_true zq1
     have q5:(x5_1:Int)< ((x0_1.length:Int):Int):=of_decide_eq_true zq1
     obtain⟨go5,co5,eo5,gb5,gl5,cl5,HG5⟩:=Kd.R_form HO_0.out (by omega)
     (first|cases eo5|(injection eo5 with ea_ en_ ec_;(first|subst ea_|(injection ea_ with ea_;subst ea_));subst ec_;clear en_))
     have GB5:=Aside0.mk gb5
     have GG5:=Aside0.mk HG5
     clear gb5 gl5 HG5
     have HMgo5:=Aside0.mk (show (P0_ go5∨w.heap.size≤go5) from (HO_0.out.1 _ rfl))
     obtain⟨hx5_0,hf5_0⟩:=Kd.R_celln 0 HO_0.out (x5_1:Int) p5 q5
     replace p5:=eq_true p5
     replace q5:=eq_true q5
     have HP7:=Kd.R_putg HO_0.out (x5_1:Int) x1_1
     go_wp2_with (first|((with_reducible refine gate_store (t:=3) (p:=15) rfl ?_);refine store_event (t:=3) (p:=15) (v:=?vo_w8) (w1:=(wr.setCell ⟨go5,(x5_1:Int).toNat,none⟩ (.int .i64 x1_1))) ?hg ?ho ?hn ?hr ?_;(case ho=>rfl);(case hg=>rfl);(case hn=>rfl);(case hr=>first|(go_simp;done)|(go_simp;rfl));intro w8 hw;have hg:wr.grownBy w8 (some go5):=(by rw [hw];exact HP7.2);have hp_:Kd.R (Kd.int .i64) 3 w8 w0.heap.size (fun k_=>(P0_ k_∨w.heap.size≤k_)) (.slice (some ⟨go5,0,none⟩) x0_1.length co6) y216:=(by rw [hw,Ny216.out];exact HP7.1);clear HP7;have n0_:=Aside0.mk (hp_);have n1_:=Aside0.mk ((by rw [hw];exact below_set (HB.out) GB5.out:Below w0.heap.size w0 w8));have n2_:=Aside0.mk (Kept.of_grown (S:=(fun k_=>P0_ k_)) hg (by repeat(first|(with_reducible first|exact HK.out|apply Kept.alloc|apply Kept.drewN|apply Kept.drew)|exact HK.out)) (fun k_ e_=>(HO_0.out.1 k_ e_)));clear HO_0;clear HB;clear HK;have HO_0:=n0_;have HB:=n1_;have HK:=n2_;clear n0_ n1_ n2_;clear hg hw hp_))
     go_roundg k1
     case measure=>have:=HK1.out;omega
     case rel=>exact⟨(y216),(wrap64 (x1_1+1)),(wrap64 (x5_1+1)),(by first|rfl|(simp;done)|(simp [*];done)),(by first|rfl|(simp;done)|(simp [*];done)),H',⟨by have:=HK1.out;omega⟩,⟨by(with_reducible repeat(first|apply Kd.R_alloc|apply Kd.R_drewN|apply Kd.R_drew));exact HO_0.out⟩,⟨by repeat(first|(with_reducible first|exact HK.out|apply Kept.alloc|apply Kept.drewN|apply Kept.drew)|exact HK.out)⟩,⟨by repeat(first|(with_reducible first|exact HB.out|apply below_alloc|apply pw_below_drewN|apply below_drew1)|exact HB.out)⟩⟩
    ·rw [if_neg c4] at H
     exact absurd H (by simp)
   ·rw [if_neg c3] at H
    have c3b0:decide (x5_1< (x0_1.length:Int))=false:=decide_eq_false c3
    clear c3
    simp only [Option.some.injEq,Prod.mk.injEq] at H
    obtain⟨rfl,rfl⟩:=H
    obtain⟨Ao9,co9,eo9⟩:=Kd.R_slice HO_0.out
    subst eo9
    go_wp2
    go_ret
    exact⟨by first|rfl|(simp [errW_none,errW_some]<;>rfl)|(simp [*,errW_none,errW_some]<;>rfl),by(with_reducible repeat(first|apply Kd.R_alloc|apply Kd.R_drewN|apply Kd.R_drew));exact HO_0.out,by repeat(first|(with_reducible first|exact HB.out|apply below_alloc|apply pw_below_drewN|apply below_drew1)|exact HB.out),by repeat(first|(with_reducible first|exact HK.out|apply Kept.alloc|apply Kept.drewN|apply Kept.drew)|exact HK.out)⟩
end Go.Proofs.Ytedegfbheihopaa.P

namespace Go.Proofs.Ytedegfbheihopaa.P
open Go.RowKit Go.Proofs.YtedegfbheihopaaW.PrintWords Go.Proofs.YtedegfbheihopaaW.PrintLast Go.Proofs.YtedegfbheihopaaW.PrintMore
attribute [local go_sem] max2_int min2_int max_two min_two max_three min_three max_four min_four   -- for this text's walks alone
set_option linter.unusedVariables false
set_option linter.unusedSimpArgs false
def spec_l1Put.l0:Nat→List Int→Int→Int→Option (List Int)
 | 0,_,_,_=>none
 |k+1,x0,x1,x5=>if x5< (x0.length:Int) then(if 0≤x5 then(if (rd x0 x5)<x1 then(spec_l1Put.l0 k x0 x1 (wrap64 (x5+1))) else(if (rd x0 x5)=x1 then(some x0) else((some (([] :List Int):List Int)).bind fun y302=>(if x5≤ (x0.length:Int) then((some (x0.take (x5:Int).toNat:List Int)).bind fun y305=>(if y302.length+y305.length< 17592186044416 then((some (y302++y305:List Int)).bind fun y309=>(if y309.length< 17592186044416 then((some (y309++ [x1] :List Int)).bind fun y312=>((some (x0.drop (x5:Int).toNat:List Int)).bind fun y315=>(if y312.length+y315.length< 17592186044416 then(some (y312++y315)) else(none)))) else(none))) else(none))) else(none))))) else(none)) else((some (([] :List Int):List Int)).bind fun y322=>(if 0≤x5 then(if x5≤ (x0.length:Int) then((some (x0.take (x5:Int).toNat:List Int)).bind fun y325=>(if y322.length+y325.length< 17592186044416 then((some (y322++y325:List Int)).bind fun y329=>(if y329.length< 17592186044416 then((some (y329++ [x1] :List Int)).bind fun y332=>((some (x0.drop (x5:Int).toNat:List Int)).bind fun y335=>(if y332.length+y335.length< 17592186044416 then(some (y332++y335)) else(none)))) else(none))) else(none))) else(none)) else(none)))
def spec_l1Put.f (k:Nat) (l0:List Int) (a1:Int):Option (List Int):=spec_l1Put.l0 k l0 a1 0
set_option maxHeartbeats 8000000 in
set_option maxRecDepth 100000 in
theorem spec_l1Put.calls (k:Nat) (P0_:Nat→Prop) (u9000_:Value) (l0:List Int) (a1:Int) (r:List Int) (w0 w:World) (hB:Below w0.heap.size w0 w) (ho0:Kd.R (Kd.int .i64) 3 w w0.heap.size P0_ u9000_ l0) (h:spec_l1Put.f k l0 a1=some r):
  Calls Try.prog 105 #[u9000_,.int .i64 a1] w fun e w'=> ∃ v0_:Value,e= .returned (v0_)∧Kd.R (Kd.int .i64) 3 w' w0.heap.size (fun k_=>(P0_ k_∨w.heap.size≤k_)) v0_ r∧Below w0.heap.size w0 w'∧Kept w w' (fun k_=>P0_ k_):=by
 have HO0:=Aside0.mk (show Kd.R (Kd.int .i64) 3 w w0.heap.size (fun k_=>(P0_ k_∨w.heap.size≤k_)) u9000_ l0 from Kd.R_mono ho0 (fun k_ hk=>(.inl hk)))
 have HK:=Aside0.mk (Kept.refl w (fun k_=>P0_ k_))
 have HW0:=Aside0.mk hB.size
 have HB:=Aside0.mk hB
 clear hB
 have H:(spec_l1Put.l0 k l0 a1 0)=some r:=h
 clear h
 have H':=Aside0.mk H
 clear H
 go_enter Try.func105,Try.ntmps105
 go_wp2
 go_loopg [5] k (fun kq v5 w'=> ∃ (x5_1:Int),v5= .int .i64 x5_1∧Aside0 (spec_l1Put.l0 kq l0 a1 x5_1=some r)∧Aside0 (kq≤k)∧Aside0 (Kd.R (Kd.int .i64) 3 w' w0.heap.size (fun k_=>(P0_ k_∨w.heap.size≤k_)) u9000_ l0)∧Aside0 (Kept w w' (fun k_=>P0_ k_))∧Aside0 (Below w0.heap.size w0 w'))
 case atStart=>exact⟨(0),(by first|rfl|(simp;done)|(simp [*];done)),H',⟨Nat.le_refl _⟩,⟨by(with_reducible repeat(first|apply Kd.R_alloc|apply Kd.R_drewN|apply Kd.R_drew));exact HO0.out⟩,⟨by repeat(first|(with_reducible first|exact HK.out|apply Kept.alloc|apply Kept.drewN|apply Kept.drew)|exact HK.out)⟩,⟨by repeat(first|(with_reducible first|exact HB.out|apply below_alloc|apply pw_below_drewN|apply below_drew1)|exact HB.out)⟩⟩
 case round=>
  clear H'
  try clear c1
  try clear p2
  obtain⟨x5_1,rfl,HA,HK1,HO_0,HK,HB⟩:=hrel
  cases gk with
  |zero=>exact absurd HA.out (by simp [spec_l1Put.l0])
  |succ k1=>
   have H:=HA.out
   clear HA
   simp only [spec_l1Put.l0] at H
   by_cases c3:x5_1< (l0.length:Int)
   ·rw [if_pos c3] at H
    have c3b0:decide (x5_1< (l0.length:Int))=true:=decide_eq_true c3
    clear c3
    by_cases c4: 0≤x5_1
    ·rw [if_pos c4] at H
     have c4b0:decide (0≤x5_1)=true:=decide_eq_true c4
     clear c4
     by_cases c5:(rd l0 x5_1)<a1
     ·rw [if_pos c5] at H
      have c5b0:decide ((rd l0 x5_1)<a1)=true:=decide_eq_true c5
      clear c5
      have H':=Aside0.mk H
      clear H
      obtain⟨Ao6,co6,eo6⟩:=Kd.R_slice HO_0.out
      subst eo6
      have p300: 0≤ (x5_1:Int):=of_decide_eq_true zq1
      have q300:x5_1< (l0.length:Int):=of_decide_eq_true zq1
      obtain⟨ad300,e300,hx300_0⟩:=Kd.at_int (Kd.R_reads' HO_0.out).2.2 x5_1 p300 q300
      cases e300
      replace p300:=eq_true p300
      replace q300:=eq_true q300
      go_wp2
      go_roundg k1
      case measure=>have:=HK1.out;omega
      case rel=>exact⟨(wrap64 (x5_1+1)),(by first|rfl|(simp;done)|(simp [*];done)),H',⟨by have:=HK1.out;omega⟩,⟨by(with_reducible repeat(first|apply Kd.R_alloc|apply Kd.R_drewN|apply Kd.R_drew));exact HO_0.out⟩,⟨by repeat(first|(with_reducible first|exact HK.out|apply Kept.alloc|apply Kept.drewN|apply Kept.drew)|exact HK.out)⟩,⟨by repeat(first|(with_reducible first|exact HB.out|apply below_alloc|apply pw_below_drewN|apply below_drew1)|exact HB.out)⟩⟩
     ·rw [if_neg c5] at H
      have c5b0:decide ((rd l0 x5_1)<a1)=false:=decide_eq_false c5
      clear c5
      by_cases c7:(rd l0 x5_1)=a1
      ·rw [if_pos c7] at H
       have c7b0:((rd l0 x5_1)==a1)=true:=beq_iff_eq.mpr c7
       have c7b1:((rd l0 x5_1) !=a1)=false:=bne_eq_false_iff_eq.mpr c7
       clear c7
       obtain rfl:=Option.some.inj H
       obtain⟨Ao8,co8,eo8⟩:=Kd.R_slice HO_0.out
       subst eo8
       have p300: 0≤ (x5_1:Int):=of_decide_eq_true zq1
       have q300:x5_1< (l0.length:Int):=of_decide_eq_true zq1
       obtain⟨ad300,e300,hx300_0⟩:=Kd.at_int (Kd.R_reads' HO_0.out).2.2 x5_1 p300 q300
       cases e300
       replace p300:=eq_true p300
       replace q300:=eq_true q300
       have p301: 0≤ (x5_1:Int):=of_decide_eq_true zq1
       have q301:x5_1< (l0.length:Int):=of_decide_eq_true zq1
       obtain⟨ad301,e301,hx301_0⟩:=Kd.at_int (Kd.R_reads' HO_0.out).2.2 x5_1 p301 q301
       obtain rfl:ad300=ad301:=(by injection e301)
       replace p301:=eq_true p301
       replace q301:=eq_true q301
       go_wp2
       go_ret
       exact⟨_,by first|rfl|(simp [errW_none,errW_some]<;>rfl)|(simp [*,errW_none,errW_some]<;>rfl),by(with_reducible repeat(first|apply Kd.R_alloc|apply Kd.R_drewN|apply Kd.R_drew));exact HO_0.out,by repeat(first|(with_reducible first|exact HB.out|apply below_alloc|apply pw_below_drewN|apply below_drew1)|exact HB.out),by repeat(first|(with_reducible first|exact HK.out|apply Kept.alloc|apply Kept.drewN|apply Kept.drew)|exact HK.out)⟩
      ·rw [if_neg c7] at H
       have c7b0:((rd l0 x5_1)==a1)=false:=beq_eq_false_iff_ne.mpr c7
       have c7b1:((rd l0 x5_1) !=a1)=true:=bne_iff_ne.mpr c7
       obtain⟨y302,hy302⟩ :∃ y_:List Int,y_= (([] :List Int)):=⟨_,rfl⟩
       replace H:(if x5_1≤ (l0.length:Int) then((some (l0.take (x5_1:Int).toNat:List Int)).bind fun y305=>(if y302.length+y305.length< 17592186044416 then((some (y302++y305:List Int)).bind fun y309=>(if y309.length< 17592186044416 then((some (y309++ [a1] :List Int)).bind fun y312=>((some (l0.drop (x5_1:Int).toNat:List Int)).bind fun y315=>(if y312.length+y315.length< 17592186044416 then(some (y312++y315)) else(none)))) else(none))) else(none))) else(none))=some r:=by first|(rw [hy302];with_reducible exact H)|(have H2_:=(Option.bind_some _ _).symm.trans H;rw [hy302];with_reducible exact H2_)|(have H2_:=(Option.bind_some _ _).symm.trans H;with_reducible exact H2_)|with_reducible exact H|(rw [hy302];exact H)|exact H
       have Ny302:=Aside0.mk hy302
       clear hy302
       have c9b0:=eq_true (of_decide_eq_true zq1: 0≤x5_1)
       by_cases c10:x5_1≤ (l0.length:Int)
       ·rw [if_pos c10] at H
        have c10b0:=eq_true c10
        have c10b1:decide (x5_1≤ (l0.length:Int))=true:=decide_eq_true c10
        clear c10
        obtain⟨y305,hy305⟩ :∃ y_:List Int,y_= (l0.take (x5_1:Int).toNat):=⟨_,rfl⟩
        replace H:(if y302.length+y305.length< 17592186044416 then((some (y302++y305:List Int)).bind fun y309=>(if y309.length< 17592186044416 then((some (y309++ [a1] :List Int)).bind fun y312=>((some (l0.drop (x5_1:Int).toNat:List Int)).bind fun y315=>(if y312.length+y315.length< 17592186044416 then(some (y312++y315)) else(none)))) else(none))) else(none))=some r:=by first|(rw [hy305];with_reducible exact H)|(have H2_:=(Option.bind_some _ _).symm.trans H;rw [hy305];with_reducible exact H2_)|(have H2_:=(Option.bind_some _ _).symm.trans H;with_reducible exact H2_)|with_reducible exact H|(rw [hy305];exact H)|exact H
        have Ny305:=Aside0.mk hy305
        clear hy305
        by_cases c11:y302.length+y305.length< 17592186044416
        ·rw [if_pos c11] at H
         have LMc11:=Aside0.mk c11
         clear c11
         obtain⟨y309,hy309⟩ :∃ y_:List Int,y_= (y302++y305):=⟨_,rfl⟩
         replace H:(if y309.length< 17592186044416 then((some (y309++ [a1] :List Int)).bind fun y312=>((some (l0.drop (x5_1:Int).toNat:List Int)).bind fun y315=>(if y312.length+y315.length< 17592186044416 then(some (y312++y315)) else(none)))) else(none))=some r:=by first|(rw [hy309];with_reducible exact H)|(have H2_:=(Option.bind_some _ _).symm.trans H;rw [hy309];with_reducible exact H2_)|(have H2_:=(Option.bind_some _ _).symm.trans H;with_reducible exact H2_)|with_reducible exact H|(rw [hy309];exact H)|exact H
         have Ny309:=Aside0.mk hy309
         clear hy309
         by_cases c12:y309.length< 17592186044416
         ·rw [if_pos c12] at H
          have LMc12:=Aside0.mk c12
          clear c12
          obtain⟨y312,hy312⟩ :∃ y_:List Int,y_= (y309++ [a1]):=⟨_,rfl⟩
          replace H:((some (l0.drop (x5_1:Int).toNat:List Int)).bind fun y315=>(if y312.length+y315.length< 17592186044416 then(some (y312++y315)) else(none)))=some r:=by first|(rw [hy312];with_reducible exact H)|(have H2_:=(Option.bind_some _ _).symm.trans H;rw [hy312];with_reducible exact H2_)|(have H2_:=(Option.bind_some _ _).symm.trans H;with_reducible exact H2_)|with_reducible exact H|(rw [hy312];exact H)|exact H
          have Ny312:=Aside0.mk hy312
          clear hy312
          have c13b0:=eq_true (of_decide_eq_true zq1: 0≤x5_1)
          have c14b0:=eq_true (of_decide_eq_true zq1:x5_1≤ (l0.length:Int))
          obtain⟨y315,hy315⟩ :∃ y_:List Int,y_= (l0.drop (x5_1:Int).toNat):=⟨_,rfl⟩
          replace H:(if y312.length+y315.length< 17592186044416 then(some (y312++y315)) else(none))=some r:=by first|(rw [hy315];with_reducible exact H)|(have H2_:=(Option.bind_some _ _).symm.trans H;rw [hy315];with_reducible exact H2_)|(have H2_:=(Option.bind_some _ _).symm.trans H;with_reducible exact H2_)|with_reducible exact H|(rw [hy315];exact H)|exact H
          have Ny315:=Aside0.mk hy315
          clear hy315
          by_cases c15:y312.length+y315.length< 17592186044416
          ·rw [if_pos c15] at H
           have LMc15:=Aside0.mk c15
           clear c15
           obtain⟨y319,hy319⟩ :∃ y_:List Int,y_= (y312++y315):=⟨_,rfl⟩
           replace H:(some y319)=some r:=by first|(rw [hy319];with_reducible exact H)|(have H2_:=(Option.bind_some _ _).symm.trans H;rw [hy319];with_reducible exact H2_)|(have H2_:=(Option.bind_some _ _).symm.trans H;with_reducible exact H2_)|with_reducible exact H|(rw [hy319];exact H)|exact H
           have Ny319:=Aside0.mk hy319
           clear hy319
           obtain rfl:=Option.some.inj H
           obtain⟨Ao16,co16,eo16⟩:=Kd.R_slice HO_0.out
           subst eo16
           have p300: 0≤ (x5_1:Int):=of_decide_eq_true zq1
           have q300:x5_1< (l0.length:Int):=of_decide_eq_true zq1
           obtain⟨ad300,e300,hx300_0⟩:=Kd.at_int (Kd.R_reads' HO_0.out).2.2 x5_1 p300 q300
           cases e300
           replace p300:=eq_true p300
           replace q300:=eq_true q300
           have p301: 0≤ (x5_1:Int):=of_decide_eq_true zq1
           have q301:x5_1< (l0.length:Int):=of_decide_eq_true zq1
           obtain⟨ad301,e301,hx301_0⟩:=Kd.at_int (Kd.R_reads' HO_0.out).2.2 x5_1 p301 q301
           obtain rfl:ad300=ad301:=(by injection e301)
           replace p301:=eq_true p301
           replace q301:=eq_true q301
           go_wp2_with (first|((with_reducible refine gate_dst (N:=34) rfl ?_);refine Kd.R_lit (Kd.int .i64) _ 3 ?hg (N:=34) ?hd (xs:=([] :List Int)) (inner:= []) (ok:=fun _=>True) (okp:=fun _=>True) ?hr ?hp (fun _ hk=>hk) trivial (Below.refl _ _) (Nat.le_refl _) (by simp) ?_;(case hd=>rfl);(case hg=>rfl);(case hr=>first|(go_simp;done)|(go_simp;rfl));(case hp=>exact(Reps.none _ _));intro v303 w17 ho18 hb hg_ hnew_;clear hg_ hnew_;(first|rw [← Ny302.out] at ho18|(simp only [Int.reduceToNat] at ho18;rw [← Ny302.out] at ho18));have n0_:=Aside0.mk (Kd.R_elder' (zq4 HO_0) (Kd.R_base ho18) hb);have n1_:=Aside0.mk (Kd.R_lower (Kd.R_new' (Kd.R_newM (M:=fun k_=>(P0_ k_∨w.heap.size≤k_)) ho18 (by first|exact HK.out.1|exact(show Kept w _ (fun k_=>P0_ k_) from by repeat(first|(with_reducible first|exact HK.out|apply Kept.alloc|apply Kept.drewN|apply Kept.drew)|exact HK.out)).1) (fun k_ h_=> .inr h_)) (Kd.R_lt (zq4 HO_0))) (below_size (zb0 HB)));have n2_:=Aside0.mk (Kept.below (S:=(fun k_=>P0_ k_)) (by repeat(first|(with_reducible first|exact HK.out|apply Kept.alloc|apply Kept.drewN|apply Kept.drew)|exact HK.out)) hb);have n3_:=Aside0.mk (below_step (zb0 HB) hb);clear HO_0;clear HK;clear HB;have HO_0:=n0_;have HO304:=n1_;have HK:=n2_;have HB:=n3_;clear n0_ n1_ n2_ n3_;clear hb ho18;have q19:(x5_1:Int)≤ ((l0.length:Int):Int):=of_decide_eq_true zq1;obtain⟨i019,hi019,_,hsz19,_⟩:=info_parts info3;have hroom19:l0.length≤co16:=(Kd.R_reads' HO_0.out).2.1;have hC19:Kd.C (Kd.int .i64) _ (some ad300) l0.length l0:=(Kd.R_reads' HO_0.out).2.2;have hcut19:=cut_to (P:=Try.prog) 22 3 .i64 Try.underlying22 hi019 (some ad300) l0.length co16 x5_1 (of_decide_eq_true zq1) q19 hroom19;have hr19:=Kd.C_take (m:=(x5_1:Int).toNat) hC19 (by omega);have hy19:y305.length= (x5_1:Int).toNat:=(by rw [Ny305.out,List.length_take];omega);rw [← Ny305.out] at hr19;rw [← hy19] at hcut19;have HR308:=Aside0.mk hr19;have HC308:=Aside0.mk (show y305.length≤co16 from by omega);clear hr19 hC19 hroom19 hi019 hsz19;have KY19:=Aside0.mk hy19;clear hy19;have KL19:=Aside0.mk (show (x5_1:Int).toNat≤l0.length from by omega);replace q19:=eq_true q19)|((with_reducible refine gate_builtin (b:= .append) (xs:= #[.tmp 34,.tmp 37]) rfl ?_);at_builtin;refine Kd.R_append_rows (Kd.int .i64) (w0:=w0) w0.heap.size rfl (.tmp 34) (.tmp 37) 22 3 (.int .i64 0) 8 rfl Try.underlying22 info3 rfl (by decide) (by omega) v303 y302 y305 _ _ _ (fun k_=>(P0_ k_∨w.heap.size≤k_)∧some k_≠ (.slice (some ad300) l0.length co16:Value).ownBlock) (fun _=>False) rfl rfl ?aO ?aR (fun _ _ h=>h) (fun _ h=>h.elim) ?aF ?aB ?aS ?aL ?_;(case aR=>repeat(first|exact(by repeat(first|(with_reducible exact HR308.out)|(with_reducible refine Kd.C_alloc ?_ _)|(with_reducible refine Kd.C_drewN ?_ _)|(with_reducible refine Kd.C_drew ?_)|exact HR308.out))|(with_reducible refine Kd.C_alloc ?_ _)|(with_reducible refine Kd.C_drewN ?_ _)|(with_reducible refine Kd.C_drew ?_)));(case aB=>exact(zb0 HB));(case aF=>exact(fun k_ hk=>⟨(.inr (Nat.le_trans (by first|exact HK.out.1|exact(show Kept w _ (fun k_=>P0_ k_) from by repeat(first|(with_reducible first|exact HK.out|apply Kept.alloc|apply Kept.drewN|apply Kept.drew)|exact HK.out)).1) hk)),Kd.fresh' (Kd.R_lt (zq4 HO_0)) k_ hk⟩));(case aO=>exact(by(with_reducible repeat(first|apply Kd.R_alloc|apply Kd.R_drewN|apply Kd.R_drew));exact Kd.R_mono HO304.out (fun _ hk=>⟨hk.1.1,hk.2⟩)));(case aS=>exact(below_size (zb0 HB)));(case aL=>have:=LMc11.out;omega);intro v310 w20 ho hb hg hat;rw [← Ny309.out] at ho;have n0_:=Aside0.mk (Kd.R_after (ok:=(fun k_=>(P0_ k_∨w.heap.size≤k_))) (zq4 HO_0) hg hat);have n1_:=Aside0.mk (hb);have n2_:=Aside0.mk (Kept.of_grown (S:=(fun k_=>P0_ k_)) hg (by repeat(first|(with_reducible first|exact HK.out|apply Kept.alloc|apply Kept.drewN|apply Kept.drew)|exact HK.out)) (fun k_ e_=>(HO304.out.1 k_ e_).1.1));have n3_:=Aside0.mk ((show Kd.C (Kd.int .i64) w20 (some ad300) y305.length y305 from by rw [Ny305.out];exact Kd.C_take (m:=(x5_1:Int).toNat) ((Kd.R_reads' (Kd.R_after (ok:=(fun k_=>(P0_ k_∨w.heap.size≤k_))) (zq4 HO_0) hg hat)).2.2) KL19.out));have n4_:=Aside0.mk (ho);clear HO_0;clear HB;clear HK;clear HR308;clear HO304;have HO_0:=n0_;have HB:=n1_;have HK:=n2_;have HR308:=n3_;have HO311:=n4_;clear n0_ n1_ n2_ n3_ n4_;clear ho hb hg hat)|((with_reducible refine gate_builtin (b:= .append) (xs:= #[.tmp 39,.tmp 41]) rfl ?_);at_builtin;refine Kd.R_append (Kd.int .i64) (w0:=w0) w0.heap.size rfl (.tmp 39) (.tmp 41) 22 3 (.int .i64 0) 8 rfl Try.underlying22 info3 rfl (by decide) (by omega) v310 y309 a1 [.int .i64 a1] (fun k_=>(P0_ k_∨w.heap.size≤k_)∧some k_≠ (.slice (some ad300) l0.length co16:Value).ownBlock) (fun _=>False) rfl rfl ?aP (fun _ hk=>hk.elim) ?aF ?aO ?aB ?aS ?aL ?_;(case aP=>exact rfl);(case aB=>exact(zb0 HB));(case aF=>exact(fun k_ hk=>⟨(.inr (Nat.le_trans (by first|exact HK.out.1|exact(show Kept w _ (fun k_=>P0_ k_) from by repeat(first|(with_reducible first|exact HK.out|apply Kept.alloc|apply Kept.drewN|apply Kept.drew)|exact HK.out)).1) hk)),Kd.fresh' (Kd.R_lt (zq4 HO_0)) k_ hk⟩));(case aO=>exact(zq4 HO311));(case aS=>exact(below_size (zb0 HB)));(case aL=>have:=LMc12.out;omega);intro v313 w21 ho hb hg hat;rw [← Ny312.out] at ho;have n0_:=Aside0.mk (Kd.R_after (ok:=(fun k_=>(P0_ k_∨w.heap.size≤k_))) (zq4 HO_0) hg hat);have n1_:=Aside0.mk (hb);have n2_:=Aside0.mk (Kept.of_grown (S:=(fun k_=>P0_ k_)) hg (by repeat(first|(with_reducible first|exact HK.out|apply Kept.alloc|apply Kept.drewN|apply Kept.drew)|exact HK.out)) (fun k_ e_=>(HO311.out.1 k_ e_).1));have n3_:=Aside0.mk ((show Kd.C (Kd.int .i64) w21 (some ad300) y305.length y305 from by rw [Ny305.out];exact Kd.C_take (m:=(x5_1:Int).toNat) ((Kd.R_reads' (Kd.R_after (ok:=(fun k_=>(P0_ k_∨w.heap.size≤k_))) (zq4 HO_0) hg hat)).2.2) KL19.out));have n4_:=Aside0.mk (ho);clear HO_0;clear HB;clear HK;clear HR308;clear HO311;have HO_0:=n0_;have HB:=n1_;have HK:=n2_;have HR308:=n3_;have HO314:=n4_;clear n0_ n1_ n2_ n3_ n4_;clear ho hb hg hat;have q22:(x5_1:Int)≤ ((l0.length:Int):Int):=of_decide_eq_true zq1;obtain⟨i022,hi022,_,hsz22,_⟩:=info_parts info3;have hroom22:l0.length≤co16:=(Kd.R_reads' HO_0.out).2.1;have hC22:Kd.C (Kd.int .i64) _ (some ad300) l0.length l0:=(Kd.R_reads' HO_0.out).2.2;have q022:(0:Int)≤ (x5_1:Int):=of_decide_eq_true zq1;have hcut22:=cut_from (P:=Try.prog) 22 3 .i64 Try.underlying22 hi022 1 hsz22 (some ad300) l0.length co16 x5_1 q022 q22;have hr22:=Kd.C_drop (m:=(x5_1:Int).toNat) (c:=co16) hC22 (by omega) hroom22;obtain⟨A22,hA22⟩ :∃ A1,A1= (if co16= (x5_1:Int).toNat then(some ad300) else((some ad300):Option Addr).map (·.add ((x5_1:Int).toNat * 1))):=⟨_,rfl⟩;obtain⟨c22,hc22⟩ :∃ c1,c1=co16 - (x5_1:Int).toNat:=⟨_,rfl⟩;have hy22:y315.length=l0.length - (x5_1:Int).toNat:=(by rw [Ny315.out,List.length_drop]<;>omega);rw [show (l0).drop (x5_1:Int).toNat=y315 from Ny315.out.symm] at hr22;replace hr22:Kd.C (Kd.int .i64) _ A22 y315.length y315:=(by rw [hA22];exact hr22);rw [← hy22,← hA22,← hc22] at hcut22;have HR318:=Aside0.mk hr22;have HC318:=Aside0.mk (show y315.length≤c22 from by rw [hy22,hc22];exact Nat.sub_le_sub_right hroom22 _);clear hr22 hC22 hroom22 hi022 hsz22 hc22;have KY22:=Aside0.mk hy22;have KA22:=Aside0.mk hA22;clear hy22 hA22;have KL22:=Aside0.mk (show (x5_1:Int).toNat≤l0.length from by omega);replace q22:=eq_true q22)|((with_reducible refine gate_builtin (b:= .append) (xs:= #[.tmp 43,.tmp 46]) rfl ?_);at_builtin;refine Kd.R_append_rows (Kd.int .i64) (w0:=w0) w0.heap.size rfl (.tmp 43) (.tmp 46) 22 3 (.int .i64 0) 8 rfl Try.underlying22 info3 rfl (by decide) (by omega) v313 y312 y315 _ _ _ (fun k_=>(P0_ k_∨w.heap.size≤k_)∧some k_≠ (.slice (some ad300) l0.length co16:Value).ownBlock) (fun _=>False) rfl rfl ?aO ?aR (fun _ _ h=>h) (fun _ h=>h.elim) ?aF ?aB ?aS ?aL ?_;(case aR=>repeat(first|exact(by repeat(first|(with_reducible exact HR318.out)|(with_reducible refine Kd.C_alloc ?_ _)|(with_reducible refine Kd.C_drewN ?_ _)|(with_reducible refine Kd.C_drew ?_)|exact HR318.out))|(with_reducible refine Kd.C_alloc ?_ _)|(with_reducible refine Kd.C_drewN ?_ _)|(with_reducible refine Kd.C_drew ?_)));(case aB=>exact(zb0 HB));(case aF=>exact(fun k_ hk=>⟨(.inr (Nat.le_trans (by first|exact HK.out.1|exact(show Kept w _ (fun k_=>P0_ k_) from by repeat(first|(with_reducible first|exact HK.out|apply Kept.alloc|apply Kept.drewN|apply Kept.drew)|exact HK.out)).1) hk)),Kd.fresh' (Kd.R_lt (zq4 HO_0)) k_ hk⟩));(case aO=>exact(zq4 HO314));(case aS=>exact(below_size (zb0 HB)));(case aL=>have:=LMc15.out;omega);intro v320 w23 ho hb hg hat;rw [← Ny319.out] at ho;have n0_:=Aside0.mk (Kd.R_after (ok:=(fun k_=>(P0_ k_∨w.heap.size≤k_))) (zq4 HO_0) hg hat);have n1_:=Aside0.mk (hb);have n2_:=Aside0.mk (Kept.of_grown (S:=(fun k_=>P0_ k_)) hg (by repeat(first|(with_reducible first|exact HK.out|apply Kept.alloc|apply Kept.drewN|apply Kept.drew)|exact HK.out)) (fun k_ e_=>(HO314.out.1 k_ e_).1));have n3_:=Aside0.mk ((show Kd.C (Kd.int .i64) w23 (some ad300) y305.length y305 from by rw [Ny305.out];exact Kd.C_take (m:=(x5_1:Int).toNat) ((Kd.R_reads' (Kd.R_after (ok:=(fun k_=>(P0_ k_∨w.heap.size≤k_))) (zq4 HO_0) hg hat)).2.2) KL19.out));have n4_:=Aside0.mk ((show Kd.C (Kd.int .i64) w23 A22 y315.length y315 from by rw [Ny315.out,KA22.out];exact Kd.C_drop (m:=(x5_1:Int).toNat) (c:=co16) ((Kd.R_reads' (Kd.R_after (ok:=(fun k_=>(P0_ k_∨w.heap.size≤k_))) (zq4 HO_0) hg hat)).2.2) KL22.out ((Kd.R_reads' (Kd.R_after (ok:=(fun k_=>(P0_ k_∨w.heap.size≤k_))) (zq4 HO_0) hg hat)).2.1)));have n5_:=Aside0.mk (ho);clear HO_0;clear HB;clear HK;clear HR308;clear HR318;clear HO314;have HO_0:=n0_;have HB:=n1_;have HK:=n2_;have HR308:=n3_;have HR318:=n4_;have HO321:=n5_;clear n0_ n1_ n2_ n3_ n4_ n5_;clear ho hb hg hat))
           go_ret
           exact⟨_,by first|rfl|(simp [errW_none,errW_some]<;>rfl)|(simp [*,errW_none,errW_some]<;>rfl),by(with_reducible repeat(first|apply Kd.R_alloc|apply Kd.R_drewN|apply Kd.R_drew));exact Kd.R_mono HO321.out (fun _ hk=>hk.1),by repeat(first|(with_reducible first|exact HB.out|apply below_alloc|apply pw_below_drewN|apply below_drew1)|exact HB.out),by repeat(first|(with_reducible first|exact HK.out|apply Kept.alloc|apply Kept.drewN|apply Kept.drew)|exact HK.out)⟩
          ·rw [if_neg c15] at H
           exact absurd H (by simp)
         ·rw [if_neg c12] at H
          exact absurd H (by simp)
        ·rw [if_neg c11] at H
         exact absurd H (by simp)
       ·rw [if_neg c10] at H
        exact absurd H (by simp)
    ·rw [if_neg c4] at H
     exact absurd H (by simp)
   ·rw [if_neg c3] at H
    have c3b0:decide (x5_1< (l0.length:Int))=false:=decide_eq_false c3
    clear c3
    obtain⟨y322,hy322⟩ :∃ y_:List Int,y_= (([] :List Int)):=⟨_,rfl⟩
    replace H:(if 0≤x5_1 then(if x5_1≤ (l0.length:Int) then((some (l0.take (x5_1:Int).toNat:List Int)).bind fun y325=>(if y322.length+y325.length< 17592186044416 then((some (y322++y325:List Int)).bind fun y329=>(if y329.length< 17592186044416 then((some (y329++ [a1] :List Int)).bind fun y332=>((some (l0.drop (x5_1:Int).toNat:List Int)).bind fun y335=>(if y332.length+y335.length< 17592186044416 then(some (y332++y335)) else(none)))) else(none))) else(none))) else(none)) else(none))=some r:=by first|(rw [hy322];with_reducible exact H)|(have H2_:=(Option.bind_some _ _).symm.trans H;rw [hy322];with_reducible exact H2_)|(have H2_:=(Option.bind_some _ _).symm.trans H;with_reducible exact H2_)|with_reducible exact H|(rw [hy322];exact H)|exact H
    have Ny322:=Aside0.mk hy322
    clear hy322
    by_cases c24: 0≤x5_1
    ·rw [if_pos c24] at H
     have c24b0:=eq_true c24
     have c24b1:decide (0≤x5_1)=true:=decide_eq_true c24
     clear c24
     by_cases c25:x5_1≤ (l0.length:Int)
     ·rw [if_pos c25] at H
      have c25b0:=eq_true c25
      have c25b1:decide (x5_1≤ (l0.length:Int))=true:=decide_eq_true c25
      clear c25
      obtain⟨y325,hy325⟩ :∃ y_:List Int,y_= (l0.take (x5_1:Int).toNat):=⟨_,rfl⟩
      replace H:(if y322.length+y325.length< 17592186044416 then((some (y322++y325:List Int)).bind fun y329=>(if y329.length< 17592186044416 then((some (y329++ [a1] :List Int)).bind fun y332=>((some (l0.drop (x5_1:Int).toNat:List Int)).bind fun y335=>(if y332.length+y335.length< 17592186044416 then(some (y332++y335)) else(none)))) else(none))) else(none))=some r:=by first|(rw [hy325];with_reducible exact H)|(have H2_:=(Option.bind_some _ _).symm.trans H;rw [hy325];with_reducible exact H2_)|(have H2_:=(Option.bind_some _ _).symm.trans H;with_reducible exact H2_)|with_reducible exact H|(rw [hy325];exact H)|exact H
      have Ny325:=Aside0.mk hy325
      clear hy325
      by_cases c26:y322.length+y325.length< 17592186044416
      ·rw [if_pos c26] at H
       have LMc26:=Aside0.mk c26
       clear c26
       obtain⟨y329,hy329⟩ :∃ y_:List Int,y_= (y322++y325):=⟨_,rfl⟩
       replace H:(if y329.length< 17592186044416 then((some (y329++ [a1] :List Int)).bind fun y332=>((some (l0.drop (x5_1:Int).toNat:List Int)).bind fun y335=>(if y332.length+y335.length< 17592186044416 then(some (y332++y335)) else(none)))) else(none))=some r:=by first|(rw [hy329];with_reducible exact H)|(have H2_:=(Option.bind_some _ _).symm.trans H;rw [hy329];with_reducible exact H2_)|(have H2_:=(Option.bind_some _ _).symm.trans H;with_reducible exact H2_)|with_reducible exact H|(rw [hy329];exact H)|exact H
       have Ny329:=Aside0.mk hy329
       clear hy329
       by_cases c27:y329.length< 17592186044416
       ·rw [if_pos c27] at H
        have LMc27:=Aside0.mk c27
        clear c27
        obtain⟨y332,hy332⟩ :∃ y_:List Int,y_= (y329++ [a1]):=⟨_,rfl⟩
        replace H:((some (l0.drop (x5_1:Int).toNat:List Int)).bind fun y335=>(if y332.length+y335.length< 17592186044416 then(some (y332++y335)) else(none)))=some r:=by first|(rw [hy332];with_reducible exact H)|(have H2_:=(Option.bind_some _ _).symm.trans H;rw [hy332];with_reducible exact H2_)|(have H2_:=(Option.bind_some _ _).symm.trans H;with_reducible exact H2_)|with_reducible exact H|(rw [hy332];exact H)|exact H
        have Ny332:=Aside0.mk hy332
        clear hy332
        have c28b0:=eq_true (of_decide_eq_true zq1: 0≤x5_1)
        have c29b0:=eq_true (of_decide_eq_true zq1:x5_1≤ (l0.length:Int))
        obtain⟨y335,hy335⟩ :∃ y_:List Int,y_= (l0.drop (x5_1:Int).toNat):=⟨_,rfl⟩
        replace H:(if y332.length+y335.length< 17592186044416 then(some (y332++y335)) else(none))=some r:=by first|(rw [hy335];with_reducible exact H)|(have H2_:=(Option.bind_some _ _).symm.trans H;rw [hy335];with_reducible exact H2_)|(have H2_:=(Option.bind_some _ _).symm.trans H;with_reducible exact H2_)|with_reducible exact H|(rw [hy335];exact H)|exact H
        have Ny335:=Aside0.mk hy335
        clear hy335
        by_cases c30:y332.length+y335.length< 17592186044416
        ·rw [if_pos c30] at H
         have LMc30:=Aside0.mk c30
         clear c30
         obtain⟨y339,hy339⟩ :∃ y_:List Int,y_= (y332++y335):=⟨_,rfl⟩
         replace H:(some y339)=some r:=by first|(rw [hy339];with_reducible exact H)|(have H2_:=(Option.bind_some _ _).symm.trans H;rw [hy339];with_reducible exact H2_)|(have H2_:=(Option.bind_some _ _).symm.trans H;with_reducible exact H2_)|with_reducible exact H|(rw [hy339];exact H)|exact H
         have Ny339:=Aside0.mk hy339
         clear hy339
         obtain rfl:=Option.some.inj H
         obtain⟨Ao31,co31,eo31⟩:=Kd.R_slice HO_0.out
         subst eo31
         go_wp2_with (first|((with_reducible refine gate_dst (N:=34) rfl ?_);refine Kd.R_lit (Kd.int .i64) _ 3 ?hg (N:=34) ?hd (xs:=([] :List Int)) (inner:= []) (ok:=fun _=>True) (okp:=fun _=>True) ?hr ?hp (fun _ hk=>hk) trivial (Below.refl _ _) (Nat.le_refl _) (by simp) ?_;(case hd=>rfl);(case hg=>rfl);(case hr=>first|(go_simp;done)|(go_simp;rfl));(case hp=>exact(Reps.none _ _));intro v323 w32 ho33 hb hg_ hnew_;clear hg_ hnew_;(first|rw [← Ny322.out] at ho33|(simp only [Int.reduceToNat] at ho33;rw [← Ny322.out] at ho33));have n0_:=Aside0.mk (Kd.R_elder' (zq4 HO_0) (Kd.R_base ho33) hb);have n1_:=Aside0.mk (Kd.R_lower (Kd.R_new' (Kd.R_newM (M:=fun k_=>(P0_ k_∨w.heap.size≤k_)) ho33 (by first|exact HK.out.1|exact(show Kept w _ (fun k_=>P0_ k_) from by repeat(first|(with_reducible first|exact HK.out|apply Kept.alloc|apply Kept.drewN|apply Kept.drew)|exact HK.out)).1) (fun k_ h_=> .inr h_)) (Kd.R_lt (zq4 HO_0))) (below_size (zb0 HB)));have n2_:=Aside0.mk (Kept.below (S:=(fun k_=>P0_ k_)) (by repeat(first|(with_reducible first|exact HK.out|apply Kept.alloc|apply Kept.drewN|apply Kept.drew)|exact HK.out)) hb);have n3_:=Aside0.mk (below_step (zb0 HB) hb);clear HO_0;clear HK;clear HB;have HO_0:=n0_;have HO324:=n1_;have HK:=n2_;have HB:=n3_;clear n0_ n1_ n2_ n3_;clear hb ho33;have q34:(x5_1:Int)≤ ((l0.length:Int):Int):=of_decide_eq_true zq1;obtain⟨i034,hi034,_,hsz34,_⟩:=info_parts info3;have hroom34:l0.length≤co31:=(Kd.R_reads' HO_0.out).2.1;have hC34:Kd.C (Kd.int .i64) _ Ao31 l0.length l0:=(Kd.R_reads' HO_0.out).2.2;have hcut34:=cut_to (P:=Try.prog) 22 3 .i64 Try.underlying22 hi034 Ao31 l0.length co31 x5_1 (of_decide_eq_true zq1) q34 hroom34;have hr34:=Kd.C_take (m:=(x5_1:Int).toNat) hC34 (by omega);have hy34:y325.length= (x5_1:Int).toNat:=(by rw [Ny325.out,List.length_take];omega);rw [← Ny325.out] at hr34;rw [← hy34] at hcut34;have HR328:=Aside0.mk hr34;have HC328:=Aside0.mk (show y325.length≤co31 from by omega);clear hr34 hC34 hroom34 hi034 hsz34;have KY34:=Aside0.mk hy34;clear hy34;have KL34:=Aside0.mk (show (x5_1:Int).toNat≤l0.length from by omega);replace q34:=eq_true q34)|((with_reducible refine gate_builtin (b:= .append) (xs:= #[.tmp 34,.tmp 37]) rfl ?_);at_builtin;refine Kd.R_append_rows (Kd.int .i64) (w0:=w0) w0.heap.size rfl (.tmp 34) (.tmp 37) 22 3 (.int .i64 0) 8 rfl Try.underlying22 info3 rfl (by decide) (by omega) v323 y322 y325 _ _ _ (fun k_=>(P0_ k_∨w.heap.size≤k_)∧some k_≠ (.slice Ao31 l0.length co31:Value).ownBlock) (fun _=>False) rfl rfl ?aO ?aR (fun _ _ h=>h) (fun _ h=>h.elim) ?aF ?aB ?aS ?aL ?_;(case aR=>repeat(first|exact(by repeat(first|(with_reducible exact HR328.out)|(with_reducible refine Kd.C_alloc ?_ _)|(with_reducible refine Kd.C_drewN ?_ _)|(with_reducible refine Kd.C_drew ?_)|exact HR328.out))|(with_reducible refine Kd.C_alloc ?_ _)|(with_reducible refine Kd.C_drewN ?_ _)|(with_reducible refine Kd.C_drew ?_)));(case aB=>exact(zb0 HB));(case aF=>exact(fun k_ hk=>⟨(.inr (Nat.le_trans (by first|exact HK.out.1|exact(show Kept w _ (fun k_=>P0_ k_) from by repeat(first|(with_reducible first|exact HK.out|apply Kept.alloc|apply Kept.drewN|apply Kept.drew)|exact HK.out)).1) hk)),Kd.fresh' (Kd.R_lt (zq4 HO_0)) k_ hk⟩));(case aO=>exact(by(with_reducible repeat(first|apply Kd.R_alloc|apply Kd.R_drewN|apply Kd.R_drew));exact Kd.R_mono HO324.out (fun _ hk=>⟨hk.1.1,hk.2⟩)));(case aS=>exact(below_size (zb0 HB)));(case aL=>have:=LMc26.out;omega);intro v330 w35 ho hb hg hat;rw [← Ny329.out] at ho;have n0_:=Aside0.mk (Kd.R_after (ok:=(fun k_=>(P0_ k_∨w.heap.size≤k_))) (zq4 HO_0) hg hat);have n1_:=Aside0.mk (hb);have n2_:=Aside0.mk (Kept.of_grown (S:=(fun k_=>P0_ k_)) hg (by repeat(first|(with_reducible first|exact HK.out|apply Kept.alloc|apply Kept.drewN|apply Kept.drew)|exact HK.out)) (fun k_ e_=>(HO324.out.1 k_ e_).1.1));have n3_:=Aside0.mk ((show Kd.C (Kd.int .i64) w35 Ao31 y325.length y325 from by rw [Ny325.out];exact Kd.C_take (m:=(x5_1:Int).toNat) ((Kd.R_reads' (Kd.R_after (ok:=(fun k_=>(P0_ k_∨w.heap.size≤k_))) (zq4 HO_0) hg hat)).2.2) KL34.out));have n4_:=Aside0.mk (ho);clear HO_0;clear HB;clear HK;clear HR328;clear HO324;have HO_0:=n0_;have HB:=n1_;have HK:=n2_;have HR328:=n3_;have HO331:=n4_;clear n0_ n1_ n2_ n3_ n4_;clear ho hb hg hat)|((with_reducible refine gate_builtin (b:= .append) (xs:= #[.tmp 39,.tmp 41]) rfl ?_);at_builtin;refine Kd.R_append (Kd.int .i64) (w0:=w0) w0.heap.size rfl (.tmp 39) (.tmp 41) 22 3 (.int .i64 0) 8 rfl Try.underlying22 info3 rfl (by decide) (by omega) v330 y329 a1 [.int .i64 a1] (fun k_=>(P0_ k_∨w.heap.size≤k_)∧some k_≠ (.slice Ao31 l0.length co31:Value).ownBlock) (fun _=>False) rfl rfl ?aP (fun _ hk=>hk.elim) ?aF ?aO ?aB ?aS ?aL ?_;(case aP=>exact rfl);(case aB=>exact(zb0 HB));(case aF=>exact(fun k_ hk=>⟨(.inr (Nat.le_trans (by first|exact HK.out.1|exact(show Kept w _ (fun k_=>P0_ k_) from by repeat(first|(with_reducible first|exact HK.out|apply Kept.alloc|apply Kept.drewN|apply Kept.drew)|exact HK.out)).1) hk)),Kd.fresh' (Kd.R_lt (zq4 HO_0)) k_ hk⟩));(case aO=>exact(zq4 HO331));(case aS=>exact(below_size (zb0 HB)));(case aL=>have:=LMc27.out;omega);intro v333 w36 ho hb hg hat;rw [← Ny332.out] at ho;have n0_:=Aside0.mk (Kd.R_after (ok:=(fun k_=>(P0_ k_∨w.heap.size≤k_))) (zq4 HO_0) hg hat);have n1_:=Aside0.mk (hb);have n2_:=Aside0.mk (Kept.of_grown (S:=(fun k_=>P0_ k_)) hg (by repeat(first|(with_reducible first|exact HK.out|apply Kept.alloc|apply Kept.drewN|apply Kept.drew)|exact HK.out)) (fun k_ e_=>(HO331.out.1 k_ e_).1));have n3_:=Aside0.mk ((show Kd.C (Kd.int .i64) w36 Ao31 y325.length y325 from by rw [Ny325.out];exact Kd.C_take (m:=(x5_1:Int).toNat) ((Kd.R_reads' (Kd.R_after (ok:=(fun k_=>(P0_ k_∨w.heap.size≤k_))) (zq4 HO_0) hg hat)).2.2) KL34.out));have n4_:=Aside0.mk (ho);clear HO_0;clear HB;clear HK;clear HR328;clear HO331;have HO_0:=n0_;have HB:=n1_;have HK:=n2_;have HR328:=n3_;have HO334:=n4_;clear n0_ n1_ n2_ n3_ n4_;clear ho hb hg hat;have q37:(x5_1:Int)≤ ((l0.length:Int):Int):=of_decide_eq_true zq1;obtain⟨i037,hi037,_,hsz37,_⟩:=info_parts info3;have hroom37:l0.length≤co31:=(Kd.R_reads' HO_0.out).2.1;have hC37:Kd.C (Kd.int .i64) _ Ao31 l0.length l0:=(Kd.R_reads' HO_0.out).2.2;have q037:(0:Int)≤ (x5_1:Int):=of_decide_eq_true zq1;have hcut37:=cut_from (P:=Try.prog) 22 3 .i64 Try.underlying22 hi037 1 hsz37 Ao31 l0.length co31 x5_1 q037 q37;have hr37:=Kd.C_drop (m:=(x5_1:Int).toNat) (c:=co31) hC37 (by omega) hroom37;obtain⟨A37,hA37⟩ :∃ A1,A1= (if co31= (x5_1:Int).toNat then Ao31 else(Ao31:Option Addr).map (·.add ((x5_1:Int).toNat * 1))):=⟨_,rfl⟩;obtain⟨c37,hc37⟩ :∃ c1,c1=co31 - (x5_1:Int).toNat:=⟨_,rfl⟩;have hy37:y335.length=l0.length - (x5_1:Int).toNat:=(by rw [Ny335.out,List.length_drop]<;>omega);rw [show (l0).drop (x5_1:Int).toNat=y335 from Ny335.out.symm] at hr37;replace hr37:Kd.C (Kd.int .i64) _ A37 y335.length y335:=(by rw [hA37];exact hr37);rw [← hy37,← hA37,← hc37] at hcut37;have HR338:=Aside0.mk hr37;have HC338:=Aside0.mk (show y335.length≤c37 from by rw [hy37,hc37];exact Nat.sub_le_sub_right hroom37 _);clear hr37 hC37 hroom37 hi037 hsz37 hc37;have KY37:=Aside0.mk hy37;have KA37:=Aside0.mk hA37;clear hy37 hA37;have KL37:=Aside0.mk (show (x5_1:Int).toNat≤l0.length from by omega);replace q37:=eq_true q37)|((with_reducible refine gate_builtin (b:= .append) (xs:= #[.tmp 43,.tmp 46]) rfl ?_);at_builtin;refine Kd.R_append_rows (Kd.int .i64) (w0:=w0) w0.heap.size rfl (.tmp 43) (.tmp 46) 22 3 (.int .i64 0) 8 rfl Try.underlying22 info3 rfl (by decide) (by omega) v333 y332 y335 _ _ _ (fun k_=>(P0_ k_∨w.heap.size≤k_)∧some k_≠ (.slice Ao31 l0.length co31:Value).ownBlock) (fun _=>False) rfl rfl ?aO ?aR (fun _ _ h=>h) (fun _ h=>h.elim) ?aF ?aB ?aS ?aL ?_;(case aR=>repeat(first|exact(by repeat(first|(with_reducible exact HR338.out)|(with_reducible refine Kd.C_alloc ?_ _)|(with_reducible refine Kd.C_drewN ?_ _)|(with_reducible refine Kd.C_drew ?_)|exact HR338.out))|(with_reducible refine Kd.C_alloc ?_ _)|(with_reducible refine Kd.C_drewN ?_ _)|(with_reducible refine Kd.C_drew ?_)));(case aB=>exact(zb0 HB));(case aF=>exact(fun k_ hk=>⟨(.inr (Nat.le_trans (by first|exact HK.out.1|exact(show Kept w _ (fun k_=>P0_ k_) from by repeat(first|(with_reducible first|exact HK.out|apply Kept.alloc|apply Kept.drewN|apply Kept.drew)|exact HK.out)).1) hk)),Kd.fresh' (Kd.R_lt (zq4 HO_0)) k_ hk⟩));(case aO=>exact(zq4 HO334));(case aS=>exact(below_size (zb0 HB)));(case aL=>have:=LMc30.out;omega);intro v340 w38 ho hb hg hat;rw [← Ny339.out] at ho;have n0_:=Aside0.mk (Kd.R_after (ok:=(fun k_=>(P0_ k_∨w.heap.size≤k_))) (zq4 HO_0) hg hat);have n1_:=Aside0.mk (hb);have n2_:=Aside0.mk (Kept.of_grown (S:=(fun k_=>P0_ k_)) hg (by repeat(first|(with_reducible first|exact HK.out|apply Kept.alloc|apply Kept.drewN|apply Kept.drew)|exact HK.out)) (fun k_ e_=>(HO334.out.1 k_ e_).1));have n3_:=Aside0.mk ((show Kd.C (Kd.int .i64) w38 Ao31 y325.length y325 from by rw [Ny325.out];exact Kd.C_take (m:=(x5_1:Int).toNat) ((Kd.R_reads' (Kd.R_after (ok:=(fun k_=>(P0_ k_∨w.heap.size≤k_))) (zq4 HO_0) hg hat)).2.2) KL34.out));have n4_:=Aside0.mk ((show Kd.C (Kd.int .i64) w38 A37 y335.length y335 from by rw [Ny335.out,KA37.out];exact Kd.C_drop (m:=(x5_1:Int).toNat) (c:=co31) ((Kd.R_reads' (Kd.R_after (ok:=(fun k_=>(P0_ k_∨w.heap.size≤k_))) (zq4 HO_0) hg hat)).2.2) KL37.out ((Kd.R_reads' (Kd.R_after (ok:=(fun k_=>(P0_ k_∨w.heap.size≤k_))) (zq4 HO_0) hg hat)).2.1)));have n5_:=Aside0.mk (ho);clear HO_0;clear HB;clear HK;clear HR328;clear HR338;clear HO334;have HO_0:=n0_;have HB:=n1_;have HK:=n2_;have HR328:=n3_;have HR338:=n4_;have HO341:=n5_;clear n0_ n1_ n2_ n3_ n4_ n5_;clear ho hb hg hat))
         go_ret
         exact⟨_,by first|rfl|(simp [errW_none,errW_some]<;>rfl)|(simp [*,errW_none,errW_some]<;>rfl),by(with_reducible repeat(first|apply Kd.R_alloc|apply Kd.R_drewN|apply Kd.R_drew));exact Kd.R_mono HO341.out (fun _ hk=>hk.1),by repeat(first|(with_reducible first|exact HB.out|apply below_alloc|apply pw_below_drewN|apply below_drew1)|exact HB.out),by repeat(first|(with_reducible first|exact HK.out|apply Kept.alloc|apply Kept.drewN|apply Kept.drew)|exact HK.out)⟩
        ·rw [if_neg c30] at H
         exact absurd H (by simp)
       ·rw [if_neg c27] at H
        exact absurd H (by simp)
      ·rw [if_neg c26] at H
       exact absurd H (by simp)
     ·rw [if_neg c25] at H
      exact absurd H (by simp)
    ·rw [if_neg c24] at H
     exact absurd H (by simp)
def spec_l10Joined.l0:Nat→List Int→Int→List Int→List Int→Int→Int→Option (List Int)
 | 0,_,_,_,_,_,_=>none
 |k+1,x0,x1,x5,x8,x9,x10=>if x10<x9 then(if 0≤x10 then(if x10< (x8.length:Int) then(if (rd x8 x10)=x1 then((spec_l1Put.f k x5 x10).bind fun t343=>(spec_l10Joined.l0 k x0 x1 t343 x8 x9 (wrap64 (x10+1)))) else(if 0≤x1 then(if x1< (x0.length:Int) then(if (rd x0 x1)=x10 then((spec_l1Put.f k x5 x10).bind fun t347=>(spec_l10Joined.l0 k x0 x1 t347 x8 x9 (wrap64 (x10+1)))) else(spec_l10Joined.l0 k x0 x1 x5 x8 x9 (wrap64 (x10+1)))) else(none)) else(none))) else(none)) else(none)) else(some x5)
def spec_l10Joined.f (k:Nat) (l0:List Int) (a1:Int):Option (List Int):=spec_l10Joined.l0 k l0 a1 ([] :List Int) l0 (l0.length:Int) 0
set_option maxHeartbeats 8000000 in
set_option maxRecDepth 100000 in
theorem spec_l10Joined.calls (k:Nat) (A0:Option Addr) (c0:Nat) (l0:List Int) (a1:Int) (r:List Int) (w:World) (hr0:Kd.C (Kd.int .i64) w A0 l0.length l0) (hc0:l0.length≤c0) (h:spec_l10Joined.f k l0 a1=some r):
  Calls Try.prog 94 #[.slice A0 l0.length c0,.int .i64 a1] w fun e w'=> ∃ v0_:Value,e= .returned (v0_)∧Kd.R (Kd.int .i64) 3 w' w.heap.size (fun _=>True) v0_ r∧Below w.heap.size w w':=by
 have HR0:=Aside0.mk hr0
 have HC0:=Aside0.mk hc0
 clear hr0 hc0
 have HB:=Aside0.mk (Below.refl w.heap.size w)
 have H:(spec_l10Joined.l0 k l0 a1 ([] :List Int) l0 (l0.length:Int) 0)=some r:=h
 clear h
 have H':=Aside0.mk H
 clear H
 go_enter Try.func94,Try.ntmps94
 go_wp2
 go_loopg [5,10] k (fun kq v5 v10 w'=> ∃ (x5_1:List Int) (x10_1:Int),v10= .int .i64 x10_1∧Aside0 (spec_l10Joined.l0 kq l0 a1 x5_1 l0 (l0.length:Int) x10_1=some r)∧Aside0 (kq≤k)∧Aside0 (Kd.R (Kd.int .i64) 3 w' w.heap.size (fun _=>True) v5 x5_1)∧Aside0 (Below w.heap.size w w'))
 case atStart=>exact⟨(([] :List Int)),(0),(by first|rfl|(simp;done)|(simp [*];done)),H',⟨Nat.le_refl _⟩,⟨by first|exact Kd.R_nil _ _ _ _ _|exact Kd.N_nil _ _ _ _ _|exact Kd.V_nil _ _ _ _ _|exact Kd.Q_nil _ _ _ _ _|exact Kd.S_nil _ _ _ _ _⟩,⟨by repeat(first|(with_reducible first|exact HB.out|apply below_alloc|apply pw_below_drewN|apply below_drew1)|exact HB.out)⟩⟩
 case round=>
  clear H'
  try clear p2
  obtain⟨x5_1,x10_1,rfl,HA,HK1,HO_5,HB⟩:=hrel
  cases gk with
  |zero=>exact absurd HA.out (by simp [spec_l10Joined.l0])
  |succ k1=>
   have H:=HA.out
   clear HA
   simp only [spec_l10Joined.l0] at H
   by_cases c3:x10_1< (l0.length:Int)
   ·rw [if_pos c3] at H
    have c3b0:decide (x10_1< (l0.length:Int))=true:=decide_eq_true c3
    clear c3
    by_cases c4: 0≤x10_1
    ·rw [if_pos c4] at H
     have c4b0:decide (0≤x10_1)=true:=decide_eq_true c4
     clear c4
     by_cases c5:x10_1< (l0.length:Int)
     ·rw [if_pos c5] at H
      have c5b0:decide (x10_1< (l0.length:Int))=true:=decide_eq_true c5
      clear c5
      by_cases c6:(rd l0 x10_1)=a1
      ·rw [if_pos c6] at H
       have c6b0:((rd l0 x10_1)==a1)=true:=beq_iff_eq.mpr c6
       have c6b1:((rd l0 x10_1) !=a1)=false:=bne_eq_false_iff_eq.mpr c6
       clear c6
       replace H:=Option.bind_eq_some_iff.mp H
       obtain⟨t343,A70,H⟩:=H
       replace H:(spec_l10Joined.l0 k1 l0 a1 t343 l0 (l0.length:Int) (wrap64 (x10_1+1)))=some r:=H
       have A7:=Aside0.mk A70
       clear A70
       have H':=Aside0.mk H
       clear H
       have p342: 0≤ (x10_1:Int):=of_decide_eq_true zq1
       have q342:x10_1< (l0.length:Int):=of_decide_eq_true zq1
       obtain⟨ad342,e342,hx342_0⟩:=Kd.at_int HR0.out x10_1 p342 q342
       cases e342
       replace hx342_0:=(HB.out.cell (World.block_lt_of_cell? w _ hx342_0)).trans hx342_0
       replace p342:=eq_true p342
       replace q342:=eq_true q342
       obtain⟨Ao8,co8,eo8⟩:=Kd.R_slice HO_5.out
       subst eo8
       go_wp2_with (first|((with_reducible refine gate_callee (f:=105) rfl ?_);refine goesL_ (some 28) rfl rfl Try.func105 (by kernel_rfl) rfl #[.slice Ao8 x5_1.length co8,.int .i64 x10_1] rfl zq2 ?_;(with_reducible refine(spec_l1Put.calls k1 (fun k_=>some k_= (.slice Ao8 x5_1.length co8:Value).ownBlock) (.slice Ao8 x5_1.length co8) x5_1 x10_1 t343 w _ ?side1 ?side2 A7.out).mono ?_);(case side1=>repeat(first|(with_reducible first|exact HB.out|apply below_alloc|apply pw_below_drewN|apply below_drew1)|exact HB.out));(case side2=>exact Kd.R_tight rfl HO_5.out);rintro e w9 ⟨v344,rfl,ho0,hb,hkp⟩;refine⟨_,rfl,?_⟩;have n0_:=Aside0.mk (Kd.R_mono (ok':=fun k_=>True) ho0 (fun k_ hk_=>trivial));have n1_:=Aside0.mk (hb);clear HB;clear HO_5;have HO345:=n0_;have HB:=n1_;clear n0_ n1_;(try clear hb);(try clear hkp);(try clear ho0)))
       go_roundg k1
       case measure=>have:=HK1.out;omega
       case rel=>exact⟨(t343),(wrap64 (x10_1+1)),(by first|rfl|(simp;done)|(simp [*];done)),H',⟨by have:=HK1.out;omega⟩,⟨by(with_reducible repeat(first|apply Kd.R_alloc|apply Kd.R_drewN|apply Kd.R_drew));exact HO345.out⟩,⟨by repeat(first|(with_reducible first|exact HB.out|apply below_alloc|apply pw_below_drewN|apply below_drew1)|exact HB.out)⟩⟩
      ·rw [if_neg c6] at H
       have c6b0:((rd l0 x10_1)==a1)=false:=beq_eq_false_iff_ne.mpr c6
       have c6b1:((rd l0 x10_1) !=a1)=true:=bne_iff_ne.mpr c6
       by_cases c10: 0≤a1
       ·rw [if_pos c10] at H
        have c10b0:decide (0≤a1)=true:=decide_eq_true c10
        clear c10
        by_cases c11:a1< (l0.length:Int)
        ·rw [if_pos c11] at H
         have c11b0:decide (a1< (l0.length:Int))=true:=decide_eq_true c11
         clear c11
         by_cases c12:(rd l0 a1)=x10_1
         ·rw [if_pos c12] at H
          have c12b0:((rd l0 a1)==x10_1)=true:=beq_iff_eq.mpr c12
          have c12b1:((rd l0 a1) !=x10_1)=false:=bne_eq_false_iff_eq.mpr c12
          clear c12
          replace H:=Option.bind_eq_some_iff.mp H
          obtain⟨t347,A130,H⟩:=H
          replace H:(spec_l10Joined.l0 k1 l0 a1 t347 l0 (l0.length:Int) (wrap64 (x10_1+1)))=some r:=H
          have A13:=Aside0.mk A130
          clear A130
          have H':=Aside0.mk H
          clear H
          have p342: 0≤ (x10_1:Int):=of_decide_eq_true zq1
          have q342:x10_1< (l0.length:Int):=of_decide_eq_true zq1
          obtain⟨ad342,e342,hx342_0⟩:=Kd.at_int HR0.out x10_1 p342 q342
          cases e342
          replace hx342_0:=(HB.out.cell (World.block_lt_of_cell? w _ hx342_0)).trans hx342_0
          replace p342:=eq_true p342
          replace q342:=eq_true q342
          have p346: 0≤ (a1:Int):=of_decide_eq_true zq1
          have q346:a1< (l0.length:Int):=of_decide_eq_true zq1
          obtain⟨ad346,e346,hx346_0⟩:=Kd.at_int HR0.out a1 p346 q346
          obtain rfl:ad342=ad346:=(by injection e346)
          replace hx346_0:=(HB.out.cell (World.block_lt_of_cell? w _ hx346_0)).trans hx346_0
          replace p346:=eq_true p346
          replace q346:=eq_true q346
          obtain⟨Ao14,co14,eo14⟩:=Kd.R_slice HO_5.out
          subst eo14
          go_wp2_with (first|((with_reducible refine gate_callee (f:=105) rfl ?_);refine goesL_ (some 28) rfl rfl Try.func105 (by kernel_rfl) rfl #[.slice Ao14 x5_1.length co14,.int .i64 x10_1] rfl zq2 ?_;(with_reducible refine(spec_l1Put.calls k1 (fun k_=>some k_= (.slice Ao14 x5_1.length co14:Value).ownBlock) (.slice Ao14 x5_1.length co14) x5_1 x10_1 t347 w _ ?side1 ?side2 A13.out).mono ?_);(case side1=>repeat(first|(with_reducible first|exact HB.out|apply below_alloc|apply pw_below_drewN|apply below_drew1)|exact HB.out));(case side2=>exact Kd.R_tight rfl HO_5.out);rintro e w15 ⟨v348,rfl,ho0,hb,hkp⟩;refine⟨_,rfl,?_⟩;have n0_:=Aside0.mk (Kd.R_mono (ok':=fun k_=>True) ho0 (fun k_ hk_=>trivial));have n1_:=Aside0.mk (hb);clear HB;clear HO_5;have HO349:=n0_;have HB:=n1_;clear n0_ n1_;(try clear hb);(try clear hkp);(try clear ho0)))
          go_roundg k1
          case measure=>have:=HK1.out;omega
          case rel=>exact⟨(t347),(wrap64 (x10_1+1)),(by first|rfl|(simp;done)|(simp [*];done)),H',⟨by have:=HK1.out;omega⟩,⟨by(with_reducible repeat(first|apply Kd.R_alloc|apply Kd.R_drewN|apply Kd.R_drew));exact HO349.out⟩,⟨by repeat(first|(with_reducible first|exact HB.out|apply below_alloc|apply pw_below_drewN|apply below_drew1)|exact HB.out)⟩⟩
         ·rw [if_neg c12] at H
          have c12b0:((rd l0 a1)==x10_1)=false:=beq_eq_false_iff_ne.mpr c12
          have c12b1:((rd l0 a1) !=x10_1)=true:=bne_iff_ne.mpr c12
          have H':=Aside0.mk H
          clear H
          have p342: 0≤ (x10_1:Int):=of_decide_eq_true zq1
          have q342:x10_1< (l0.length:Int):=of_decide_eq_true zq1
          obtain⟨ad342,e342,hx342_0⟩:=Kd.at_int HR0.out x10_1 p342 q342
          cases e342
          replace hx342_0:=(HB.out.cell (World.block_lt_of_cell? w _ hx342_0)).trans hx342_0
          replace p342:=eq_true p342
          replace q342:=eq_true q342
          have p346: 0≤ (a1:Int):=of_decide_eq_true zq1
          have q346:a1< (l0.length:Int):=of_decide_eq_true zq1
          obtain⟨ad346,e346,hx346_0⟩:=Kd.at_int HR0.out a1 p346 q346
          obtain rfl:ad342=ad346:=(by injection e346)
          replace hx346_0:=(HB.out.cell (World.block_lt_of_cell? w _ hx346_0)).trans hx346_0
          replace p346:=eq_true p346
          replace q346:=eq_true q346
          go_wp2
          go_roundg k1
          case measure=>have:=HK1.out;omega
          case rel=>exact⟨(x5_1),(wrap64 (x10_1+1)),(by first|rfl|(simp;done)|(simp [*];done)),H',⟨by have:=HK1.out;omega⟩,⟨by(with_reducible repeat(first|apply Kd.R_alloc|apply Kd.R_drewN|apply Kd.R_drew));exact HO_5.out⟩,⟨by repeat(first|(with_reducible first|exact HB.out|apply below_alloc|apply pw_below_drewN|apply below_drew1)|exact HB.out)⟩⟩
        ·rw [if_neg c11] at H
         exact absurd H (by simp)
       ·rw [if_neg c10] at H
        exact absurd H (by simp)
     ·rw [if_neg c5] at H
      exact absurd H (by simp)
    ·rw [if_neg c4] at H
     exact absurd H (by simp)
   ·rw [if_neg c3] at H
    have c3b0:decide (x10_1< (l0.length:Int))=false:=decide_eq_false c3
    clear c3
    obtain rfl:=Option.some.inj H
    go_wp2
    go_ret
    exact⟨_,by first|rfl|(simp [errW_none,errW_some]<;>rfl)|(simp [*,errW_none,errW_some]<;>rfl),by(with_reducible repeat(first|apply Kd.R_alloc|apply Kd.R_drewN|apply Kd.R_drew));exact HO_5.out,by repeat(first|(with_reducible first|exact HB.out|apply below_alloc|apply pw_below_drewN|apply below_drew1)|exact HB.out)⟩
end Go.Proofs.Ytedegfbheihopaa.P

namespace Go.Proofs.Ytedegfbheihopaa.P
open Go.RowKit Go.Proofs.YtedegfbheihopaaW.PrintWords Go.Proofs.YtedegfbheihopaaW.PrintLast Go.Proofs.YtedegfbheihopaaW.PrintMore
attribute [local go_sem] max2_int min2_int max_two min_two max_three min_three max_four min_four   -- for this text's walks alone
set_option linter.unusedVariables false
set_option linter.unusedSimpArgs false
mutual
def spec_l10Spread.l0:Nat→List Int→List (S61)→List (S61)→Option ((List (S61)))
 | 0,_,_,_=>none
 |k+1,x0,x5,x6=>if (x6.length:Int) > 0 then(if 0< (x6.length:Int) then(if 1≤ (x6.length:Int) then((spec_l10Joined.f k x0 ((rd_T61 x6 0).f1)).bind fun t358=>(spec_l10Spread.l1 k x0 x5 (x6.drop (1:Int).toNat) t358 (t358.length:Int) 0 ((rd_T61 x6 0).f0) ((rd_T61 x6 0).f1))) else(none)) else(none)) else(some x5)
def spec_l10Spread.l1:Nat→List Int→List (S61)→List (S61)→List Int→Int→Int→Int→Int→Option ((List (S61)))
 | 0,_,_,_,_,_,_,_,_=>none
 |k+1,x0,x5,x6,x25,x26,x27,x355000,x355001=>if x27<x26 then(if 0≤x27 then(if x27< (x25.length:Int) then(if (rd x25 x27)=x355000 then(spec_l10Spread.l1 k x0 x5 x6 x25 x26 (wrap64 (x27+1)) x355000 x355001) else(if x5.length< 8796093022208 then(if x6.length< 8796093022208 then(spec_l10Spread.l1 k x0 (x5++ [(⟨x355001,rd x25 x27⟩ :S61)]) (x6++ [(⟨x355001,rd x25 x27⟩ :S61)]) x25 x26 (wrap64 (x27+1)) x355000 x355001) else(none)) else(none))) else(none)) else(none)) else(spec_l10Spread.l0 k x0 x5 x6)
end
def spec_l10Spread.f (k:Nat) (l0:List Int) (a1:Int):Option ((List (S61))):=spec_l10Spread.l0 k l0 ([] :List (S61)) (([(⟨(-1),a1⟩ :S61)] :List (S61)))
theorem zb2 {q p q0 q1:Prop} (b:Aside0 q) (b0:Aside0 q0) (b1:Aside0 q1) (h:q→q0→q1→p:=by intro z z0 z1;repeat(first|(with_reducible first|exact z|apply below_alloc|apply pw_below_drewN|apply below_drew1|refine below_set ?_ z0|refine below_set ?_ z1)|exact z)):p:=h b.out b0.out b1.out
set_option maxHeartbeats 8000000 in
set_option maxRecDepth 100000 in
theorem spec_l10Spread.calls (k:Nat) (A0:Option Addr) (c0:Nat) (l0:List Int) (a1:Int) (r:List (S61)) (w:World) (hr0:Kd.C (Kd.int .i64) w A0 l0.length l0) (hc0:l0.length≤c0) (h:spec_l10Spread.f k l0 a1=some r):
  Calls Try.prog 72 #[.slice A0 l0.length c0,.int .i64 a1] w fun e w'=> ∃ v0_:Value,e= .returned (v0_)∧Kd.R k61 61 w' w.heap.size (fun _=>True) v0_ r∧Below w.heap.size w w':=by
 have hu61:=Try.underlying61
 have HR0:=Aside0.mk hr0
 have HC0:=Aside0.mk hc0
 clear hr0 hc0
 have HB:=Aside0.mk (Below.refl w.heap.size w)
 have H:(spec_l10Spread.l0 k l0 ([] :List (S61)) (([(⟨(-1),a1⟩ :S61)] :List (S61))))=some r:=h
 clear h
 obtain⟨y350,hy350⟩ :∃ y_:List (S61),y_= (([(⟨(-1),a1⟩ :S61)] :List (S61))):=⟨_,rfl⟩
 replace H:(spec_l10Spread.l0 k l0 ([] :List (S61)) y350)=some r:=by first|(rw [hy350];with_reducible exact H)|(have H2_:=(Option.bind_some _ _).symm.trans H;rw [hy350];with_reducible exact H2_)|(have H2_:=(Option.bind_some _ _).symm.trans H;with_reducible exact H2_)|with_reducible exact H|(rw [hy350];exact H)|exact H
 have Ny350:=Aside0.mk hy350
 clear hy350
 have H':=Aside0.mk H
 clear H
 go_enter Try.func72,Try.ntmps72
 go_wp2_with (first|((with_reducible refine gate_dst (N:=13) rfl ?_);refine Kd.R_lit k61 _ 61 ?hg (N:=13) ?hd (xs:=([(⟨(-1),a1⟩ :S61)] :List (S61))) (inner:= [.int .i64 (-1),.int .i64 a1]) (ok:=fun _=>True) (okp:=fun _=>True) ?hr ?hp (fun _ hk=>hk) trivial (Below.refl _ _) (Nat.le_refl _) (by simp) ?_;(case hd=>rfl);(case hg=>rfl);(case hr=>first|(go_simp;done)|(go_simp;rfl));(case hp=>exact(Reps.c2 (show Kd.M k61 _ _ _ (⟨(-1),a1⟩ :S61) [.int .i64 (-1),.int .i64 a1] from (k61_mkM _ _ _ (⟨(-1),a1⟩ :S61) )) (Reps.none _ _)));intro v351 w3 ho4 hb hg_ hnew_;clear hg_ hnew_;(first|rw [← Ny350.out] at ho4|(simp only [Int.reduceToNat] at ho4;rw [← Ny350.out] at ho4));have n0_:=Aside0.mk (Kd.R_lower ho4 (below_size (zb0 HB)));have n1_:=Aside0.mk (below_step (zb0 HB) hb);clear HB;have HO352:=n0_;have HB:=n1_;clear n0_ n1_;clear hb ho4))
 go_loopg [5,6] k (fun kq v5 v6 w'=> ∃ (x5_1:List (S61)) (x6_1:List (S61)),Aside0 (spec_l10Spread.l0 kq l0 x5_1 x6_1=some r)∧Aside0 (kq≤k)∧Aside0 (Kd.R k61 61 w' w.heap.size (fun k_=>some k_≠ (v6:Value).ownBlock) v5 x5_1)∧Aside0 (Kd.Q k61 61 w' w.heap.size (fun k_=>some k_≠ (v5:Value).ownBlock) v6 x6_1)∧Aside0 (Below w.heap.size w w'))
 case atStart=>exact⟨(([] :List (S61))),(y350),H',⟨Nat.le_refl _⟩,⟨by first|exact Kd.R_nil _ _ _ _ _|exact Kd.N_nil _ _ _ _ _|exact Kd.V_nil _ _ _ _ _|exact Kd.Q_nil _ _ _ _ _|exact Kd.S_nil _ _ _ _ _⟩,⟨Kd.Q_of_R (by(with_reducible repeat(first|apply Kd.R_alloc|apply Kd.R_drewN|apply Kd.R_drew));exact Kd.R_mono HO352.out (fun _ hk=>(by simp [Value.ownBlock])))⟩,⟨by repeat(first|(with_reducible first|exact HB.out|apply below_alloc|apply pw_below_drewN|apply below_drew1)|exact HB.out)⟩⟩
 case round=>
  clear H'
  try clear c2
  try clear p2
  obtain⟨x5_1,x6_1,HA,HK1,HO_5,HO_6,HB⟩:=hrel
  cases gk with
  |zero=>exact absurd HA.out (by simp [spec_l10Spread.l0])
  |succ k1=>
   have H:=HA.out
   clear HA
   simp only [spec_l10Spread.l0] at H
   by_cases c5:(x6_1.length:Int) > 0
   ·rw [if_pos c5] at H
    have c5b0:decide (0< (x6_1.length:Int))=true:=decide_eq_true c5
    have c5b1:decide (0<x6_1.length)=true:=decide_eq_true (by omega)
    clear c5
    by_cases c6: 0< (x6_1.length:Int)
    ·rw [if_pos c6] at H
     have c6b0:decide (0< (x6_1.length:Int))=true:=decide_eq_true c6
     have c6b1:decide (0<x6_1.length)=true:=decide_eq_true (by omega)
     clear c6
     by_cases c7: 1≤ (x6_1.length:Int)
     ·rw [if_pos c7] at H
      have c7b0:=eq_true c7
      have c7b1:decide (1≤ (x6_1.length:Int))=true:=decide_eq_true c7
      clear c7
      obtain⟨y355,hy355⟩ :∃ y_:List (S61),y_= (x6_1.drop (1:Int).toNat):=⟨_,rfl⟩
      replace H:((spec_l10Joined.f k1 l0 ((rd_T61 x6_1 0).f1)).bind fun t358=>(spec_l10Spread.l1 k1 l0 x5_1 y355 t358 (t358.length:Int) 0 ((rd_T61 x6_1 0).f0) ((rd_T61 x6_1 0).f1)))=some r:=by first|(rw [hy355];with_reducible exact H)|(have H2_:=(Option.bind_some _ _).symm.trans H;rw [hy355];with_reducible exact H2_)|(have H2_:=(Option.bind_some _ _).symm.trans H;with_reducible exact H2_)|with_reducible exact H|(rw [hy355];exact H)|exact H
      have Ny355:=Aside0.mk hy355
      clear hy355
      replace H:=Option.bind_eq_some_iff.mp H
      obtain⟨t358,A80,H⟩:=H
      replace H:(spec_l10Spread.l1 k1 l0 x5_1 y355 t358 (t358.length:Int) 0 ((rd_T61 x6_1 0).f0) ((rd_T61 x6_1 0).f1))=some r:=H
      have A8:=Aside0.mk A80
      clear A80
      have H':=Aside0.mk H
      clear H
      obtain⟨Ao9,co9,eo9,_⟩:=Kd.Q_slice HO_6.out
      subst eo9
      have p353: 0≤ (0:Int):=(by omega)
      have q353: 0< (x6_1.length:Int):=of_decide_eq_true zq1
      obtain⟨ad353,e353,hx353_0,hx353_1⟩:=at_T61 (Kd.Q_reads' HO_6.out).2.2 0 p353 q353
      cases e353
      have qi353:(0<x6_1.length)=True:=eq_true (by omega)
      (try rw [show ((0:Int)).toNat=0 from rfl] at hx353_0)
      (try rw [show 0 * 2=0 from rfl] at hx353_0)
      (try rw [Addr.add_zero'] at hx353_0)
      (try rw [show ((0:Int)).toNat=0 from rfl] at hx353_1)
      (try rw [show 0 * 2=0 from rfl] at hx353_1)
      (try rw [Addr.add_zero'] at hx353_1)
      replace p353:=eq_true p353
      replace q353:=eq_true q353
      go_wp2_with (first|((with_reducible refine gate_dst (N:=7) rfl ?_);refine box_event ?hg (N:=7) ?hd (cs:= #[.int .i64 0,.int .i64 0]) (t:=61) ?hr ?_;(case hd=>rfl);(case hg=>rfl);(case hr=>first|(go_simp;done)|(go_simp;rfl));intro gb354 hg w10 hbox hb;have n0_:=Aside0.mk (Kd.R_below (Kd.R_elderB (zq4 HO_5) gb354 (Nat.le_of_eq hg.symm)) hb);have n1_:=Aside0.mk (Kd.Q_below (Kd.Q_elderB (by(with_reducible repeat(first|apply Kd.Q_alloc|apply Kd.Q_drewN|apply Kd.Q_drew));exact HO_6.out) gb354 (Nat.le_of_eq hg.symm)) hb);have n2_:=Aside0.mk (below_step (zb0 HB) hb);have n3_:=Aside0.mk (hbox);have n4_:=Aside0.mk ((by rw [hg];exact(below_size (zb0 HB)):w.heap.size≤gb354));have n5_:=Aside0.mk ((by rw [hg];exact(below_size (zb0 HB)):w.heap.size≤gb354));clear HO_5;clear HO_6;clear HB;have HO_5:=n0_;have HO_6:=n1_;have HB:=n2_;have BK354:=n3_;have GW354:=n4_;have GE354:=n5_;clear n0_ n1_ n2_ n3_ n4_ n5_;clear hb hbox hg;have hcz11_0:w10.cell? ⟨gb354,0,none⟩=some (.int .i64 0):=(blk_cell BK354.out 0).trans rfl;have hcz11_1:w10.cell? ⟨gb354,1,none⟩=some (.int .i64 0):=(blk_cell BK354.out 1).trans rfl;have hfz11_0:=blk_frozen BK354.out 0;have hfz11_1:=blk_frozen BK354.out 1)|((with_reducible refine gate_store (t:=61) (p:=7) rfl ?_);refine store_event (t:=61) (p:=7) (v:=?vo_w12) (w1:=((w10.setCell ⟨gb354,0,none⟩ (.int .i64 ((rd_T61 x6_1 0).f0))).setCell ⟨gb354,1,none⟩ (.int .i64 ((rd_T61 x6_1 0).f1)))) ?hg ?ho ?hn ?hr ?_;(case ho=>rfl);(case hg=>rfl);(case hn=>rfl);(case hr=>first|(go_simp;done)|(go_simp;rfl));intro w12 hw;have n0_:Aside0 (Kd.R k61 61 w12 w.heap.size (fun k_=>some k_≠ (.slice (some ad353) x6_1.length co9:Value).ownBlock∧k_≠gb354) u5 x5_1):=⟨(by rw [hw];exact(by(with_reducible repeat(first|apply Kd.R_alloc|apply Kd.R_drewN|apply Kd.R_drew));exact Kd.R_mono (Kd.R_far (p:=⟨gb354,1,none⟩) (Kd.R_far (p:=⟨gb354,0,none⟩) (Kd.R_mono HO_5.out (fun k_ hk=>(⟨hk,hk.2⟩ :_∧k_≠gb354))) (fun _ hk=>hk.2) (.int .i64 ((rd_T61 x6_1 0).f0))) (fun _ hk=>hk.2) (.int .i64 ((rd_T61 x6_1 0).f1))) (fun _ hk=>⟨hk.1.1,hk.1.2⟩)))⟩;have n1_:Aside0 (Kd.Q k61 61 w12 w.heap.size (fun k_=>some k_≠ (u5:Value).ownBlock∧k_≠gb354) (.slice (some ad353) x6_1.length co9) x6_1):=⟨(by rw [hw];exact(by(with_reducible repeat(first|apply Kd.Q_alloc|apply Kd.Q_drewN|apply Kd.Q_drew));exact Kd.Q_mono (Kd.Q_far (p:=⟨gb354,1,none⟩) (Kd.Q_far (p:=⟨gb354,0,none⟩) (Kd.Q_mono HO_6.out (fun k_ hk=>(⟨hk,hk.2⟩ :_∧k_≠gb354))) (fun _ hk=>hk.2) (.int .i64 ((rd_T61 x6_1 0).f0))) (fun _ hk=>hk.2) (.int .i64 ((rd_T61 x6_1 0).f1))) (fun _ hk=>⟨hk.1.1,hk.1.2⟩)))⟩;have n2_:Aside0 (w12.heap[gb354]?=some (.cells #[.int .i64 ((rd_T61 x6_1 0).f0),.int .i64 ((rd_T61 x6_1 0).f1)] 61 (0,0))):=⟨(by rw [hw];exact(by(with_reducible repeat(first|refine blk_drewN ?_ _|refine blk_drew ?_ |refine blk_alloc ?_ _));refine blk_put (cs:= #[.int .i64 ((rd_T61 x6_1 0).f0),.int .i64 0]) ?_ 1 _ rfl;(with_reducible repeat(first|refine blk_drewN ?_ _|refine blk_drew ?_ |refine blk_alloc ?_ _));refine blk_put (cs:= #[.int .i64 0,.int .i64 0]) ?_ 0 _ rfl;(with_reducible repeat(first|refine blk_drewN ?_ _|refine blk_drew ?_ |refine blk_alloc ?_ _));exact BK354.out))⟩;have n3_:Aside0 (Below w.heap.size w w12):=⟨(by rw [hw];exact(zb1 HB GE354))⟩;clear hw;clear HO_5;clear HO_6;clear BK354;clear HB;have HO_5:=n0_;have HO_6:=n1_;have BK354:=n2_;have HB:=n3_;clear n0_ n1_ n2_ n3_;have q13:(1:Int)≤ ((x6_1.length:Int):Int):=of_decide_eq_true zq1;obtain⟨i013,hi013,_,hsz13,_⟩:=info_parts info61;have hcut13:=cut_from (P:=Try.prog) 39 61 .i64 Try.underlying39 hi013 2 hsz13 (some ad353) x6_1.length co9 1 (by omega) q13;have hr13:=Kd.Q_drop (k:=(1:Int).toNat) HO_6.out (by omega);obtain⟨A13,hA13⟩ :∃ A1,A1= (if co9= (1:Int).toNat then(some ad353) else((some ad353):Option Addr).map (·.add ((1:Int).toNat * 2))):=⟨_,rfl⟩;obtain⟨c13,hc13⟩ :∃ c1,c1=co9 - (1:Int).toNat:=⟨_,rfl⟩;have hy13:y355.length=x6_1.length - (1:Int).toNat:=(by rw [Ny355.out,List.length_drop]);rw [← Ny355.out] at hr13;rw [← hy13,← hA13,← hc13] at hcut13;replace hr13:Kd.Q k61 61 w12 w.heap.size (fun k_=>some k_≠ (u5:Value).ownBlock∧k_≠gb354) (.slice A13 y355.length c13) y355:=(by rw [hA13,hc13,hy13];exact hr13);have HE13:Aside0 ((Value.slice A13 y355.length c13).ownBlock= (.slice (some ad353) x6_1.length co9:Value).ownBlock):=⟨by rw [hA13];split<;>(cases ((some ad353):Option Addr)<;>rfl)⟩;clear hy13 hi013 hsz13 HO_6 hA13 hc13;have HO357:=Aside0.mk hr13;clear hr13;replace q13:=eq_true q13;have n_:=Aside0.mk (Kd.R_mono (ok':=fun k_=>(some k_≠ (.slice A13 y355.length c13:Value).ownBlock∧k_≠gb354)) HO_5.out (fun k_ hk=>⟨(by rw [HE13.out];exact hk.1),hk.2⟩));clear HO_5;have HO_5:=n_;clear n_;have hcz14_0:w12.cell? ⟨gb354,0,none⟩=some (.int .i64 ((rd_T61 x6_1 0).f0)):=(blk_cell BK354.out 0).trans rfl;have hcz14_1:w12.cell? ⟨gb354,1,none⟩=some (.int .i64 ((rd_T61 x6_1 0).f1)):=(blk_cell BK354.out 1).trans rfl;have hfz14_0:=blk_frozen BK354.out 0;have hfz14_1:=blk_frozen BK354.out 1)|((with_reducible refine gate_callee (f:=94) rfl ?_);refine goesL_ (some 25) rfl rfl Try.func94 (by kernel_rfl) rfl #[.slice A0 l0.length c0,.int .i64 ((rd_T61 x6_1 0).f1)] rfl zq2 ?_;(with_reducible refine(spec_l10Joined.calls k1 _ _ l0 ((rd_T61 x6_1 0).f1) t358 _ ?side1 ?side2 A8.out).mono ?_);(case side1=>repeat(first|exact(Kd.C_below HR0.out HB.out)|(with_reducible refine Kd.C_alloc ?_ _)|(with_reducible refine Kd.C_drewN ?_ _)|(with_reducible refine Kd.C_drew ?_)));(case side2=>exact HC0.out);rintro e w15 ⟨v359,rfl,ho0,hb⟩;refine⟨_,rfl,?_⟩;have n0_:=Aside0.mk (Kd.R_below (zq4 HO_5) hb);have n1_:=Aside0.mk (Kd.Q_below (by(with_reducible repeat(first|apply Kd.Q_alloc|apply Kd.Q_drewN|apply Kd.Q_drew));exact HO357.out) hb);have n2_:=Aside0.mk (Kd.R_lower ho0 (below_size (zb1 HB GE354)));have n3_:=Aside0.mk (blk_below (g:=gb354) (o:= .cells #[.int .i64 ((rd_T61 x6_1 0).f0),.int .i64 ((rd_T61 x6_1 0).f1)] 61 (0,0)) (zq3 BK354) hb);have n4_:=Aside0.mk (below_step (zb1 HB GE354) hb);clear HO_5;clear HO357;clear BK354;clear HB;have HO_5:=n0_;have HO357:=n1_;have HO360:=n2_;have BK354:=n3_;have HB:=n4_;clear n0_ n1_ n2_ n3_ n4_;(try clear hb);(try clear hb2);(try clear hk);(try clear hi);(try clear ho0);obtain⟨Ao16,co16,eo16⟩:=Kd.R_slice HO360.out;subst eo16))
      go_loopg [5,6,27] k1 (fun kq v5 v6 v27 w'=> ∃ (x5_2:List (S61)) (x6_2:List (S61)) (x27_2:Int),v27= .int .i64 x27_2∧Aside0 (spec_l10Spread.l1 kq l0 x5_2 x6_2 t358 (t358.length:Int) x27_2 ((rd_T61 x6_1 0).f0) ((rd_T61 x6_1 0).f1)=some r)∧Aside0 (kq≤k1)∧Aside0 (Kd.R k61 61 w' w.heap.size (fun k_=>some k_≠ (v6:Value).ownBlock∧k_≠gb354) v5 x5_2)∧Aside0 (Kd.Q k61 61 w' w.heap.size (fun k_=>some k_≠ (v5:Value).ownBlock∧k_≠gb354) v6 x6_2)∧Aside0 (Kd.R (Kd.int .i64) 3 w' w.heap.size (fun _=>True) (.slice Ao16 t358.length co16) t358)∧Aside0 (w'.heap[gb354]?=some (.cells #[.int .i64 ((rd_T61 x6_1 0).f0),.int .i64 ((rd_T61 x6_1 0).f1)] 61 (0,0)))∧Aside0 (Below w.heap.size w w'))
      case atStart=>exact⟨(x5_1),(y355),(0),(by first|rfl|(simp;done)|(simp [*];done)),H',⟨Nat.le_refl _⟩,⟨by(with_reducible repeat(first|apply Kd.R_alloc|apply Kd.R_drewN|apply Kd.R_drew));exact HO_5.out⟩,⟨by(with_reducible repeat(first|apply Kd.Q_alloc|apply Kd.Q_drewN|apply Kd.Q_drew));exact HO357.out⟩,⟨by(with_reducible repeat(first|apply Kd.R_alloc|apply Kd.R_drewN|apply Kd.R_drew));exact HO360.out⟩,⟨by(with_reducible repeat(first|refine blk_drewN ?_ _|refine blk_drew ?_ |refine blk_alloc ?_ _));exact BK354.out⟩,⟨by repeat(first|(with_reducible first|exact HB.out|apply below_alloc|apply pw_below_drewN|apply below_drew1|refine below_set ?_ GE354.out)|exact HB.out)⟩⟩
      case round=>
       clear H'
       try clear c1
       try clear q1
       try clear c2
       try clear p2
       try clear p3
       try clear q3
       try clear hx3
       try clear qi3
       try clear c5
       try clear c5b0
       try clear c5b1
       try clear c6
       try clear c6b0
       try clear c6b1
       try clear c7
       try clear c7b0
       try clear c7b1
       try clear c9
       try clear c13
       try clear q13
       try clear hcz11_0
       try clear hcz11_1
       try clear hcz14_0
       try clear hcz14_1
       try clear hfz11_0
       try clear hfz11_1
       try clear hfz14_0
       try clear hfz14_1
       try clear hx353_0
       try clear hx353_1
       try clear p2
       try clear p353
       try clear q13
       try clear q353
       obtain⟨x5_2,x6_2,x27_2,rfl,HA,HK2,HO_5,HO_6,HO_25,BK354,HB⟩:=hrel
       cases gk with
       |zero=>exact absurd HA.out (by simp [spec_l10Spread.l1])
       |succ k2=>
        have H:=HA.out
        clear HA
        simp only [spec_l10Spread.l1] at H
        by_cases c17:x27_2< (t358.length:Int)
        ·rw [if_pos c17] at H
         have c17b0:decide (x27_2< (t358.length:Int))=true:=decide_eq_true c17
         clear c17
         by_cases c18: 0≤x27_2
         ·rw [if_pos c18] at H
          have c18b0:decide (0≤x27_2)=true:=decide_eq_true c18
          clear c18
          by_cases c19:x27_2< (t358.length:Int)
          ·rw [if_pos c19] at H
           have c19b0:decide (x27_2< (t358.length:Int))=true:=decide_eq_true c19
           clear c19
           by_cases c20:(rd t358 x27_2)= ((rd_T61 x6_1 0).f0)
           ·rw [if_pos c20] at H
            have c20b0:((rd t358 x27_2)== ((rd_T61 x6_1 0).f0))=true:=beq_iff_eq.mpr c20
            have c20b1:((rd t358 x27_2) != ((rd_T61 x6_1 0).f0))=false:=bne_eq_false_iff_eq.mpr c20
            clear c20
            have H':=Aside0.mk H
            clear H
            have p361: 0≤ (x27_2:Int):=of_decide_eq_true zq1
            have q361:x27_2< (t358.length:Int):=of_decide_eq_true zq1
            obtain⟨ad361,e361,hx361_0⟩:=Kd.at_int (Kd.R_reads' HO_25.out).2.2 x27_2 p361 q361
            cases e361
            replace p361:=eq_true p361
            replace q361:=eq_true q361
            have hcz21_0:wr.cell? ⟨gb354,0,none⟩=some (.int .i64 ((rd_T61 x6_1 0).f0)):=(blk_cell BK354.out 0).trans rfl
            have hcz21_1:wr.cell? ⟨gb354,1,none⟩=some (.int .i64 ((rd_T61 x6_1 0).f1)):=(blk_cell BK354.out 1).trans rfl
            have hfz21_0:=blk_frozen BK354.out 0
            have hfz21_1:=blk_frozen BK354.out 1
            go_wp2
            go_roundg k2
            case measure=>have:=HK1.out;have:=HK2.out;omega
            case rel=>exact⟨(x5_2),(x6_2),(wrap64 (x27_2+1)),(by first|rfl|(simp;done)|(simp [*];done)),H',⟨by have:=HK1.out;have:=HK2.out;omega⟩,⟨by(with_reducible repeat(first|apply Kd.R_alloc|apply Kd.R_drewN|apply Kd.R_drew));exact HO_5.out⟩,⟨by(with_reducible repeat(first|apply Kd.Q_alloc|apply Kd.Q_drewN|apply Kd.Q_drew));exact HO_6.out⟩,⟨by(with_reducible repeat(first|apply Kd.R_alloc|apply Kd.R_drewN|apply Kd.R_drew));exact HO_25.out⟩,⟨by(with_reducible repeat(first|refine blk_drewN ?_ _|refine blk_drew ?_ |refine blk_alloc ?_ _));exact BK354.out⟩,⟨by repeat(first|(with_reducible first|exact HB.out|apply below_alloc|apply pw_below_drewN|apply below_drew1|refine below_set ?_ GE354.out)|exact HB.out)⟩⟩
           ·rw [if_neg c20] at H
            have c20b0:((rd t358 x27_2)== ((rd_T61 x6_1 0).f0))=false:=beq_eq_false_iff_ne.mpr c20
            have c20b1:((rd t358 x27_2) != ((rd_T61 x6_1 0).f0))=true:=bne_iff_ne.mpr c20
            by_cases c22:x5_2.length< 8796093022208
            ·rw [if_pos c22] at H
             have LMc22:=Aside0.mk c22
             clear c22
             obtain⟨y363,hy363⟩ :∃ y_:List (S61),y_= (x5_2++ [(⟨((rd_T61 x6_1 0).f1),rd t358 x27_2⟩ :S61)]):=⟨_,rfl⟩
             replace H:(if x6_2.length< 8796093022208 then(spec_l10Spread.l1 k2 l0 y363 (x6_2++ [(⟨((rd_T61 x6_1 0).f1),rd t358 x27_2⟩ :S61)]) t358 (t358.length:Int) (wrap64 (x27_2+1)) ((rd_T61 x6_1 0).f0) ((rd_T61 x6_1 0).f1)) else(none))=some r:=by first|(rw [hy363];with_reducible exact H)|(have H2_:=(Option.bind_some _ _).symm.trans H;rw [hy363];with_reducible exact H2_)|(have H2_:=(Option.bind_some _ _).symm.trans H;with_reducible exact H2_)|with_reducible exact H|(rw [hy363];exact H)|exact H
             have Ny363:=Aside0.mk hy363
             clear hy363
             by_cases c23:x6_2.length< 8796093022208
             ·rw [if_pos c23] at H
              have LMc23:=Aside0.mk c23
              clear c23
              obtain⟨y366,hy366⟩ :∃ y_:List (S61),y_= (x6_2++ [(⟨((rd_T61 x6_1 0).f1),rd t358 x27_2⟩ :S61)]):=⟨_,rfl⟩
              replace H:(spec_l10Spread.l1 k2 l0 y363 y366 t358 (t358.length:Int) (wrap64 (x27_2+1)) ((rd_T61 x6_1 0).f0) ((rd_T61 x6_1 0).f1))=some r:=by first|(rw [hy366];with_reducible exact H)|(have H2_:=(Option.bind_some _ _).symm.trans H;rw [hy366];with_reducible exact H2_)|(have H2_:=(Option.bind_some _ _).symm.trans H;with_reducible exact H2_)|with_reducible exact H|(rw [hy366];exact H)|exact H
              have Ny366:=Aside0.mk hy366
              clear hy366
              have H':=Aside0.mk H
              clear H
              have p361: 0≤ (x27_2:Int):=of_decide_eq_true zq1
              have q361:x27_2< (t358.length:Int):=of_decide_eq_true zq1
              obtain⟨ad361,e361,hx361_0⟩:=Kd.at_int (Kd.R_reads' HO_25.out).2.2 x27_2 p361 q361
              cases e361
              replace p361:=eq_true p361
              replace q361:=eq_true q361
              have hcz24_0:wr.cell? ⟨gb354,0,none⟩=some (.int .i64 ((rd_T61 x6_1 0).f0)):=(blk_cell BK354.out 0).trans rfl
              have hcz24_1:wr.cell? ⟨gb354,1,none⟩=some (.int .i64 ((rd_T61 x6_1 0).f1)):=(blk_cell BK354.out 1).trans rfl
              have hfz24_0:=blk_frozen BK354.out 0
              have hfz24_1:=blk_frozen BK354.out 1
              go_wp2_with (first|((with_reducible refine gate_dst (N:=10) rfl ?_);refine box_event ?hg (N:=10) ?hd (cs:= #[.int .i64 0,.int .i64 0]) (t:=61) ?hr ?_;(case hd=>rfl);(case hg=>rfl);(case hr=>first|(go_simp;done)|(go_simp;rfl));intro gb362 hg w25 hbox hb;have n0_:=Aside0.mk (Kd.R_below (Kd.R_elderB (zq4 HO_5) gb362 (Nat.le_of_eq hg.symm)) hb);have n1_:=Aside0.mk (Kd.Q_below (Kd.Q_elderB (by(with_reducible repeat(first|apply Kd.Q_alloc|apply Kd.Q_drewN|apply Kd.Q_drew));exact HO_6.out) gb362 (Nat.le_of_eq hg.symm)) hb);have n2_:=Aside0.mk (Kd.R_below (zq4 HO_25) hb);have n3_:=Aside0.mk (blk_below (g:=gb354) (o:= .cells #[.int .i64 ((rd_T61 x6_1 0).f0),.int .i64 ((rd_T61 x6_1 0).f1)] 61 (0,0)) (zq3 BK354) hb);have n4_:=Aside0.mk (below_step (zb1 HB GE354) hb);have n5_:=Aside0.mk (hbox);have n6_:=Aside0.mk ((by rw [hg];exact(below_size (zb1 HB GE354)):w.heap.size≤gb362));have n7_:=Aside0.mk ((by rw [hg];exact(below_size (zb1 HB GE354)):w.heap.size≤gb362));have n8_:=Aside0.mk ((by rw [hg];exact Nat.ne_of_lt (blk_lt (g:=gb354) (o:= .cells #[.int .i64 ((rd_T61 x6_1 0).f0),.int .i64 ((rd_T61 x6_1 0).f1)] 61 (0,0)) (zq3 BK354)):gb354≠gb362));have n9_:=Aside0.mk ((by rw [hg];exact Nat.ne_of_gt (blk_lt (g:=gb354) (o:= .cells #[.int .i64 ((rd_T61 x6_1 0).f0),.int .i64 ((rd_T61 x6_1 0).f1)] 61 (0,0)) (zq3 BK354)):gb362≠gb354));clear HO_5;clear HO_6;clear HO_25;clear BK354;clear HB;have HO_5:=n0_;have HO_6:=n1_;have HO_25:=n2_;have BK354:=n3_;have HB:=n4_;have BK362:=n5_;have GW362:=n6_;have GE362:=n7_;have NB354_362:=n8_;have NB362_354:=n9_;clear n0_ n1_ n2_ n3_ n4_ n5_ n6_ n7_ n8_ n9_;clear hb hbox hg;have hnb26:=NB362_354.out;have hnc26:=NB354_362.out;have hcz27_0:w25.cell? ⟨gb362,0,none⟩=some (.int .i64 0):=(blk_cell BK362.out 0).trans rfl;have hcz27_1:w25.cell? ⟨gb362,1,none⟩=some (.int .i64 0):=(blk_cell BK362.out 1).trans rfl;have hfz27_0:=blk_frozen BK362.out 0;have hfz27_1:=blk_frozen BK362.out 1)|((with_reducible refine gate_builtin (b:= .append) (xs:= #[.tmp 39,.tmp 41]) rfl ?_);at_builtin;refine Kd.R_append k61 (w0:=w) w.heap.size rfl (.tmp 39) (.tmp 41) 39 61 (.agg #[(.int .i64 0),(.int .i64 0)]) 16 rfl Try.underlying39 info61 rfl (by decide) (by omega) u5 x5_2 (⟨((rd_T61 x6_1 0).f1),rd t358 x27_2⟩ :S61) [.int .i64 ((rd_T61 x6_1 0).f1),.int .i64 (rd t358 x27_2)] (fun k_=>some k_≠ (u6:Value).ownBlock∧k_≠gb354∧k_≠gb362) (fun _=>False) rfl (by first|(go_simp;done)|(go_simp;rfl)) ?aP (fun _ hk=>hk.elim) ?aF ?aO ?aB ?aS ?aL ?_;(case aP=>exact k61_mkM _ _ _ (⟨((rd_T61 x6_1 0).f1),rd t358 x27_2⟩ :S61));(case aB=>exact(zb2 HB GE354 GE362));(case aF=>exact(fun k_ hk=>⟨Kd.fresh' (Kd.Q_lt (by(with_reducible repeat(first|apply Kd.Q_alloc|apply Kd.Q_drewN|apply Kd.Q_drew));exact(Kd.Q_mono (Kd.Q_far (p:=⟨gb362,1,none⟩) (Kd.Q_far (p:=⟨gb362,0,none⟩) (Kd.Q_mono HO_6.out (fun k_ hk=>(⟨hk,hk.2⟩ :_∧k_≠gb362))) (fun _ hk=>hk.2) (.int .i64 ((rd_T61 x6_1 0).f1))) (fun _ hk=>hk.2) (.int .i64 (rd t358 x27_2))) (fun _ h_=>h_.1)))) k_ hk,Kd.freshB (g:=gb354) (o:= .cells #[.int .i64 ((rd_T61 x6_1 0).f0),.int .i64 ((rd_T61 x6_1 0).f1)] 61 (0,0)) (by(with_reducible repeat(first|refine blk_drewN ?_ _|refine blk_drew ?_ |refine blk_alloc ?_ _));refine blk_far ?_ NB354_362.out _;(with_reducible repeat(first|refine blk_drewN ?_ _|refine blk_drew ?_ |refine blk_alloc ?_ _));refine blk_far ?_ NB354_362.out _;(with_reducible repeat(first|refine blk_drewN ?_ _|refine blk_drew ?_ |refine blk_alloc ?_ _));exact BK354.out) k_ hk,Kd.freshB (g:=gb362) (o:= .cells #[.int .i64 ((rd_T61 x6_1 0).f1),.int .i64 (rd t358 x27_2)] 61 (0,0)) (by(with_reducible repeat(first|refine blk_drewN ?_ _|refine blk_drew ?_ |refine blk_alloc ?_ _));refine blk_put (cs:= #[.int .i64 ((rd_T61 x6_1 0).f1),.int .i64 0]) ?_ 1 _ rfl;(with_reducible repeat(first|refine blk_drewN ?_ _|refine blk_drew ?_ |refine blk_alloc ?_ _));refine blk_put (cs:= #[.int .i64 0,.int .i64 0]) ?_ 0 _ rfl;(with_reducible repeat(first|refine blk_drewN ?_ _|refine blk_drew ?_ |refine blk_alloc ?_ _));exact BK362.out) k_ hk⟩));(case aO=>exact(by(with_reducible repeat(first|apply Kd.R_alloc|apply Kd.R_drewN|apply Kd.R_drew));exact Kd.R_mono (Kd.R_far (p:=⟨gb362,1,none⟩) (Kd.R_far (p:=⟨gb362,0,none⟩) (Kd.R_mono HO_5.out (fun k_ hk=>(⟨hk,hk.2⟩ :_∧k_≠gb362))) (fun _ hk=>hk.2) (.int .i64 ((rd_T61 x6_1 0).f1))) (fun _ hk=>hk.2) (.int .i64 (rd t358 x27_2))) (fun _ hk=>⟨hk.1.1.1,⟨hk.1.1.2,hk.1.2⟩⟩)));(case aS=>exact(below_size (zb2 HB GE354 GE362)));(case aL=>have:=LMc22.out;omega);intro v364 w28 ho hb hg hat;rw [← Ny363.out] at ho;have n0_:=Aside0.mk (Kd.Q_after (ok:=(fun k_=>k_≠gb354∧k_≠gb362)) (by(with_reducible repeat(first|apply Kd.Q_alloc|apply Kd.Q_drewN|apply Kd.Q_drew));exact Kd.Q_mono (Kd.Q_far (p:=⟨gb362,1,none⟩) (Kd.Q_far (p:=⟨gb362,0,none⟩) (Kd.Q_mono HO_6.out (fun k_ hk=>(⟨hk,hk.2⟩ :_∧k_≠gb362))) (fun _ hk=>hk.2) (.int .i64 ((rd_T61 x6_1 0).f1))) (fun _ hk=>hk.2) (.int .i64 (rd t358 x27_2))) (fun _ hk=>⟨⟨hk.1.1.2,hk.1.2⟩,hk.1.1.1⟩)) hg hat);have n1_:=Aside0.mk (Kd.R_over' (by(with_reducible repeat(first|apply Kd.R_alloc|apply Kd.R_drewN|apply Kd.R_drew));exact(Kd.R_mono (Kd.R_far (p:=⟨gb362,1,none⟩) (Kd.R_far (p:=⟨gb362,0,none⟩) (Kd.R_types HO_25.out BK362.out (by decide)) (fun _ hk=>hk.2) (.int .i64 ((rd_T61 x6_1 0).f1))) (fun _ hk=>hk.2) (.int .i64 (rd t358 x27_2))) (fun _ h_=>h_.1))) (Kd.R_typed (by(with_reducible repeat(first|apply Kd.R_alloc|apply Kd.R_drewN|apply Kd.R_drew));exact(Kd.R_mono (Kd.R_far (p:=⟨gb362,1,none⟩) (Kd.R_far (p:=⟨gb362,0,none⟩) (Kd.R_mono HO_5.out (fun k_ hk=>(⟨hk,hk.2⟩ :_∧k_≠gb362))) (fun _ hk=>hk.2) (.int .i64 ((rd_T61 x6_1 0).f1))) (fun _ hk=>hk.2) (.int .i64 (rd t358 x27_2))) (fun _ h_=>h_.1)))) (by decide) hg);have n2_:=Aside0.mk (blk_grown (g:=gb354) (o:= .cells #[.int .i64 ((rd_T61 x6_1 0).f0),.int .i64 ((rd_T61 x6_1 0).f1)] 61 (0,0)) (by(with_reducible repeat(first|refine blk_drewN ?_ _|refine blk_drew ?_ |refine blk_alloc ?_ _));refine blk_far ?_ NB354_362.out _;(with_reducible repeat(first|refine blk_drewN ?_ _|refine blk_drew ?_ |refine blk_alloc ?_ _));refine blk_far ?_ NB354_362.out _;(with_reducible repeat(first|refine blk_drewN ?_ _|refine blk_drew ?_ |refine blk_alloc ?_ _));exact BK354.out) hg (Kd.R_away HO_5.out (fun _ hk=>hk.1.2)));have n3_:=Aside0.mk (blk_grown (g:=gb362) (o:= .cells #[.int .i64 ((rd_T61 x6_1 0).f1),.int .i64 (rd t358 x27_2)] 61 (0,0)) (by(with_reducible repeat(first|refine blk_drewN ?_ _|refine blk_drew ?_ |refine blk_alloc ?_ _));refine blk_put (cs:= #[.int .i64 ((rd_T61 x6_1 0).f1),.int .i64 0]) ?_ 1 _ rfl;(with_reducible repeat(first|refine blk_drewN ?_ _|refine blk_drew ?_ |refine blk_alloc ?_ _));refine blk_put (cs:= #[.int .i64 0,.int .i64 0]) ?_ 0 _ rfl;(with_reducible repeat(first|refine blk_drewN ?_ _|refine blk_drew ?_ |refine blk_alloc ?_ _));exact BK362.out) hg (Kd.R_away HO_5.out (fun _ hk=>hk.2)));have n4_:=Aside0.mk (hb);have n5_:=Aside0.mk (ho);clear HO_6;clear HO_25;clear BK354;clear BK362;clear HB;clear HO_5;have HO_6:=n0_;have HO_25:=n1_;have BK354:=n2_;have BK362:=n3_;have HB:=n4_;have HO365:=n5_;clear n0_ n1_ n2_ n3_ n4_ n5_;clear ho hb hg hat;have hcz29_0:w28.cell? ⟨gb362,0,none⟩=some (.int .i64 ((rd_T61 x6_1 0).f1)):=(blk_cell BK362.out 0).trans rfl;have hcz29_1:w28.cell? ⟨gb362,1,none⟩=some (.int .i64 (rd t358 x27_2)):=(blk_cell BK362.out 1).trans rfl;have hfz29_0:=blk_frozen BK362.out 0;have hfz29_1:=blk_frozen BK362.out 1)|((with_reducible refine gate_builtin (b:= .append) (xs:= #[.tmp 43,.tmp 45]) rfl ?_);at_builtin;refine Kd.Q_append k61 (w0:=w) w.heap.size rfl (.tmp 43) (.tmp 45) 39 61 (.agg #[(.int .i64 0),(.int .i64 0)]) 16 rfl Try.underlying39 info61 rfl (by decide) (by omega) u6 x6_2 (⟨((rd_T61 x6_1 0).f1),rd t358 x27_2⟩ :S61) [.int .i64 ((rd_T61 x6_1 0).f1),.int .i64 (rd t358 x27_2)] (fun k_=>some k_≠ (v364:Value).ownBlock∧k_≠gb354∧k_≠gb362) (fun _=>False) rfl rfl ?aP (fun _ hk=>hk.elim) ?aF ?aO ?aB ?aS ?aL ?_;(case aP=>exact k61_mkM _ _ _ (⟨((rd_T61 x6_1 0).f1),rd t358 x27_2⟩ :S61));(case aB=>exact(zb2 HB GE354 GE362));(case aF=>exact(fun k_ hk=>⟨Kd.fresh' (Kd.R_lt (zq4 HO365)) k_ hk,Kd.freshB (g:=gb354) (o:= .cells #[.int .i64 ((rd_T61 x6_1 0).f0),.int .i64 ((rd_T61 x6_1 0).f1)] 61 (0,0)) (zq3 BK354) k_ hk,Kd.freshB (g:=gb362) (o:= .cells #[.int .i64 ((rd_T61 x6_1 0).f1),.int .i64 (rd t358 x27_2)] 61 (0,0)) (zq3 BK362) k_ hk⟩));(case aO=>exact(by(with_reducible repeat(first|apply Kd.Q_alloc|apply Kd.Q_drewN|apply Kd.Q_drew));exact Kd.Q_mono HO_6.out (fun _ hk=>⟨hk.2,⟨hk.1.1,hk.1.2⟩⟩)));(case aS=>exact(below_size (zb2 HB GE354 GE362)));(case aL=>have:=LMc23.out;omega);intro v367 w30 ho hb hg hat;rw [← Ny366.out] at ho;have n0_:=Aside0.mk (Kd.R_over' (zq4 HO_25) (Kd.Q_typed (by(with_reducible repeat(first|apply Kd.Q_alloc|apply Kd.Q_drewN|apply Kd.Q_drew));exact HO_6.out)) (by decide) hg);have n1_:=Aside0.mk (blk_grown (g:=gb354) (o:= .cells #[.int .i64 ((rd_T61 x6_1 0).f0),.int .i64 ((rd_T61 x6_1 0).f1)] 61 (0,0)) (zq3 BK354) hg (Kd.Q_away HO_6.out (fun _ hk=>hk.1.1)));have n2_:=Aside0.mk (blk_grown (g:=gb362) (o:= .cells #[.int .i64 ((rd_T61 x6_1 0).f1),.int .i64 (rd t358 x27_2)] 61 (0,0)) (zq3 BK362) hg (Kd.Q_away HO_6.out (fun _ hk=>hk.1.2)));have n3_:=Aside0.mk (Kd.R_after (ok:=(fun k_=>k_≠gb354∧k_≠gb362)) (by(with_reducible repeat(first|apply Kd.R_alloc|apply Kd.R_drewN|apply Kd.R_drew));exact Kd.R_mono HO365.out (fun _ hk=>⟨⟨hk.2.1,hk.2.2⟩,hk.1⟩)) hg hat);have n4_:=Aside0.mk (hb);have n5_:=Aside0.mk (ho);clear HO_25;clear BK354;clear BK362;clear HO365;clear HB;clear HO_6;have HO_25:=n0_;have BK354:=n1_;have BK362:=n2_;have HO365:=n3_;have HB:=n4_;have HO368:=n5_;clear n0_ n1_ n2_ n3_ n4_ n5_;clear ho hb hg hat))
              go_roundg k2
              case measure=>have:=HK1.out;have:=HK2.out;omega
              case rel=>exact⟨(y363),(y366),(wrap64 (x27_2+1)),(by first|rfl|(simp;done)|(simp [*];done)),H',⟨by have:=HK1.out;have:=HK2.out;omega⟩,⟨by(with_reducible repeat(first|apply Kd.R_alloc|apply Kd.R_drewN|apply Kd.R_drew));exact Kd.R_mono HO365.out (fun _ hk=>⟨hk.2,hk.1.1⟩)⟩,⟨by(with_reducible repeat(first|apply Kd.Q_alloc|apply Kd.Q_drewN|apply Kd.Q_drew));exact Kd.Q_mono HO368.out (fun _ hk=>⟨hk.1,hk.2.1⟩)⟩,⟨by(with_reducible repeat(first|apply Kd.R_alloc|apply Kd.R_drewN|apply Kd.R_drew));exact HO_25.out⟩,⟨by(with_reducible repeat(first|refine blk_drewN ?_ _|refine blk_drew ?_ |refine blk_alloc ?_ _));exact BK354.out⟩,⟨by repeat(first|(with_reducible first|exact HB.out|apply below_alloc|apply pw_below_drewN|apply below_drew1|refine below_set ?_ GE354.out|refine below_set ?_ GE362.out)|exact HB.out)⟩⟩
             ·rw [if_neg c23] at H
              exact absurd H (by simp)
            ·rw [if_neg c22] at H
             exact absurd H (by simp)
          ·rw [if_neg c19] at H
           exact absurd H (by simp)
         ·rw [if_neg c18] at H
          exact absurd H (by simp)
        ·rw [if_neg c17] at H
         have c17b0:decide (x27_2< (t358.length:Int))=false:=decide_eq_false c17
         clear c17
         have H':=Aside0.mk H
         clear H
         go_wp2
         go_roundg k2
         case measure=>have:=HK1.out;have:=HK2.out;omega
         case rel=>exact⟨(x5_2),(x6_2),H',⟨by have:=HK1.out;have:=HK2.out;omega⟩,⟨by(with_reducible repeat(first|apply Kd.R_alloc|apply Kd.R_drewN|apply Kd.R_drew));exact Kd.R_mono HO_5.out (fun _ hk=>hk.1)⟩,⟨by(with_reducible repeat(first|apply Kd.Q_alloc|apply Kd.Q_drewN|apply Kd.Q_drew));exact Kd.Q_mono HO_6.out (fun _ hk=>hk.1)⟩,⟨by repeat(first|(with_reducible first|exact HB.out|apply below_alloc|apply pw_below_drewN|apply below_drew1|refine below_set ?_ GE354.out)|exact HB.out)⟩⟩
     ·rw [if_neg c7] at H
      exact absurd H (by simp)
    ·rw [if_neg c6] at H
     exact absurd H (by simp)
   ·rw [if_neg c5] at H
    have c5b0:decide (0< (x6_1.length:Int))=false:=decide_eq_false c5
    have c5b1:decide (0<x6_1.length)=false:=decide_eq_false (by omega)
    clear c5
    obtain rfl:=Option.some.inj H
    obtain⟨Ao31,co31,eo31,_⟩:=Kd.Q_slice HO_6.out
    subst eo31
    go_wp2
    go_ret
    exact⟨_,by first|rfl|(simp [errW_none,errW_some]<;>rfl)|(simp [*,errW_none,errW_some]<;>rfl),by(with_reducible repeat(first|apply Kd.R_alloc|apply Kd.R_drewN|apply Kd.R_drew));exact Kd.R_mono HO_5.out (fun _ hk=>trivial),by repeat(first|(with_reducible first|exact HB.out|apply below_alloc|apply pw_below_drewN|apply below_drew1)|exact HB.out)⟩
def spec_SpreadOn.f (k:Nat) (l0:List Int) (a1:Int):Option ((List (S61)) × Bool):=(spec_l10Two.f k l0 a1 a1).bind fun t369=>(if t369=true then((spec_l10Spread.f k l0 a1).bind fun t370=>(some (t370,true))) else(some (([] :List (S61)),false)))
set_option maxHeartbeats 8000000 in
set_option maxRecDepth 100000 in
theorem spec_SpreadOn.calls (k:Nat) (A0:Option Addr) (c0:Nat) (l0:List Int) (a1:Int) (r1:List (S61)) (r2:Bool) (w:World) (hr0:Kd.C (Kd.int .i64) w A0 l0.length l0) (hc0:l0.length≤c0) (h:spec_SpreadOn.f k l0 a1=some (r1,r2)):
  Calls Try.prog 28 #[.slice A0 l0.length c0,.int .i64 a1] w fun e w'=> ∃ v0_:Value,e= .returned (.tuple #[v0_,.bool r2])∧Kd.R k61 61 w' w.heap.size (fun _=>True) v0_ r1∧Below w.heap.size w w':=by
 have HR0:=Aside0.mk hr0
 have HC0:=Aside0.mk hc0
 clear hr0 hc0
 have HB:=Aside0.mk (Below.refl w.heap.size w)
 have H:((spec_l10Two.f k l0 a1 a1).bind fun t369=>(if t369=true then((spec_l10Spread.f k l0 a1).bind fun t370=>(some (t370,true))) else(some (([] :List (S61)),false))))=some (r1,r2):=h
 clear h
 replace H:=Option.bind_eq_some_iff.mp H
 obtain⟨t369,A30,H⟩:=H
 replace H:(if t369=true then((spec_l10Spread.f k l0 a1).bind fun t370=>(some (t370,true))) else(some (([] :List (S61)),false)))=some (r1,r2):=H
 have A3:=Aside0.mk A30
 clear A30
 by_cases c4:t369=true
 ·subst c4
  have H1:((spec_l10Spread.f k l0 a1).bind fun t370=>(some (t370,true)))=some (r1,r2):=by rw [if_pos rfl] at H;exact H
  clear H
  have H:=H1
  clear H1
  replace H:=Option.bind_eq_some_iff.mp H
  obtain⟨t370,A50,H⟩:=H
  replace H:(some (t370,true))=some (r1,r2):=H
  have A5:=Aside0.mk A50
  clear A50
  simp only [Option.some.injEq,Prod.mk.injEq] at H
  obtain⟨rfl,rfl⟩:=H
  go_enter Try.func28,Try.ntmps28
  go_wp2_with (first|((with_reducible refine gate_callee (f:=62) rfl ?_);refine goesL_ (some 9) rfl rfl Try.func62 (by kernel_rfl) rfl #[.slice A0 l0.length c0,.int .i64 a1,.int .i64 a1] rfl zq2 ?_;(with_reducible refine(spec_l10Two.calls k _ _ l0 a1 a1 true _ ?side1 ?side2 A3.out).mono ?_);(case side1=>repeat(first|exact HR0.out|(with_reducible refine Kd.C_alloc ?_ _)|(with_reducible refine Kd.C_drewN ?_ _)|(with_reducible refine Kd.C_drew ?_)));(case side2=>exact HC0.out);rintro e w' ⟨rfl,⟨nd,rfl⟩⟩;refine⟨_,rfl,?_⟩)|((with_reducible refine gate_callee (f:=72) rfl ?_);refine goesL_ (some 13) rfl rfl Try.func72 (by kernel_rfl) rfl #[.slice A0 l0.length c0,.int .i64 a1] rfl zq2 ?_;(with_reducible refine(spec_l10Spread.calls k _ _ l0 a1 t370 _ ?side1 ?side2 A5.out).mono ?_);(case side1=>repeat(first|exact HR0.out|(with_reducible refine Kd.C_alloc ?_ _)|(with_reducible refine Kd.C_drewN ?_ _)|(with_reducible refine Kd.C_drew ?_)));(case side2=>exact HC0.out);rintro e w6 ⟨v371,rfl,ho0,hb⟩;refine⟨_,rfl,?_⟩;have n0_:=Aside0.mk (Kd.R_lower ho0 (below_size (zb0 HB)));have n1_:=Aside0.mk (below_step (zb0 HB) hb);clear HB;have HO372:=n0_;have HB:=n1_;clear n0_ n1_;(try clear hb);(try clear hb2);(try clear hk);(try clear hi);(try clear ho0)))
  go_ret2
  exact⟨_,by first|rfl|(simp [errW_none,errW_some]<;>rfl)|(simp [*,errW_none,errW_some]<;>rfl),by(with_reducible repeat(first|apply Kd.R_alloc|apply Kd.R_drewN|apply Kd.R_drew));exact HO372.out,by repeat(first|(with_reducible first|exact HB.out|apply below_alloc|apply pw_below_drewN|apply below_drew1)|exact HB.out)⟩
 ·replace c4:=Bool.eq_false_iff.mpr c4
  subst c4
  have H1:(some (([] :List (S61)),false))=some (r1,r2):=by rw [if_neg (show ¬ (false=true) by decide)] at H;exact H
  clear H
  have H:=H1
  clear H1
  simp only [Option.some.injEq,Prod.mk.injEq] at H
  obtain⟨rfl,rfl⟩:=H
  go_enter Try.func28,Try.ntmps28
  go_wp2_with (first|((with_reducible refine gate_callee (f:=62) rfl ?_);refine goesL_ (some 9) rfl rfl Try.func62 (by kernel_rfl) rfl #[.slice A0 l0.length c0,.int .i64 a1,.int .i64 a1] rfl zq2 ?_;(with_reducible refine(spec_l10Two.calls k _ _ l0 a1 a1 false _ ?side1 ?side2 A3.out).mono ?_);(case side1=>repeat(first|exact HR0.out|(with_reducible refine Kd.C_alloc ?_ _)|(with_reducible refine Kd.C_drewN ?_ _)|(with_reducible refine Kd.C_drew ?_)));(case side2=>exact HC0.out);rintro e w' ⟨rfl,⟨nd,rfl⟩⟩;refine⟨_,rfl,?_⟩))
  go_ret2
  exact⟨_,by first|rfl|(simp [errW_none,errW_some]<;>rfl)|(simp [*,errW_none,errW_some]<;>rfl),by first|exact Kd.R_nil _ _ _ _ _|exact Kd.N_nil _ _ _ _ _|exact Kd.V_nil _ _ _ _ _|exact Kd.Q_nil _ _ _ _ _|exact Kd.S_nil _ _ _ _ _,by repeat(first|(with_reducible first|exact HB.out|apply below_alloc|apply pw_below_drewN|apply below_drew1)|exact HB.out)⟩
def impl_SpreadOn.f (k:Nat) (l0:List Int) (a1:Int):Option ((List (S61)) × Bool):=(impl_goodTree.f k l0 (([a1] :List Int))).bind fun t376=>(if t376=true then((impl_spread.f k l0 a1).bind fun t377=>(some (t377,true))) else(some (([] :List (S61)),false)))
set_option maxHeartbeats 8000000 in
set_option maxRecDepth 100000 in
theorem impl_SpreadOn.calls (k:Nat) (A0:Option Addr) (c0:Nat) (l0:List Int) (a1:Int) (r1:List (S61)) (r2:Bool) (w:World) (hr0:Kd.C (Kd.int .i64) w A0 l0.length l0) (hc0:l0.length≤c0) (h:impl_SpreadOn.f k l0 a1=some (r1,r2)):
  Calls Try.prog 29 #[.slice A0 l0.length c0,.int .i64 a1] w fun e w'=> ∃ v0_:Value,e= .returned (.tuple #[v0_,.bool r2])∧Kd.R k61 61 w' w.heap.size (fun _=>True) v0_ r1∧Below w.heap.size w w':=by
 have HR0:=Aside0.mk hr0
 have HC0:=Aside0.mk hc0
 clear hr0 hc0
 have HB:=Aside0.mk (Below.refl w.heap.size w)
 have H:((impl_goodTree.f k l0 (([a1] :List Int))).bind fun t376=>(if t376=true then((impl_spread.f k l0 a1).bind fun t377=>(some (t377,true))) else(some (([] :List (S61)),false))))=some (r1,r2):=h
 clear h
 obtain⟨y373,hy373⟩ :∃ y_:List Int,y_= (([a1] :List Int)):=⟨_,rfl⟩
 replace H:((impl_goodTree.f k l0 y373).bind fun t376=>(if t376=true then((impl_spread.f k l0 a1).bind fun t377=>(some (t377,true))) else(some (([] :List (S61)),false))))=some (r1,r2):=by first|(rw [hy373];with_reducible exact H)|(have H2_:=(Option.bind_some _ _).symm.trans H;rw [hy373];with_reducible exact H2_)|(have H2_:=(Option.bind_some _ _).symm.trans H;with_reducible exact H2_)|with_reducible exact H|(rw [hy373];exact H)|exact H
 have Ny373:=Aside0.mk hy373
 clear hy373
 replace H:=Option.bind_eq_some_iff.mp H
 obtain⟨t376,A30,H⟩:=H
 replace H:(if t376=true then((impl_spread.f k l0 a1).bind fun t377=>(some (t377,true))) else(some (([] :List (S61)),false)))=some (r1,r2):=H
 have A3:=Aside0.mk A30
 clear A30
 by_cases c4:t376=true
 ·subst c4
  have H1:((impl_spread.f k l0 a1).bind fun t377=>(some (t377,true)))=some (r1,r2):=by rw [if_pos rfl] at H;exact H
  clear H
  have H:=H1
  clear H1
  replace H:=Option.bind_eq_some_iff.mp H
  obtain⟨t377,A50,H⟩:=H
  replace H:(some (t377,true))=some (r1,r2):=H
  have A5:=Aside0.mk A50
  clear A50
  simp only [Option.some.injEq,Prod.mk.injEq] at H
  obtain⟨rfl,rfl⟩:=H
  go_enter Try.func29,Try.ntmps29
  go_wp2_with (first|((with_reducible refine gate_dst (N:=8) rfl ?_);refine Kd.R_lit (Kd.int .i64) _ 3 ?hg (N:=8) ?hd (xs:=([a1] :List Int)) (inner:= [.int .i64 a1]) (ok:=fun _=>True) (okp:=fun _=>True) ?hr ?hp (fun _ hk=>hk) trivial (Below.refl _ _) (Nat.le_refl _) (by simp) ?_;(case hd=>rfl);(case hg=>rfl);(case hr=>first|(go_simp;done)|(go_simp;rfl));(case hp=>exact(Reps.one (show Kd.M (Kd.int .i64) _ _ _ a1 [.int .i64 a1] from rfl) (Reps.none _ _)));intro v374 w6 ho7 hb hg_ hnew_;clear hg_ hnew_;(first|rw [← Ny373.out] at ho7|(simp only [Int.reduceToNat] at ho7;rw [← Ny373.out] at ho7));have n0_:=Aside0.mk (Kd.R_lower ho7 (below_size (zb0 HB)));have n1_:=Aside0.mk (below_step (zb0 HB) hb);clear HB;have HO375:=n0_;have HB:=n1_;clear n0_ n1_;clear hb ho7;obtain⟨Ao8,co8,eo8⟩:=Kd.R_slice HO375.out;subst eo8)|((with_reducible refine gate_callee (f:=64) rfl ?_);refine goesL_ (some 9) rfl rfl Try.func64 (by kernel_rfl) rfl #[.slice A0 l0.length c0,.slice Ao8 y373.length co8] rfl zq2 ?_;(with_reducible refine(impl_goodTree.calls k _ _ l0 _ _ y373 true _ ?side1 ?side2 ?side3 ?side4 A3.out).mono ?_);(case side1=>repeat(first|exact(Kd.C_below HR0.out HB.out)|(with_reducible refine Kd.C_alloc ?_ _)|(with_reducible refine Kd.C_drewN ?_ _)|(with_reducible refine Kd.C_drew ?_)));(case side2=>exact HC0.out);(case side3=>repeat(first|exact(Kd.R_reads' HO375.out).2.2|(with_reducible refine Kd.C_alloc ?_ _)|(with_reducible refine Kd.C_drewN ?_ _)|(with_reducible refine Kd.C_drew ?_)));(case side4=>exact(Kd.R_reads' HO375.out).2.1);rintro e w' ⟨rfl,⟨nd,rfl⟩⟩;refine⟨_,rfl,?_⟩)|((with_reducible refine gate_callee (f:=73) rfl ?_);refine goesL_ (some 13) rfl rfl Try.func73 (by kernel_rfl) rfl #[.slice A0 l0.length c0,.int .i64 a1] rfl zq2 ?_;(with_reducible refine(impl_spread.calls k _ _ l0 a1 t377 _ ?side1 ?side2 A5.out).mono ?_);(case side1=>repeat(first|exact(Kd.C_below HR0.out (zb0 HB))|(with_reducible refine Kd.C_alloc ?_ _)|(with_reducible refine Kd.C_drewN ?_ _)|(with_reducible refine Kd.C_drew ?_)));(case side2=>exact HC0.out);rintro e w9 ⟨v378,rfl,ho0,hb⟩;refine⟨_,rfl,?_⟩;have n0_:=Aside0.mk (Kd.R_below (zq4 HO375) hb);have n1_:=Aside0.mk (Kd.R_lower ho0 (below_size (zb0 HB)));have n2_:=Aside0.mk (below_step (zb0 HB) hb);clear HO375;clear HB;have HO375:=n0_;have HO379:=n1_;have HB:=n2_;clear n0_ n1_ n2_;(try clear hb);(try clear hb2);(try clear hk);(try clear hi);(try clear ho0)))
  go_ret2
  exact⟨_,by first|rfl|(simp [errW_none,errW_some]<;>rfl)|(simp [*,errW_none,errW_some]<;>rfl),by(with_reducible repeat(first|apply Kd.R_alloc|apply Kd.R_drewN|apply Kd.R_drew));exact HO379.out,by repeat(first|(with_reducible first|exact HB.out|apply below_alloc|apply pw_below_drewN|apply below_drew1)|exact HB.out)⟩
 ·replace c4:=Bool.eq_false_iff.mpr c4
  subst c4
  have H1:(some (([] :List (S61)),false))=some (r1,r2):=by rw [if_neg (show ¬ (false=true) by decide)] at H;exact H
  clear H
  have H:=H1
  clear H1
  simp only [Option.some.injEq,Prod.mk.injEq] at H
  obtain⟨rfl,rfl⟩:=H
  go_enter Try.func29,Try.ntmps29
  go_wp2_with (first|((with_reducible refine gate_dst (N:=8) rfl ?_);refine Kd.R_lit (Kd.int .i64) _ 3 ?hg (N:=8) ?hd (xs:=([a1] :List Int)) (inner:= [.int .i64 a1]) (ok:=fun _=>True) (okp:=fun _=>True) ?hr ?hp (fun _ hk=>hk) trivial (Below.refl _ _) (Nat.le_refl _) (by simp) ?_;(case hd=>rfl);(case hg=>rfl);(case hr=>first|(go_simp;done)|(go_simp;rfl));(case hp=>exact(Reps.one (show Kd.M (Kd.int .i64) _ _ _ a1 [.int .i64 a1] from rfl) (Reps.none _ _)));intro v374 w10 ho11 hb hg_ hnew_;clear hg_ hnew_;(first|rw [← Ny373.out] at ho11|(simp only [Int.reduceToNat] at ho11;rw [← Ny373.out] at ho11));have n0_:=Aside0.mk (Kd.R_lower ho11 (below_size (zb0 HB)));have n1_:=Aside0.mk (below_step (zb0 HB) hb);clear HB;have HO375:=n0_;have HB:=n1_;clear n0_ n1_;clear hb ho11;obtain⟨Ao12,co12,eo12⟩:=Kd.R_slice HO375.out;subst eo12)|((with_reducible refine gate_callee (f:=64) rfl ?_);refine goesL_ (some 9) rfl rfl Try.func64 (by kernel_rfl) rfl #[.slice A0 l0.length c0,.slice Ao12 y373.length co12] rfl zq2 ?_;(with_reducible refine(impl_goodTree.calls k _ _ l0 _ _ y373 false _ ?side1 ?side2 ?side3 ?side4 A3.out).mono ?_);(case side1=>repeat(first|exact(Kd.C_below HR0.out HB.out)|(with_reducible refine Kd.C_alloc ?_ _)|(with_reducible refine Kd.C_drewN ?_ _)|(with_reducible refine Kd.C_drew ?_)));(case side2=>exact HC0.out);(case side3=>repeat(first|exact(Kd.R_reads' HO375.out).2.2|(with_reducible refine Kd.C_alloc ?_ _)|(with_reducible refine Kd.C_drewN ?_ _)|(with_reducible refine Kd.C_drew ?_)));(case side4=>exact(Kd.R_reads' HO375.out).2.1);rintro e w' ⟨rfl,⟨nd,rfl⟩⟩;refine⟨_,rfl,?_⟩))
  go_ret2
  exact⟨_,by first|rfl|(simp [errW_none,errW_some]<;>rfl)|(simp [*,errW_none,errW_some]<;>rfl),by first|exact Kd.R_nil _ _ _ _ _|exact Kd.N_nil _ _ _ _ _|exact Kd.V_nil _ _ _ _ _|exact Kd.Q_nil _ _ _ _ _|exact Kd.S_nil _ _ _ _ _,by repeat(first|(with_reducible first|exact HB.out|apply below_alloc|apply pw_below_drewN|apply below_drew1)|exact HB.out)⟩
def laws_eqHop.f (a0_0:Int) (a0_1:Int) (a1_0:Int) (a1_1:Int):Option (Bool):=if a0_0=a1_0 then(if a0_1=a1_1 then(some true) else(some false)) else(some false)
set_option maxHeartbeats 8000000 in
set_option maxRecDepth 100000 in
theorem laws_eqHop.calls (a0_0:Int) (a0_1:Int) (a1_0:Int) (a1_1:Int) (r:Bool) (w:World) (h:laws_eqHop.f a0_0 a0_1 a1_0 a1_1=some r):
  Calls Try.prog 74 #[.agg #[.int .i64 a0_0,.int .i64 a0_1],.agg #[.int .i64 a1_0,.int .i64 a1_1]] w fun e w'=>e= .returned (.bool r)∧Below w.heap.size w w':=by
 have hu61:=Try.underlying61
 have HB:=Aside0.mk (Below.refl w.heap.size w)
 have H:(if a0_0=a1_0 then(if a0_1=a1_1 then(some true) else(some false)) else(some false))=some r:=h
 clear h
 by_cases c3:a0_0=a1_0
 ·rw [if_pos c3] at H
  have c3b0:(a0_0==a1_0)=true:=beq_iff_eq.mpr c3
  have c3b1:(a0_0 !=a1_0)=false:=bne_eq_false_iff_eq.mpr c3
  clear c3
  by_cases c4:a0_1=a1_1
  ·rw [if_pos c4] at H
   have c4b0:(a0_1==a1_1)=true:=beq_iff_eq.mpr c4
   have c4b1:(a0_1 !=a1_1)=false:=bne_eq_false_iff_eq.mpr c4
   clear c4
   obtain rfl:=Option.some.inj H
   go_enter Try.func74,Try.ntmps74
   go_wp2_with (first|((with_reducible refine gate_dst (N:=2) rfl ?_);refine box_event ?hg (N:=2) ?hd (cs:= #[.int .i64 a0_0,.int .i64 a0_1]) (t:=61) ?hr ?_;(case hd=>rfl);(case hg=>rfl);(case hr=>first|(go_simp;done)|(go_simp;rfl));intro gb380 hg w5 hbox hb;have n0_:=Aside0.mk (below_step (zb0 HB) hb);have n1_:=Aside0.mk (hbox);have n2_:=Aside0.mk ((by rw [hg];exact(below_size (zb0 HB)):w.heap.size≤gb380));have n3_:=Aside0.mk ((by rw [hg];exact(below_size (zb0 HB)):w.heap.size≤gb380));clear HB;have HB:=n0_;have BK380:=n1_;have GW380:=n2_;have GE380:=n3_;clear n0_ n1_ n2_ n3_;clear hb hbox hg)|((with_reducible refine gate_dst (N:=3) rfl ?_);refine box_event ?hg (N:=3) ?hd (cs:= #[.int .i64 a1_0,.int .i64 a1_1]) (t:=61) ?hr ?_;(case hd=>rfl);(case hg=>rfl);(case hr=>first|(go_simp;done)|(go_simp;rfl));intro gb381 hg w6 hbox hb;have n0_:=Aside0.mk (blk_below (g:=gb380) (o:= .cells #[.int .i64 a0_0,.int .i64 a0_1] 61 (0,0)) (zq3 BK380) hb);have n1_:=Aside0.mk (below_step (zb1 HB GE380) hb);have n2_:=Aside0.mk (hbox);have n3_:=Aside0.mk ((by rw [hg];exact(below_size (zb1 HB GE380)):w.heap.size≤gb381));have n4_:=Aside0.mk ((by rw [hg];exact(below_size (zb1 HB GE380)):w.heap.size≤gb381));have n5_:=Aside0.mk ((by rw [hg];exact Nat.ne_of_lt (blk_lt (g:=gb380) (o:= .cells #[.int .i64 a0_0,.int .i64 a0_1] 61 (0,0)) (zq3 BK380)):gb380≠gb381));have n6_:=Aside0.mk ((by rw [hg];exact Nat.ne_of_gt (blk_lt (g:=gb380) (o:= .cells #[.int .i64 a0_0,.int .i64 a0_1] 61 (0,0)) (zq3 BK380)):gb381≠gb380));clear BK380;clear HB;have BK380:=n0_;have HB:=n1_;have BK381:=n2_;have GW381:=n3_;have GE381:=n4_;have NB380_381:=n5_;have NB381_380:=n6_;clear n0_ n1_ n2_ n3_ n4_ n5_ n6_;clear hb hbox hg;have hnb7:=NB380_381.out;have hnc7:=NB381_380.out;have hcz8_0:w6.cell? ⟨gb380,0,none⟩=some (.int .i64 a0_0):=(blk_cell BK380.out 0).trans rfl;have hcz8_1:w6.cell? ⟨gb380,1,none⟩=some (.int .i64 a0_1):=(blk_cell BK380.out 1).trans rfl;have hfz8_0:=blk_frozen BK380.out 0;have hfz8_1:=blk_frozen BK380.out 1;have hcz9_0:w6.cell? ⟨gb381,0,none⟩=some (.int .i64 a1_0):=(blk_cell BK381.out 0).trans rfl;have hcz9_1:w6.cell? ⟨gb381,1,none⟩=some (.int .i64 a1_1):=(blk_cell BK381.out 1).trans rfl;have hfz9_0:=blk_frozen BK381.out 0;have hfz9_1:=blk_frozen BK381.out 1))
   go_ret
   exact⟨by first|rfl|(simp [errW_none,errW_some]<;>rfl)|(simp [*,errW_none,errW_some]<;>rfl),by repeat(first|(with_reducible first|exact HB.out|apply below_alloc|apply pw_below_drewN|apply below_drew1|refine below_set ?_ GE380.out|refine below_set ?_ GE381.out)|exact HB.out)⟩
  ·rw [if_neg c4] at H
   have c4b0:(a0_1==a1_1)=false:=beq_eq_false_iff_ne.mpr c4
   have c4b1:(a0_1 !=a1_1)=true:=bne_iff_ne.mpr c4
   obtain rfl:=Option.some.inj H
   go_enter Try.func74,Try.ntmps74
   go_wp2_with (first|((with_reducible refine gate_dst (N:=2) rfl ?_);refine box_event ?hg (N:=2) ?hd (cs:= #[.int .i64 a0_0,.int .i64 a0_1]) (t:=61) ?hr ?_;(case hd=>rfl);(case hg=>rfl);(case hr=>first|(go_simp;done)|(go_simp;rfl));intro gb380 hg w10 hbox hb;have n0_:=Aside0.mk (below_step (zb0 HB) hb);have n1_:=Aside0.mk (hbox);have n2_:=Aside0.mk ((by rw [hg];exact(below_size (zb0 HB)):w.heap.size≤gb380));have n3_:=Aside0.mk ((by rw [hg];exact(below_size (zb0 HB)):w.heap.size≤gb380));clear HB;have HB:=n0_;have BK380:=n1_;have GW380:=n2_;have GE380:=n3_;clear n0_ n1_ n2_ n3_;clear hb hbox hg)|((with_reducible refine gate_dst (N:=3) rfl ?_);refine box_event ?hg (N:=3) ?hd (cs:= #[.int .i64 a1_0,.int .i64 a1_1]) (t:=61) ?hr ?_;(case hd=>rfl);(case hg=>rfl);(case hr=>first|(go_simp;done)|(go_simp;rfl));intro gb381 hg w11 hbox hb;have n0_:=Aside0.mk (blk_below (g:=gb380) (o:= .cells #[.int .i64 a0_0,.int .i64 a0_1] 61 (0,0)) (zq3 BK380) hb);have n1_:=Aside0.mk (below_step (zb1 HB GE380) hb);have n2_:=Aside0.mk (hbox);have n3_:=Aside0.mk ((by rw [hg];exact(below_size (zb1 HB GE380)):w.heap.size≤gb381));have n4_:=Aside0.mk ((by rw [hg];exact(below_size (zb1 HB GE380)):w.heap.size≤gb381));have n5_:=Aside0.mk ((by rw [hg];exact Nat.ne_of_lt (blk_lt (g:=gb380) (o:= .cells #[.int .i64 a0_0,.int .i64 a0_1] 61 (0,0)) (zq3 BK380)):gb380≠gb381));have n6_:=Aside0.mk ((by rw [hg];exact Nat.ne_of_gt (blk_lt (g:=gb380) (o:= .cells #[.int .i64 a0_0,.int .i64 a0_1] 61 (0,0)) (zq3 BK380)):gb381≠gb380));clear BK380;clear HB;have BK380:=n0_;have HB:=n1_;have BK381:=n2_;have GW381:=n3_;have GE381:=n4_;have NB380_381:=n5_;have NB381_380:=n6_;clear n0_ n1_ n2_ n3_ n4_ n5_ n6_;clear hb hbox hg;have hnb12:=NB380_381.out;have hnc12:=NB381_380.out;have hcz13_0:w11.cell? ⟨gb380,0,none⟩=some (.int .i64 a0_0):=(blk_cell BK380.out 0).trans rfl;have hcz13_1:w11.cell? ⟨gb380,1,none⟩=some (.int .i64 a0_1):=(blk_cell BK380.out 1).trans rfl;have hfz13_0:=blk_frozen BK380.out 0;have hfz13_1:=blk_frozen BK380.out 1;have hcz14_0:w11.cell? ⟨gb381,0,none⟩=some (.int .i64 a1_0):=(blk_cell BK381.out 0).trans rfl;have hcz14_1:w11.cell? ⟨gb381,1,none⟩=some (.int .i64 a1_1):=(blk_cell BK381.out 1).trans rfl;have hfz14_0:=blk_frozen BK381.out 0;have hfz14_1:=blk_frozen BK381.out 1))
   go_ret
   exact⟨by first|rfl|(simp [errW_none,errW_some]<;>rfl)|(simp [*,errW_none,errW_some]<;>rfl),by repeat(first|(with_reducible first|exact HB.out|apply below_alloc|apply pw_below_drewN|apply below_drew1|refine below_set ?_ GE380.out|refine below_set ?_ GE381.out)|exact HB.out)⟩
 ·rw [if_neg c3] at H
  have c3b0:(a0_0==a1_0)=false:=beq_eq_false_iff_ne.mpr c3
  have c3b1:(a0_0 !=a1_0)=true:=bne_iff_ne.mpr c3
  obtain rfl:=Option.some.inj H
  go_enter Try.func74,Try.ntmps74
  go_wp2_with (first|((with_reducible refine gate_dst (N:=2) rfl ?_);refine box_event ?hg (N:=2) ?hd (cs:= #[.int .i64 a0_0,.int .i64 a0_1]) (t:=61) ?hr ?_;(case hd=>rfl);(case hg=>rfl);(case hr=>first|(go_simp;done)|(go_simp;rfl));intro gb380 hg w15 hbox hb;have n0_:=Aside0.mk (below_step (zb0 HB) hb);have n1_:=Aside0.mk (hbox);have n2_:=Aside0.mk ((by rw [hg];exact(below_size (zb0 HB)):w.heap.size≤gb380));have n3_:=Aside0.mk ((by rw [hg];exact(below_size (zb0 HB)):w.heap.size≤gb380));clear HB;have HB:=n0_;have BK380:=n1_;have GW380:=n2_;have GE380:=n3_;clear n0_ n1_ n2_ n3_;clear hb hbox hg)|((with_reducible refine gate_dst (N:=3) rfl ?_);refine box_event ?hg (N:=3) ?hd (cs:= #[.int .i64 a1_0,.int .i64 a1_1]) (t:=61) ?hr ?_;(case hd=>rfl);(case hg=>rfl);(case hr=>first|(go_simp;done)|(go_simp;rfl));intro gb381 hg w16 hbox hb;have n0_:=Aside0.mk (blk_below (g:=gb380) (o:= .cells #[.int .i64 a0_0,.int .i64 a0_1] 61 (0,0)) (zq3 BK380) hb);have n1_:=Aside0.mk (below_step (zb1 HB GE380) hb);have n2_:=Aside0.mk (hbox);have n3_:=Aside0.mk ((by rw [hg];exact(below_size (zb1 HB GE380)):w.heap.size≤gb381));have n4_:=Aside0.mk ((by rw [hg];exact(below_size (zb1 HB GE380)):w.heap.size≤gb381));have n5_:=Aside0.mk ((by rw [hg];exact Nat.ne_of_lt (blk_lt (g:=gb380) (o:= .cells #[.int .i64 a0_0,.int .i64 a0_1] 61 (0,0)) (zq3 BK380)):gb380≠gb381));have n6_:=Aside0.mk ((by rw [hg];exact Nat.ne_of_gt (blk_lt (g:=gb380) (o:= .cells #[.int .i64 a0_0,.int .i64 a0_1] 61 (0,0)) (zq3 BK380)):gb381≠gb380));clear BK380;clear HB;have BK380:=n0_;have HB:=n1_;have BK381:=n2_;have GW381:=n3_;have GE381:=n4_;have NB380_381:=n5_;have NB381_380:=n6_;clear n0_ n1_ n2_ n3_ n4_ n5_ n6_;clear hb hbox hg;have hnb17:=NB380_381.out;have hnc17:=NB381_380.out;have hcz18_0:w16.cell? ⟨gb380,0,none⟩=some (.int .i64 a0_0):=(blk_cell BK380.out 0).trans rfl;have hcz18_1:w16.cell? ⟨gb380,1,none⟩=some (.int .i64 a0_1):=(blk_cell BK380.out 1).trans rfl;have hfz18_0:=blk_frozen BK380.out 0;have hfz18_1:=blk_frozen BK380.out 1;have hcz19_0:w16.cell? ⟨gb381,0,none⟩=some (.int .i64 a1_0):=(blk_cell BK381.out 0).trans rfl;have hcz19_1:w16.cell? ⟨gb381,1,none⟩=some (.int .i64 a1_1):=(blk_cell BK381.out 1).trans rfl;have hfz19_0:=blk_frozen BK381.out 0;have hfz19_1:=blk_frozen BK381.out 1))
  go_ret
  exact⟨by first|rfl|(simp [errW_none,errW_some]<;>rfl)|(simp [*,errW_none,errW_some]<;>rfl),by repeat(first|(with_reducible first|exact HB.out|apply below_alloc|apply pw_below_drewN|apply below_drew1|refine below_set ?_ GE380.out|refine below_set ?_ GE381.out)|exact HB.out)⟩
end Go.Proofs.Ytedegfbheihopaa.P

namespace Go.Proofs.Ytedegfbheihopaa.P
open Go.RowKit Go.Proofs.YtedegfbheihopaaW.PrintWords Go.Proofs.YtedegfbheihopaaW.PrintLast Go.Proofs.YtedegfbheihopaaW.PrintMore
attribute [local go_sem] max2_int min2_int max_two min_two max_three min_three max_four min_four   -- for this text's walks alone
set_option linter.unusedVariables false
set_option linter.unusedSimpArgs false
def laws_eqHopS.l0:Nat→List (S61)→List (S61)→Int→Option (Bool)
 | 0,_,_,_=>none
 |k+1,x0,x1,x5=>if x5< (x0.length:Int) then(if 0≤x5 then(if x5< (x1.length:Int) then((laws_eqHop.f ((rd_T61 x0 x5).f0) ((rd_T61 x0 x5).f1) ((rd_T61 x1 x5).f0) ((rd_T61 x1 x5).f1)).bind fun t384=>(if t384=true then(laws_eqHopS.l0 k x0 x1 (wrap64 (x5+1))) else(some false))) else(none)) else(none)) else(some true)
def laws_eqHopS.f (k:Nat) (l0:List (S61)) (l1:List (S61)):Option (Bool):=if (l0.length:Int)= (l1.length:Int) then(laws_eqHopS.l0 k l0 l1 0) else(some false)
def laws_eqHopS.T6:Bool × List (List Nat × List Nat):=(true,[([],[]),([],[]),([0,1],[0,1]),([2],[2]),([],[]),([],[]),([4,5],[4,5]),([6],[6]),([3,7],[3,7]),([8],[8])])
def laws_eqHopS.B6:List Nat:= [0,0,3,7,0,0,48,112,255,511]
theorem laws_eqHopS.tab6:rtab .any (opsOf Try.f30 6)=laws_eqHopS.T6:=by kernel_rfl
theorem laws_eqHopS.bits6:waitsOk laws_eqHopS.T6.2 laws_eqHopS.B6=true:=by kernel_rfl
set_option maxHeartbeats 8000000 in
set_option maxRecDepth 100000 in
theorem laws_eqHopS.calls (k:Nat) (A0:Option Addr) (c0:Nat) (l0:List (S61)) (A1:Option Addr) (c1:Nat) (l1:List (S61)) (r:Bool) (w:World) (hr0:Kd.C k61 w A0 l0.length l0) (hc0:l0.length≤c0) (hr1:Kd.C k61 w A1 l1.length l1) (hc1:l1.length≤c1) (h:laws_eqHopS.f k l0 l1=some r):
  Calls Try.prog 30 #[.slice A0 l0.length c0,.slice A1 l1.length c1] w fun e w'=>e= .returned (.bool r)∧Below w.heap.size w w':=by
 have hu61:=Try.underlying61
 have HR0:=Aside0.mk hr0
 have HC0:=Aside0.mk hc0
 clear hr0 hc0
 have HR1:=Aside0.mk hr1
 have HC1:=Aside0.mk hc1
 clear hr1 hc1
 have HB:=Aside0.mk (Below.refl w.heap.size w)
 have H:(if (l0.length:Int)= (l1.length:Int) then(laws_eqHopS.l0 k l0 l1 0) else(some false))=some r:=h
 clear h
 by_cases c3:(l0.length:Int)= (l1.length:Int)
 ·rw [if_pos c3] at H
  have c3b0:((l0.length:Int)== (l1.length:Int))=true:=beq_iff_eq.mpr c3
  have c3b1:((l0.length:Int) != (l1.length:Int))=false:=bne_eq_false_iff_eq.mpr c3
  have c3b2:(l0.length==l1.length)=true:=by first|simpa using c3|(simp at c3 ⊢;omega)
  clear c3
  have H':=Aside0.mk H
  clear H
  go_enter Try.func30,Try.ntmps30
  go_wp2
  go_loopg [5] k (fun kq v5 w'=> ∃ (x5_1:Int),v5= .int .i64 x5_1∧Aside0 (laws_eqHopS.l0 kq l0 l1 x5_1=some r)∧Aside0 (kq≤k)∧Aside0 (Below w.heap.size w w'))
  case atStart=>exact⟨(0),(by first|rfl|(simp;done)|(simp [*];done)),H',⟨Nat.le_refl _⟩,⟨by repeat(first|(with_reducible first|exact HB.out|apply below_alloc|apply pw_below_drewN|apply below_drew1)|exact HB.out)⟩⟩
  case round=>
   clear H'
   try clear c1
   try clear p2
   try clear c3
   try clear c3b0
   try clear c3b1
   try clear c3b2
   obtain⟨x5_1,rfl,HA,HK1,HB⟩:=hrel
   cases gk with
   |zero=>exact absurd HA.out (by simp [laws_eqHopS.l0])
   |succ k1=>
    have H:=HA.out
    clear HA
    simp only [laws_eqHopS.l0] at H
    by_cases c4:x5_1< (l0.length:Int)
    ·rw [if_pos c4] at H
     have c4b0:decide (x5_1< (l0.length:Int))=true:=decide_eq_true c4
     clear c4
     by_cases c5: 0≤x5_1
     ·rw [if_pos c5] at H
      have c5b0:decide (0≤x5_1)=true:=decide_eq_true c5
      clear c5
      by_cases c6:x5_1< (l1.length:Int)
      ·rw [if_pos c6] at H
       have c6b0:decide (x5_1< (l1.length:Int))=true:=decide_eq_true c6
       clear c6
       replace H:=Option.bind_eq_some_iff.mp H
       obtain⟨t384,A70,H⟩:=H
       replace H:(if t384=true then(laws_eqHopS.l0 k1 l0 l1 (wrap64 (x5_1+1))) else(some false))=some r:=H
       have A7:=Aside0.mk A70
       clear A70
       by_cases c8:t384=true
       ·subst c8
        have H1:(laws_eqHopS.l0 k1 l0 l1 (wrap64 (x5_1+1)))=some r:=by rw [if_pos rfl] at H;exact H
        clear H
        have H:=H1
        clear H1
        have H':=Aside0.mk H
        clear H
        try go_wp2
        have n0_:=Aside0.mk (below_drew1 HB.out)
        clear HB
        have HB:=n0_
        clear n0_
        have p382: 0≤ (x5_1:Int):=of_decide_eq_true zq1
        have q382:x5_1< (l0.length:Int):=of_decide_eq_true zq1
        obtain⟨ad382,e382,hx382_0,hx382_1⟩:=at_T61 HR0.out x5_1 p382 q382
        have hw382_1:=hx382_1
        have hw382_0:=hx382_0
        cases e382
        replace hx382_0:=(HB.out.cell (World.block_lt_of_cell? w _ hx382_0)).trans hx382_0
        replace hx382_1:=(HB.out.cell (World.block_lt_of_cell? w _ hx382_1)).trans hx382_1
        replace p382:=eq_true p382
        replace q382:=eq_true q382
        have p383: 0≤ (x5_1:Int):=of_decide_eq_true zq1
        have q383:x5_1< (l1.length:Int):=of_decide_eq_true zq1
        obtain⟨ad383,e383,hx383_0,hx383_1⟩:=at_T61 HR1.out x5_1 p383 q383
        have hw383_1:=hx383_1
        have hw383_0:=hx383_0
        cases e383
        replace hx383_0:=(HB.out.cell (World.block_lt_of_cell? w _ hx383_0)).trans hx383_0
        replace hx383_1:=(HB.out.cell (World.block_lt_of_cell? w _ hx383_1)).trans hx383_1
        replace p383:=eq_true p383
        replace q383:=eq_true q383
        refine start_ (n:=10) (S:=fun w'=>w'.cell? (ad382.add ((x5_1).toNat * 2))=some (.int .i64 ((rd_T61 l0 x5_1).f0))∧w'.cell? ⟨(ad382.add ((x5_1).toNat * 2)).block,(ad382.add ((x5_1).toNat * 2)).off+1,none⟩=some (.int .i64 ((rd_T61 l0 x5_1).f1))∧w'.cell? (ad383.add ((x5_1).toNat * 2))=some (.int .i64 ((rd_T61 l1 x5_1).f0))∧w'.cell? ⟨(ad383.add ((x5_1).toNat * 2)).block,(ad383.add ((x5_1).toNat * 2)).off+1,none⟩=some (.int .i64 ((rd_T61 l1 x5_1).f1))) (ds:= []) #[false,false,false,false,false,false,false,false,false,false] (by kernel_rfl) rfl rfl ⟨((HB.out.cell (World.block_lt_of_cell? w _ hw382_0)).trans hw382_0),((HB.out.cell (World.block_lt_of_cell? w _ hw382_1)).trans hw382_1),((HB.out.cell (World.block_lt_of_cell? w _ hw383_0)).trans hw383_0),((HB.out.cell (World.block_lt_of_cell? w _ hw383_1)).trans hw383_1)⟩ (fun hHeld=>?_);refine with_tabW laws_eqHopS.tab6 laws_eqHopS.bits6 (fun HT_ HW_=>?_)
        generalize wr.drew=w9 at HB hx382_0 hx382_1 hx383_0 hx383_1 hHeld ⊢
        refine pure_ (i:=0) (N:=some 17) (v:=?_) (a':=?_) #[true,false,false,false,false,false,false,false,false,false] rfl rfl (any_of HT_.out (by kernel_rfl)) (fun _ _ _ h=>h) (Or.inl ⟨by rfl,?_⟩) ?_ ?_
        rotate_left
        ·intro w'
         go_simp
         with_reducible rfl
        rotate_left
        ·simp only [Act.put,List.setIfInBounds_toArray,List.set_cons_zero,List.set_cons_succ,i64_w,i32_w]
         rfl
        refine pure_ (i:=1) (N:=some 18) (v:=?_) (a':=?_) #[true,true,false,false,false,false,false,false,false,false] rfl rfl (any_of HT_.out (by kernel_rfl)) (fun _ _ _ h=>h) (Or.inl ⟨by rfl,?_⟩) ?_ ?_
        rotate_left
        ·intro w'
         go_simp
         with_reducible rfl
        rotate_left
        ·simp only [Act.put,List.setIfInBounds_toArray,List.set_cons_zero,List.set_cons_succ,i64_w,i32_w]
         rfl
        refine pure_ (i:=2) (N:=some 19) (v:=?_) (a':=?_) #[true,true,true,false,false,false,false,false,false,false] rfl rfl (any_of HT_.out (by kernel_rfl)) (fun _ _ _ h=>h) (Or.inl ⟨by rfl,?_⟩) ?_ ?_
        rotate_left
        ·intro w'
         go_simp
         with_reducible rfl
        rotate_left
        ·simp only [Act.put,List.setIfInBounds_toArray,List.set_cons_zero,List.set_cons_succ,i64_w,i32_w]
         rfl
        refine pure_ (i:=4) (N:=some 21) (v:=?_) (a':=?_) #[true,true,true,false,true,false,false,false,false,false] rfl rfl (any_of HT_.out (by kernel_rfl)) (fun _ _ _ h=>h) (Or.inl ⟨by rfl,?_⟩) ?_ ?_
        rotate_left
        ·intro w'
         go_simp
         with_reducible rfl
        rotate_left
        ·simp only [Act.put,List.setIfInBounds_toArray,List.set_cons_zero,List.set_cons_succ,i64_w,i32_w]
         rfl
        refine pure_ (i:=5) (N:=some 22) (v:=?_) (a':=?_) #[true,true,true,false,true,true,false,false,false,false] rfl rfl (any_of HT_.out (by kernel_rfl)) (fun _ _ _ h=>h) (Or.inl ⟨by rfl,?_⟩) ?_ ?_
        rotate_left
        ·intro w'
         go_simp
         with_reducible rfl
        rotate_left
        ·simp only [Act.put,List.setIfInBounds_toArray,List.set_cons_zero,List.set_cons_succ,i64_w,i32_w]
         rfl
        refine pure_ (i:=6) (N:=some 23) (v:=?_) (a':=?_) #[true,true,true,false,true,true,true,false,false,false] rfl rfl (any_of HT_.out (by kernel_rfl)) (fun _ _ _ h=>h) (Or.inl ⟨by rfl,?_⟩) ?_ ?_
        rotate_left
        ·intro w'
         go_simp
         with_reducible rfl
        rotate_left
        ·simp only [Act.put,List.setIfInBounds_toArray,List.set_cons_zero,List.set_cons_succ,i64_w,i32_w]
         rfl
        refine take_ (i:=3) (N:=some 20) (v:=?_) (a':=?_) #[true,true,true,true,true,true,true,false,false,false] rfl rfl (take_ofW HT_.out HW_.out (by kernel_rfl)) (fun _ _ _ h=>h) (Or.inl ⟨by rfl,?_⟩) hHeld ?_ ?_
        rotate_left
        ·rintro w' ⟨s0,s1,s2,s3⟩
         go_simp
         with_reducible rfl
        rotate_left
        ·simp only [Act.put,List.setIfInBounds_toArray,List.set_cons_zero,List.set_cons_succ,i64_w,i32_w]
         rfl
        refine take_ (i:=7) (N:=some 24) (v:=?_) (a':=?_) #[true,true,true,true,true,true,true,true,false,false] rfl rfl (take_ofW HT_.out HW_.out (by kernel_rfl)) (fun _ _ _ h=>h) (Or.inl ⟨by rfl,?_⟩) hHeld ?_ ?_
        rotate_left
        ·rintro w' ⟨s0,s1,s2,s3⟩
         go_simp
         with_reducible rfl
        rotate_left
        ·simp only [Act.put,List.setIfInBounds_toArray,List.set_cons_zero,List.set_cons_succ,i64_w,i32_w]
         rfl
        refine one_ (i:=8) (N:=some 25) #[true,true,true,true,true,true,true,true,true,false] rfl rfl (one_of HT_.out (by kernel_rfl)) (by decide) (fun K hK=>?_)
        refine goes_ Try.func74 (by kernel_rfl) rfl #[.agg #[.int .i64 ((rd_T61 l0 x5_1).f0),.int .i64 ((rd_T61 l0 x5_1).f1)],.agg #[.int .i64 ((rd_T61 l1 x5_1).f0),.int .i64 ((rd_T61 l1 x5_1).f1)]] (by rfl) rfl rfl zq2 ?_
        with_reducible refine(laws_eqHop.calls ((rd_T61 l0 x5_1).f0) ((rd_T61 l0 x5_1).f1) ((rd_T61 l1 x5_1).f0) ((rd_T61 l1 x5_1).f1) true _ A7.out).mono ?_
        rintro e w10 ⟨rfl,hb⟩
        refine⟨_,rfl,?_⟩
        have n0_:=Aside0.mk (below_step (zb0 HB) hb)
        clear HB
        have HB:=n0_
        clear n0_
        (try clear hb)
        (try clear hb2)
        (try clear hk)
        (try clear hi)
        refine hK.out _ _ ⟨((HB.out.cell (World.block_lt_of_cell? w _ hw382_0)).trans hw382_0),((HB.out.cell (World.block_lt_of_cell? w _ hw382_1)).trans hw382_1),((HB.out.cell (World.block_lt_of_cell? w _ hw383_0)).trans hw383_0),((HB.out.cell (World.block_lt_of_cell? w _ hw383_1)).trans hw383_1)⟩ (fun hHeld=>?_)
        clear hK K
        refine norm_ (a':=?_) ?_ ?_
        rotate_left
        ·show Act.put _ (some 25) _=_
         simp only [Act.put,List.setIfInBounds_toArray,List.set_cons_zero,List.set_cons_succ,i64_w,i32_w]
         rfl
        refine pure_ (i:=9) (N:=some 26) (v:=?_) (a':=?_) #[true,true,true,true,true,true,true,true,true,true] rfl rfl (any_of HT_.out (by kernel_rfl)) (fun _ _ _ h=>h) (Or.inl ⟨by rfl,?_⟩) ?_ ?_
        rotate_left
        ·intro w'
         go_simp
         with_reducible rfl
        rotate_left
        ·simp only [Act.put,List.setIfInBounds_toArray,List.set_cons_zero,List.set_cons_succ,i64_w,i32_w]
         rfl
        refine done_ (done_of HT_.out (by kernel_rfl)) ?_
        try go_wp2
        go_roundg k1
        case measure=>have:=HK1.out;omega
        case rel=>exact⟨(wrap64 (x5_1+1)),(by first|rfl|(simp;done)|(simp [*];done)),H',⟨by have:=HK1.out;omega⟩,⟨by repeat(first|(with_reducible first|exact HB.out|apply below_alloc|apply pw_below_drewN|apply below_drew1)|exact HB.out)⟩⟩
       ·replace c8:=Bool.eq_false_iff.mpr c8
        subst c8
        have H1:(some false)=some r:=by rw [if_neg (show ¬ (false=true) by decide)] at H;exact H
        clear H
        have H:=H1
        clear H1
        obtain rfl:=Option.some.inj H
        try go_wp2
        have n0_:=Aside0.mk (below_drew1 HB.out)
        clear HB
        have HB:=n0_
        clear n0_
        have p382: 0≤ (x5_1:Int):=of_decide_eq_true zq1
        have q382:x5_1< (l0.length:Int):=of_decide_eq_true zq1
        obtain⟨ad382,e382,hx382_0,hx382_1⟩:=at_T61 HR0.out x5_1 p382 q382
        have hw382_1:=hx382_1
        have hw382_0:=hx382_0
        cases e382
        replace hx382_0:=(HB.out.cell (World.block_lt_of_cell? w _ hx382_0)).trans hx382_0
        replace hx382_1:=(HB.out.cell (World.block_lt_of_cell? w _ hx382_1)).trans hx382_1
        replace p382:=eq_true p382
        replace q382:=eq_true q382
        have p383: 0≤ (x5_1:Int):=of_decide_eq_true zq1
        have q383:x5_1< (l1.length:Int):=of_decide_eq_true zq1
        obtain⟨ad383,e383,hx383_0,hx383_1⟩:=at_T61 HR1.out x5_1 p383 q383
        have hw383_1:=hx383_1
        have hw383_0:=hx383_0
        cases e383
        replace hx383_0:=(HB.out.cell (World.block_lt_of_cell? w _ hx383_0)).trans hx383_0
        replace hx383_1:=(HB.out.cell (World.block_lt_of_cell? w _ hx383_1)).trans hx383_1
        replace p383:=eq_true p383
        replace q383:=eq_true q383
        refine start_ (n:=10) (S:=fun w'=>w'.cell? (ad382.add ((x5_1).toNat * 2))=some (.int .i64 ((rd_T61 l0 x5_1).f0))∧w'.cell? ⟨(ad382.add ((x5_1).toNat * 2)).block,(ad382.add ((x5_1).toNat * 2)).off+1,none⟩=some (.int .i64 ((rd_T61 l0 x5_1).f1))∧w'.cell? (ad383.add ((x5_1).toNat * 2))=some (.int .i64 ((rd_T61 l1 x5_1).f0))∧w'.cell? ⟨(ad383.add ((x5_1).toNat * 2)).block,(ad383.add ((x5_1).toNat * 2)).off+1,none⟩=some (.int .i64 ((rd_T61 l1 x5_1).f1))) (ds:= []) #[false,false,false,false,false,false,false,false,false,false] (by kernel_rfl) rfl rfl ⟨((HB.out.cell (World.block_lt_of_cell? w _ hw382_0)).trans hw382_0),((HB.out.cell (World.block_lt_of_cell? w _ hw382_1)).trans hw382_1),((HB.out.cell (World.block_lt_of_cell? w _ hw383_0)).trans hw383_0),((HB.out.cell (World.block_lt_of_cell? w _ hw383_1)).trans hw383_1)⟩ (fun hHeld=>?_);refine with_tabW laws_eqHopS.tab6 laws_eqHopS.bits6 (fun HT_ HW_=>?_)
        generalize wr.drew=w11 at HB hx382_0 hx382_1 hx383_0 hx383_1 hHeld ⊢
        refine pure_ (i:=0) (N:=some 17) (v:=?_) (a':=?_) #[true,false,false,false,false,false,false,false,false,false] rfl rfl (any_of HT_.out (by kernel_rfl)) (fun _ _ _ h=>h) (Or.inl ⟨by rfl,?_⟩) ?_ ?_
        rotate_left
        ·intro w'
         go_simp
         with_reducible rfl
        rotate_left
        ·simp only [Act.put,List.setIfInBounds_toArray,List.set_cons_zero,List.set_cons_succ,i64_w,i32_w]
         rfl
        refine pure_ (i:=1) (N:=some 18) (v:=?_) (a':=?_) #[true,true,false,false,false,false,false,false,false,false] rfl rfl (any_of HT_.out (by kernel_rfl)) (fun _ _ _ h=>h) (Or.inl ⟨by rfl,?_⟩) ?_ ?_
        rotate_left
        ·intro w'
         go_simp
         with_reducible rfl
        rotate_left
        ·simp only [Act.put,List.setIfInBounds_toArray,List.set_cons_zero,List.set_cons_succ,i64_w,i32_w]
         rfl
        refine pure_ (i:=2) (N:=some 19) (v:=?_) (a':=?_) #[true,true,true,false,false,false,false,false,false,false] rfl rfl (any_of HT_.out (by kernel_rfl)) (fun _ _ _ h=>h) (Or.inl ⟨by rfl,?_⟩) ?_ ?_
        rotate_left
        ·intro w'
         go_simp
         with_reducible rfl
        rotate_left
        ·simp only [Act.put,List.setIfInBounds_toArray,List.set_cons_zero,List.set_cons_succ,i64_w,i32_w]
         rfl
        refine pure_ (i:=4) (N:=some 21) (v:=?_) (a':=?_) #[true,true,true,false,true,false,false,false,false,false] rfl rfl (any_of HT_.out (by kernel_rfl)) (fun _ _ _ h=>h) (Or.inl ⟨by rfl,?_⟩) ?_ ?_
        rotate_left
        ·intro w'
         go_simp
         with_reducible rfl
        rotate_left
        ·simp only [Act.put,List.setIfInBounds_toArray,List.set_cons_zero,List.set_cons_succ,i64_w,i32_w]
         rfl
        refine pure_ (i:=5) (N:=some 22) (v:=?_) (a':=?_) #[true,true,true,false,true,true,false,false,false,false] rfl rfl (any_of HT_.out (by kernel_rfl)) (fun _ _ _ h=>h) (Or.inl ⟨by rfl,?_⟩) ?_ ?_
        rotate_left
        ·intro w'
         go_simp
         with_reducible rfl
        rotate_left
        ·simp only [Act.put,List.setIfInBounds_toArray,List.set_cons_zero,List.set_cons_succ,i64_w,i32_w]
         rfl
        refine pure_ (i:=6) (N:=some 23) (v:=?_) (a':=?_) #[true,true,true,false,true,true,true,false,false,false] rfl rfl (any_of HT_.out (by kernel_rfl)) (fun _ _ _ h=>h) (Or.inl ⟨by rfl,?_⟩) ?_ ?_
        rotate_left
        ·intro w'
         go_simp
         with_reducible rfl
        rotate_left
        ·simp only [Act.put,List.setIfInBounds_toArray,List.set_cons_zero,List.set_cons_succ,i64_w,i32_w]
         rfl
        refine take_ (i:=3) (N:=some 20) (v:=?_) (a':=?_) #[true,true,true,true,true,true,true,false,false,false] rfl rfl (take_ofW HT_.out HW_.out (by kernel_rfl)) (fun _ _ _ h=>h) (Or.inl ⟨by rfl,?_⟩) hHeld ?_ ?_
        rotate_left
        ·rintro w' ⟨s0,s1,s2,s3⟩
         go_simp
         with_reducible rfl
        rotate_left
        ·simp only [Act.put,List.setIfInBounds_toArray,List.set_cons_zero,List.set_cons_succ,i64_w,i32_w]
         rfl
        refine take_ (i:=7) (N:=some 24) (v:=?_) (a':=?_) #[true,true,true,true,true,true,true,true,false,false] rfl rfl (take_ofW HT_.out HW_.out (by kernel_rfl)) (fun _ _ _ h=>h) (Or.inl ⟨by rfl,?_⟩) hHeld ?_ ?_
        rotate_left
        ·rintro w' ⟨s0,s1,s2,s3⟩
         go_simp
         with_reducible rfl
        rotate_left
        ·simp only [Act.put,List.setIfInBounds_toArray,List.set_cons_zero,List.set_cons_succ,i64_w,i32_w]
         rfl
        refine one_ (i:=8) (N:=some 25) #[true,true,true,true,true,true,true,true,true,false] rfl rfl (one_of HT_.out (by kernel_rfl)) (by decide) (fun K hK=>?_)
        refine goes_ Try.func74 (by kernel_rfl) rfl #[.agg #[.int .i64 ((rd_T61 l0 x5_1).f0),.int .i64 ((rd_T61 l0 x5_1).f1)],.agg #[.int .i64 ((rd_T61 l1 x5_1).f0),.int .i64 ((rd_T61 l1 x5_1).f1)]] (by rfl) rfl rfl zq2 ?_
        with_reducible refine(laws_eqHop.calls ((rd_T61 l0 x5_1).f0) ((rd_T61 l0 x5_1).f1) ((rd_T61 l1 x5_1).f0) ((rd_T61 l1 x5_1).f1) false _ A7.out).mono ?_
        rintro e w12 ⟨rfl,hb⟩
        refine⟨_,rfl,?_⟩
        have n0_:=Aside0.mk (below_step (zb0 HB) hb)
        clear HB
        have HB:=n0_
        clear n0_
        (try clear hb)
        (try clear hb2)
        (try clear hk)
        (try clear hi)
        refine hK.out _ _ ⟨((HB.out.cell (World.block_lt_of_cell? w _ hw382_0)).trans hw382_0),((HB.out.cell (World.block_lt_of_cell? w _ hw382_1)).trans hw382_1),((HB.out.cell (World.block_lt_of_cell? w _ hw383_0)).trans hw383_0),((HB.out.cell (World.block_lt_of_cell? w _ hw383_1)).trans hw383_1)⟩ (fun hHeld=>?_)
        clear hK K
        refine norm_ (a':=?_) ?_ ?_
        rotate_left
        ·show Act.put _ (some 25) _=_
         simp only [Act.put,List.setIfInBounds_toArray,List.set_cons_zero,List.set_cons_succ,i64_w,i32_w]
         rfl
        refine pure_ (i:=9) (N:=some 26) (v:=?_) (a':=?_) #[true,true,true,true,true,true,true,true,true,true] rfl rfl (any_of HT_.out (by kernel_rfl)) (fun _ _ _ h=>h) (Or.inl ⟨by rfl,?_⟩) ?_ ?_
        rotate_left
        ·intro w'
         go_simp
         with_reducible rfl
        rotate_left
        ·simp only [Act.put,List.setIfInBounds_toArray,List.set_cons_zero,List.set_cons_succ,i64_w,i32_w]
         rfl
        refine done_ (done_of HT_.out (by kernel_rfl)) ?_
        try go_wp2
        go_ret
        exact⟨by first|rfl|(simp [errW_none,errW_some]<;>rfl)|(simp [*,errW_none,errW_some]<;>rfl),by repeat(first|(with_reducible first|exact HB.out|apply below_alloc|apply pw_below_drewN|apply below_drew1)|exact HB.out)⟩
      ·rw [if_neg c6] at H
       exact absurd H (by simp)
     ·rw [if_neg c5] at H
      exact absurd H (by simp)
    ·rw [if_neg c4] at H
     have c4b0:decide (x5_1< (l0.length:Int))=false:=decide_eq_false c4
     clear c4
     obtain rfl:=Option.some.inj H
     go_wp2
     go_ret
     exact⟨by first|rfl|(simp [errW_none,errW_some]<;>rfl)|(simp [*,errW_none,errW_some]<;>rfl),by repeat(first|(with_reducible first|exact HB.out|apply below_alloc|apply pw_below_drewN|apply below_drew1)|exact HB.out)⟩
 ·rw [if_neg c3] at H
  have c3b0:((l0.length:Int)== (l1.length:Int))=false:=beq_eq_false_iff_ne.mpr c3
  have c3b1:((l0.length:Int) != (l1.length:Int))=true:=bne_iff_ne.mpr c3
  have c3b2:(l0.length==l1.length)=false:=by first|simpa using c3|(simp at c3 ⊢;omega)
  obtain rfl:=Option.some.inj H
  go_enter Try.func30,Try.ntmps30
  go_wp2
  go_ret
  exact⟨by first|rfl|(simp [errW_none,errW_some]<;>rfl)|(simp [*,errW_none,errW_some]<;>rfl),by repeat(first|(with_reducible first|exact HB.out|apply below_alloc|apply pw_below_drewN|apply below_drew1)|exact HB.out)⟩
end Go.Proofs.Ytedegfbheihopaa.P
