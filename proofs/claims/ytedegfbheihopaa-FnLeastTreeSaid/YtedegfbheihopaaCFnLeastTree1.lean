/- Functions, walks and plain lemmas that the law FnLeastTree reaches, part 1. -/
import Derived.Test.YtedegfbheihopaaCFnLeastTree0
import Derived.Below
import Derived.Deep.Draws
import Derived.Deep.AppendLies
import Derived.Maps.AppendAt
import Derived.OwnWalk
import Derived.Laws.BytesArg
import Derived.Laws.MakeOwn
import Derived.Laws.OwnMore
import Derived.Deep.OwnRows
import Derived.Tactics
import Derived.Lib.ConvBytes
import Derived.Laws.Slices
import Derived.WalkKit
import Derived.KernelRfl
import Derived.RowKit3
import Derived.Deep.LoopGhost
import Derived.Deep.QuietTactic
import Derived.BigQuiet
import Derived.WideLaws
import Derived.Deep.DeepCutAuto
import Derived.Deep.CutBlock
import Derived.Deep.RegionHeld3
import Derived.Laws.Rows
import Derived.Lib.AppendStr
import Derived.ArgAppend
import Derived.Laws.IdiomCopy
import Derived.OrdersHeld
import Derived.Laws.BitsLemmas
import Derived.RowKit
import Derived.WalkSpells
import Derived.Lib.SliceRun
import Derived.Shelf.Abstract
import Derived.Maps.OwnSet
import Derived.Maps.OwnOps
import Derived.ProofKit
import Derived.OpenShut
import Derived.ShutString
import Derived.ChangeOld
import Derived.SizedLaws
namespace Go.Proofs.Ytedegfbheihopaa.P
open Go.RowKit Go.Proofs.YtedegfbheihopaaW.PrintWords Go.Proofs.YtedegfbheihopaaW.PrintLast Go.Proofs.YtedegfbheihopaaW.PrintMore
attribute [local go_sem] max2_int min2_int max_two min_two max_three min_three max_four min_four   -- for this text's walks alone
set_option linter.unusedVariables false
set_option linter.unusedSimpArgs false
theorem info3:(Try.prog.info? 3).map (fun i=>(i.zero,i.size,i.bytes))=some (some (.int .i64 0),1,8):=by kernel_rfl
theorem info22:(Try.prog.info? 22).map (fun i=>(i.zero,i.size,i.bytes))=some (some (.slice none 0 0),1,24):=by kernel_rfl
theorem info79:(Try.prog.info? 79).map (fun i=>(i.zero,i.size,i.bytes))=some (some (.agg #[(.int .i64 0),(.int .i64 0),(.int .i64 0)]),3,24):=by kernel_rfl
structure S79 where
 f0:Int
 f1:Int
 f2:Int
def z79:S79:=⟨(0:Int),(0:Int),(0:Int)⟩
def k79:Kd S79:=Kd.iso (Kd.pair (Kd.int .i64) (Kd.pair (Kd.int .i64) (Kd.int .i64))) (fun x:S79=>(x.f0,x.f1,x.f2))
theorem k79_open {w:World} {x:S79} {cs:List Value} (h:k79.K w x cs):cs= [.int .i64 x.f0,.int .i64 x.f1,.int .i64 x.f2]:=by
 obtain⟨_,_,rfl,rfl,⟨_,_,rfl,rfl,rfl⟩⟩:=h
 exact rfl
theorem k79_openM {w:World} {base:Nat} {ok:Nat→Prop} {x:S79} {cs:List Value} (h:k79.M w base ok x cs):cs= [.int .i64 x.f0,.int .i64 x.f1,.int .i64 x.f2]:=by
 obtain⟨_,_,rfl,rfl,⟨_,_,rfl,rfl,rfl⟩⟩:=h
 exact rfl
theorem k79_mkM (w:World) (base:Nat) (ok:Nat→Prop) (x:S79)  :k79.M w base ok x [.int .i64 x.f0,.int .i64 x.f1,.int .i64 x.f2]:=⟨[.int .i64 x.f0],[.int .i64 x.f1,.int .i64 x.f2],rfl,rfl,⟨[.int .i64 x.f1],[.int .i64 x.f2],rfl,rfl,rfl⟩⟩
def rd_T79 (xs:List S79) (i:Int):S79:=xs.getD i.toNat z79
theorem at_T79 {w:World} {A:Option Addr} {n:Nat} {xs:List S79} (h:Kd.C k79 w A n xs) (i:Int) (h0: 0≤i) (h1:i<n):∃ ad ,A=some ad∧w.cell? (ad.add (i.toNat * 3))=some (.int .i64 (rd_T79 xs i).f0)∧w.cell? ⟨(ad.add (i.toNat * 3)).block,(ad.add (i.toNat * 3)).off+1,none⟩=some (.int .i64 (rd_T79 xs i).f1)∧w.cell? ⟨(ad.add (i.toNat * 3)).block,(ad.add (i.toNat * 3)).off+2,none⟩=some (.int .i64 (rd_T79 xs i).f2):=by
 obtain⟨ad,c,e,_,hK,hc0⟩:=Kd.C_get h z79 i h0 h1
 have hc:∀ j u,c[j]?=some u→w.cell? (ad.add (i.toNat * 3+j))=some u:=hc0
 obtain rfl:=k79_open hK
 exact⟨ad,e,hc 0 _ rfl,by rw [← add_field _ _ 1 (by omega)];exact hc 1 _ rfl,by rw [← add_field _ _ 2 (by omega)];exact hc 2 _ rfl⟩
def rd_L6 (xs:List (List Int)) (i:Int):(List Int):=xs.getD i.toNat ([] :List Int)
theorem at_L6 {w:World} {A:Option Addr} {n:Nat} {xs:List (List Int)} (h:Kd.C (Kd.slice 3 (Kd.int .i64)) w A n xs) (i:Int) (h0: 0≤i) (h1:i<n):∃ ad A0 c0,A=some ad∧w.cell? (ad.add i.toNat)=some (.slice A0 (rd_L6 xs i).length c0)∧ (rd_L6 xs i).length≤c0∧ (Kd.int .i64).C w A0 (rd_L6 xs i).length (rd_L6 xs i):=by
 obtain⟨ad,c,e,_,hK,hc0⟩:=Kd.C_get h ([] :List Int) i h0 h1
 have hc:∀ j u,c[j]?=some u→w.cell? (ad.add (i.toNat * 1+j))=some u:=hc0
 obtain⟨A0,c0,rfl,l0,g0⟩:=hK
 exact⟨ad,A0,c0,e,by have hq:=hc 0 _ rfl;rwa [Nat.mul_one,Nat.add_zero] at hq,l0,g0⟩
def spec_l1In.f (a0:Int) (a1:Int) (a2:Int):Option (Bool):=if a0≥a1 then(some (decide (a0≤a2))) else(some false)
set_option maxHeartbeats 8000000 in
set_option maxRecDepth 100000 in
theorem spec_l1In.calls (a0:Int) (a1:Int) (a2:Int) (r:Bool) (w:World) (h:spec_l1In.f a0 a1 a2=some r):
  Calls Try.prog 59 #[.int .i64 a0,.int .i64 a1,.int .i64 a2] w fun e w'=>e= .returned (.bool r)∧Drawn0 w w':=by
 have H:(if a0≥a1 then(some (decide (a0≤a2))) else(some false))=some r:=h
 clear h
 by_cases c4:a0≥a1
 ·rw [if_pos c4] at H
  have c4b0:decide (a1≤a0)=true:=decide_eq_true c4
  clear c4
  obtain rfl:=Option.some.inj H
  go_enter Try.func59,Try.ntmps59
  go_wp2
  go_ret
  exact⟨by first|rfl|(simp;done)|(simp [*];done),by repeat(first|exact Drawn0.refl _|apply Drawn0.step)⟩
 ·rw [if_neg c4] at H
  have c4b0:decide (a1≤a0)=false:=decide_eq_false c4
  clear c4
  obtain rfl:=Option.some.inj H
  go_enter Try.func59,Try.ntmps59
  go_wp2
  go_ret
  exact⟨by first|rfl|(simp;done)|(simp [*];done),by repeat(first|exact Drawn0.refl _|apply Drawn0.step)⟩
mutual
def spec_GoodParents.l0:Nat→List Int→Int→List Int→Int→Int→Option (Bool)
 | 0,_,_,_,_,_=>none
 |k+1,x0,x3,x10,x11,x12=>if x12<x11 then(if 0≤x12 then(if x12< (x10.length:Int) then((spec_l1In.f (rd x10 x12) (-1) (wrap64 (x3 - 1))).bind fun t103=>(if t103=true then(spec_GoodParents.l1 k x0 x3 0 x12 x10 x11 x12) else(some false))) else(none)) else(none)) else((spec_l1In.f x3 1 12).bind fun t101=>(some t101))
def spec_GoodParents.l1:Nat→List Int→Int→Int→Int→List Int→Int→Int→Option (Bool)
 | 0,_,_,_,_,_,_,_=>none
 |k+1,x0,x3,x6,x7,x10,x11,x12=>if x7≥0 then(if (wrap64 (x6+1)) > x3 then(some false) else(if 0≤x7 then(if x7< (x0.length:Int) then((spec_l1In.f (rd x0 x7) (-1) (wrap64 (x3 - 1))).bind fun t105=>(if t105=true then(spec_GoodParents.l1 k x0 x3 (wrap64 (x6+1)) (rd x0 x7) x10 x11 x12) else(some false))) else(none)) else(none))) else(spec_GoodParents.l0 k x0 x3 x10 x11 (wrap64 (x12+1)))
end
def spec_GoodParents.f (k:Nat) (l0:List Int):Option (Bool):=spec_GoodParents.l0 k l0 (l0.length:Int) l0 (l0.length:Int) 0
theorem znn {α :Type} {c:Prop} [Decidable c] {x:Option α} {r: α} {q:Prop} (h:¬ c) (H:(if c then x else none)=some r):q:=by rw [if_neg h] at H;cases H
theorem zq1 {p:Prop} (h:p:=by first|(with_reducible assumption)|assumption):p:=h
theorem zq2 {p:Prop} (h:p:=by(try simp only [List.map_toArray,List.map_cons,List.map_nil]);first|done|rfl|(simp only [List.length_drop,List.length_take];rfl)):p:=h
theorem zrs {p:Prop} (h:p:=by first|rfl|(simp;done)|(simp [*];done)):p:=h
set_option maxHeartbeats 8000000 in
set_option maxRecDepth 100000 in
theorem spec_GoodParents.calls (k:Nat) (A0:Option Addr) (c0:Nat) (l0:List Int) (r:Bool) (w:World) (hr0:Kd.C (Kd.int .i64) w A0 l0.length l0) (hc0:l0.length≤c0) (h:spec_GoodParents.f k l0=some r):
  Calls Try.prog 13 #[.slice A0 l0.length c0] w fun e w'=>e= .returned (.bool r)∧Drawn0 w w':=by
 have HR0:=Aside0.mk hr0
 have HC0:=Aside0.mk hc0
 clear hr0 hc0
 have H:(spec_GoodParents.l0 k l0 (l0.length:Int) l0 (l0.length:Int) 0)=some r:=h
 clear h
 have H':=Aside0.mk H
 clear H
 go_enter Try.func13,Try.ntmps13
 go_wp2
 go_loopg [12] k (fun kq v12 w'=> ∃ (x12_1:Int),v12= .int .i64 x12_1∧Aside0 (spec_GoodParents.l0 kq l0 (l0.length:Int) l0 (l0.length:Int) x12_1=some r)∧Aside0 (kq≤k)∧Drawn0 w w')
 case atStart=>exact⟨(0),zrs,H',⟨Nat.le_refl _⟩,by repeat(first|exact Drawn0.refl _|apply Drawn0.step)⟩
 case round=>
  clear H'
  try clear c1
  obtain⟨x12_1,rfl,HA,HK1,⟨m1,rfl⟩⟩:=hrel
  cases gk with
  |zero=>exact absurd HA.out (by simp [spec_GoodParents.l0])
  |succ k1=>
   have H:=HA.out
   clear HA
   simp only [spec_GoodParents.l0] at H
   by_cases c2:x12_1< (l0.length:Int)
   ·rw [if_pos c2] at H
    have c2b0:decide (x12_1< (l0.length:Int))=true:=decide_eq_true c2
    clear c2
    by_cases c3: 0≤x12_1
    case neg=>exact znn c3 H
    rw [if_pos c3] at H
    have c3b0:decide (0≤x12_1)=true:=decide_eq_true c3
    clear c3
    by_cases c4:x12_1< (l0.length:Int)
    case neg=>exact znn c4 H
    rw [if_pos c4] at H
    have c4b0:decide (x12_1< (l0.length:Int))=true:=decide_eq_true c4
    clear c4
    replace H:=Option.bind_eq_some_iff.mp H
    obtain⟨t103,A50,H⟩:=H
    replace H:(if t103=true then(spec_GoodParents.l1 k1 l0 (l0.length:Int) 0 x12_1 l0 (l0.length:Int) x12_1) else(some false))=some r:=H
    have A5:=Aside0.mk A50
    clear A50
    by_cases c6:t103=true
    ·subst c6
     have H1:(spec_GoodParents.l1 k1 l0 (l0.length:Int) 0 x12_1 l0 (l0.length:Int) x12_1)=some r:=by rw [if_pos rfl] at H;exact H
     clear H
     have H:=H1
     clear H1
     have H':=Aside0.mk H
     clear H
     have p102: 0≤ (x12_1:Int):=of_decide_eq_true zq1
     have q102:x12_1< (l0.length:Int):=of_decide_eq_true zq1
     obtain⟨ad102,e102,hx102_0⟩:=Kd.at_int HR0.out x12_1 p102 q102
     cases e102
     replace p102:=eq_true p102
     replace q102:=eq_true q102
     go_wp2_with (first|((with_reducible refine gate_callee (f:=59) rfl ?_);refine goesL_ (some 20) rfl rfl Try.func59 (by kernel_rfl) rfl #[.int .i64 (rd l0 x12_1),.int .i64 (-1),.int .i64 (wrap64 ((l0.length:Int) - 1))] rfl zq2 ?_;(with_reducible refine(spec_l1In.calls (rd l0 x12_1) (-1) (wrap64 ((l0.length:Int) - 1)) true _ A5.out).mono ?_);rintro e w' ⟨rfl,⟨nd,rfl⟩⟩;refine⟨_,rfl,?_⟩))
     go_loopg [6,7] k1 (fun kq v6 v7 w'=> ∃ (x6_2:Int) (x7_2:Int),v6= .int .i64 x6_2∧v7= .int .i64 x7_2∧Aside0 (spec_GoodParents.l1 kq l0 (l0.length:Int) x6_2 x7_2 l0 (l0.length:Int) x12_1=some r)∧Aside0 (kq≤k1)∧Drawn0 w w')
     case atStart=>exact⟨(0),(x12_1),zrs,zrs,H',⟨Nat.le_refl _⟩,by repeat(first|exact Drawn0.refl _|apply Drawn0.step)⟩
     case round=>
      clear H'
      try clear c1
      try clear p1
      try clear q1
      try clear hx1
      try clear c2
      try clear c2b0
      try clear p2
      try clear c3
      try clear c3b0
      try clear c4
      try clear c4b0
      try clear c5
      try clear c6
      try clear p6
      try clear hx102_0
      try clear p102
      try clear q102
      obtain⟨x6_2,x7_2,rfl,rfl,HA,HK2,⟨m2,rfl⟩⟩:=hrel
      cases gk with
      |zero=>exact absurd HA.out (by simp [spec_GoodParents.l1])
      |succ k2=>
       have H:=HA.out
       clear HA
       simp only [spec_GoodParents.l1] at H
       by_cases c7:x7_2≥0
       ·rw [if_pos c7] at H
        have c7b0:decide (0≤x7_2)=true:=decide_eq_true c7
        clear c7
        by_cases c8:(wrap64 (x6_2+1)) > (l0.length:Int)
        ·rw [if_pos c8] at H
         have c8b0:decide ((l0.length:Int)< (wrap64 (x6_2+1)))=true:=decide_eq_true c8
         clear c8
         obtain rfl:=Option.some.inj H
         go_wp2
         go_ret
         exact⟨by first|rfl|(simp;done)|(simp [*];done),by repeat(first|exact Drawn0.refl _|apply Drawn0.step)⟩
        ·rw [if_neg c8] at H
         have c8b0:decide ((l0.length:Int)< (wrap64 (x6_2+1)))=false:=decide_eq_false c8
         clear c8
         by_cases c9: 0≤x7_2
         case neg=>exact znn c9 H
         rw [if_pos c9] at H
         have c9b0:decide (0≤x7_2)=true:=decide_eq_true c9
         clear c9
         by_cases c10:x7_2< (l0.length:Int)
         case neg=>exact znn c10 H
         rw [if_pos c10] at H
         have c10b0:decide (x7_2< (l0.length:Int))=true:=decide_eq_true c10
         clear c10
         replace H:=Option.bind_eq_some_iff.mp H
         obtain⟨t105,A110,H⟩:=H
         replace H:(if t105=true then(spec_GoodParents.l1 k2 l0 (l0.length:Int) (wrap64 (x6_2+1)) (rd l0 x7_2) l0 (l0.length:Int) x12_1) else(some false))=some r:=H
         have A11:=Aside0.mk A110
         clear A110
         by_cases c12:t105=true
         ·subst c12
          have H1:(spec_GoodParents.l1 k2 l0 (l0.length:Int) (wrap64 (x6_2+1)) (rd l0 x7_2) l0 (l0.length:Int) x12_1)=some r:=by rw [if_pos rfl] at H;exact H
          clear H
          have H:=H1
          clear H1
          have H':=Aside0.mk H
          clear H
          have p104: 0≤ (x7_2:Int):=of_decide_eq_true zq1
          have q104:x7_2< (l0.length:Int):=of_decide_eq_true zq1
          obtain⟨ad104,e104,hx104_0⟩:=Kd.at_int HR0.out x7_2 p104 q104
          obtain rfl:ad102=ad104:=(by injection e104)
          replace p104:=eq_true p104
          replace q104:=eq_true q104
          go_wp2_with (first|(go_at_call 59;(with_reducible refine(spec_l1In.calls (rd l0 x7_2) (-1) (wrap64 ((l0.length:Int) - 1)) true _ A11.out).mono ?_);rintro e w' ⟨rfl,⟨nd,rfl⟩⟩;have p106: 0≤ (x7_2:Int):=of_decide_eq_true zq1;have q106:x7_2< (l0.length:Int):=of_decide_eq_true zq1;obtain⟨ad106,e106,hx106_0⟩:=Kd.at_int HR0.out x7_2 p106 q106;obtain rfl:ad102=ad106:=(by injection e106);replace p106:=eq_true p106;replace q106:=eq_true q106))
          go_roundg k2
          case measure=>have:=HK1.out;have:=HK2.out;omega
          case rel=>exact⟨(wrap64 (x6_2+1)),(rd l0 x7_2),zrs,zrs,H',⟨by have:=HK1.out;have:=HK2.out;omega⟩,by repeat(first|exact Drawn0.refl _|apply Drawn0.step)⟩
         ·replace c12:=Bool.eq_false_iff.mpr c12
          subst c12
          have H1:(some false)=some r:=by rw [if_neg (show ¬ (false=true) by decide)] at H;exact H
          clear H
          have H:=H1
          clear H1
          obtain rfl:=Option.some.inj H
          have p104: 0≤ (x7_2:Int):=of_decide_eq_true zq1
          have q104:x7_2< (l0.length:Int):=of_decide_eq_true zq1
          obtain⟨ad104,e104,hx104_0⟩:=Kd.at_int HR0.out x7_2 p104 q104
          obtain rfl:ad102=ad104:=(by injection e104)
          replace p104:=eq_true p104
          replace q104:=eq_true q104
          go_wp2_with (first|(go_at_call 59;(with_reducible refine(spec_l1In.calls (rd l0 x7_2) (-1) (wrap64 ((l0.length:Int) - 1)) false _ A11.out).mono ?_);rintro e w' ⟨rfl,⟨nd,rfl⟩⟩))
          go_ret
          exact⟨by first|rfl|(simp;done)|(simp [*];done),by repeat(first|exact Drawn0.refl _|apply Drawn0.step)⟩
       ·rw [if_neg c7] at H
        have c7b0:decide (0≤x7_2)=false:=decide_eq_false c7
        clear c7
        have H':=Aside0.mk H
        clear H
        go_wp2
        go_roundg k2
        case measure=>have:=HK1.out;have:=HK2.out;omega
        case rel=>exact⟨(wrap64 (x12_1+1)),zrs,H',⟨by have:=HK1.out;have:=HK2.out;omega⟩,by repeat(first|exact Drawn0.refl _|apply Drawn0.step)⟩
    ·replace c6:=Bool.eq_false_iff.mpr c6
     subst c6
     have H1:(some false)=some r:=by rw [if_neg (show ¬ (false=true) by decide)] at H;exact H
     clear H
     have H:=H1
     clear H1
     obtain rfl:=Option.some.inj H
     have p102: 0≤ (x12_1:Int):=of_decide_eq_true zq1
     have q102:x12_1< (l0.length:Int):=of_decide_eq_true zq1
     obtain⟨ad102,e102,hx102_0⟩:=Kd.at_int HR0.out x12_1 p102 q102
     cases e102
     replace p102:=eq_true p102
     replace q102:=eq_true q102
     go_wp2_with (first|((with_reducible refine gate_callee (f:=59) rfl ?_);refine goesL_ (some 20) rfl rfl Try.func59 (by kernel_rfl) rfl #[.int .i64 (rd l0 x12_1),.int .i64 (-1),.int .i64 (wrap64 ((l0.length:Int) - 1))] rfl zq2 ?_;(with_reducible refine(spec_l1In.calls (rd l0 x12_1) (-1) (wrap64 ((l0.length:Int) - 1)) false _ A5.out).mono ?_);rintro e w' ⟨rfl,⟨nd,rfl⟩⟩;refine⟨_,rfl,?_⟩))
     go_ret
     exact⟨by first|rfl|(simp;done)|(simp [*];done),by repeat(first|exact Drawn0.refl _|apply Drawn0.step)⟩
   ·rw [if_neg c2] at H
    have c2b0:decide (x12_1< (l0.length:Int))=false:=decide_eq_false c2
    clear c2
    replace H:=Option.bind_eq_some_iff.mp H
    obtain⟨t101,A130,H⟩:=H
    replace H:(some t101)=some r:=H
    have A13:=Aside0.mk A130
    clear A130
    obtain rfl:=Option.some.inj H
    go_wp2_with (first|((with_reducible refine gate_callee (f:=59) rfl ?_);refine goesL_ (some 46) rfl rfl Try.func59 (by kernel_rfl) rfl #[.int .i64 (l0.length:Int),.int .i64 1,.int .i64 12] rfl zq2 ?_;(with_reducible refine(spec_l1In.calls (l0.length:Int) 1 12 t101 _ A13.out).mono ?_);rintro e w' ⟨rfl,⟨nd,rfl⟩⟩;refine⟨_,rfl,?_⟩))
    go_ret
    exact⟨by first|rfl|(simp;done)|(simp [*];done),by repeat(first|exact Drawn0.refl _|apply Drawn0.step)⟩
def impl_in.f (a0:Int) (a1:Int) (a2:Int):Option (Bool):=if a0≥a1 then(some (decide (a0≤a2))) else(some false)
set_option maxHeartbeats 8000000 in
set_option maxRecDepth 100000 in
theorem impl_in.calls (a0:Int) (a1:Int) (a2:Int) (r:Bool) (w:World) (h:impl_in.f a0 a1 a2=some r):
  Calls Try.prog 78 #[.int .i64 a0,.int .i64 a1,.int .i64 a2] w fun e w'=>e= .returned (.bool r)∧Drawn0 w w':=by
 have H:(if a0≥a1 then(some (decide (a0≤a2))) else(some false))=some r:=h
 clear h
 by_cases c4:a0≥a1
 ·rw [if_pos c4] at H
  have c4b0:decide (a1≤a0)=true:=decide_eq_true c4
  clear c4
  obtain rfl:=Option.some.inj H
  go_enter Try.func78,Try.ntmps78
  go_wp2
  go_ret
  exact⟨by first|rfl|(simp;done)|(simp [*];done),by repeat(first|exact Drawn0.refl _|apply Drawn0.step)⟩
 ·rw [if_neg c4] at H
  have c4b0:decide (a1≤a0)=false:=decide_eq_false c4
  clear c4
  obtain rfl:=Option.some.inj H
  go_enter Try.func78,Try.ntmps78
  go_wp2
  go_ret
  exact⟨by first|rfl|(simp;done)|(simp [*];done),by repeat(first|exact Drawn0.refl _|apply Drawn0.step)⟩
def impl_isSpots.f (a0:Int):Option (Bool):=(impl_in.f a0 1 12).bind fun t112=>(some t112)
set_option maxHeartbeats 8000000 in
set_option maxRecDepth 100000 in
theorem impl_isSpots.calls (a0:Int) (r:Bool) (w:World) (h:impl_isSpots.f a0=some r):
  Calls Try.prog 60 #[.int .i64 a0] w fun e w'=>e= .returned (.bool r)∧Drawn0 w w':=by
 have H:((impl_in.f a0 1 12).bind fun t112=>(some t112))=some r:=h
 clear h
 replace H:=Option.bind_eq_some_iff.mp H
 obtain⟨t112,A20,H⟩:=H
 replace H:(some t112)=some r:=H
 have A2:=Aside0.mk A20
 clear A20
 obtain rfl:=Option.some.inj H
 go_enter Try.func60,Try.ntmps60
 go_wp2_with (first|((with_reducible refine gate_callee (f:=78) rfl ?_);refine goesL_ (some 4) rfl rfl Try.func78 (by kernel_rfl) rfl #[.int .i64 a0,.int .i64 1,.int .i64 12] rfl zq2 ?_;(with_reducible refine(impl_in.calls a0 1 12 t112 _ A2.out).mono ?_);rintro e w' ⟨rfl,⟨nd,rfl⟩⟩;refine⟨_,rfl,?_⟩))
 go_ret
 exact⟨by first|rfl|(simp;done)|(simp [*];done),by repeat(first|exact Drawn0.refl _|apply Drawn0.step)⟩
mutual
def spec_GoodEdges.l0:Nat→Int→List (S79)→List (S79)→Int→Int→Option (Bool)
 | 0,_,_,_,_,_=>none
 |k+1,x0,x1,x7,x8,x9=>if x9<x8 then(if 0≤x9 then(if x9< (x7.length:Int) then((spec_l1In.f ((rd_T79 x7 x9).f0) 0 (wrap64 (x0 - 1))).bind fun t283=>(if t283=true then((spec_l1In.f ((rd_T79 x7 x9).f1) 0 (wrap64 (x0 - 1))).bind fun t284=>(if t284=true then(if ((rd_T79 x7 x9).f0)≥ ((rd_T79 x7 x9).f1) then(spec_GoodEdges.j1 k x0 x1 x9 x7 x8 x9 true ((rd_T79 x7 x9).f0) ((rd_T79 x7 x9).f1) ((rd_T79 x7 x9).f2)) else((spec_l1In.f ((rd_T79 x7 x9).f2) 1 100).bind fun t285=>(spec_GoodEdges.j1 k x0 x1 x9 x7 x8 x9 (!t285) ((rd_T79 x7 x9).f0) ((rd_T79 x7 x9).f1) ((rd_T79 x7 x9).f2)))) else(spec_GoodEdges.j1 k x0 x1 x9 x7 x8 x9 true ((rd_T79 x7 x9).f0) ((rd_T79 x7 x9).f1) ((rd_T79 x7 x9).f2)))) else(spec_GoodEdges.j1 k x0 x1 x9 x7 x8 x9 true ((rd_T79 x7 x9).f0) ((rd_T79 x7 x9).f1) ((rd_T79 x7 x9).f2)))) else(none)) else(none)) else((spec_l1In.f x0 1 12).bind fun t280=>(if t280=true then(some (decide ((x1.length:Int)≤40))) else(some false)))
def spec_GoodEdges.j1:Nat→Int→List (S79)→Int→List (S79)→Int→Int→Bool→Int→Int→Int→Option (Bool)
 | 0,_,_,_,_,_,_,_,_,_,_=>none
 |k+1,x0,x1,x5,x7,x8,x9,x40,x283000,x283001,x283002=>if x40=true then(some false) else(if x5 > 0 then(if 0≤ (wrap64 (x5 - 1)) then(if (wrap64 (x5 - 1))< (x1.length:Int) then(if ((rd_T79 x1 (wrap64 (x5 - 1))).f0) > x283000 then(some false) else(if ((rd_T79 x1 (wrap64 (x5 - 1))).f0)=x283000 then(if ((rd_T79 x1 (wrap64 (x5 - 1))).f1)≥x283001 then(some false) else(spec_GoodEdges.l0 k x0 x1 x7 x8 (wrap64 (x9+1)))) else(spec_GoodEdges.l0 k x0 x1 x7 x8 (wrap64 (x9+1))))) else(none)) else(none)) else(spec_GoodEdges.l0 k x0 x1 x7 x8 (wrap64 (x9+1))))
end
def spec_GoodEdges.f (k:Nat) (a0:Int) (l1:List (S79)):Option (Bool):=spec_GoodEdges.l0 k a0 l1 l1 (l1.length:Int) 0
theorem zcz {w:World} {g t:Nat} {cells:Array Value} (b:Aside0 (w.heap[g]?=some (.cells cells t (0,0)))) (i:Nat) (v:Value) (h:cells[i]?=some v:=by rfl):w.cell? ⟨g,i,none⟩=some v:=(blk_cell b.out i).trans h
theorem zer {p:Prop} (h:p:=by first|rfl|(simp [errW_none,errW_some]<;>rfl)|(simp [*,errW_none,errW_some]<;>rfl)):p:=h
theorem zhx {w W:World} {a:Addr} {v:Value} (b:Aside0 (Below w.heap.size w W)) (h:w.cell? a=some v):W.cell? a=some v:=(b.out.cell (World.block_lt_of_cell? w _ h)).trans h
theorem zk1 {q p:Prop} (b:Aside0 q) (h:q→p:=by intro z;repeat(first|(with_reducible first|exact z|apply below_alloc|apply pw_below_drewN|apply below_drew1)|exact z)):p:=h b.out
theorem zk2 {q r1 p:Prop} (b:Aside0 q) (b1:r1) (h:q→r1→p:=by intro z g1;repeat(first|(with_reducible first|exact z|apply below_alloc|apply pw_below_drewN|apply below_drew1|refine below_set ?_ g1)|exact z)):p:=h b.out b1
set_option maxHeartbeats 8000000 in
set_option maxRecDepth 100000 in
theorem spec_GoodEdges.calls (k:Nat) (a0:Int) (A1:Option Addr) (c1:Nat) (l1:List (S79)) (r:Bool) (w:World) (hr1:Kd.C k79 w A1 l1.length l1) (hc1:l1.length≤c1) (h:spec_GoodEdges.f k a0 l1=some r):
  Calls Try.prog 66 #[.int .i64 a0,.slice A1 l1.length c1] w fun e w'=>e= .returned (.bool r)∧Below w.heap.size w w':=by
 have hu79:=Try.underlying79
 have HR1:=Aside0.mk hr1
 have HC1:=Aside0.mk hc1
 clear hr1 hc1
 have HB:=Aside0.mk (Below.refl w.heap.size w)
 have H:(spec_GoodEdges.l0 k a0 l1 l1 (l1.length:Int) 0)=some r:=h
 clear h
 have H':=Aside0.mk H
 clear H
 go_enter Try.func66,Try.ntmps66
 go_wp2
 repeat(go_quiet (fail);try go_wp2)
 go_loopg [9] k (fun kq v9 w'=> ∃ (x9_1:Int),v9= .int .i64 x9_1∧Aside0 (spec_GoodEdges.l0 kq a0 l1 l1 (l1.length:Int) x9_1=some r)∧Aside0 (kq≤k)∧Aside0 (Below w.heap.size w w'))
 case atStart=>exact⟨(0),zrs,H',⟨Nat.le_refl _⟩,⟨by exact zk1 HB⟩⟩
 case round=>
  clear H'
  try clear c1
  try clear p2
  obtain⟨x9_1,rfl,HA,HK1,HB⟩:=hrel
  cases gk with
  |zero=>exact absurd HA.out (by simp [spec_GoodEdges.l0])
  |succ k1=>
   have H:=HA.out
   clear HA
   simp only [spec_GoodEdges.l0] at H
   by_cases c3:x9_1< (l1.length:Int)
   ·rw [if_pos c3] at H
    have c3b0:decide (x9_1< (l1.length:Int))=true:=decide_eq_true c3
    clear c3
    by_cases c4: 0≤x9_1
    case neg=>exact znn c4 H
    rw [if_pos c4] at H
    have c4b0:decide (0≤x9_1)=true:=decide_eq_true c4
    clear c4
    by_cases c5:x9_1< (l1.length:Int)
    case neg=>exact znn c5 H
    rw [if_pos c5] at H
    have c5b0:decide (x9_1< (l1.length:Int))=true:=decide_eq_true c5
    clear c5
    have HC6:=Aside0.mk H
    clear H
    have p281: 0≤ (x9_1:Int):=of_decide_eq_true zq1
    have q281:x9_1< (l1.length:Int):=of_decide_eq_true zq1
    obtain⟨ad281,e281,hx281_0,hx281_1,hx281_2⟩:=at_T79 HR1.out x9_1 p281 q281
    cases e281
    replace hx281_0:=zhx HB hx281_0
    replace hx281_1:=zhx HB hx281_1
    replace hx281_2:=zhx HB hx281_2
    replace p281:=eq_true p281
    replace q281:=eq_true q281
    go_upto_region 4 with (first|((with_reducible refine gate_dst (N:=6) rfl ?_);(try(refine gate_guard (by rfl) ?_;dsimp only));refine box_event ?hg (N:=6) ?hd (cs:= #[.int .i64 0,.int .i64 0,.int .i64 0]) (t:=79) ?hr ?_;(case hd=>rfl);(case hg=>rfl);(case hr=>first|(go_simp;done)|(go_simp;rfl));intro gb282 hg w7 hbox hb;have BK282:=Aside0.mk (hbox);have GW282:=Aside0.mk ((by rw [hg];exact(below_size (by exact zk1 HB)):w.heap.size≤gb282));have GE282:=GW282;replace HB:=Aside0.mk (below_step (by exact zk1 HB) hb);clear hb hbox hg;have hcz8_0:=zcz BK282 0 (.int .i64 0);have hcz8_1:=zcz BK282 1 (.int .i64 0);have hcz8_2:=zcz BK282 2 (.int .i64 0);have hfz8_0:=blk_frozen BK282.out 0;have hfz8_1:=blk_frozen BK282.out 1;have hfz8_2:=blk_frozen BK282.out 2))
    repeat(go_quiet (first|((with_reducible refine gate_dst (N:=6) rfl ?_);(try(refine gate_guard (by rfl) ?_;dsimp only));refine box_event ?hg (N:=6) ?hd (cs:= #[.int .i64 0,.int .i64 0,.int .i64 0]) (t:=79) ?hr ?_;(case hd=>rfl);(case hg=>rfl);(case hr=>first|(go_simp;done)|(go_simp;rfl));intro gb282 hg w7 hbox hb;have BK282:=Aside0.mk (hbox);have GW282:=Aside0.mk ((by rw [hg];exact(below_size (by exact zk1 HB)):w.heap.size≤gb282));have GE282:=GW282;replace HB:=Aside0.mk (below_step (by exact zk1 HB) hb);clear hb hbox hg;have hcz8_0:=zcz BK282 0 (.int .i64 0);have hcz8_1:=zcz BK282 1 (.int .i64 0);have hcz8_2:=zcz BK282 2 (.int .i64 0);have hfz8_0:=blk_frozen BK282.out 0;have hfz8_1:=blk_frozen BK282.out 1;have hfz8_2:=blk_frozen BK282.out 2));go_upto_region 4 with (first|((with_reducible refine gate_dst (N:=6) rfl ?_);(try(refine gate_guard (by rfl) ?_;dsimp only));refine box_event ?hg (N:=6) ?hd (cs:= #[.int .i64 0,.int .i64 0,.int .i64 0]) (t:=79) ?hr ?_;(case hd=>rfl);(case hg=>rfl);(case hr=>first|(go_simp;done)|(go_simp;rfl));intro gb282 hg w7 hbox hb;have BK282:=Aside0.mk (hbox);have GW282:=Aside0.mk ((by rw [hg];exact(below_size (by exact zk1 HB)):w.heap.size≤gb282));have GE282:=GW282;replace HB:=Aside0.mk (below_step (by exact zk1 HB) hb);clear hb hbox hg;have hcz8_0:=zcz BK282 0 (.int .i64 0);have hcz8_1:=zcz BK282 1 (.int .i64 0);have hcz8_2:=zcz BK282 2 (.int .i64 0);have hfz8_0:=blk_frozen BK282.out 0;have hfz8_1:=blk_frozen BK282.out 1;have hfz8_2:=blk_frozen BK282.out 2)))
    (try simp only [Act.put,List.setIfInBounds_toArray,List.set_cons_zero,List.set_cons_succ])
    go_cut [40] (fun v40 wc=> ∃ (kq:Nat) (x40_5:Bool),v40= .bool x40_5∧Aside0 (spec_GoodEdges.j1 kq a0 l1 x9_1 l1 (l1.length:Int) x9_1 x40_5 ((rd_T79 l1 x9_1).f0) ((rd_T79 l1 x9_1).f1) ((rd_T79 l1 x9_1).f2)=some r)∧Aside0 (kq≤k1)∧Aside0 (wc.heap[gb282]?=some (.cells #[.int .i64 ((rd_T79 l1 x9_1).f0),.int .i64 ((rd_T79 l1 x9_1).f1),.int .i64 ((rd_T79 l1 x9_1).f2)] 79 (0,0)))∧Aside0 (Below w.heap.size w wc))
    case first=>
     have H:=HC6.out
     clear HC6
     replace H:=Option.bind_eq_some_iff.mp H
     obtain⟨t283,A90,H⟩:=H
     replace H:(if t283=true then((spec_l1In.f ((rd_T79 l1 x9_1).f1) 0 (wrap64 (a0 - 1))).bind fun t284=>(if t284=true then(if ((rd_T79 l1 x9_1).f0)≥ ((rd_T79 l1 x9_1).f1) then(spec_GoodEdges.j1 k1 a0 l1 x9_1 l1 (l1.length:Int) x9_1 true ((rd_T79 l1 x9_1).f0) ((rd_T79 l1 x9_1).f1) ((rd_T79 l1 x9_1).f2)) else((spec_l1In.f ((rd_T79 l1 x9_1).f2) 1 100).bind fun t285=>(spec_GoodEdges.j1 k1 a0 l1 x9_1 l1 (l1.length:Int) x9_1 (!t285) ((rd_T79 l1 x9_1).f0) ((rd_T79 l1 x9_1).f1) ((rd_T79 l1 x9_1).f2)))) else(spec_GoodEdges.j1 k1 a0 l1 x9_1 l1 (l1.length:Int) x9_1 true ((rd_T79 l1 x9_1).f0) ((rd_T79 l1 x9_1).f1) ((rd_T79 l1 x9_1).f2)))) else(spec_GoodEdges.j1 k1 a0 l1 x9_1 l1 (l1.length:Int) x9_1 true ((rd_T79 l1 x9_1).f0) ((rd_T79 l1 x9_1).f1) ((rd_T79 l1 x9_1).f2)))=some r:=H
     have A9:=Aside0.mk A90
     clear A90
     by_cases c10:t283=true
     ·subst c10
      have H1:((spec_l1In.f ((rd_T79 l1 x9_1).f1) 0 (wrap64 (a0 - 1))).bind fun t284=>(if t284=true then(if ((rd_T79 l1 x9_1).f0)≥ ((rd_T79 l1 x9_1).f1) then(spec_GoodEdges.j1 k1 a0 l1 x9_1 l1 (l1.length:Int) x9_1 true ((rd_T79 l1 x9_1).f0) ((rd_T79 l1 x9_1).f1) ((rd_T79 l1 x9_1).f2)) else((spec_l1In.f ((rd_T79 l1 x9_1).f2) 1 100).bind fun t285=>(spec_GoodEdges.j1 k1 a0 l1 x9_1 l1 (l1.length:Int) x9_1 (!t285) ((rd_T79 l1 x9_1).f0) ((rd_T79 l1 x9_1).f1) ((rd_T79 l1 x9_1).f2)))) else(spec_GoodEdges.j1 k1 a0 l1 x9_1 l1 (l1.length:Int) x9_1 true ((rd_T79 l1 x9_1).f0) ((rd_T79 l1 x9_1).f1) ((rd_T79 l1 x9_1).f2))))=some r:=by rw [if_pos rfl] at H;exact H
      clear H
      have H:=H1
      clear H1
      replace H:=Option.bind_eq_some_iff.mp H
      obtain⟨t284,A110,H⟩:=H
      replace H:(if t284=true then(if ((rd_T79 l1 x9_1).f0)≥ ((rd_T79 l1 x9_1).f1) then(spec_GoodEdges.j1 k1 a0 l1 x9_1 l1 (l1.length:Int) x9_1 true ((rd_T79 l1 x9_1).f0) ((rd_T79 l1 x9_1).f1) ((rd_T79 l1 x9_1).f2)) else((spec_l1In.f ((rd_T79 l1 x9_1).f2) 1 100).bind fun t285=>(spec_GoodEdges.j1 k1 a0 l1 x9_1 l1 (l1.length:Int) x9_1 (!t285) ((rd_T79 l1 x9_1).f0) ((rd_T79 l1 x9_1).f1) ((rd_T79 l1 x9_1).f2)))) else(spec_GoodEdges.j1 k1 a0 l1 x9_1 l1 (l1.length:Int) x9_1 true ((rd_T79 l1 x9_1).f0) ((rd_T79 l1 x9_1).f1) ((rd_T79 l1 x9_1).f2)))=some r:=H
      have A11:=Aside0.mk A110
      clear A110
      by_cases c12:t284=true
      ·subst c12
       have H1:(if ((rd_T79 l1 x9_1).f0)≥ ((rd_T79 l1 x9_1).f1) then(spec_GoodEdges.j1 k1 a0 l1 x9_1 l1 (l1.length:Int) x9_1 true ((rd_T79 l1 x9_1).f0) ((rd_T79 l1 x9_1).f1) ((rd_T79 l1 x9_1).f2)) else((spec_l1In.f ((rd_T79 l1 x9_1).f2) 1 100).bind fun t285=>(spec_GoodEdges.j1 k1 a0 l1 x9_1 l1 (l1.length:Int) x9_1 (!t285) ((rd_T79 l1 x9_1).f0) ((rd_T79 l1 x9_1).f1) ((rd_T79 l1 x9_1).f2))))=some r:=by rw [if_pos rfl] at H;exact H
       clear H
       have H:=H1
       clear H1
       by_cases c13:((rd_T79 l1 x9_1).f0)≥ ((rd_T79 l1 x9_1).f1)
       ·rw [if_pos c13] at H
        have c13b0:decide (((rd_T79 l1 x9_1).f1)≤ ((rd_T79 l1 x9_1).f0))=true:=decide_eq_true c13
        clear c13
        (first|rw [c13b0]|(simp only [i64_w,i32_w];rw [c13b0])|skip)
        have H':=Aside0.mk H
        clear H
        have hcz14_0:=zcz BK282 0 (.int .i64 0)
        have hcz14_1:=zcz BK282 1 (.int .i64 0)
        have hcz14_2:=zcz BK282 2 (.int .i64 0)
        have hfz14_0:=blk_frozen BK282.out 0
        have hfz14_1:=blk_frozen BK282.out 1
        have hfz14_2:=blk_frozen BK282.out 2
        go_wp2_with (first|(go_at_call 59;(with_reducible refine(spec_l1In.calls ((rd_T79 l1 x9_1).f0) 0 (wrap64 (a0 - 1)) true _ A9.out).mono ?_);rintro e w' ⟨rfl,⟨nd,rfl⟩⟩;(try first|exact⟨rfl,_,World.drewN_drewN _ _ _⟩|exact⟨rfl,_,Eq.trans (World.drewN_drewN _ _ _) (congrArg (World.drewN _) (Nat.add_assoc _ _ _))⟩))|(go_at_call 59;(with_reducible refine(spec_l1In.calls ((rd_T79 l1 x9_1).f1) 0 (wrap64 (a0 - 1)) true _ A11.out).mono ?_);rintro e w' ⟨rfl,⟨nd,rfl⟩⟩;(try first|exact⟨rfl,_,World.drewN_drewN _ _ _⟩|exact⟨rfl,_,Eq.trans (World.drewN_drewN _ _ _) (congrArg (World.drewN _) (Nat.add_assoc _ _ _))⟩)))
        repeat(go_quiet (first|(go_at_call 59;(with_reducible refine(spec_l1In.calls ((rd_T79 l1 x9_1).f0) 0 (wrap64 (a0 - 1)) true _ A9.out).mono ?_);rintro e w' ⟨rfl,⟨nd,rfl⟩⟩;(try first|exact⟨rfl,_,World.drewN_drewN _ _ _⟩|exact⟨rfl,_,Eq.trans (World.drewN_drewN _ _ _) (congrArg (World.drewN _) (Nat.add_assoc _ _ _))⟩))|(go_at_call 59;(with_reducible refine(spec_l1In.calls ((rd_T79 l1 x9_1).f1) 0 (wrap64 (a0 - 1)) true _ A11.out).mono ?_);rintro e w' ⟨rfl,⟨nd,rfl⟩⟩;(try first|exact⟨rfl,_,World.drewN_drewN _ _ _⟩|exact⟨rfl,_,Eq.trans (World.drewN_drewN _ _ _) (congrArg (World.drewN _) (Nat.add_assoc _ _ _))⟩)));try go_wp2_with (first|(go_at_call 59;(with_reducible refine(spec_l1In.calls ((rd_T79 l1 x9_1).f0) 0 (wrap64 (a0 - 1)) true _ A9.out).mono ?_);rintro e w' ⟨rfl,⟨nd,rfl⟩⟩;(try first|exact⟨rfl,_,World.drewN_drewN _ _ _⟩|exact⟨rfl,_,Eq.trans (World.drewN_drewN _ _ _) (congrArg (World.drewN _) (Nat.add_assoc _ _ _))⟩))|(go_at_call 59;(with_reducible refine(spec_l1In.calls ((rd_T79 l1 x9_1).f1) 0 (wrap64 (a0 - 1)) true _ A11.out).mono ?_);rintro e w' ⟨rfl,⟨nd,rfl⟩⟩;(try first|exact⟨rfl,_,World.drewN_drewN _ _ _⟩|exact⟨rfl,_,Eq.trans (World.drewN_drewN _ _ _) (congrArg (World.drewN _) (Nat.add_assoc _ _ _))⟩))))
        go_meet
        case rel=>exact⟨_,(true),zrs,H',⟨by have:=HK1.out;first|omega|exact Nat.le_refl _⟩,⟨by(with_reducible repeat(first|refine blk_drewN ?_ _|refine blk_drew ?_ |refine blk_alloc ?_ _));refine blk_put (cs:= #[.int .i64 ((rd_T79 l1 x9_1).f0),.int .i64 ((rd_T79 l1 x9_1).f1),.int .i64 0]) ?_ 2 _ rfl;(with_reducible repeat(first|refine blk_drewN ?_ _|refine blk_drew ?_ |refine blk_alloc ?_ _));refine blk_put (cs:= #[.int .i64 ((rd_T79 l1 x9_1).f0),.int .i64 0,.int .i64 0]) ?_ 1 _ rfl;(with_reducible repeat(first|refine blk_drewN ?_ _|refine blk_drew ?_ |refine blk_alloc ?_ _));refine blk_put (cs:= #[.int .i64 0,.int .i64 0,.int .i64 0]) ?_ 0 _ rfl;(with_reducible repeat(first|refine blk_drewN ?_ _|refine blk_drew ?_ |refine blk_alloc ?_ _));exact BK282.out⟩,⟨by exact zk2 HB GE282.out⟩⟩
       ·rw [if_neg c13] at H
        have c13b0:decide (((rd_T79 l1 x9_1).f1)≤ ((rd_T79 l1 x9_1).f0))=false:=decide_eq_false c13
        clear c13
        (first|rw [c13b0]|(simp only [i64_w,i32_w];rw [c13b0])|skip)
        replace H:=Option.bind_eq_some_iff.mp H
        obtain⟨t285,A150,H⟩:=H
        replace H:(spec_GoodEdges.j1 k1 a0 l1 x9_1 l1 (l1.length:Int) x9_1 (!t285) ((rd_T79 l1 x9_1).f0) ((rd_T79 l1 x9_1).f1) ((rd_T79 l1 x9_1).f2))=some r:=H
        have A15:=Aside0.mk A150
        clear A150
        have H':=Aside0.mk H
        clear H
        have hcz16_0:=zcz BK282 0 (.int .i64 0)
        have hcz16_1:=zcz BK282 1 (.int .i64 0)
        have hcz16_2:=zcz BK282 2 (.int .i64 0)
        have hfz16_0:=blk_frozen BK282.out 0
        have hfz16_1:=blk_frozen BK282.out 1
        have hfz16_2:=blk_frozen BK282.out 2
        go_wp2_with (first|(go_at_call 59;(with_reducible refine(spec_l1In.calls ((rd_T79 l1 x9_1).f0) 0 (wrap64 (a0 - 1)) true _ A9.out).mono ?_);rintro e w' ⟨rfl,⟨nd,rfl⟩⟩;(try first|exact⟨rfl,_,World.drewN_drewN _ _ _⟩|exact⟨rfl,_,Eq.trans (World.drewN_drewN _ _ _) (congrArg (World.drewN _) (Nat.add_assoc _ _ _))⟩))|(go_at_call 59;(with_reducible refine(spec_l1In.calls ((rd_T79 l1 x9_1).f1) 0 (wrap64 (a0 - 1)) true _ A11.out).mono ?_);rintro e w' ⟨rfl,⟨nd,rfl⟩⟩;(try first|exact⟨rfl,_,World.drewN_drewN _ _ _⟩|exact⟨rfl,_,Eq.trans (World.drewN_drewN _ _ _) (congrArg (World.drewN _) (Nat.add_assoc _ _ _))⟩))|(go_at_call 59;(with_reducible refine(spec_l1In.calls ((rd_T79 l1 x9_1).f2) 1 100 t285 _ A15.out).mono ?_);rintro e w' ⟨rfl,⟨nd,rfl⟩⟩;(try first|exact⟨rfl,_,World.drewN_drewN _ _ _⟩|exact⟨rfl,_,Eq.trans (World.drewN_drewN _ _ _) (congrArg (World.drewN _) (Nat.add_assoc _ _ _))⟩)))
        repeat(go_quiet (first|(go_at_call 59;(with_reducible refine(spec_l1In.calls ((rd_T79 l1 x9_1).f0) 0 (wrap64 (a0 - 1)) true _ A9.out).mono ?_);rintro e w' ⟨rfl,⟨nd,rfl⟩⟩;(try first|exact⟨rfl,_,World.drewN_drewN _ _ _⟩|exact⟨rfl,_,Eq.trans (World.drewN_drewN _ _ _) (congrArg (World.drewN _) (Nat.add_assoc _ _ _))⟩))|(go_at_call 59;(with_reducible refine(spec_l1In.calls ((rd_T79 l1 x9_1).f1) 0 (wrap64 (a0 - 1)) true _ A11.out).mono ?_);rintro e w' ⟨rfl,⟨nd,rfl⟩⟩;(try first|exact⟨rfl,_,World.drewN_drewN _ _ _⟩|exact⟨rfl,_,Eq.trans (World.drewN_drewN _ _ _) (congrArg (World.drewN _) (Nat.add_assoc _ _ _))⟩))|(go_at_call 59;(with_reducible refine(spec_l1In.calls ((rd_T79 l1 x9_1).f2) 1 100 t285 _ A15.out).mono ?_);rintro e w' ⟨rfl,⟨nd,rfl⟩⟩;(try first|exact⟨rfl,_,World.drewN_drewN _ _ _⟩|exact⟨rfl,_,Eq.trans (World.drewN_drewN _ _ _) (congrArg (World.drewN _) (Nat.add_assoc _ _ _))⟩)));try go_wp2_with (first|(go_at_call 59;(with_reducible refine(spec_l1In.calls ((rd_T79 l1 x9_1).f0) 0 (wrap64 (a0 - 1)) true _ A9.out).mono ?_);rintro e w' ⟨rfl,⟨nd,rfl⟩⟩;(try first|exact⟨rfl,_,World.drewN_drewN _ _ _⟩|exact⟨rfl,_,Eq.trans (World.drewN_drewN _ _ _) (congrArg (World.drewN _) (Nat.add_assoc _ _ _))⟩))|(go_at_call 59;(with_reducible refine(spec_l1In.calls ((rd_T79 l1 x9_1).f1) 0 (wrap64 (a0 - 1)) true _ A11.out).mono ?_);rintro e w' ⟨rfl,⟨nd,rfl⟩⟩;(try first|exact⟨rfl,_,World.drewN_drewN _ _ _⟩|exact⟨rfl,_,Eq.trans (World.drewN_drewN _ _ _) (congrArg (World.drewN _) (Nat.add_assoc _ _ _))⟩))|(go_at_call 59;(with_reducible refine(spec_l1In.calls ((rd_T79 l1 x9_1).f2) 1 100 t285 _ A15.out).mono ?_);rintro e w' ⟨rfl,⟨nd,rfl⟩⟩;(try first|exact⟨rfl,_,World.drewN_drewN _ _ _⟩|exact⟨rfl,_,Eq.trans (World.drewN_drewN _ _ _) (congrArg (World.drewN _) (Nat.add_assoc _ _ _))⟩))))
        go_meet
        case rel=>exact⟨_,(!t285),zrs,H',⟨by have:=HK1.out;first|omega|exact Nat.le_refl _⟩,⟨by(with_reducible repeat(first|refine blk_drewN ?_ _|refine blk_drew ?_ |refine blk_alloc ?_ _));refine blk_put (cs:= #[.int .i64 ((rd_T79 l1 x9_1).f0),.int .i64 ((rd_T79 l1 x9_1).f1),.int .i64 0]) ?_ 2 _ rfl;(with_reducible repeat(first|refine blk_drewN ?_ _|refine blk_drew ?_ |refine blk_alloc ?_ _));refine blk_put (cs:= #[.int .i64 ((rd_T79 l1 x9_1).f0),.int .i64 0,.int .i64 0]) ?_ 1 _ rfl;(with_reducible repeat(first|refine blk_drewN ?_ _|refine blk_drew ?_ |refine blk_alloc ?_ _));refine blk_put (cs:= #[.int .i64 0,.int .i64 0,.int .i64 0]) ?_ 0 _ rfl;(with_reducible repeat(first|refine blk_drewN ?_ _|refine blk_drew ?_ |refine blk_alloc ?_ _));exact BK282.out⟩,⟨by exact zk2 HB GE282.out⟩⟩
      ·replace c12:=Bool.eq_false_iff.mpr c12
       subst c12
       have H1:(spec_GoodEdges.j1 k1 a0 l1 x9_1 l1 (l1.length:Int) x9_1 true ((rd_T79 l1 x9_1).f0) ((rd_T79 l1 x9_1).f1) ((rd_T79 l1 x9_1).f2))=some r:=by rw [if_neg (show ¬ (false=true) by decide)] at H;exact H
       clear H
       have H:=H1
       clear H1
       have H':=Aside0.mk H
       clear H
       have hcz17_0:=zcz BK282 0 (.int .i64 0)
       have hcz17_1:=zcz BK282 1 (.int .i64 0)
       have hcz17_2:=zcz BK282 2 (.int .i64 0)
       have hfz17_0:=blk_frozen BK282.out 0
       have hfz17_1:=blk_frozen BK282.out 1
       have hfz17_2:=blk_frozen BK282.out 2
       go_wp2_with (first|(go_at_call 59;(with_reducible refine(spec_l1In.calls ((rd_T79 l1 x9_1).f0) 0 (wrap64 (a0 - 1)) true _ A9.out).mono ?_);rintro e w' ⟨rfl,⟨nd,rfl⟩⟩;(try first|exact⟨rfl,_,World.drewN_drewN _ _ _⟩|exact⟨rfl,_,Eq.trans (World.drewN_drewN _ _ _) (congrArg (World.drewN _) (Nat.add_assoc _ _ _))⟩))|(go_at_call 59;(with_reducible refine(spec_l1In.calls ((rd_T79 l1 x9_1).f1) 0 (wrap64 (a0 - 1)) false _ A11.out).mono ?_);rintro e w' ⟨rfl,⟨nd,rfl⟩⟩;(try first|exact⟨rfl,_,World.drewN_drewN _ _ _⟩|exact⟨rfl,_,Eq.trans (World.drewN_drewN _ _ _) (congrArg (World.drewN _) (Nat.add_assoc _ _ _))⟩)))
       repeat(go_quiet (first|(go_at_call 59;(with_reducible refine(spec_l1In.calls ((rd_T79 l1 x9_1).f0) 0 (wrap64 (a0 - 1)) true _ A9.out).mono ?_);rintro e w' ⟨rfl,⟨nd,rfl⟩⟩;(try first|exact⟨rfl,_,World.drewN_drewN _ _ _⟩|exact⟨rfl,_,Eq.trans (World.drewN_drewN _ _ _) (congrArg (World.drewN _) (Nat.add_assoc _ _ _))⟩))|(go_at_call 59;(with_reducible refine(spec_l1In.calls ((rd_T79 l1 x9_1).f1) 0 (wrap64 (a0 - 1)) false _ A11.out).mono ?_);rintro e w' ⟨rfl,⟨nd,rfl⟩⟩;(try first|exact⟨rfl,_,World.drewN_drewN _ _ _⟩|exact⟨rfl,_,Eq.trans (World.drewN_drewN _ _ _) (congrArg (World.drewN _) (Nat.add_assoc _ _ _))⟩)));try go_wp2_with (first|(go_at_call 59;(with_reducible refine(spec_l1In.calls ((rd_T79 l1 x9_1).f0) 0 (wrap64 (a0 - 1)) true _ A9.out).mono ?_);rintro e w' ⟨rfl,⟨nd,rfl⟩⟩;(try first|exact⟨rfl,_,World.drewN_drewN _ _ _⟩|exact⟨rfl,_,Eq.trans (World.drewN_drewN _ _ _) (congrArg (World.drewN _) (Nat.add_assoc _ _ _))⟩))|(go_at_call 59;(with_reducible refine(spec_l1In.calls ((rd_T79 l1 x9_1).f1) 0 (wrap64 (a0 - 1)) false _ A11.out).mono ?_);rintro e w' ⟨rfl,⟨nd,rfl⟩⟩;(try first|exact⟨rfl,_,World.drewN_drewN _ _ _⟩|exact⟨rfl,_,Eq.trans (World.drewN_drewN _ _ _) (congrArg (World.drewN _) (Nat.add_assoc _ _ _))⟩))))
       go_meet
       case rel=>exact⟨_,(true),zrs,H',⟨by have:=HK1.out;first|omega|exact Nat.le_refl _⟩,⟨by(with_reducible repeat(first|refine blk_drewN ?_ _|refine blk_drew ?_ |refine blk_alloc ?_ _));refine blk_put (cs:= #[.int .i64 ((rd_T79 l1 x9_1).f0),.int .i64 ((rd_T79 l1 x9_1).f1),.int .i64 0]) ?_ 2 _ rfl;(with_reducible repeat(first|refine blk_drewN ?_ _|refine blk_drew ?_ |refine blk_alloc ?_ _));refine blk_put (cs:= #[.int .i64 ((rd_T79 l1 x9_1).f0),.int .i64 0,.int .i64 0]) ?_ 1 _ rfl;(with_reducible repeat(first|refine blk_drewN ?_ _|refine blk_drew ?_ |refine blk_alloc ?_ _));refine blk_put (cs:= #[.int .i64 0,.int .i64 0,.int .i64 0]) ?_ 0 _ rfl;(with_reducible repeat(first|refine blk_drewN ?_ _|refine blk_drew ?_ |refine blk_alloc ?_ _));exact BK282.out⟩,⟨by exact zk2 HB GE282.out⟩⟩
     ·replace c10:=Bool.eq_false_iff.mpr c10
      subst c10
      have H1:(spec_GoodEdges.j1 k1 a0 l1 x9_1 l1 (l1.length:Int) x9_1 true ((rd_T79 l1 x9_1).f0) ((rd_T79 l1 x9_1).f1) ((rd_T79 l1 x9_1).f2))=some r:=by rw [if_neg (show ¬ (false=true) by decide)] at H;exact H
      clear H
      have H:=H1
      clear H1
      have H':=Aside0.mk H
      clear H
      have hcz18_0:=zcz BK282 0 (.int .i64 0)
      have hcz18_1:=zcz BK282 1 (.int .i64 0)
      have hcz18_2:=zcz BK282 2 (.int .i64 0)
      have hfz18_0:=blk_frozen BK282.out 0
      have hfz18_1:=blk_frozen BK282.out 1
      have hfz18_2:=blk_frozen BK282.out 2
      go_wp2_with (first|(go_at_call 59;(with_reducible refine(spec_l1In.calls ((rd_T79 l1 x9_1).f0) 0 (wrap64 (a0 - 1)) false _ A9.out).mono ?_);rintro e w' ⟨rfl,⟨nd,rfl⟩⟩;(try first|exact⟨rfl,_,World.drewN_drewN _ _ _⟩|exact⟨rfl,_,Eq.trans (World.drewN_drewN _ _ _) (congrArg (World.drewN _) (Nat.add_assoc _ _ _))⟩)))
      repeat(go_quiet (first|(go_at_call 59;(with_reducible refine(spec_l1In.calls ((rd_T79 l1 x9_1).f0) 0 (wrap64 (a0 - 1)) false _ A9.out).mono ?_);rintro e w' ⟨rfl,⟨nd,rfl⟩⟩;(try first|exact⟨rfl,_,World.drewN_drewN _ _ _⟩|exact⟨rfl,_,Eq.trans (World.drewN_drewN _ _ _) (congrArg (World.drewN _) (Nat.add_assoc _ _ _))⟩)));try go_wp2_with (first|(go_at_call 59;(with_reducible refine(spec_l1In.calls ((rd_T79 l1 x9_1).f0) 0 (wrap64 (a0 - 1)) false _ A9.out).mono ?_);rintro e w' ⟨rfl,⟨nd,rfl⟩⟩;(try first|exact⟨rfl,_,World.drewN_drewN _ _ _⟩|exact⟨rfl,_,Eq.trans (World.drewN_drewN _ _ _) (congrArg (World.drewN _) (Nat.add_assoc _ _ _))⟩))))
      go_meet
      case rel=>exact⟨_,(true),zrs,H',⟨by have:=HK1.out;first|omega|exact Nat.le_refl _⟩,⟨by(with_reducible repeat(first|refine blk_drewN ?_ _|refine blk_drew ?_ |refine blk_alloc ?_ _));refine blk_put (cs:= #[.int .i64 ((rd_T79 l1 x9_1).f0),.int .i64 ((rd_T79 l1 x9_1).f1),.int .i64 0]) ?_ 2 _ rfl;(with_reducible repeat(first|refine blk_drewN ?_ _|refine blk_drew ?_ |refine blk_alloc ?_ _));refine blk_put (cs:= #[.int .i64 ((rd_T79 l1 x9_1).f0),.int .i64 0,.int .i64 0]) ?_ 1 _ rfl;(with_reducible repeat(first|refine blk_drewN ?_ _|refine blk_drew ?_ |refine blk_alloc ?_ _));refine blk_put (cs:= #[.int .i64 0,.int .i64 0,.int .i64 0]) ?_ 0 _ rfl;(with_reducible repeat(first|refine blk_drewN ?_ _|refine blk_drew ?_ |refine blk_alloc ?_ _));exact BK282.out⟩,⟨by exact zk2 HB GE282.out⟩⟩
    case rest=>
     clear HC6
     try clear c1
     try clear p2
     try clear q2
     try clear hx2
     try clear c3
     try clear c3b0
     try clear c4
     try clear c4b0
     try clear c5
     try clear c5b0
     try clear c6
     try clear p6
     try clear c10
     try clear c12
     try clear c13
     try clear c13b0
     try clear hcz14_0
     try clear hcz14_1
     try clear hcz14_2
     try clear hcz16_0
     try clear hcz16_1
     try clear hcz16_2
     try clear hcz17_0
     try clear hcz17_1
     try clear hcz17_2
     try clear hcz18_0
     try clear hcz18_1
     try clear hcz18_2
     try clear hcz8_0
     try clear hcz8_1
     try clear hcz8_2
     try clear hfz14_0
     try clear hfz14_1
     try clear hfz14_2
     try clear hfz16_0
     try clear hfz16_1
     try clear hfz16_2
     try clear hfz17_0
     try clear hfz17_1
     try clear hfz17_2
     try clear hfz18_0
     try clear hfz18_1
     try clear hfz18_2
     try clear hfz8_0
     try clear hfz8_1
     try clear hfz8_2
     try clear hx281_0
     try clear hx281_1
     try clear hx281_2
     try clear p2
     try clear p281
     try clear q281
     obtain⟨kq,x40_5,rfl,HA,HJ5,BK282,HB⟩:=hcut
     cases kq with
     |zero=>exact absurd HA.out (by simp [spec_GoodEdges.j1])
     |succ kj5=>
      have H:=HA.out
      clear HA
      simp only [spec_GoodEdges.j1] at H
      by_cases c19:x40_5=true
      ·subst c19
       have H1:(some false)=some r:=by rw [if_pos rfl] at H;exact H
       clear H
       have H:=H1
       clear H1
       obtain rfl:=Option.some.inj H
       go_wp2
       repeat(go_quiet (fail);try go_wp2)
       go_ret
       exact⟨zer,by exact zk2 HB GE282.out⟩
      ·replace c19:=Bool.eq_false_iff.mpr c19
       subst c19
       have H1:(if x9_1 > 0 then(if 0≤ (wrap64 (x9_1 - 1)) then(if (wrap64 (x9_1 - 1))< (l1.length:Int) then(if ((rd_T79 l1 (wrap64 (x9_1 - 1))).f0) > ((rd_T79 l1 x9_1).f0) then(some false) else(if ((rd_T79 l1 (wrap64 (x9_1 - 1))).f0)= ((rd_T79 l1 x9_1).f0) then(if ((rd_T79 l1 (wrap64 (x9_1 - 1))).f1)≥ ((rd_T79 l1 x9_1).f1) then(some false) else(spec_GoodEdges.l0 kj5 a0 l1 l1 (l1.length:Int) (wrap64 (x9_1+1)))) else(spec_GoodEdges.l0 kj5 a0 l1 l1 (l1.length:Int) (wrap64 (x9_1+1))))) else(none)) else(none)) else(spec_GoodEdges.l0 kj5 a0 l1 l1 (l1.length:Int) (wrap64 (x9_1+1))))=some r:=by rw [if_neg (show ¬ (false=true) by decide)] at H;exact H
       clear H
       have H:=H1
       clear H1
       by_cases c20:x9_1 > 0
       ·rw [if_pos c20] at H
        have c20b0:decide (0<x9_1)=true:=decide_eq_true c20
        clear c20
        obtain⟨ji21,hji21⟩ :∃ j_:Int,(wrap64 (x9_1 - 1))=j_:=⟨_,rfl⟩
        replace H:(if 0≤ (ji21) then(if (ji21)< (l1.length:Int) then(if ((rd_T79 l1 (ji21)).f0) > ((rd_T79 l1 x9_1).f0) then(some false) else(if ((rd_T79 l1 (ji21)).f0)= ((rd_T79 l1 x9_1).f0) then(if ((rd_T79 l1 (ji21)).f1)≥ ((rd_T79 l1 x9_1).f1) then(some false) else(spec_GoodEdges.l0 kj5 a0 l1 l1 (l1.length:Int) (wrap64 (x9_1+1)))) else(spec_GoodEdges.l0 kj5 a0 l1 l1 (l1.length:Int) (wrap64 (x9_1+1))))) else(none)) else(none))=some r:=by first|(rw [hji21] at H;exact H)|(simp only [hji21] at H ⊢;exact H)
        have hji21w:(IntKind.i64.wrap (x9_1 - 1))=ji21:=(i64_w _).trans hji21
        by_cases c22: 0≤ (ji21)
        case neg=>exact znn c22 H
        rw [if_pos c22] at H
        have c22b0:decide (0≤ (ji21))=true:=decide_eq_true c22
        clear c22
        by_cases c23:(ji21)< (l1.length:Int)
        case neg=>exact znn c23 H
        rw [if_pos c23] at H
        have c23b0:decide ((ji21)< (l1.length:Int))=true:=decide_eq_true c23
        clear c23
        by_cases c24:((rd_T79 l1 (ji21)).f0) > ((rd_T79 l1 x9_1).f0)
        ·rw [if_pos c24] at H
         have c24b0:decide (((rd_T79 l1 x9_1).f0)< ((rd_T79 l1 (ji21)).f0))=true:=decide_eq_true c24
         clear c24
         obtain rfl:=Option.some.inj H
         have p286: 0≤ ((ji21):Int):=of_decide_eq_true zq1
         have q286:(ji21)< (l1.length:Int):=of_decide_eq_true zq1
         obtain⟨ad286,e286,hx286_0,hx286_1,hx286_2⟩:=at_T79 HR1.out (ji21) p286 q286
         obtain rfl:ad281=ad286:=(by injection e286)
         replace hx286_0:=zhx HB hx286_0
         replace hx286_1:=zhx HB hx286_1
         replace hx286_2:=zhx HB hx286_2
         replace p286:=eq_true p286
         replace q286:=eq_true q286
         have hcz25_0:wc.cell? ⟨gb282,0,none⟩=some (.int .i64 ((rd_T79 l1 x9_1).f0)):=(blk_cell BK282.out 0).trans rfl
         have hcz25_1:wc.cell? ⟨gb282,1,none⟩=some (.int .i64 ((rd_T79 l1 x9_1).f1)):=(blk_cell BK282.out 1).trans rfl
         have hcz25_2:wc.cell? ⟨gb282,2,none⟩=some (.int .i64 ((rd_T79 l1 x9_1).f2)):=(blk_cell BK282.out 2).trans rfl
         have hfz25_0:=blk_frozen BK282.out 0
         have hfz25_1:=blk_frozen BK282.out 1
         have hfz25_2:=blk_frozen BK282.out 2
         go_wp2
         repeat(go_quiet (fail);try go_wp2)
         go_ret
         exact⟨by first|rfl|(simp [errW_none,errW_some]<;>rfl)|(simp only [← hji21];first|rfl|(simp [errW_none,errW_some]<;>rfl))|(simp [*,errW_none,errW_some]<;>rfl),by exact zk2 HB GE282.out⟩
        ·rw [if_neg c24] at H
         have c24b0:decide (((rd_T79 l1 x9_1).f0)< ((rd_T79 l1 (ji21)).f0))=false:=decide_eq_false c24
         clear c24
         by_cases c26:((rd_T79 l1 (ji21)).f0)= ((rd_T79 l1 x9_1).f0)
         ·rw [if_pos c26] at H
          have c26b0:(((rd_T79 l1 (ji21)).f0)== ((rd_T79 l1 x9_1).f0))=true:=beq_iff_eq.mpr c26
          have c26b1:(((rd_T79 l1 (ji21)).f0) != ((rd_T79 l1 x9_1).f0))=false:=bne_eq_false_iff_eq.mpr c26
          clear c26
          by_cases c27:((rd_T79 l1 (ji21)).f1)≥ ((rd_T79 l1 x9_1).f1)
          ·rw [if_pos c27] at H
           have c27b0:decide (((rd_T79 l1 x9_1).f1)≤ ((rd_T79 l1 (ji21)).f1))=true:=decide_eq_true c27
           clear c27
           obtain rfl:=Option.some.inj H
           have p286: 0≤ ((ji21):Int):=of_decide_eq_true zq1
           have q286:(ji21)< (l1.length:Int):=of_decide_eq_true zq1
           obtain⟨ad286,e286,hx286_0,hx286_1,hx286_2⟩:=at_T79 HR1.out (ji21) p286 q286
           obtain rfl:ad281=ad286:=(by injection e286)
           replace hx286_0:=zhx HB hx286_0
           replace hx286_1:=zhx HB hx286_1
           replace hx286_2:=zhx HB hx286_2
           replace p286:=eq_true p286
           replace q286:=eq_true q286
           have hcz28_0:wc.cell? ⟨gb282,0,none⟩=some (.int .i64 ((rd_T79 l1 x9_1).f0)):=(blk_cell BK282.out 0).trans rfl
           have hcz28_1:wc.cell? ⟨gb282,1,none⟩=some (.int .i64 ((rd_T79 l1 x9_1).f1)):=(blk_cell BK282.out 1).trans rfl
           have hcz28_2:wc.cell? ⟨gb282,2,none⟩=some (.int .i64 ((rd_T79 l1 x9_1).f2)):=(blk_cell BK282.out 2).trans rfl
           have hfz28_0:=blk_frozen BK282.out 0
           have hfz28_1:=blk_frozen BK282.out 1
           have hfz28_2:=blk_frozen BK282.out 2
           have p287: 0≤ ((ji21):Int):=of_decide_eq_true zq1
           have q287:(ji21)< (l1.length:Int):=of_decide_eq_true zq1
           obtain⟨ad287,e287,hx287_0,hx287_1,hx287_2⟩:=at_T79 HR1.out (ji21) p287 q287
           obtain rfl:ad281=ad287:=(by injection e287)
           replace hx287_0:=zhx HB hx287_0
           replace hx287_1:=zhx HB hx287_1
           replace hx287_2:=zhx HB hx287_2
           replace p287:=eq_true p287
           replace q287:=eq_true q287
           have p288: 0≤ ((ji21):Int):=of_decide_eq_true zq1
           have q288:(ji21)< (l1.length:Int):=of_decide_eq_true zq1
           obtain⟨ad288,e288,hx288_0,hx288_1,hx288_2⟩:=at_T79 HR1.out (ji21) p288 q288
           obtain rfl:ad281=ad288:=(by injection e288)
           replace hx288_0:=zhx HB hx288_0
           replace hx288_1:=zhx HB hx288_1
           replace hx288_2:=zhx HB hx288_2
           replace p288:=eq_true p288
           replace q288:=eq_true q288
           go_wp2
           repeat(go_quiet (fail);try go_wp2)
           go_ret
           exact⟨by first|rfl|(simp [errW_none,errW_some]<;>rfl)|(simp only [← hji21];first|rfl|(simp [errW_none,errW_some]<;>rfl))|(simp [*,errW_none,errW_some]<;>rfl),by exact zk2 HB GE282.out⟩
          ·rw [if_neg c27] at H
           have c27b0:decide (((rd_T79 l1 x9_1).f1)≤ ((rd_T79 l1 (ji21)).f1))=false:=decide_eq_false c27
           clear c27
           have H':=Aside0.mk H
           clear H
           have p286: 0≤ ((ji21):Int):=of_decide_eq_true zq1
           have q286:(ji21)< (l1.length:Int):=of_decide_eq_true zq1
           obtain⟨ad286,e286,hx286_0,hx286_1,hx286_2⟩:=at_T79 HR1.out (ji21) p286 q286
           obtain rfl:ad281=ad286:=(by injection e286)
           replace hx286_0:=zhx HB hx286_0
           replace hx286_1:=zhx HB hx286_1
           replace hx286_2:=zhx HB hx286_2
           replace p286:=eq_true p286
           replace q286:=eq_true q286
           have hcz29_0:wc.cell? ⟨gb282,0,none⟩=some (.int .i64 ((rd_T79 l1 x9_1).f0)):=(blk_cell BK282.out 0).trans rfl
           have hcz29_1:wc.cell? ⟨gb282,1,none⟩=some (.int .i64 ((rd_T79 l1 x9_1).f1)):=(blk_cell BK282.out 1).trans rfl
           have hcz29_2:wc.cell? ⟨gb282,2,none⟩=some (.int .i64 ((rd_T79 l1 x9_1).f2)):=(blk_cell BK282.out 2).trans rfl
           have hfz29_0:=blk_frozen BK282.out 0
           have hfz29_1:=blk_frozen BK282.out 1
           have hfz29_2:=blk_frozen BK282.out 2
           have p287: 0≤ ((ji21):Int):=of_decide_eq_true zq1
           have q287:(ji21)< (l1.length:Int):=of_decide_eq_true zq1
           obtain⟨ad287,e287,hx287_0,hx287_1,hx287_2⟩:=at_T79 HR1.out (ji21) p287 q287
           obtain rfl:ad281=ad287:=(by injection e287)
           replace hx287_0:=zhx HB hx287_0
           replace hx287_1:=zhx HB hx287_1
           replace hx287_2:=zhx HB hx287_2
           replace p287:=eq_true p287
           replace q287:=eq_true q287
           have p288: 0≤ ((ji21):Int):=of_decide_eq_true zq1
           have q288:(ji21)< (l1.length:Int):=of_decide_eq_true zq1
           obtain⟨ad288,e288,hx288_0,hx288_1,hx288_2⟩:=at_T79 HR1.out (ji21) p288 q288
           obtain rfl:ad281=ad288:=(by injection e288)
           replace hx288_0:=zhx HB hx288_0
           replace hx288_1:=zhx HB hx288_1
           replace hx288_2:=zhx HB hx288_2
           replace p288:=eq_true p288
           replace q288:=eq_true q288
           go_wp2
           repeat(go_quiet (fail);try go_wp2)
           go_roundg kj5
           case measure=>have:=HK1.out;have:=HJ5.out;omega
           case rel=>exact⟨(wrap64 (x9_1+1)),zrs,H',⟨by have:=HK1.out;have:=HJ5.out;omega⟩,⟨by exact zk2 HB GE282.out⟩⟩
         ·rw [if_neg c26] at H
          have c26b0:(((rd_T79 l1 (ji21)).f0)== ((rd_T79 l1 x9_1).f0))=false:=beq_eq_false_iff_ne.mpr c26
          have c26b1:(((rd_T79 l1 (ji21)).f0) != ((rd_T79 l1 x9_1).f0))=true:=bne_iff_ne.mpr c26
          have H':=Aside0.mk H
          clear H
          have p286: 0≤ ((ji21):Int):=of_decide_eq_true zq1
          have q286:(ji21)< (l1.length:Int):=of_decide_eq_true zq1
          obtain⟨ad286,e286,hx286_0,hx286_1,hx286_2⟩:=at_T79 HR1.out (ji21) p286 q286
          obtain rfl:ad281=ad286:=(by injection e286)
          replace hx286_0:=zhx HB hx286_0
          replace hx286_1:=zhx HB hx286_1
          replace hx286_2:=zhx HB hx286_2
          replace p286:=eq_true p286
          replace q286:=eq_true q286
          have hcz30_0:wc.cell? ⟨gb282,0,none⟩=some (.int .i64 ((rd_T79 l1 x9_1).f0)):=(blk_cell BK282.out 0).trans rfl
          have hcz30_1:wc.cell? ⟨gb282,1,none⟩=some (.int .i64 ((rd_T79 l1 x9_1).f1)):=(blk_cell BK282.out 1).trans rfl
          have hcz30_2:wc.cell? ⟨gb282,2,none⟩=some (.int .i64 ((rd_T79 l1 x9_1).f2)):=(blk_cell BK282.out 2).trans rfl
          have hfz30_0:=blk_frozen BK282.out 0
          have hfz30_1:=blk_frozen BK282.out 1
          have hfz30_2:=blk_frozen BK282.out 2
          have p287: 0≤ ((ji21):Int):=of_decide_eq_true zq1
          have q287:(ji21)< (l1.length:Int):=of_decide_eq_true zq1
          obtain⟨ad287,e287,hx287_0,hx287_1,hx287_2⟩:=at_T79 HR1.out (ji21) p287 q287
          obtain rfl:ad281=ad287:=(by injection e287)
          replace hx287_0:=zhx HB hx287_0
          replace hx287_1:=zhx HB hx287_1
          replace hx287_2:=zhx HB hx287_2
          replace p287:=eq_true p287
          replace q287:=eq_true q287
          go_wp2
          repeat(go_quiet (fail);try go_wp2)
          go_roundg kj5
          case measure=>have:=HK1.out;have:=HJ5.out;omega
          case rel=>exact⟨(wrap64 (x9_1+1)),zrs,H',⟨by have:=HK1.out;have:=HJ5.out;omega⟩,⟨by exact zk2 HB GE282.out⟩⟩
       ·rw [if_neg c20] at H
        have c20b0:decide (0<x9_1)=false:=decide_eq_false c20
        clear c20
        have H':=Aside0.mk H
        clear H
        go_wp2
        repeat(go_quiet (fail);try go_wp2)
        go_roundg kj5
        case measure=>have:=HK1.out;have:=HJ5.out;omega
        case rel=>exact⟨(wrap64 (x9_1+1)),zrs,H',⟨by have:=HK1.out;have:=HJ5.out;omega⟩,⟨by exact zk2 HB GE282.out⟩⟩
   ·rw [if_neg c3] at H
    have c3b0:decide (x9_1< (l1.length:Int))=false:=decide_eq_false c3
    clear c3
    replace H:=Option.bind_eq_some_iff.mp H
    obtain⟨t280,A310,H⟩:=H
    replace H:(if t280=true then(some (decide ((l1.length:Int)≤40))) else(some false))=some r:=H
    have A31:=Aside0.mk A310
    clear A310
    by_cases c32:t280=true
    ·subst c32
     have H1:(some (decide ((l1.length:Int)≤40)))=some r:=by rw [if_pos rfl] at H;exact H
     clear H
     have H:=H1
     clear H1
     obtain rfl:=Option.some.inj H
     go_wp2_with (first|(go_at_call 59;(with_reducible refine(spec_l1In.calls a0 1 12 true _ A31.out).mono ?_);rintro e w' ⟨rfl,⟨nd,rfl⟩⟩;(try first|exact⟨rfl,_,World.drewN_drewN _ _ _⟩|exact⟨rfl,_,Eq.trans (World.drewN_drewN _ _ _) (congrArg (World.drewN _) (Nat.add_assoc _ _ _))⟩)))
     repeat(go_quiet (first|(go_at_call 59;(with_reducible refine(spec_l1In.calls a0 1 12 true _ A31.out).mono ?_);rintro e w' ⟨rfl,⟨nd,rfl⟩⟩;(try first|exact⟨rfl,_,World.drewN_drewN _ _ _⟩|exact⟨rfl,_,Eq.trans (World.drewN_drewN _ _ _) (congrArg (World.drewN _) (Nat.add_assoc _ _ _))⟩)));try go_wp2_with (first|(go_at_call 59;(with_reducible refine(spec_l1In.calls a0 1 12 true _ A31.out).mono ?_);rintro e w' ⟨rfl,⟨nd,rfl⟩⟩;(try first|exact⟨rfl,_,World.drewN_drewN _ _ _⟩|exact⟨rfl,_,Eq.trans (World.drewN_drewN _ _ _) (congrArg (World.drewN _) (Nat.add_assoc _ _ _))⟩))))
     go_ret
     exact⟨zer,by exact zk1 HB⟩
    ·replace c32:=Bool.eq_false_iff.mpr c32
     subst c32
     have H1:(some false)=some r:=by rw [if_neg (show ¬ (false=true) by decide)] at H;exact H
     clear H
     have H:=H1
     clear H1
     obtain rfl:=Option.some.inj H
     go_wp2_with (first|(go_at_call 59;(with_reducible refine(spec_l1In.calls a0 1 12 false _ A31.out).mono ?_);rintro e w' ⟨rfl,⟨nd,rfl⟩⟩;(try first|exact⟨rfl,_,World.drewN_drewN _ _ _⟩|exact⟨rfl,_,Eq.trans (World.drewN_drewN _ _ _) (congrArg (World.drewN _) (Nat.add_assoc _ _ _))⟩)))
     repeat(go_quiet (first|(go_at_call 59;(with_reducible refine(spec_l1In.calls a0 1 12 false _ A31.out).mono ?_);rintro e w' ⟨rfl,⟨nd,rfl⟩⟩;(try first|exact⟨rfl,_,World.drewN_drewN _ _ _⟩|exact⟨rfl,_,Eq.trans (World.drewN_drewN _ _ _) (congrArg (World.drewN _) (Nat.add_assoc _ _ _))⟩)));try go_wp2_with (first|(go_at_call 59;(with_reducible refine(spec_l1In.calls a0 1 12 false _ A31.out).mono ?_);rintro e w' ⟨rfl,⟨nd,rfl⟩⟩;(try first|exact⟨rfl,_,World.drewN_drewN _ _ _⟩|exact⟨rfl,_,Eq.trans (World.drewN_drewN _ _ _) (congrArg (World.drewN _) (Nat.add_assoc _ _ _))⟩))))
     go_ret
     exact⟨zer,by exact zk1 HB⟩
def spec_l9Edge.l0:Nat→Int→Int→List (S79)→Int→Int→Option (Int)
 | 0,_,_,_,_,_=>none
 |k+1,x1,x2,x9,x10,x11=>if x11<x10 then(if 0≤x11 then(if x11< (x9.length:Int) then(if ((rd_T79 x9 x11).f0)=x1 then(if ((rd_T79 x9 x11).f1)=x2 then(some ((rd_T79 x9 x11).f2)) else(if ((rd_T79 x9 x11).f0)=x2 then(if ((rd_T79 x9 x11).f1)=x1 then(some ((rd_T79 x9 x11).f2)) else(spec_l9Edge.l0 k x1 x2 x9 x10 (wrap64 (x11+1)))) else(spec_l9Edge.l0 k x1 x2 x9 x10 (wrap64 (x11+1))))) else(if ((rd_T79 x9 x11).f0)=x2 then(if ((rd_T79 x9 x11).f1)=x1 then(some ((rd_T79 x9 x11).f2)) else(spec_l9Edge.l0 k x1 x2 x9 x10 (wrap64 (x11+1)))) else(spec_l9Edge.l0 k x1 x2 x9 x10 (wrap64 (x11+1))))) else(none)) else(none)) else(some 0)
def spec_l9Edge.f (k:Nat) (l0:List (S79)) (a1:Int) (a2:Int):Option (Int):=spec_l9Edge.l0 k a1 a2 l0 (l0.length:Int) 0
set_option maxHeartbeats 8000000 in
set_option maxRecDepth 100000 in
theorem spec_l9Edge.calls (k:Nat) (A0:Option Addr) (c0:Nat) (l0:List (S79)) (a1:Int) (a2:Int) (r:Int) (w:World) (hr0:Kd.C k79 w A0 l0.length l0) (hc0:l0.length≤c0) (h:spec_l9Edge.f k l0 a1 a2=some r):
  Calls Try.prog 67 #[.slice A0 l0.length c0,.int .i64 a1,.int .i64 a2] w fun e w'=>e= .returned (.int .i64 r)∧Below w.heap.size w w':=by
 have hu79:=Try.underlying79
 have HR0:=Aside0.mk hr0
 have HC0:=Aside0.mk hc0
 clear hr0 hc0
 have HB:=Aside0.mk (Below.refl w.heap.size w)
 have H:(spec_l9Edge.l0 k a1 a2 l0 (l0.length:Int) 0)=some r:=h
 clear h
 have H':=Aside0.mk H
 clear H
 go_enter Try.func67,Try.ntmps67
 go_wp2
 go_loopg [11] k (fun kq v11 w'=> ∃ (x11_1:Int),v11= .int .i64 x11_1∧Aside0 (spec_l9Edge.l0 kq a1 a2 l0 (l0.length:Int) x11_1=some r)∧Aside0 (kq≤k)∧Aside0 (Below w.heap.size w w'))
 case atStart=>exact⟨(0),zrs,H',⟨Nat.le_refl _⟩,⟨by exact zk1 HB⟩⟩
 case round=>
  clear H'
  try clear p2
  obtain⟨x11_1,rfl,HA,HK1,HB⟩:=hrel
  cases gk with
  |zero=>exact absurd HA.out (by simp [spec_l9Edge.l0])
  |succ k1=>
   have H:=HA.out
   clear HA
   simp only [spec_l9Edge.l0] at H
   by_cases c4:x11_1< (l0.length:Int)
   ·rw [if_pos c4] at H
    have c4b0:decide (x11_1< (l0.length:Int))=true:=decide_eq_true c4
    clear c4
    by_cases c5: 0≤x11_1
    case neg=>exact znn c5 H
    rw [if_pos c5] at H
    have c5b0:decide (0≤x11_1)=true:=decide_eq_true c5
    clear c5
    by_cases c6:x11_1< (l0.length:Int)
    case neg=>exact znn c6 H
    rw [if_pos c6] at H
    have c6b0:decide (x11_1< (l0.length:Int))=true:=decide_eq_true c6
    clear c6
    by_cases c7:((rd_T79 l0 x11_1).f0)=a1
    ·rw [if_pos c7] at H
     have c7b0:(((rd_T79 l0 x11_1).f0)==a1)=true:=beq_iff_eq.mpr c7
     have c7b1:(((rd_T79 l0 x11_1).f0) !=a1)=false:=bne_eq_false_iff_eq.mpr c7
     clear c7
     by_cases c8:((rd_T79 l0 x11_1).f1)=a2
     ·rw [if_pos c8] at H
      have c8b0:(((rd_T79 l0 x11_1).f1)==a2)=true:=beq_iff_eq.mpr c8
      have c8b1:(((rd_T79 l0 x11_1).f1) !=a2)=false:=bne_eq_false_iff_eq.mpr c8
      clear c8
      obtain rfl:=Option.some.inj H
      have p289: 0≤ (x11_1:Int):=of_decide_eq_true zq1
      have q289:x11_1< (l0.length:Int):=of_decide_eq_true zq1
      obtain⟨ad289,e289,hx289_0,hx289_1,hx289_2⟩:=at_T79 HR0.out x11_1 p289 q289
      cases e289
      replace hx289_0:=zhx HB hx289_0
      replace hx289_1:=zhx HB hx289_1
      replace hx289_2:=zhx HB hx289_2
      replace p289:=eq_true p289
      replace q289:=eq_true q289
      go_wp2_with (first|((with_reducible refine gate_dst (N:=8) rfl ?_);refine box_event ?hg (N:=8) ?hd (cs:= #[.int .i64 0,.int .i64 0,.int .i64 0]) (t:=79) ?hr ?_;(case hd=>rfl);(case hg=>rfl);(case hr=>first|(go_simp;done)|(go_simp;rfl));intro gb290 hg w9 hbox hb;have BK290:=Aside0.mk (hbox);have GW290:=Aside0.mk ((by rw [hg];exact(below_size (by exact zk1 HB)):w.heap.size≤gb290));have GE290:=GW290;replace HB:=Aside0.mk (below_step (by exact zk1 HB) hb);clear hb hbox hg;have hcz10_0:=zcz BK290 0 (.int .i64 0);have hcz10_1:=zcz BK290 1 (.int .i64 0);have hcz10_2:=zcz BK290 2 (.int .i64 0);have hfz10_0:=blk_frozen BK290.out 0;have hfz10_1:=blk_frozen BK290.out 1;have hfz10_2:=blk_frozen BK290.out 2))
      go_ret
      exact⟨zer,by exact zk2 HB GE290.out⟩
     ·rw [if_neg c8] at H
      have c8b0:(((rd_T79 l0 x11_1).f1)==a2)=false:=beq_eq_false_iff_ne.mpr c8
      have c8b1:(((rd_T79 l0 x11_1).f1) !=a2)=true:=bne_iff_ne.mpr c8
      by_cases c11:((rd_T79 l0 x11_1).f0)=a2
      ·rw [if_pos c11] at H
       have c11b0:(((rd_T79 l0 x11_1).f0)==a2)=true:=beq_iff_eq.mpr c11
       have c11b1:(((rd_T79 l0 x11_1).f0) !=a2)=false:=bne_eq_false_iff_eq.mpr c11
       clear c11
       by_cases c12:((rd_T79 l0 x11_1).f1)=a1
       ·rw [if_pos c12] at H
        have c12b0:(((rd_T79 l0 x11_1).f1)==a1)=true:=beq_iff_eq.mpr c12
        have c12b1:(((rd_T79 l0 x11_1).f1) !=a1)=false:=bne_eq_false_iff_eq.mpr c12
        clear c12
        obtain rfl:=Option.some.inj H
        have p289: 0≤ (x11_1:Int):=of_decide_eq_true zq1
        have q289:x11_1< (l0.length:Int):=of_decide_eq_true zq1
        obtain⟨ad289,e289,hx289_0,hx289_1,hx289_2⟩:=at_T79 HR0.out x11_1 p289 q289
        cases e289
        replace hx289_0:=zhx HB hx289_0
        replace hx289_1:=zhx HB hx289_1
        replace hx289_2:=zhx HB hx289_2
        replace p289:=eq_true p289
        replace q289:=eq_true q289
        go_wp2_with (first|((with_reducible refine gate_dst (N:=8) rfl ?_);refine box_event ?hg (N:=8) ?hd (cs:= #[.int .i64 0,.int .i64 0,.int .i64 0]) (t:=79) ?hr ?_;(case hd=>rfl);(case hg=>rfl);(case hr=>first|(go_simp;done)|(go_simp;rfl));intro gb290 hg w13 hbox hb;have BK290:=Aside0.mk (hbox);have GW290:=Aside0.mk ((by rw [hg];exact(below_size (by exact zk1 HB)):w.heap.size≤gb290));have GE290:=GW290;replace HB:=Aside0.mk (below_step (by exact zk1 HB) hb);clear hb hbox hg;have hcz14_0:=zcz BK290 0 (.int .i64 0);have hcz14_1:=zcz BK290 1 (.int .i64 0);have hcz14_2:=zcz BK290 2 (.int .i64 0);have hfz14_0:=blk_frozen BK290.out 0;have hfz14_1:=blk_frozen BK290.out 1;have hfz14_2:=blk_frozen BK290.out 2))
        go_ret
        exact⟨zer,by exact zk2 HB GE290.out⟩
       ·rw [if_neg c12] at H
        have c12b0:(((rd_T79 l0 x11_1).f1)==a1)=false:=beq_eq_false_iff_ne.mpr c12
        have c12b1:(((rd_T79 l0 x11_1).f1) !=a1)=true:=bne_iff_ne.mpr c12
        have H':=Aside0.mk H
        clear H
        have p289: 0≤ (x11_1:Int):=of_decide_eq_true zq1
        have q289:x11_1< (l0.length:Int):=of_decide_eq_true zq1
        obtain⟨ad289,e289,hx289_0,hx289_1,hx289_2⟩:=at_T79 HR0.out x11_1 p289 q289
        cases e289
        replace hx289_0:=zhx HB hx289_0
        replace hx289_1:=zhx HB hx289_1
        replace hx289_2:=zhx HB hx289_2
        replace p289:=eq_true p289
        replace q289:=eq_true q289
        go_wp2_with (first|((with_reducible refine gate_dst (N:=8) rfl ?_);refine box_event ?hg (N:=8) ?hd (cs:= #[.int .i64 0,.int .i64 0,.int .i64 0]) (t:=79) ?hr ?_;(case hd=>rfl);(case hg=>rfl);(case hr=>first|(go_simp;done)|(go_simp;rfl));intro gb290 hg w15 hbox hb;have BK290:=Aside0.mk (hbox);have GW290:=Aside0.mk ((by rw [hg];exact(below_size (by exact zk1 HB)):w.heap.size≤gb290));have GE290:=GW290;replace HB:=Aside0.mk (below_step (by exact zk1 HB) hb);clear hb hbox hg;have hcz16_0:=zcz BK290 0 (.int .i64 0);have hcz16_1:=zcz BK290 1 (.int .i64 0);have hcz16_2:=zcz BK290 2 (.int .i64 0);have hfz16_0:=blk_frozen BK290.out 0;have hfz16_1:=blk_frozen BK290.out 1;have hfz16_2:=blk_frozen BK290.out 2))
        go_roundg k1
        case measure=>have:=HK1.out;omega
        case rel=>exact⟨(wrap64 (x11_1+1)),zrs,H',⟨by have:=HK1.out;omega⟩,⟨by exact zk2 HB GE290.out⟩⟩
      ·rw [if_neg c11] at H
       have c11b0:(((rd_T79 l0 x11_1).f0)==a2)=false:=beq_eq_false_iff_ne.mpr c11
       have c11b1:(((rd_T79 l0 x11_1).f0) !=a2)=true:=bne_iff_ne.mpr c11
       have H':=Aside0.mk H
       clear H
       have p289: 0≤ (x11_1:Int):=of_decide_eq_true zq1
       have q289:x11_1< (l0.length:Int):=of_decide_eq_true zq1
       obtain⟨ad289,e289,hx289_0,hx289_1,hx289_2⟩:=at_T79 HR0.out x11_1 p289 q289
       cases e289
       replace hx289_0:=zhx HB hx289_0
       replace hx289_1:=zhx HB hx289_1
       replace hx289_2:=zhx HB hx289_2
       replace p289:=eq_true p289
       replace q289:=eq_true q289
       go_wp2_with (first|((with_reducible refine gate_dst (N:=8) rfl ?_);refine box_event ?hg (N:=8) ?hd (cs:= #[.int .i64 0,.int .i64 0,.int .i64 0]) (t:=79) ?hr ?_;(case hd=>rfl);(case hg=>rfl);(case hr=>first|(go_simp;done)|(go_simp;rfl));intro gb290 hg w17 hbox hb;have BK290:=Aside0.mk (hbox);have GW290:=Aside0.mk ((by rw [hg];exact(below_size (by exact zk1 HB)):w.heap.size≤gb290));have GE290:=GW290;replace HB:=Aside0.mk (below_step (by exact zk1 HB) hb);clear hb hbox hg;have hcz18_0:=zcz BK290 0 (.int .i64 0);have hcz18_1:=zcz BK290 1 (.int .i64 0);have hcz18_2:=zcz BK290 2 (.int .i64 0);have hfz18_0:=blk_frozen BK290.out 0;have hfz18_1:=blk_frozen BK290.out 1;have hfz18_2:=blk_frozen BK290.out 2))
       go_roundg k1
       case measure=>have:=HK1.out;omega
       case rel=>exact⟨(wrap64 (x11_1+1)),zrs,H',⟨by have:=HK1.out;omega⟩,⟨by exact zk2 HB GE290.out⟩⟩
    ·rw [if_neg c7] at H
     have c7b0:(((rd_T79 l0 x11_1).f0)==a1)=false:=beq_eq_false_iff_ne.mpr c7
     have c7b1:(((rd_T79 l0 x11_1).f0) !=a1)=true:=bne_iff_ne.mpr c7
     by_cases c19:((rd_T79 l0 x11_1).f0)=a2
     ·rw [if_pos c19] at H
      have c19b0:(((rd_T79 l0 x11_1).f0)==a2)=true:=beq_iff_eq.mpr c19
      have c19b1:(((rd_T79 l0 x11_1).f0) !=a2)=false:=bne_eq_false_iff_eq.mpr c19
      clear c19
      by_cases c20:((rd_T79 l0 x11_1).f1)=a1
      ·rw [if_pos c20] at H
       have c20b0:(((rd_T79 l0 x11_1).f1)==a1)=true:=beq_iff_eq.mpr c20
       have c20b1:(((rd_T79 l0 x11_1).f1) !=a1)=false:=bne_eq_false_iff_eq.mpr c20
       clear c20
       obtain rfl:=Option.some.inj H
       have p289: 0≤ (x11_1:Int):=of_decide_eq_true zq1
       have q289:x11_1< (l0.length:Int):=of_decide_eq_true zq1
       obtain⟨ad289,e289,hx289_0,hx289_1,hx289_2⟩:=at_T79 HR0.out x11_1 p289 q289
       cases e289
       replace hx289_0:=zhx HB hx289_0
       replace hx289_1:=zhx HB hx289_1
       replace hx289_2:=zhx HB hx289_2
       replace p289:=eq_true p289
       replace q289:=eq_true q289
       go_wp2_with (first|((with_reducible refine gate_dst (N:=8) rfl ?_);refine box_event ?hg (N:=8) ?hd (cs:= #[.int .i64 0,.int .i64 0,.int .i64 0]) (t:=79) ?hr ?_;(case hd=>rfl);(case hg=>rfl);(case hr=>first|(go_simp;done)|(go_simp;rfl));intro gb290 hg w21 hbox hb;have BK290:=Aside0.mk (hbox);have GW290:=Aside0.mk ((by rw [hg];exact(below_size (by exact zk1 HB)):w.heap.size≤gb290));have GE290:=GW290;replace HB:=Aside0.mk (below_step (by exact zk1 HB) hb);clear hb hbox hg;have hcz22_0:=zcz BK290 0 (.int .i64 0);have hcz22_1:=zcz BK290 1 (.int .i64 0);have hcz22_2:=zcz BK290 2 (.int .i64 0);have hfz22_0:=blk_frozen BK290.out 0;have hfz22_1:=blk_frozen BK290.out 1;have hfz22_2:=blk_frozen BK290.out 2))
       go_ret
       exact⟨zer,by exact zk2 HB GE290.out⟩
      ·rw [if_neg c20] at H
       have c20b0:(((rd_T79 l0 x11_1).f1)==a1)=false:=beq_eq_false_iff_ne.mpr c20
       have c20b1:(((rd_T79 l0 x11_1).f1) !=a1)=true:=bne_iff_ne.mpr c20
       have H':=Aside0.mk H
       clear H
       have p289: 0≤ (x11_1:Int):=of_decide_eq_true zq1
       have q289:x11_1< (l0.length:Int):=of_decide_eq_true zq1
       obtain⟨ad289,e289,hx289_0,hx289_1,hx289_2⟩:=at_T79 HR0.out x11_1 p289 q289
       cases e289
       replace hx289_0:=zhx HB hx289_0
       replace hx289_1:=zhx HB hx289_1
       replace hx289_2:=zhx HB hx289_2
       replace p289:=eq_true p289
       replace q289:=eq_true q289
       go_wp2_with (first|((with_reducible refine gate_dst (N:=8) rfl ?_);refine box_event ?hg (N:=8) ?hd (cs:= #[.int .i64 0,.int .i64 0,.int .i64 0]) (t:=79) ?hr ?_;(case hd=>rfl);(case hg=>rfl);(case hr=>first|(go_simp;done)|(go_simp;rfl));intro gb290 hg w23 hbox hb;have BK290:=Aside0.mk (hbox);have GW290:=Aside0.mk ((by rw [hg];exact(below_size (by exact zk1 HB)):w.heap.size≤gb290));have GE290:=GW290;replace HB:=Aside0.mk (below_step (by exact zk1 HB) hb);clear hb hbox hg;have hcz24_0:=zcz BK290 0 (.int .i64 0);have hcz24_1:=zcz BK290 1 (.int .i64 0);have hcz24_2:=zcz BK290 2 (.int .i64 0);have hfz24_0:=blk_frozen BK290.out 0;have hfz24_1:=blk_frozen BK290.out 1;have hfz24_2:=blk_frozen BK290.out 2))
       go_roundg k1
       case measure=>have:=HK1.out;omega
       case rel=>exact⟨(wrap64 (x11_1+1)),zrs,H',⟨by have:=HK1.out;omega⟩,⟨by exact zk2 HB GE290.out⟩⟩
     ·rw [if_neg c19] at H
      have c19b0:(((rd_T79 l0 x11_1).f0)==a2)=false:=beq_eq_false_iff_ne.mpr c19
      have c19b1:(((rd_T79 l0 x11_1).f0) !=a2)=true:=bne_iff_ne.mpr c19
      have H':=Aside0.mk H
      clear H
      have p289: 0≤ (x11_1:Int):=of_decide_eq_true zq1
      have q289:x11_1< (l0.length:Int):=of_decide_eq_true zq1
      obtain⟨ad289,e289,hx289_0,hx289_1,hx289_2⟩:=at_T79 HR0.out x11_1 p289 q289
      cases e289
      replace hx289_0:=zhx HB hx289_0
      replace hx289_1:=zhx HB hx289_1
      replace hx289_2:=zhx HB hx289_2
      replace p289:=eq_true p289
      replace q289:=eq_true q289
      go_wp2_with (first|((with_reducible refine gate_dst (N:=8) rfl ?_);refine box_event ?hg (N:=8) ?hd (cs:= #[.int .i64 0,.int .i64 0,.int .i64 0]) (t:=79) ?hr ?_;(case hd=>rfl);(case hg=>rfl);(case hr=>first|(go_simp;done)|(go_simp;rfl));intro gb290 hg w25 hbox hb;have BK290:=Aside0.mk (hbox);have GW290:=Aside0.mk ((by rw [hg];exact(below_size (by exact zk1 HB)):w.heap.size≤gb290));have GE290:=GW290;replace HB:=Aside0.mk (below_step (by exact zk1 HB) hb);clear hb hbox hg;have hcz26_0:=zcz BK290 0 (.int .i64 0);have hcz26_1:=zcz BK290 1 (.int .i64 0);have hcz26_2:=zcz BK290 2 (.int .i64 0);have hfz26_0:=blk_frozen BK290.out 0;have hfz26_1:=blk_frozen BK290.out 1;have hfz26_2:=blk_frozen BK290.out 2))
      go_roundg k1
      case measure=>have:=HK1.out;omega
      case rel=>exact⟨(wrap64 (x11_1+1)),zrs,H',⟨by have:=HK1.out;omega⟩,⟨by exact zk2 HB GE290.out⟩⟩
   ·rw [if_neg c4] at H
    have c4b0:decide (x11_1< (l0.length:Int))=false:=decide_eq_false c4
    clear c4
    obtain rfl:=Option.some.inj H
    go_wp2
    go_ret
    exact⟨zer,by exact zk1 HB⟩
mutual
def spec_TreeCost.j0:Nat→List (S79)→List Int→Bool→Option (Int × Bool)
 | 0,_,_,_=>none
 |k+1,x1,x2,x26=>if x26=true then(some (0,false)) else(spec_TreeCost.l0 k x1 0 x2 (x2.length:Int) 0)
def spec_TreeCost.l0:Nat→List (S79)→Int→List Int→Int→Int→Option (Int × Bool)
 | 0,_,_,_,_,_=>none
 |k+1,x1,x8,x27,x28,x29=>if x29<x28 then(if 0≤x29 then(if x29< (x27.length:Int) then(if (rd x27 x29)< 0 then(spec_TreeCost.l0 k x1 x8 x27 x28 (wrap64 (x29+1))) else((spec_l9Edge.f k x1 x29 (rd x27 x29)).bind fun t294=>(if t294=0 then(some (0,false)) else(spec_TreeCost.l0 k x1 (wrap64 (x8+t294)) x27 x28 (wrap64 (x29+1)))))) else(none)) else(none)) else(some (x8,true))
end
def spec_TreeCost.f (k:Nat) (a0:Int) (l1:List (S79)) (l2:List Int):Option (Int × Bool):=(spec_GoodEdges.f k a0 l1).bind fun t291=>(if t291=true then((spec_GoodParents.f k l2).bind fun t292=>(if t292=true then(spec_TreeCost.j0 k l1 l2 ((l2.length:Int) !=a0)) else(spec_TreeCost.j0 k l1 l2 true))) else(spec_TreeCost.j0 k l1 l2 true))
theorem zcc {q p:Prop} (b:q) (h:q→p:=by intro z;repeat(first|exact z|(with_reducible refine Kd.C_alloc ?_ _)|(with_reducible refine Kd.C_drewN ?_ _)|(with_reducible refine Kd.C_drew ?_))):p:=h b
theorem zk3 {q r1 r2 p:Prop} (b:Aside0 q) (b1:r1) (b2:r2) (h:q→r1→r2→p:=by intro z g1 g2;repeat(first|(with_reducible first|exact z|apply below_alloc|apply pw_below_drewN|apply below_drew1|refine below_set ?_ g1|refine below_set ?_ g2)|exact z)):p:=h b.out b1 b2
theorem zq3 {q p:Prop} (b:Aside0 q) (h:q→p:=by intro z;(with_reducible repeat(first|refine blk_drewN ?_ _|refine blk_drew ?_ |refine blk_alloc ?_ _));exact z):p:=h b.out
set_option maxHeartbeats 8000000 in
set_option maxRecDepth 100000 in
theorem spec_TreeCost.calls (k:Nat) (a0:Int) (A1:Option Addr) (c1:Nat) (l1:List (S79)) (A2:Option Addr) (c2:Nat) (l2:List Int) (r1:Int) (r2:Bool) (w:World) (hr1:Kd.C k79 w A1 l1.length l1) (hc1:l1.length≤c1) (hr2:Kd.C (Kd.int .i64) w A2 l2.length l2) (hc2:l2.length≤c2) (h:spec_TreeCost.f k a0 l1 l2=some (r1,r2)):
  Calls Try.prog 24 #[.int .i64 a0,.slice A1 l1.length c1,.slice A2 l2.length c2] w fun e w'=>e= .returned (.tuple #[.int .i64 r1,.bool r2])∧Below w.heap.size w w':=by
 have HR1:=Aside0.mk hr1
 have HC1:=Aside0.mk hc1
 clear hr1 hc1
 have HR2:=Aside0.mk hr2
 have HC2:=Aside0.mk hc2
 clear hr2 hc2
 have HB:=Aside0.mk (Below.refl w.heap.size w)
 have H:((spec_GoodEdges.f k a0 l1).bind fun t291=>(if t291=true then((spec_GoodParents.f k l2).bind fun t292=>(if t292=true then(spec_TreeCost.j0 k l1 l2 ((l2.length:Int) !=a0)) else(spec_TreeCost.j0 k l1 l2 true))) else(spec_TreeCost.j0 k l1 l2 true)))=some (r1,r2):=h
 clear h
 have HC4:=Aside0.mk H
 clear H
 go_enter Try.func24,Try.ntmps24
 go_upto_region 1 with (fail)
 go_cut [26] (fun v26 wc=> ∃ (kq:Nat) (x26_3:Bool),v26= .bool x26_3∧Aside0 (spec_TreeCost.j0 kq l1 l2 x26_3=some (r1,r2))∧Aside0 (kq≤k)∧Aside0 (Below w.heap.size w wc))
 case first=>
  have H:=HC4.out
  clear HC4
  replace H:=Option.bind_eq_some_iff.mp H
  obtain⟨t291,A50,H⟩:=H
  replace H:(if t291=true then((spec_GoodParents.f k l2).bind fun t292=>(if t292=true then(spec_TreeCost.j0 k l1 l2 ((l2.length:Int) !=a0)) else(spec_TreeCost.j0 k l1 l2 true))) else(spec_TreeCost.j0 k l1 l2 true))=some (r1,r2):=H
  have A5:=Aside0.mk A50
  clear A50
  by_cases c6:t291=true
  ·subst c6
   have H1:((spec_GoodParents.f k l2).bind fun t292=>(if t292=true then(spec_TreeCost.j0 k l1 l2 ((l2.length:Int) !=a0)) else(spec_TreeCost.j0 k l1 l2 true)))=some (r1,r2):=by rw [if_pos rfl] at H;exact H
   clear H
   have H:=H1
   clear H1
   replace H:=Option.bind_eq_some_iff.mp H
   obtain⟨t292,A70,H⟩:=H
   replace H:(if t292=true then(spec_TreeCost.j0 k l1 l2 ((l2.length:Int) !=a0)) else(spec_TreeCost.j0 k l1 l2 true))=some (r1,r2):=H
   have A7:=Aside0.mk A70
   clear A70
   by_cases c8:t292=true
   ·subst c8
    have H1:(spec_TreeCost.j0 k l1 l2 ((l2.length:Int) !=a0))=some (r1,r2):=by rw [if_pos rfl] at H;exact H
    clear H
    have H:=H1
    clear H1
    have H':=Aside0.mk H
    clear H
    go_wp2_with (first|((with_reducible refine gate_callee (f:=66) rfl ?_);refine goesL_ (some 14) rfl rfl Try.func66 (by kernel_rfl) rfl #[.int .i64 a0,.slice A1 l1.length c1] rfl zq2 ?_;(with_reducible refine(spec_GoodEdges.calls k a0 _ _ l1 true _ ?side1 ?side2 A5.out).mono ?_);(case side1=>exact zcc ((Kd.C_below HR1.out HB.out)));(case side2=>exact HC1.out);rintro e w9 ⟨rfl,hb⟩;refine⟨_,rfl,?_⟩;replace HB:=Aside0.mk (below_step (by exact zk1 HB) hb);(try clear hb);(try clear hb2);(try clear hk);(try clear hi))|(go_at_call 13;(with_reducible refine(spec_GoodParents.calls k _ _ l2 true _ ?side1 ?side2 A7.out).mono ?_);(case side1=>exact zcc ((Kd.C_below HR2.out HB.out)));(case side2=>exact HC2.out);rintro e w' ⟨rfl,⟨nd,rfl⟩⟩))
    go_meet
    case rel=>exact⟨_,(((l2.length:Int) !=a0)),zrs,H',⟨by first|omega|exact Nat.le_refl _⟩,⟨by exact zk1 HB⟩⟩
   ·replace c8:=Bool.eq_false_iff.mpr c8
    subst c8
    have H1:(spec_TreeCost.j0 k l1 l2 true)=some (r1,r2):=by rw [if_neg (show ¬ (false=true) by decide)] at H;exact H
    clear H
    have H:=H1
    clear H1
    have H':=Aside0.mk H
    clear H
    go_wp2_with (first|((with_reducible refine gate_callee (f:=66) rfl ?_);refine goesL_ (some 14) rfl rfl Try.func66 (by kernel_rfl) rfl #[.int .i64 a0,.slice A1 l1.length c1] rfl zq2 ?_;(with_reducible refine(spec_GoodEdges.calls k a0 _ _ l1 true _ ?side1 ?side2 A5.out).mono ?_);(case side1=>exact zcc ((Kd.C_below HR1.out HB.out)));(case side2=>exact HC1.out);rintro e w10 ⟨rfl,hb⟩;refine⟨_,rfl,?_⟩;replace HB:=Aside0.mk (below_step (by exact zk1 HB) hb);(try clear hb);(try clear hb2);(try clear hk);(try clear hi))|(go_at_call 13;(with_reducible refine(spec_GoodParents.calls k _ _ l2 false _ ?side1 ?side2 A7.out).mono ?_);(case side1=>exact zcc ((Kd.C_below HR2.out HB.out)));(case side2=>exact HC2.out);rintro e w' ⟨rfl,⟨nd,rfl⟩⟩))
    go_meet
    case rel=>exact⟨_,(true),zrs,H',⟨by first|omega|exact Nat.le_refl _⟩,⟨by exact zk1 HB⟩⟩
  ·replace c6:=Bool.eq_false_iff.mpr c6
   subst c6
   have H1:(spec_TreeCost.j0 k l1 l2 true)=some (r1,r2):=by rw [if_neg (show ¬ (false=true) by decide)] at H;exact H
   clear H
   have H:=H1
   clear H1
   have H':=Aside0.mk H
   clear H
   go_wp2_with (first|((with_reducible refine gate_callee (f:=66) rfl ?_);refine goesL_ (some 14) rfl rfl Try.func66 (by kernel_rfl) rfl #[.int .i64 a0,.slice A1 l1.length c1] rfl zq2 ?_;(with_reducible refine(spec_GoodEdges.calls k a0 _ _ l1 false _ ?side1 ?side2 A5.out).mono ?_);(case side1=>exact zcc ((Kd.C_below HR1.out HB.out)));(case side2=>exact HC1.out);rintro e w11 ⟨rfl,hb⟩;refine⟨_,rfl,?_⟩;replace HB:=Aside0.mk (below_step (by exact zk1 HB) hb);(try clear hb);(try clear hb2);(try clear hk);(try clear hi)))
   go_meet
   case rel=>exact⟨_,(true),zrs,H',⟨by first|omega|exact Nat.le_refl _⟩,⟨by exact zk1 HB⟩⟩
 case rest=>
  clear HC4
  try clear c1
  try clear c2
  try clear p2
  try clear c6
  try clear c8
  obtain⟨kq,x26_3,rfl,HA,HJ3,HB⟩:=hcut
  cases kq with
  |zero=>exact absurd HA.out (by simp [spec_TreeCost.j0])
  |succ kj3=>
   have H:=HA.out
   clear HA
   simp only [spec_TreeCost.j0] at H
   by_cases c12:x26_3=true
   ·subst c12
    have H1:(some (0,false))=some (r1,r2):=by rw [if_pos rfl] at H;exact H
    clear H
    have H:=H1
    clear H1
    simp only [Option.some.injEq,Prod.mk.injEq] at H
    obtain⟨rfl,rfl⟩:=H
    go_wp2
    go_ret2
    exact⟨zer,by exact zk1 HB⟩
   ·replace c12:=Bool.eq_false_iff.mpr c12
    subst c12
    have H1:(spec_TreeCost.l0 kj3 l1 0 l2 (l2.length:Int) 0)=some (r1,r2):=by rw [if_neg (show ¬ (false=true) by decide)] at H;exact H
    clear H
    have H:=H1
    clear H1
    have H':=Aside0.mk H
    clear H
    go_wp2
    go_loopg [8,29] kj3 (fun kq v8 v29 w'=> ∃ (x8_2:Int) (x29_2:Int),v8= .int .i64 x8_2∧v29= .int .i64 x29_2∧Aside0 (spec_TreeCost.l0 kq l1 x8_2 l2 (l2.length:Int) x29_2=some (r1,r2))∧Aside0 (kq≤kj3)∧Aside0 (Below w.heap.size w w'))
    case atStart=>exact⟨(0),(0),zrs,zrs,H',⟨Nat.le_refl _⟩,⟨by exact zk1 HB⟩⟩
    case round=>
     clear H'
     try clear c1
     try clear c2
     try clear p2
     try clear c6
     try clear c8
     try clear c12
     try clear p2
     obtain⟨x8_2,x29_2,rfl,rfl,HA,HK2,HB⟩:=hrel
     cases gk with
     |zero=>exact absurd HA.out (by simp [spec_TreeCost.l0])
     |succ k2=>
      have H:=HA.out
      clear HA
      simp only [spec_TreeCost.l0] at H
      by_cases c13:x29_2< (l2.length:Int)
      ·rw [if_pos c13] at H
       have c13b0:decide (x29_2< (l2.length:Int))=true:=decide_eq_true c13
       clear c13
       by_cases c14: 0≤x29_2
       case neg=>exact znn c14 H
       rw [if_pos c14] at H
       have c14b0:decide (0≤x29_2)=true:=decide_eq_true c14
       clear c14
       by_cases c15:x29_2< (l2.length:Int)
       case neg=>exact znn c15 H
       rw [if_pos c15] at H
       have c15b0:decide (x29_2< (l2.length:Int))=true:=decide_eq_true c15
       clear c15
       by_cases c16:(rd l2 x29_2)< 0
       ·rw [if_pos c16] at H
        have c16b0:decide ((rd l2 x29_2)< 0)=true:=decide_eq_true c16
        clear c16
        have H':=Aside0.mk H
        clear H
        have p293: 0≤ (x29_2:Int):=of_decide_eq_true zq1
        have q293:x29_2< (l2.length:Int):=of_decide_eq_true zq1
        obtain⟨ad293,e293,hx293_0⟩:=Kd.at_int HR2.out x29_2 p293 q293
        cases e293
        replace hx293_0:=zhx HB hx293_0
        replace p293:=eq_true p293
        replace q293:=eq_true q293
        go_wp2
        go_roundg k2
        case measure=>have:=HJ3.out;have:=HK2.out;omega
        case rel=>exact⟨(x8_2),(wrap64 (x29_2+1)),zrs,zrs,H',⟨by have:=HJ3.out;have:=HK2.out;omega⟩,⟨by exact zk1 HB⟩⟩
       ·rw [if_neg c16] at H
        have c16b0:decide ((rd l2 x29_2)< 0)=false:=decide_eq_false c16
        clear c16
        replace H:=Option.bind_eq_some_iff.mp H
        obtain⟨t294,A170,H⟩:=H
        replace H:(if t294=0 then(some (0,false)) else(spec_TreeCost.l0 k2 l1 (wrap64 (x8_2+t294)) l2 (l2.length:Int) (wrap64 (x29_2+1))))=some (r1,r2):=H
        have A17:=Aside0.mk A170
        clear A170
        by_cases c18:t294=0
        ·rw [if_pos c18] at H
         have c18b0:(t294==0)=true:=beq_iff_eq.mpr c18
         have c18b1:(t294 !=0)=false:=bne_eq_false_iff_eq.mpr c18
         clear c18
         simp only [Option.some.injEq,Prod.mk.injEq] at H
         obtain⟨rfl,rfl⟩:=H
         have p293: 0≤ (x29_2:Int):=of_decide_eq_true zq1
         have q293:x29_2< (l2.length:Int):=of_decide_eq_true zq1
         obtain⟨ad293,e293,hx293_0⟩:=Kd.at_int HR2.out x29_2 p293 q293
         cases e293
         replace hx293_0:=zhx HB hx293_0
         replace p293:=eq_true p293
         replace q293:=eq_true q293
         go_wp2_with (first|((with_reducible refine gate_callee (f:=67) rfl ?_);refine goesL_ (some 39) rfl rfl Try.func67 (by kernel_rfl) rfl #[.slice A1 l1.length c1,.int .i64 x29_2,.int .i64 (rd l2 x29_2)] rfl zq2 ?_;(with_reducible refine(spec_l9Edge.calls k2 _ _ l1 x29_2 (rd l2 x29_2) t294 _ ?side1 ?side2 A17.out).mono ?_);(case side1=>exact zcc ((Kd.C_below HR1.out HB.out)));(case side2=>exact HC1.out);rintro e w19 ⟨rfl,hb⟩;refine⟨_,rfl,?_⟩;replace HB:=Aside0.mk (below_step (by exact zk1 HB) hb);(try clear hb);(try clear hb2);(try clear hk);(try clear hi)))
         go_ret2
         exact⟨zer,by exact zk1 HB⟩
        ·rw [if_neg c18] at H
         have c18b0:(t294==0)=false:=beq_eq_false_iff_ne.mpr c18
         have c18b1:(t294 !=0)=true:=bne_iff_ne.mpr c18
         have H':=Aside0.mk H
         clear H
         have p293: 0≤ (x29_2:Int):=of_decide_eq_true zq1
         have q293:x29_2< (l2.length:Int):=of_decide_eq_true zq1
         obtain⟨ad293,e293,hx293_0⟩:=Kd.at_int HR2.out x29_2 p293 q293
         cases e293
         replace hx293_0:=zhx HB hx293_0
         replace p293:=eq_true p293
         replace q293:=eq_true q293
         go_wp2_with (first|((with_reducible refine gate_callee (f:=67) rfl ?_);refine goesL_ (some 39) rfl rfl Try.func67 (by kernel_rfl) rfl #[.slice A1 l1.length c1,.int .i64 x29_2,.int .i64 (rd l2 x29_2)] rfl zq2 ?_;(with_reducible refine(spec_l9Edge.calls k2 _ _ l1 x29_2 (rd l2 x29_2) t294 _ ?side1 ?side2 A17.out).mono ?_);(case side1=>exact zcc ((Kd.C_below HR1.out HB.out)));(case side2=>exact HC1.out);rintro e w20 ⟨rfl,hb⟩;refine⟨_,rfl,?_⟩;replace HB:=Aside0.mk (below_step (by exact zk1 HB) hb);(try clear hb);(try clear hb2);(try clear hk);(try clear hi)))
         go_roundg k2
         case measure=>have:=HJ3.out;have:=HK2.out;omega
         case rel=>exact⟨(wrap64 (x8_2+t294)),(wrap64 (x29_2+1)),zrs,zrs,H',⟨by have:=HJ3.out;have:=HK2.out;omega⟩,⟨by exact zk1 HB⟩⟩
      ·rw [if_neg c13] at H
       have c13b0:decide (x29_2< (l2.length:Int))=false:=decide_eq_false c13
       clear c13
       simp only [Option.some.injEq,Prod.mk.injEq] at H
       obtain⟨rfl,rfl⟩:=H
       go_wp2
       go_ret2
       exact⟨zer,by exact zk1 HB⟩
def impl_byEnds.f (a0_0:Int) (a0_1:Int) (a0_2:Int) (a1_0:Int) (a1_1:Int) (a1_2:Int):Option (Int):=if a0_0=a1_0 then(some (wrap64 (a0_1 - a1_1))) else(some (wrap64 (a0_0 - a1_0)))
set_option maxHeartbeats 8000000 in
set_option maxRecDepth 100000 in
theorem impl_byEnds.calls (a0_0:Int) (a0_1:Int) (a0_2:Int) (a1_0:Int) (a1_1:Int) (a1_2:Int) (r:Int) (w:World) (h:impl_byEnds.f a0_0 a0_1 a0_2 a1_0 a1_1 a1_2=some r):
  Calls Try.prog 93 #[.agg #[.int .i64 a0_0,.int .i64 a0_1,.int .i64 a0_2],.agg #[.int .i64 a1_0,.int .i64 a1_1,.int .i64 a1_2]] w fun e w'=>e= .returned (.int .i64 r)∧Below w.heap.size w w':=by
 have hu79:=Try.underlying79
 have HB:=Aside0.mk (Below.refl w.heap.size w)
 have H:(if a0_0=a1_0 then(some (wrap64 (a0_1 - a1_1))) else(some (wrap64 (a0_0 - a1_0))))=some r:=h
 clear h
 by_cases c3:a0_0=a1_0
 ·rw [if_pos c3] at H
  have c3b0:(a0_0==a1_0)=true:=beq_iff_eq.mpr c3
  have c3b1:(a0_0 !=a1_0)=false:=bne_eq_false_iff_eq.mpr c3
  clear c3
  obtain rfl:=Option.some.inj H
  go_enter Try.func93,Try.ntmps93
  go_wp2_with (first|((with_reducible refine gate_dst (N:=2) rfl ?_);refine box_event ?hg (N:=2) ?hd (cs:= #[.int .i64 a0_0,.int .i64 a0_1,.int .i64 a0_2]) (t:=79) ?hr ?_;(case hd=>rfl);(case hg=>rfl);(case hr=>first|(go_simp;done)|(go_simp;rfl));intro gb306 hg w4 hbox hb;have BK306:=Aside0.mk (hbox);have GW306:=Aside0.mk ((by rw [hg];exact(below_size (by exact zk1 HB)):w.heap.size≤gb306));have GE306:=GW306;replace HB:=Aside0.mk (below_step (by exact zk1 HB) hb);clear hb hbox hg)|((with_reducible refine gate_dst (N:=3) rfl ?_);refine box_event ?hg (N:=3) ?hd (cs:= #[.int .i64 a1_0,.int .i64 a1_1,.int .i64 a1_2]) (t:=79) ?hr ?_;(case hd=>rfl);(case hg=>rfl);(case hr=>first|(go_simp;done)|(go_simp;rfl));intro gb307 hg w5 hbox hb;have BK307:=Aside0.mk (hbox);have GW307:=Aside0.mk ((by rw [hg];exact(below_size (by exact zk2 HB GE306.out)):w.heap.size≤gb307));have GE307:=GW307;have NB306_307:=Aside0.mk ((by rw [hg];exact Nat.ne_of_lt (blk_lt (g:=gb306) (o:= .cells #[.int .i64 a0_0,.int .i64 a0_1,.int .i64 a0_2] 79 (0,0)) (zq3 BK306)):gb306≠gb307));have NB307_306:=Aside0.mk ((by rw [hg];exact Nat.ne_of_gt (blk_lt (g:=gb306) (o:= .cells #[.int .i64 a0_0,.int .i64 a0_1,.int .i64 a0_2] 79 (0,0)) (zq3 BK306)):gb307≠gb306));replace BK306:=Aside0.mk (blk_below (g:=gb306) (o:= .cells #[.int .i64 a0_0,.int .i64 a0_1,.int .i64 a0_2] 79 (0,0)) (zq3 BK306) hb);replace HB:=Aside0.mk (below_step (by exact zk2 HB GE306.out) hb);clear hb hbox hg;have hnb6:=NB306_307.out;have hnc6:=NB307_306.out;have hcz7_0:=zcz BK306 0 (.int .i64 a0_0);have hcz7_1:=zcz BK306 1 (.int .i64 a0_1);have hcz7_2:=zcz BK306 2 (.int .i64 a0_2);have hfz7_0:=blk_frozen BK306.out 0;have hfz7_1:=blk_frozen BK306.out 1;have hfz7_2:=blk_frozen BK306.out 2;have hcz8_0:=zcz BK307 0 (.int .i64 a1_0);have hcz8_1:=zcz BK307 1 (.int .i64 a1_1);have hcz8_2:=zcz BK307 2 (.int .i64 a1_2);have hfz8_0:=blk_frozen BK307.out 0;have hfz8_1:=blk_frozen BK307.out 1;have hfz8_2:=blk_frozen BK307.out 2))
  go_ret
  exact⟨zer,by exact zk3 HB GE306.out GE307.out⟩
 ·rw [if_neg c3] at H
  have c3b0:(a0_0==a1_0)=false:=beq_eq_false_iff_ne.mpr c3
  have c3b1:(a0_0 !=a1_0)=true:=bne_iff_ne.mpr c3
  obtain rfl:=Option.some.inj H
  go_enter Try.func93,Try.ntmps93
  go_wp2_with (first|((with_reducible refine gate_dst (N:=2) rfl ?_);refine box_event ?hg (N:=2) ?hd (cs:= #[.int .i64 a0_0,.int .i64 a0_1,.int .i64 a0_2]) (t:=79) ?hr ?_;(case hd=>rfl);(case hg=>rfl);(case hr=>first|(go_simp;done)|(go_simp;rfl));intro gb306 hg w9 hbox hb;have BK306:=Aside0.mk (hbox);have GW306:=Aside0.mk ((by rw [hg];exact(below_size (by exact zk1 HB)):w.heap.size≤gb306));have GE306:=GW306;replace HB:=Aside0.mk (below_step (by exact zk1 HB) hb);clear hb hbox hg)|((with_reducible refine gate_dst (N:=3) rfl ?_);refine box_event ?hg (N:=3) ?hd (cs:= #[.int .i64 a1_0,.int .i64 a1_1,.int .i64 a1_2]) (t:=79) ?hr ?_;(case hd=>rfl);(case hg=>rfl);(case hr=>first|(go_simp;done)|(go_simp;rfl));intro gb307 hg w10 hbox hb;have BK307:=Aside0.mk (hbox);have GW307:=Aside0.mk ((by rw [hg];exact(below_size (by exact zk2 HB GE306.out)):w.heap.size≤gb307));have GE307:=GW307;have NB306_307:=Aside0.mk ((by rw [hg];exact Nat.ne_of_lt (blk_lt (g:=gb306) (o:= .cells #[.int .i64 a0_0,.int .i64 a0_1,.int .i64 a0_2] 79 (0,0)) (zq3 BK306)):gb306≠gb307));have NB307_306:=Aside0.mk ((by rw [hg];exact Nat.ne_of_gt (blk_lt (g:=gb306) (o:= .cells #[.int .i64 a0_0,.int .i64 a0_1,.int .i64 a0_2] 79 (0,0)) (zq3 BK306)):gb307≠gb306));replace BK306:=Aside0.mk (blk_below (g:=gb306) (o:= .cells #[.int .i64 a0_0,.int .i64 a0_1,.int .i64 a0_2] 79 (0,0)) (zq3 BK306) hb);replace HB:=Aside0.mk (below_step (by exact zk2 HB GE306.out) hb);clear hb hbox hg;have hnb11:=NB306_307.out;have hnc11:=NB307_306.out;have hcz12_0:=zcz BK306 0 (.int .i64 a0_0);have hcz12_1:=zcz BK306 1 (.int .i64 a0_1);have hcz12_2:=zcz BK306 2 (.int .i64 a0_2);have hfz12_0:=blk_frozen BK306.out 0;have hfz12_1:=blk_frozen BK306.out 1;have hfz12_2:=blk_frozen BK306.out 2;have hcz13_0:=zcz BK307 0 (.int .i64 a1_0);have hcz13_1:=zcz BK307 1 (.int .i64 a1_1);have hcz13_2:=zcz BK307 2 (.int .i64 a1_2);have hfz13_0:=blk_frozen BK307.out 0;have hfz13_1:=blk_frozen BK307.out 1;have hfz13_2:=blk_frozen BK307.out 2))
  go_ret
  exact⟨zer,by exact zk3 HB GE306.out GE307.out⟩
def impl_allIn.l0:Nat→Int→Int→List Int→Int→Int→Option (Bool)
 | 0,_,_,_,_,_=>none
 |k+1,x1,x2,x9,x10,x11=>if x11<x10 then(if 0≤x11 then(if x11< (x9.length:Int) then((impl_in.f (rd x9 x11) x1 x2).bind fun t114=>(if t114=true then(impl_allIn.l0 k x1 x2 x9 x10 (wrap64 (x11+1))) else(some false))) else(none)) else(none)) else(some true)
def impl_allIn.f (k:Nat) (l0:List Int) (a1:Int) (a2:Int):Option (Bool):=impl_allIn.l0 k a1 a2 l0 (l0.length:Int) 0
set_option maxHeartbeats 8000000 in
set_option maxRecDepth 100000 in
theorem impl_allIn.calls (k:Nat) (A0:Option Addr) (c0:Nat) (l0:List Int) (a1:Int) (a2:Int) (r:Bool) (w:World) (hr0:Kd.C (Kd.int .i64) w A0 l0.length l0) (hc0:l0.length≤c0) (h:impl_allIn.f k l0 a1 a2=some r):
  Calls Try.prog 61 #[.slice A0 l0.length c0,.int .i64 a1,.int .i64 a2] w fun e w'=>e= .returned (.bool r)∧Drawn0 w w':=by
 have HR0:=Aside0.mk hr0
 have HC0:=Aside0.mk hc0
 clear hr0 hc0
 have H:(impl_allIn.l0 k a1 a2 l0 (l0.length:Int) 0)=some r:=h
 clear h
 have H':=Aside0.mk H
 clear H
 go_enter Try.func61,Try.ntmps61
 go_wp2
 go_loopg [11] k (fun kq v11 w'=> ∃ (x11_1:Int),v11= .int .i64 x11_1∧Aside0 (impl_allIn.l0 kq a1 a2 l0 (l0.length:Int) x11_1=some r)∧Aside0 (kq≤k)∧Drawn0 w w')
 case atStart=>exact⟨(0),zrs,H',⟨Nat.le_refl _⟩,by repeat(first|exact Drawn0.refl _|apply Drawn0.step)⟩
 case round=>
  clear H'
  try clear p2
  obtain⟨x11_1,rfl,HA,HK1,⟨m1,rfl⟩⟩:=hrel
  cases gk with
  |zero=>exact absurd HA.out (by simp [impl_allIn.l0])
  |succ k1=>
   have H:=HA.out
   clear HA
   simp only [impl_allIn.l0] at H
   by_cases c4:x11_1< (l0.length:Int)
   ·rw [if_pos c4] at H
    have c4b0:decide (x11_1< (l0.length:Int))=true:=decide_eq_true c4
    clear c4
    by_cases c5: 0≤x11_1
    case neg=>exact znn c5 H
    rw [if_pos c5] at H
    have c5b0:decide (0≤x11_1)=true:=decide_eq_true c5
    clear c5
    by_cases c6:x11_1< (l0.length:Int)
    case neg=>exact znn c6 H
    rw [if_pos c6] at H
    have c6b0:decide (x11_1< (l0.length:Int))=true:=decide_eq_true c6
    clear c6
    replace H:=Option.bind_eq_some_iff.mp H
    obtain⟨t114,A70,H⟩:=H
    replace H:(if t114=true then(impl_allIn.l0 k1 a1 a2 l0 (l0.length:Int) (wrap64 (x11_1+1))) else(some false))=some r:=H
    have A7:=Aside0.mk A70
    clear A70
    by_cases c8:t114=true
    ·subst c8
     have H1:(impl_allIn.l0 k1 a1 a2 l0 (l0.length:Int) (wrap64 (x11_1+1)))=some r:=by rw [if_pos rfl] at H;exact H
     clear H
     have H:=H1
     clear H1
     have H':=Aside0.mk H
     clear H
     have p113: 0≤ (x11_1:Int):=of_decide_eq_true zq1
     have q113:x11_1< (l0.length:Int):=of_decide_eq_true zq1
     obtain⟨ad113,e113,hx113_0⟩:=Kd.at_int HR0.out x11_1 p113 q113
     cases e113
     replace p113:=eq_true p113
     replace q113:=eq_true q113
     go_wp2_with (first|((with_reducible refine gate_callee (f:=78) rfl ?_);refine goesL_ (some 18) rfl rfl Try.func78 (by kernel_rfl) rfl #[.int .i64 (rd l0 x11_1),.int .i64 a1,.int .i64 a2] rfl zq2 ?_;(with_reducible refine(impl_in.calls (rd l0 x11_1) a1 a2 true _ A7.out).mono ?_);rintro e w' ⟨rfl,⟨nd,rfl⟩⟩;refine⟨_,rfl,?_⟩))
     go_roundg k1
     case measure=>have:=HK1.out;omega
     case rel=>exact⟨(wrap64 (x11_1+1)),zrs,H',⟨by have:=HK1.out;omega⟩,by repeat(first|exact Drawn0.refl _|apply Drawn0.step)⟩
    ·replace c8:=Bool.eq_false_iff.mpr c8
     subst c8
     have H1:(some false)=some r:=by rw [if_neg (show ¬ (false=true) by decide)] at H;exact H
     clear H
     have H:=H1
     clear H1
     obtain rfl:=Option.some.inj H
     have p113: 0≤ (x11_1:Int):=of_decide_eq_true zq1
     have q113:x11_1< (l0.length:Int):=of_decide_eq_true zq1
     obtain⟨ad113,e113,hx113_0⟩:=Kd.at_int HR0.out x11_1 p113 q113
     cases e113
     replace p113:=eq_true p113
     replace q113:=eq_true q113
     go_wp2_with (first|((with_reducible refine gate_callee (f:=78) rfl ?_);refine goesL_ (some 18) rfl rfl Try.func78 (by kernel_rfl) rfl #[.int .i64 (rd l0 x11_1),.int .i64 a1,.int .i64 a2] rfl zq2 ?_;(with_reducible refine(impl_in.calls (rd l0 x11_1) a1 a2 false _ A7.out).mono ?_);rintro e w' ⟨rfl,⟨nd,rfl⟩⟩;refine⟨_,rfl,?_⟩))
     go_ret
     exact⟨by first|rfl|(simp;done)|(simp [*];done),by repeat(first|exact Drawn0.refl _|apply Drawn0.step)⟩
   ·rw [if_neg c4] at H
    have c4b0:decide (x11_1< (l0.length:Int))=false:=decide_eq_false c4
    clear c4
    obtain rfl:=Option.some.inj H
    go_wp2
    go_ret
    exact⟨by first|rfl|(simp;done)|(simp [*];done),by repeat(first|exact Drawn0.refl _|apply Drawn0.step)⟩
mutual
def impl_GoodParents.j0:Nat→List Int→Bool→Option (Bool)
 | 0,_,_=>none
 |k+1,x0,x16=>if x16=true then(some false) else(impl_GoodParents.l0 k x0 (x0.length:Int) 0)
def impl_GoodParents.l0:Nat→List Int→Int→Int→Option (Bool)
 | 0,_,_,_=>none
 |k+1,x0,x18,x19=>if x19<x18 then(impl_GoodParents.l1 k x0 x19 x18 x19 (x0.length:Int) 0) else(some true)
def impl_GoodParents.l1:Nat→List Int→Int→Int→Int→Int→Int→Option (Bool)
 | 0,_,_,_,_,_,_=>none
 |k+1,x0,x4,x18,x19,x24,x25=>if x25<x24 then(if x4≥0 then(if 0≤x4 then(if x4< (x0.length:Int) then(impl_GoodParents.l1 k x0 (rd x0 x4) x18 x19 x24 (wrap64 (x25+1))) else(none)) else(none)) else(impl_GoodParents.l1 k x0 x4 x18 x19 x24 (wrap64 (x25+1)))) else(if x4≥0 then(some false) else(impl_GoodParents.l0 k x0 x18 (wrap64 (x19+1))))
end
def impl_GoodParents.f (k:Nat) (l0:List Int):Option (Bool):=(impl_isSpots.f (l0.length:Int)).bind fun t115=>(if t115=true then((impl_allIn.f k l0 (-1) (wrap64 ((l0.length:Int) - 1))).bind fun t116=>(impl_GoodParents.j0 k l0 (!t116))) else(impl_GoodParents.j0 k l0 true))
set_option maxHeartbeats 8000000 in
set_option maxRecDepth 100000 in
theorem impl_GoodParents.calls (k:Nat) (A0:Option Addr) (c0:Nat) (l0:List Int) (r:Bool) (w:World) (hr0:Kd.C (Kd.int .i64) w A0 l0.length l0) (hc0:l0.length≤c0) (h:impl_GoodParents.f k l0=some r):
  Calls Try.prog 15 #[.slice A0 l0.length c0] w fun e w'=>e= .returned (.bool r)∧Drawn0 w w':=by
 have HR0:=Aside0.mk hr0
 have HC0:=Aside0.mk hc0
 clear hr0 hc0
 have H:((impl_isSpots.f (l0.length:Int)).bind fun t115=>(if t115=true then((impl_allIn.f k l0 (-1) (wrap64 ((l0.length:Int) - 1))).bind fun t116=>(impl_GoodParents.j0 k l0 (!t116))) else(impl_GoodParents.j0 k l0 true)))=some r:=h
 clear h
 have HC2:=Aside0.mk H
 clear H
 go_enter Try.func15,Try.ntmps15
 go_upto_region 1 with (fail)
 go_cut [16] (fun v16 wc=> ∃ (kq:Nat) (x16_1:Bool),v16= .bool x16_1∧Aside0 (impl_GoodParents.j0 kq l0 x16_1=some r)∧Aside0 (kq≤k)∧Drawn0 w wc)
 case first=>
  have H:=HC2.out
  clear HC2
  replace H:=Option.bind_eq_some_iff.mp H
  obtain⟨t115,A30,H⟩:=H
  replace H:(if t115=true then((impl_allIn.f k l0 (-1) (wrap64 ((l0.length:Int) - 1))).bind fun t116=>(impl_GoodParents.j0 k l0 (!t116))) else(impl_GoodParents.j0 k l0 true))=some r:=H
  have A3:=Aside0.mk A30
  clear A30
  by_cases c4:t115=true
  ·subst c4
   have H1:((impl_allIn.f k l0 (-1) (wrap64 ((l0.length:Int) - 1))).bind fun t116=>(impl_GoodParents.j0 k l0 (!t116)))=some r:=by rw [if_pos rfl] at H;exact H
   clear H
   have H:=H1
   clear H1
   replace H:=Option.bind_eq_some_iff.mp H
   obtain⟨t116,A50,H⟩:=H
   replace H:(impl_GoodParents.j0 k l0 (!t116))=some r:=H
   have A5:=Aside0.mk A50
   clear A50
   have H':=Aside0.mk H
   clear H
   go_wp2_with (first|((with_reducible refine gate_callee (f:=60) rfl ?_);refine goesL_ (some 7) rfl rfl Try.func60 (by kernel_rfl) rfl #[.int .i64 (l0.length:Int)] rfl zq2 ?_;(with_reducible refine(impl_isSpots.calls (l0.length:Int) true _ A3.out).mono ?_);rintro e w' ⟨rfl,⟨nd,rfl⟩⟩;refine⟨_,rfl,?_⟩)|(go_at_call 61;(with_reducible refine(impl_allIn.calls k _ _ l0 (-1) (wrap64 ((l0.length:Int) - 1)) t116 _ ?side1 ?side2 A5.out).mono ?_);(case side1=>exact zcc (HR0.out));(case side2=>exact HC0.out);rintro e w' ⟨rfl,⟨nd,rfl⟩⟩))
   go_meet
   case rel=>exact⟨_,(!t116),zrs,H',⟨by first|omega|exact Nat.le_refl _⟩,by repeat(first|exact Drawn0.refl _|apply Drawn0.step)⟩
  ·replace c4:=Bool.eq_false_iff.mpr c4
   subst c4
   have H1:(impl_GoodParents.j0 k l0 true)=some r:=by rw [if_neg (show ¬ (false=true) by decide)] at H;exact H
   clear H
   have H:=H1
   clear H1
   have H':=Aside0.mk H
   clear H
   go_wp2_with (first|((with_reducible refine gate_callee (f:=60) rfl ?_);refine goesL_ (some 7) rfl rfl Try.func60 (by kernel_rfl) rfl #[.int .i64 (l0.length:Int)] rfl zq2 ?_;(with_reducible refine(impl_isSpots.calls (l0.length:Int) false _ A3.out).mono ?_);rintro e w' ⟨rfl,⟨nd,rfl⟩⟩;refine⟨_,rfl,?_⟩))
   go_meet
   case rel=>exact⟨_,(true),zrs,H',⟨by first|omega|exact Nat.le_refl _⟩,by repeat(first|exact Drawn0.refl _|apply Drawn0.step)⟩
 case rest=>
  clear HC2
  try clear c1
  try clear p2
  try clear c4
  obtain⟨kq,x16_1,rfl,HA,HJ1,⟨mc1,rfl⟩⟩:=hcut
  cases kq with
  |zero=>exact absurd HA.out (by simp [impl_GoodParents.j0])
  |succ kj1=>
   have H:=HA.out
   clear HA
   simp only [impl_GoodParents.j0] at H
   by_cases c6:x16_1=true
   ·subst c6
    have H1:(some false)=some r:=by rw [if_pos rfl] at H;exact H
    clear H
    have H:=H1
    clear H1
    obtain rfl:=Option.some.inj H
    go_wp2
    go_ret
    exact⟨by first|rfl|(simp;done)|(simp [*];done),by repeat(first|exact Drawn0.refl _|apply Drawn0.step)⟩
   ·replace c6:=Bool.eq_false_iff.mpr c6
    subst c6
    have H1:(impl_GoodParents.l0 kj1 l0 (l0.length:Int) 0)=some r:=by rw [if_neg (show ¬ (false=true) by decide)] at H;exact H
    clear H
    have H:=H1
    clear H1
    have H':=Aside0.mk H
    clear H
    go_wp2
    go_loopg [19] kj1 (fun kq v19 w'=> ∃ (x19_2:Int),v19= .int .i64 x19_2∧Aside0 (impl_GoodParents.l0 kq l0 (l0.length:Int) x19_2=some r)∧Aside0 (kq≤kj1)∧Drawn0 w w')
    case atStart=>exact⟨(0),zrs,H',⟨Nat.le_refl _⟩,by repeat(first|exact Drawn0.refl _|apply Drawn0.step)⟩
    case round=>
     clear H'
     try clear c1
     try clear p2
     try clear c4
     try clear c6
     try clear p6
     try clear p2
     obtain⟨x19_2,rfl,HA,HK2,⟨m2,rfl⟩⟩:=hrel
     cases gk with
     |zero=>exact absurd HA.out (by simp [impl_GoodParents.l0])
     |succ k2=>
      have H:=HA.out
      clear HA
      simp only [impl_GoodParents.l0] at H
      by_cases c7:x19_2< (l0.length:Int)
      ·rw [if_pos c7] at H
       have c7b0:decide (x19_2< (l0.length:Int))=true:=decide_eq_true c7
       clear c7
       have H':=Aside0.mk H
       clear H
       go_wp2
       go_loopg [4,25] k2 (fun kq v4 v25 w'=> ∃ (x4_3:Int) (x25_3:Int),v4= .int .i64 x4_3∧v25= .int .i64 x25_3∧Aside0 (impl_GoodParents.l1 kq l0 x4_3 (l0.length:Int) x19_2 (l0.length:Int) x25_3=some r)∧Aside0 (kq≤k2)∧Drawn0 w w')
       case atStart=>exact⟨(x19_2),(0),zrs,zrs,H',⟨Nat.le_refl _⟩,by repeat(first|exact Drawn0.refl _|apply Drawn0.step)⟩
       case round=>
        clear H'
        try clear c1
        try clear p2
        try clear c4
        try clear c6
        try clear p6
        try clear c7
        try clear c7b0
        try clear p2
        try clear p6
        obtain⟨x4_3,x25_3,rfl,rfl,HA,HK3,⟨m3,rfl⟩⟩:=hrel
        cases gk with
        |zero=>exact absurd HA.out (by simp [impl_GoodParents.l1])
        |succ k3=>
         have H:=HA.out
         clear HA
         simp only [impl_GoodParents.l1] at H
         by_cases c8:x25_3< (l0.length:Int)
         ·rw [if_pos c8] at H
          have c8b0:decide (x25_3< (l0.length:Int))=true:=decide_eq_true c8
          clear c8
          by_cases c9:x4_3≥0
          ·rw [if_pos c9] at H
           have c9b0:decide (0≤x4_3)=true:=decide_eq_true c9
           clear c9
           by_cases c10: 0≤x4_3
           case neg=>exact znn c10 H
           rw [if_pos c10] at H
           have c10b0:decide (0≤x4_3)=true:=decide_eq_true c10
           clear c10
           by_cases c11:x4_3< (l0.length:Int)
           case neg=>exact znn c11 H
           rw [if_pos c11] at H
           have c11b0:decide (x4_3< (l0.length:Int))=true:=decide_eq_true c11
           clear c11
           have H':=Aside0.mk H
           clear H
           have p117: 0≤ (x4_3:Int):=of_decide_eq_true zq1
           have q117:x4_3< (l0.length:Int):=of_decide_eq_true zq1
           obtain⟨ad117,e117,hx117_0⟩:=Kd.at_int HR0.out x4_3 p117 q117
           cases e117
           replace p117:=eq_true p117
           replace q117:=eq_true q117
           go_wp2
           go_roundg k3
           case measure=>have:=HJ1.out;have:=HK2.out;have:=HK3.out;omega
           case rel=>exact⟨(rd l0 x4_3),(wrap64 (x25_3+1)),zrs,zrs,H',⟨by have:=HJ1.out;have:=HK2.out;have:=HK3.out;omega⟩,by repeat(first|exact Drawn0.refl _|apply Drawn0.step)⟩
          ·rw [if_neg c9] at H
           have c9b0:decide (0≤x4_3)=false:=decide_eq_false c9
           clear c9
           have H':=Aside0.mk H
           clear H
           go_wp2
           go_roundg k3
           case measure=>have:=HJ1.out;have:=HK2.out;have:=HK3.out;omega
           case rel=>exact⟨(x4_3),(wrap64 (x25_3+1)),zrs,zrs,H',⟨by have:=HJ1.out;have:=HK2.out;have:=HK3.out;omega⟩,by repeat(first|exact Drawn0.refl _|apply Drawn0.step)⟩
         ·rw [if_neg c8] at H
          have c8b0:decide (x25_3< (l0.length:Int))=false:=decide_eq_false c8
          clear c8
          by_cases c12:x4_3≥0
          ·rw [if_pos c12] at H
           have c12b0:decide (0≤x4_3)=true:=decide_eq_true c12
           clear c12
           obtain rfl:=Option.some.inj H
           go_wp2
           go_ret
           exact⟨by first|rfl|(simp;done)|(simp [*];done),by repeat(first|exact Drawn0.refl _|apply Drawn0.step)⟩
          ·rw [if_neg c12] at H
           have c12b0:decide (0≤x4_3)=false:=decide_eq_false c12
           clear c12
           have H':=Aside0.mk H
           clear H
           go_wp2
           go_roundg k3
           case measure=>have:=HJ1.out;have:=HK2.out;have:=HK3.out;omega
           case rel=>exact⟨(wrap64 (x19_2+1)),zrs,H',⟨by have:=HJ1.out;have:=HK2.out;have:=HK3.out;omega⟩,by repeat(first|exact Drawn0.refl _|apply Drawn0.step)⟩
      ·rw [if_neg c7] at H
       have c7b0:decide (x19_2< (l0.length:Int))=false:=decide_eq_false c7
       clear c7
       obtain rfl:=Option.some.inj H
       go_wp2
       go_ret
       exact⟨by first|rfl|(simp;done)|(simp [*];done),by repeat(first|exact Drawn0.refl _|apply Drawn0.step)⟩
end Go.Proofs.Ytedegfbheihopaa.P
