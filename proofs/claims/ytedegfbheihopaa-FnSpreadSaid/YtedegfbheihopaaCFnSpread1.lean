/- Functions, walks and plain lemmas that the law FnSpread reaches, part 1. -/
import Derived.Test.YtedegfbheihopaaCFnSpread0
import Derived.Below
import Derived.Deep.Draws
import Derived.Deep.AppendLies
import Derived.Maps.AppendAt
import Derived.OwnWalk
import Derived.Laws.BytesArg
import Derived.Laws.MakeOwn
import Derived.Laws.OwnMore
import Derived.Deep.OwnRows
import Derived.Tactics
import Derived.Lib.ConvBytes
import Derived.Laws.Slices
import Derived.WalkKit
import Derived.KernelRfl
import Derived.RowKit3
import Derived.Deep.LoopGhost
import Derived.Deep.QuietTactic
import Derived.BigQuiet
import Derived.WideLaws
import Derived.Deep.DeepCutAuto
import Derived.Deep.CutBlock
import Derived.Deep.RegionHeld3
import Derived.Laws.Rows
import Derived.Lib.AppendStr
import Derived.ArgAppend
import Derived.Laws.IdiomCopy
import Derived.OrdersHeld
import Derived.Laws.BitsLemmas
import Derived.RowKit
import Derived.WalkSpells
import Derived.Lib.SliceRun
import Derived.Shelf.Abstract
import Derived.Maps.OwnSet
import Derived.Maps.OwnOps
import Derived.ProofKit
import Derived.OpenShut
import Derived.ShutString
import Derived.ChangeOld
import Derived.SizedLaws
namespace Go.Proofs.Ytedegfbheihopaa.P
open Go.RowKit Go.Proofs.YtedegfbheihopaaW.PrintWords Go.Proofs.YtedegfbheihopaaW.PrintLast Go.Proofs.YtedegfbheihopaaW.PrintMore
attribute [local go_sem] max2_int min2_int max_two min_two max_three min_three max_four min_four   -- for this text's walks alone
set_option linter.unusedVariables false
set_option linter.unusedSimpArgs false
theorem info3:(Try.prog.info? 3).map (fun i=>(i.zero,i.size,i.bytes))=some (some (.int .i64 0),1,8):=by kernel_rfl
theorem info22:(Try.prog.info? 22).map (fun i=>(i.zero,i.size,i.bytes))=some (some (.slice none 0 0),1,24):=by kernel_rfl
theorem info61:(Try.prog.info? 61).map (fun i=>(i.zero,i.size,i.bytes))=some (some (.agg #[(.int .i64 0),(.int .i64 0)]),2,16):=by kernel_rfl
theorem info79:(Try.prog.info? 79).map (fun i=>(i.zero,i.size,i.bytes))=some (some (.agg #[(.int .i64 0),(.int .i64 0),(.int .i64 0)]),3,24):=by kernel_rfl
theorem info101:(Try.prog.info? 101).map (fun i=>(i.zero,i.size,i.bytes))=some (some (.agg #[(.int .i64 0),(.int .i64 0)]),2,16):=by kernel_rfl
-- the values' own types
structure S101 where
 f0:Int
 f1:Int
def z101:S101:=⟨(0:Int),(0:Int)⟩
def k101:Kd S101:=Kd.iso (Kd.pair (Kd.int .i64) (Kd.int .i64)) (fun x:S101=>(x.f0,x.f1))
theorem k101_open {w:World} {x:S101} {cs:List Value} (h:k101.K w x cs):cs= [.int .i64 x.f0,.int .i64 x.f1]:=by
 obtain⟨_,_,rfl,rfl,rfl⟩:=h
 exact rfl
theorem k101_mkM (w:World) (base:Nat) (ok:Nat→Prop) (x:S101)  :k101.M w base ok x [.int .i64 x.f0,.int .i64 x.f1]:=⟨[.int .i64 x.f0],[.int .i64 x.f1],rfl,rfl,rfl⟩
def rd_T101 (xs:List S101) (i:Int):S101:=xs.getD i.toNat z101
theorem at_T101 {w:World} {A:Option Addr} {n:Nat} {xs:List S101} (h:Kd.C k101 w A n xs) (i:Int) (h0: 0≤i) (h1:i<n):∃ ad ,A=some ad∧w.cell? (ad.add (i.toNat * 2))=some (.int .i64 (rd_T101 xs i).f0)∧w.cell? ⟨(ad.add (i.toNat * 2)).block,(ad.add (i.toNat * 2)).off+1,none⟩=some (.int .i64 (rd_T101 xs i).f1):=by
 obtain⟨ad,c,e,_,hK,hc0⟩:=Kd.C_get h z101 i h0 h1
 have hc:∀ j u,c[j]?=some u→w.cell? (ad.add (i.toNat * 2+j))=some u:=hc0
 obtain rfl:=k101_open hK
 exact⟨ad,e,hc 0 _ rfl,by rw [← add_field _ _ 1 (by omega)];exact hc 1 _ rfl⟩
structure S61 where
 f0:Int
 f1:Int
def z61:S61:=⟨(0:Int),(0:Int)⟩
def k61:Kd S61:=Kd.iso (Kd.pair (Kd.int .i64) (Kd.int .i64)) (fun x:S61=>(x.f0,x.f1))
theorem k61_open {w:World} {x:S61} {cs:List Value} (h:k61.K w x cs):cs= [.int .i64 x.f0,.int .i64 x.f1]:=by
 obtain⟨_,_,rfl,rfl,rfl⟩:=h
 exact rfl
theorem k61_mkM (w:World) (base:Nat) (ok:Nat→Prop) (x:S61)  :k61.M w base ok x [.int .i64 x.f0,.int .i64 x.f1]:=⟨[.int .i64 x.f0],[.int .i64 x.f1],rfl,rfl,rfl⟩
def rd_T61 (xs:List S61) (i:Int):S61:=xs.getD i.toNat z61
theorem at_T61 {w:World} {A:Option Addr} {n:Nat} {xs:List S61} (h:Kd.C k61 w A n xs) (i:Int) (h0: 0≤i) (h1:i<n):∃ ad ,A=some ad∧w.cell? (ad.add (i.toNat * 2))=some (.int .i64 (rd_T61 xs i).f0)∧w.cell? ⟨(ad.add (i.toNat * 2)).block,(ad.add (i.toNat * 2)).off+1,none⟩=some (.int .i64 (rd_T61 xs i).f1):=by
 obtain⟨ad,c,e,_,hK,hc0⟩:=Kd.C_get h z61 i h0 h1
 have hc:∀ j u,c[j]?=some u→w.cell? (ad.add (i.toNat * 2+j))=some u:=hc0
 obtain rfl:=k61_open hK
 exact⟨ad,e,hc 0 _ rfl,by rw [← add_field _ _ 1 (by omega)];exact hc 1 _ rfl⟩
structure S79 where
 f0:Int
 f1:Int
 f2:Int
def z79:S79:=⟨(0:Int),(0:Int),(0:Int)⟩
def k79:Kd S79:=Kd.iso (Kd.pair (Kd.int .i64) (Kd.pair (Kd.int .i64) (Kd.int .i64))) (fun x:S79=>(x.f0,x.f1,x.f2))
theorem k79_open {w:World} {x:S79} {cs:List Value} (h:k79.K w x cs):cs= [.int .i64 x.f0,.int .i64 x.f1,.int .i64 x.f2]:=by
 obtain⟨_,_,rfl,rfl,⟨_,_,rfl,rfl,rfl⟩⟩:=h
 exact rfl
theorem k79_openM {w:World} {base:Nat} {ok:Nat→Prop} {x:S79} {cs:List Value} (h:k79.M w base ok x cs):cs= [.int .i64 x.f0,.int .i64 x.f1,.int .i64 x.f2]:=by
 obtain⟨_,_,rfl,rfl,⟨_,_,rfl,rfl,rfl⟩⟩:=h
 exact rfl
theorem k79_mkM (w:World) (base:Nat) (ok:Nat→Prop) (x:S79)  :k79.M w base ok x [.int .i64 x.f0,.int .i64 x.f1,.int .i64 x.f2]:=⟨[.int .i64 x.f0],[.int .i64 x.f1,.int .i64 x.f2],rfl,rfl,⟨[.int .i64 x.f1],[.int .i64 x.f2],rfl,rfl,rfl⟩⟩
def rd_T79 (xs:List S79) (i:Int):S79:=xs.getD i.toNat z79
theorem at_T79 {w:World} {A:Option Addr} {n:Nat} {xs:List S79} (h:Kd.C k79 w A n xs) (i:Int) (h0: 0≤i) (h1:i<n):∃ ad ,A=some ad∧w.cell? (ad.add (i.toNat * 3))=some (.int .i64 (rd_T79 xs i).f0)∧w.cell? ⟨(ad.add (i.toNat * 3)).block,(ad.add (i.toNat * 3)).off+1,none⟩=some (.int .i64 (rd_T79 xs i).f1)∧w.cell? ⟨(ad.add (i.toNat * 3)).block,(ad.add (i.toNat * 3)).off+2,none⟩=some (.int .i64 (rd_T79 xs i).f2):=by
 obtain⟨ad,c,e,_,hK,hc0⟩:=Kd.C_get h z79 i h0 h1
 have hc:∀ j u,c[j]?=some u→w.cell? (ad.add (i.toNat * 3+j))=some u:=hc0
 obtain rfl:=k79_open hK
 exact⟨ad,e,hc 0 _ rfl,by rw [← add_field _ _ 1 (by omega)];exact hc 1 _ rfl,by rw [← add_field _ _ 2 (by omega)];exact hc 2 _ rfl⟩
def rd_L6 (xs:List (List Int)) (i:Int):(List Int):=xs.getD i.toNat ([] :List Int)
theorem at_L6 {w:World} {A:Option Addr} {n:Nat} {xs:List (List Int)} (h:Kd.C (Kd.slice 3 (Kd.int .i64)) w A n xs) (i:Int) (h0: 0≤i) (h1:i<n):∃ ad A0 c0,A=some ad∧w.cell? (ad.add i.toNat)=some (.slice A0 (rd_L6 xs i).length c0)∧ (rd_L6 xs i).length≤c0∧ (Kd.int .i64).C w A0 (rd_L6 xs i).length (rd_L6 xs i):=by
 obtain⟨ad,c,e,_,hK,hc0⟩:=Kd.C_get h ([] :List Int) i h0 h1
 have hc:∀ j u,c[j]?=some u→w.cell? (ad.add (i.toNat * 1+j))=some u:=hc0
 obtain⟨A0,c0,rfl,l0,g0⟩:=hK
 exact⟨ad,A0,c0,e,by have hq:=hc 0 _ rfl;rwa [Nat.mul_one,Nat.add_zero] at hq,l0,g0⟩
def spec_l1In.f (a0:Int) (a1:Int) (a2:Int):Option (Bool):=if a0≥a1 then(some (decide (a0≤a2))) else(some false)
set_option maxHeartbeats 8000000 in
set_option maxRecDepth 100000 in
theorem spec_l1In.calls (a0:Int) (a1:Int) (a2:Int) (r:Bool) (w:World) (h:spec_l1In.f a0 a1 a2=some r):
  Calls Try.prog 59 #[.int .i64 a0,.int .i64 a1,.int .i64 a2] w fun e w'=>e= .returned (.bool r)∧Drawn0 w w':=by
 have H:(if a0≥a1 then(some (decide (a0≤a2))) else(some false))=some r:=h
 clear h
 by_cases c4:a0≥a1
 ·rw [if_pos c4] at H
  have c4b0:decide (a1≤a0)=true:=decide_eq_true c4
  clear c4
  obtain rfl:=Option.some.inj H
  go_enter Try.func59,Try.ntmps59
  go_wp2
  go_ret
  exact⟨by first|rfl|(simp;done)|(simp [*];done),by repeat(first|exact Drawn0.refl _|apply Drawn0.step)⟩
 ·rw [if_neg c4] at H
  have c4b0:decide (a1≤a0)=false:=decide_eq_false c4
  clear c4
  obtain rfl:=Option.some.inj H
  go_enter Try.func59,Try.ntmps59
  go_wp2
  go_ret
  exact⟨by first|rfl|(simp;done)|(simp [*];done),by repeat(first|exact Drawn0.refl _|apply Drawn0.step)⟩
mutual
def spec_GoodParents.l0:Nat→List Int→Int→List Int→Int→Int→Option (Bool)
 | 0,_,_,_,_,_=>none
 |k+1,x0,x3,x10,x11,x12=>if x12<x11 then(if 0≤x12 then(if x12< (x10.length:Int) then((spec_l1In.f (rd x10 x12) (-1) (wrap64 (x3 - 1))).bind fun t103=>(if t103=true then(spec_GoodParents.l1 k x0 x3 0 x12 x10 x11 x12) else(some false))) else(none)) else(none)) else((spec_l1In.f x3 1 12).bind fun t101=>(some t101))
def spec_GoodParents.l1:Nat→List Int→Int→Int→Int→List Int→Int→Int→Option (Bool)
 | 0,_,_,_,_,_,_,_=>none
 |k+1,x0,x3,x6,x7,x10,x11,x12=>if x7≥0 then(if (wrap64 (x6+1)) > x3 then(some false) else(if 0≤x7 then(if x7< (x0.length:Int) then((spec_l1In.f (rd x0 x7) (-1) (wrap64 (x3 - 1))).bind fun t105=>(if t105=true then(spec_GoodParents.l1 k x0 x3 (wrap64 (x6+1)) (rd x0 x7) x10 x11 x12) else(some false))) else(none)) else(none))) else(spec_GoodParents.l0 k x0 x3 x10 x11 (wrap64 (x12+1)))
end
def spec_GoodParents.f (k:Nat) (l0:List Int):Option (Bool):=spec_GoodParents.l0 k l0 (l0.length:Int) l0 (l0.length:Int) 0
theorem zq1 {p:Prop} (h:p:=by first|(with_reducible assumption)|assumption):p:=h
theorem zq2 {p:Prop} (h:p:=by(try simp only [List.map_toArray,List.map_cons,List.map_nil]);first|done|rfl|(simp only [List.length_drop,List.length_take];rfl)):p:=h
set_option maxHeartbeats 8000000 in
set_option maxRecDepth 100000 in
theorem spec_GoodParents.calls (k:Nat) (A0:Option Addr) (c0:Nat) (l0:List Int) (r:Bool) (w:World) (hr0:Kd.C (Kd.int .i64) w A0 l0.length l0) (hc0:l0.length≤c0) (h:spec_GoodParents.f k l0=some r):
  Calls Try.prog 13 #[.slice A0 l0.length c0] w fun e w'=>e= .returned (.bool r)∧Drawn0 w w':=by
 have HR0:=Aside0.mk hr0
 have HC0:=Aside0.mk hc0
 clear hr0 hc0
 have H:(spec_GoodParents.l0 k l0 (l0.length:Int) l0 (l0.length:Int) 0)=some r:=h
 clear h
 have H':=Aside0.mk H
 clear H
 go_enter Try.func13,Try.ntmps13
 go_wp2
 go_loopg [12] k (fun kq v12 w'=> ∃ (x12_1:Int),v12= .int .i64 x12_1∧Aside0 (spec_GoodParents.l0 kq l0 (l0.length:Int) l0 (l0.length:Int) x12_1=some r)∧Aside0 (kq≤k)∧Drawn0 w w')
 case atStart=>exact⟨(0),(by first|rfl|(simp;done)|(simp [*];done)),H',⟨Nat.le_refl _⟩,by repeat(first|exact Drawn0.refl _|apply Drawn0.step)⟩
 case round=>
  clear H'
  try clear c1
  obtain⟨x12_1,rfl,HA,HK1,⟨m1,rfl⟩⟩:=hrel
  cases gk with
  |zero=>exact absurd HA.out (by simp [spec_GoodParents.l0])
  |succ k1=>
   have H:=HA.out
   clear HA
   simp only [spec_GoodParents.l0] at H
   by_cases c2:x12_1< (l0.length:Int)
   ·rw [if_pos c2] at H
    have c2b0:decide (x12_1< (l0.length:Int))=true:=decide_eq_true c2
    clear c2
    by_cases c3: 0≤x12_1
    case neg=>rw [if_neg c3] at H;exact absurd H (by simp)
    rw [if_pos c3] at H
    have c3b0:decide (0≤x12_1)=true:=decide_eq_true c3
    clear c3
    by_cases c4:x12_1< (l0.length:Int)
    case neg=>rw [if_neg c4] at H;exact absurd H (by simp)
    rw [if_pos c4] at H
    have c4b0:decide (x12_1< (l0.length:Int))=true:=decide_eq_true c4
    clear c4
    replace H:=Option.bind_eq_some_iff.mp H
    obtain⟨t103,A50,H⟩:=H
    replace H:(if t103=true then(spec_GoodParents.l1 k1 l0 (l0.length:Int) 0 x12_1 l0 (l0.length:Int) x12_1) else(some false))=some r:=H
    have A5:=Aside0.mk A50
    clear A50
    by_cases c6:t103=true
    ·subst c6
     have H1:(spec_GoodParents.l1 k1 l0 (l0.length:Int) 0 x12_1 l0 (l0.length:Int) x12_1)=some r:=by rw [if_pos rfl] at H;exact H
     clear H
     have H:=H1
     clear H1
     have H':=Aside0.mk H
     clear H
     have p102: 0≤ (x12_1:Int):=of_decide_eq_true zq1
     have q102:x12_1< (l0.length:Int):=of_decide_eq_true zq1
     obtain⟨ad102,e102,hx102_0⟩:=Kd.at_int HR0.out x12_1 p102 q102
     cases e102
     replace p102:=eq_true p102
     replace q102:=eq_true q102
     go_wp2_with (first|((with_reducible refine gate_callee (f:=59) rfl ?_);refine goesL_ (some 20) rfl rfl Try.func59 (by kernel_rfl) rfl #[.int .i64 (rd l0 x12_1),.int .i64 (-1),.int .i64 (wrap64 ((l0.length:Int) - 1))] rfl zq2 ?_;(with_reducible refine(spec_l1In.calls (rd l0 x12_1) (-1) (wrap64 ((l0.length:Int) - 1)) true _ A5.out).mono ?_);rintro e w' ⟨rfl,⟨nd,rfl⟩⟩;refine⟨_,rfl,?_⟩))
     go_loopg [6,7] k1 (fun kq v6 v7 w'=> ∃ (x6_2:Int) (x7_2:Int),v6= .int .i64 x6_2∧v7= .int .i64 x7_2∧Aside0 (spec_GoodParents.l1 kq l0 (l0.length:Int) x6_2 x7_2 l0 (l0.length:Int) x12_1=some r)∧Aside0 (kq≤k1)∧Drawn0 w w')
     case atStart=>exact⟨(0),(x12_1),(by first|rfl|(simp;done)|(simp [*];done)),(by first|rfl|(simp;done)|(simp [*];done)),H',⟨Nat.le_refl _⟩,by repeat(first|exact Drawn0.refl _|apply Drawn0.step)⟩
     case round=>
      clear H'
      try clear c1
      try clear p1
      try clear q1
      try clear hx1
      try clear c2
      try clear c2b0
      try clear p2
      try clear c3
      try clear c3b0
      try clear c4
      try clear c4b0
      try clear c5
      try clear c6
      try clear p6
      try clear hx102_0
      try clear p102
      try clear q102
      obtain⟨x6_2,x7_2,rfl,rfl,HA,HK2,⟨m2,rfl⟩⟩:=hrel
      cases gk with
      |zero=>exact absurd HA.out (by simp [spec_GoodParents.l1])
      |succ k2=>
       have H:=HA.out
       clear HA
       simp only [spec_GoodParents.l1] at H
       by_cases c7:x7_2≥0
       ·rw [if_pos c7] at H
        have c7b0:decide (0≤x7_2)=true:=decide_eq_true c7
        clear c7
        by_cases c8:(wrap64 (x6_2+1)) > (l0.length:Int)
        ·rw [if_pos c8] at H
         have c8b0:decide ((l0.length:Int)< (wrap64 (x6_2+1)))=true:=decide_eq_true c8
         clear c8
         obtain rfl:=Option.some.inj H
         go_wp2
         go_ret
         exact⟨by first|rfl|(simp;done)|(simp [*];done),by repeat(first|exact Drawn0.refl _|apply Drawn0.step)⟩
        ·rw [if_neg c8] at H
         have c8b0:decide ((l0.length:Int)< (wrap64 (x6_2+1)))=false:=decide_eq_false c8
         clear c8
         by_cases c9: 0≤x7_2
         case neg=>rw [if_neg c9] at H;exact absurd H (by simp)
         rw [if_pos c9] at H
         have c9b0:decide (0≤x7_2)=true:=decide_eq_true c9
         clear c9
         by_cases c10:x7_2< (l0.length:Int)
         case neg=>rw [if_neg c10] at H;exact absurd H (by simp)
         rw [if_pos c10] at H
         have c10b0:decide (x7_2< (l0.length:Int))=true:=decide_eq_true c10
         clear c10
         replace H:=Option.bind_eq_some_iff.mp H
         obtain⟨t105,A110,H⟩:=H
         replace H:(if t105=true then(spec_GoodParents.l1 k2 l0 (l0.length:Int) (wrap64 (x6_2+1)) (rd l0 x7_2) l0 (l0.length:Int) x12_1) else(some false))=some r:=H
         have A11:=Aside0.mk A110
         clear A110
         by_cases c12:t105=true
         ·subst c12
          have H1:(spec_GoodParents.l1 k2 l0 (l0.length:Int) (wrap64 (x6_2+1)) (rd l0 x7_2) l0 (l0.length:Int) x12_1)=some r:=by rw [if_pos rfl] at H;exact H
          clear H
          have H:=H1
          clear H1
          have H':=Aside0.mk H
          clear H
          have p104: 0≤ (x7_2:Int):=of_decide_eq_true zq1
          have q104:x7_2< (l0.length:Int):=of_decide_eq_true zq1
          obtain⟨ad104,e104,hx104_0⟩:=Kd.at_int HR0.out x7_2 p104 q104
          obtain rfl:ad102=ad104:=(by injection e104)
          replace p104:=eq_true p104
          replace q104:=eq_true q104
          go_wp2_with (first|(go_at_call 59;(with_reducible refine(spec_l1In.calls (rd l0 x7_2) (-1) (wrap64 ((l0.length:Int) - 1)) true _ A11.out).mono ?_);rintro e w' ⟨rfl,⟨nd,rfl⟩⟩;have p106: 0≤ (x7_2:Int):=of_decide_eq_true zq1;have q106:x7_2< (l0.length:Int):=of_decide_eq_true zq1;obtain⟨ad106,e106,hx106_0⟩:=Kd.at_int HR0.out x7_2 p106 q106;obtain rfl:ad102=ad106:=(by injection e106);replace p106:=eq_true p106;replace q106:=eq_true q106))
          go_roundg k2
          case measure=>have:=HK1.out;have:=HK2.out;omega
          case rel=>exact⟨(wrap64 (x6_2+1)),(rd l0 x7_2),(by first|rfl|(simp;done)|(simp [*];done)),(by first|rfl|(simp;done)|(simp [*];done)),H',⟨by have:=HK1.out;have:=HK2.out;omega⟩,by repeat(first|exact Drawn0.refl _|apply Drawn0.step)⟩
         ·replace c12:=Bool.eq_false_iff.mpr c12
          subst c12
          have H1:(some false)=some r:=by rw [if_neg (show ¬ (false=true) by decide)] at H;exact H
          clear H
          have H:=H1
          clear H1
          obtain rfl:=Option.some.inj H
          have p104: 0≤ (x7_2:Int):=of_decide_eq_true zq1
          have q104:x7_2< (l0.length:Int):=of_decide_eq_true zq1
          obtain⟨ad104,e104,hx104_0⟩:=Kd.at_int HR0.out x7_2 p104 q104
          obtain rfl:ad102=ad104:=(by injection e104)
          replace p104:=eq_true p104
          replace q104:=eq_true q104
          go_wp2_with (first|(go_at_call 59;(with_reducible refine(spec_l1In.calls (rd l0 x7_2) (-1) (wrap64 ((l0.length:Int) - 1)) false _ A11.out).mono ?_);rintro e w' ⟨rfl,⟨nd,rfl⟩⟩))
          go_ret
          exact⟨by first|rfl|(simp;done)|(simp [*];done),by repeat(first|exact Drawn0.refl _|apply Drawn0.step)⟩
       ·rw [if_neg c7] at H
        have c7b0:decide (0≤x7_2)=false:=decide_eq_false c7
        clear c7
        have H':=Aside0.mk H
        clear H
        go_wp2
        go_roundg k2
        case measure=>have:=HK1.out;have:=HK2.out;omega
        case rel=>exact⟨(wrap64 (x12_1+1)),(by first|rfl|(simp;done)|(simp [*];done)),H',⟨by have:=HK1.out;have:=HK2.out;omega⟩,by repeat(first|exact Drawn0.refl _|apply Drawn0.step)⟩
    ·replace c6:=Bool.eq_false_iff.mpr c6
     subst c6
     have H1:(some false)=some r:=by rw [if_neg (show ¬ (false=true) by decide)] at H;exact H
     clear H
     have H:=H1
     clear H1
     obtain rfl:=Option.some.inj H
     have p102: 0≤ (x12_1:Int):=of_decide_eq_true zq1
     have q102:x12_1< (l0.length:Int):=of_decide_eq_true zq1
     obtain⟨ad102,e102,hx102_0⟩:=Kd.at_int HR0.out x12_1 p102 q102
     cases e102
     replace p102:=eq_true p102
     replace q102:=eq_true q102
     go_wp2_with (first|((with_reducible refine gate_callee (f:=59) rfl ?_);refine goesL_ (some 20) rfl rfl Try.func59 (by kernel_rfl) rfl #[.int .i64 (rd l0 x12_1),.int .i64 (-1),.int .i64 (wrap64 ((l0.length:Int) - 1))] rfl zq2 ?_;(with_reducible refine(spec_l1In.calls (rd l0 x12_1) (-1) (wrap64 ((l0.length:Int) - 1)) false _ A5.out).mono ?_);rintro e w' ⟨rfl,⟨nd,rfl⟩⟩;refine⟨_,rfl,?_⟩))
     go_ret
     exact⟨by first|rfl|(simp;done)|(simp [*];done),by repeat(first|exact Drawn0.refl _|apply Drawn0.step)⟩
   ·rw [if_neg c2] at H
    have c2b0:decide (x12_1< (l0.length:Int))=false:=decide_eq_false c2
    clear c2
    replace H:=Option.bind_eq_some_iff.mp H
    obtain⟨t101,A130,H⟩:=H
    replace H:(some t101)=some r:=H
    have A13:=Aside0.mk A130
    clear A130
    obtain rfl:=Option.some.inj H
    go_wp2_with (first|((with_reducible refine gate_callee (f:=59) rfl ?_);refine goesL_ (some 46) rfl rfl Try.func59 (by kernel_rfl) rfl #[.int .i64 (l0.length:Int),.int .i64 1,.int .i64 12] rfl zq2 ?_;(with_reducible refine(spec_l1In.calls (l0.length:Int) 1 12 t101 _ A13.out).mono ?_);rintro e w' ⟨rfl,⟨nd,rfl⟩⟩;refine⟨_,rfl,?_⟩))
    go_ret
    exact⟨by first|rfl|(simp;done)|(simp [*];done),by repeat(first|exact Drawn0.refl _|apply Drawn0.step)⟩
def impl_in.f (a0:Int) (a1:Int) (a2:Int):Option (Bool):=if a0≥a1 then(some (decide (a0≤a2))) else(some false)
set_option maxHeartbeats 8000000 in
set_option maxRecDepth 100000 in
theorem impl_in.calls (a0:Int) (a1:Int) (a2:Int) (r:Bool) (w:World) (h:impl_in.f a0 a1 a2=some r):
  Calls Try.prog 78 #[.int .i64 a0,.int .i64 a1,.int .i64 a2] w fun e w'=>e= .returned (.bool r)∧Drawn0 w w':=by
 have H:(if a0≥a1 then(some (decide (a0≤a2))) else(some false))=some r:=h
 clear h
 by_cases c4:a0≥a1
 ·rw [if_pos c4] at H
  have c4b0:decide (a1≤a0)=true:=decide_eq_true c4
  clear c4
  obtain rfl:=Option.some.inj H
  go_enter Try.func78,Try.ntmps78
  go_wp2
  go_ret
  exact⟨by first|rfl|(simp;done)|(simp [*];done),by repeat(first|exact Drawn0.refl _|apply Drawn0.step)⟩
 ·rw [if_neg c4] at H
  have c4b0:decide (a1≤a0)=false:=decide_eq_false c4
  clear c4
  obtain rfl:=Option.some.inj H
  go_enter Try.func78,Try.ntmps78
  go_wp2
  go_ret
  exact⟨by first|rfl|(simp;done)|(simp [*];done),by repeat(first|exact Drawn0.refl _|apply Drawn0.step)⟩
def impl_isSpots.f (a0:Int):Option (Bool):=(impl_in.f a0 1 12).bind fun t112=>(some t112)
set_option maxHeartbeats 8000000 in
set_option maxRecDepth 100000 in
theorem impl_isSpots.calls (a0:Int) (r:Bool) (w:World) (h:impl_isSpots.f a0=some r):
  Calls Try.prog 60 #[.int .i64 a0] w fun e w'=>e= .returned (.bool r)∧Drawn0 w w':=by
 have H:((impl_in.f a0 1 12).bind fun t112=>(some t112))=some r:=h
 clear h
 replace H:=Option.bind_eq_some_iff.mp H
 obtain⟨t112,A20,H⟩:=H
 replace H:(some t112)=some r:=H
 have A2:=Aside0.mk A20
 clear A20
 obtain rfl:=Option.some.inj H
 go_enter Try.func60,Try.ntmps60
 go_wp2_with (first|((with_reducible refine gate_callee (f:=78) rfl ?_);refine goesL_ (some 4) rfl rfl Try.func78 (by kernel_rfl) rfl #[.int .i64 a0,.int .i64 1,.int .i64 12] rfl zq2 ?_;(with_reducible refine(impl_in.calls a0 1 12 t112 _ A2.out).mono ?_);rintro e w' ⟨rfl,⟨nd,rfl⟩⟩;refine⟨_,rfl,?_⟩))
 go_ret
 exact⟨by first|rfl|(simp;done)|(simp [*];done),by repeat(first|exact Drawn0.refl _|apply Drawn0.step)⟩
def impl_allIn.l0:Nat→Int→Int→List Int→Int→Int→Option (Bool)
 | 0,_,_,_,_,_=>none
 |k+1,x1,x2,x9,x10,x11=>if x11<x10 then(if 0≤x11 then(if x11< (x9.length:Int) then((impl_in.f (rd x9 x11) x1 x2).bind fun t114=>(if t114=true then(impl_allIn.l0 k x1 x2 x9 x10 (wrap64 (x11+1))) else(some false))) else(none)) else(none)) else(some true)
def impl_allIn.f (k:Nat) (l0:List Int) (a1:Int) (a2:Int):Option (Bool):=impl_allIn.l0 k a1 a2 l0 (l0.length:Int) 0
set_option maxHeartbeats 8000000 in
set_option maxRecDepth 100000 in
theorem impl_allIn.calls (k:Nat) (A0:Option Addr) (c0:Nat) (l0:List Int) (a1:Int) (a2:Int) (r:Bool) (w:World) (hr0:Kd.C (Kd.int .i64) w A0 l0.length l0) (hc0:l0.length≤c0) (h:impl_allIn.f k l0 a1 a2=some r):
  Calls Try.prog 61 #[.slice A0 l0.length c0,.int .i64 a1,.int .i64 a2] w fun e w'=>e= .returned (.bool r)∧Drawn0 w w':=by
 have HR0:=Aside0.mk hr0
 have HC0:=Aside0.mk hc0
 clear hr0 hc0
 have H:(impl_allIn.l0 k a1 a2 l0 (l0.length:Int) 0)=some r:=h
 clear h
 have H':=Aside0.mk H
 clear H
 go_enter Try.func61,Try.ntmps61
 go_wp2
 go_loopg [11] k (fun kq v11 w'=> ∃ (x11_1:Int),v11= .int .i64 x11_1∧Aside0 (impl_allIn.l0 kq a1 a2 l0 (l0.length:Int) x11_1=some r)∧Aside0 (kq≤k)∧Drawn0 w w')
 case atStart=>exact⟨(0),(by first|rfl|(simp;done)|(simp [*];done)),H',⟨Nat.le_refl _⟩,by repeat(first|exact Drawn0.refl _|apply Drawn0.step)⟩
 case round=>
  clear H'
  try clear p2
  obtain⟨x11_1,rfl,HA,HK1,⟨m1,rfl⟩⟩:=hrel
  cases gk with
  |zero=>exact absurd HA.out (by simp [impl_allIn.l0])
  |succ k1=>
   have H:=HA.out
   clear HA
   simp only [impl_allIn.l0] at H
   by_cases c4:x11_1< (l0.length:Int)
   ·rw [if_pos c4] at H
    have c4b0:decide (x11_1< (l0.length:Int))=true:=decide_eq_true c4
    clear c4
    by_cases c5: 0≤x11_1
    case neg=>rw [if_neg c5] at H;exact absurd H (by simp)
    rw [if_pos c5] at H
    have c5b0:decide (0≤x11_1)=true:=decide_eq_true c5
    clear c5
    by_cases c6:x11_1< (l0.length:Int)
    case neg=>rw [if_neg c6] at H;exact absurd H (by simp)
    rw [if_pos c6] at H
    have c6b0:decide (x11_1< (l0.length:Int))=true:=decide_eq_true c6
    clear c6
    replace H:=Option.bind_eq_some_iff.mp H
    obtain⟨t114,A70,H⟩:=H
    replace H:(if t114=true then(impl_allIn.l0 k1 a1 a2 l0 (l0.length:Int) (wrap64 (x11_1+1))) else(some false))=some r:=H
    have A7:=Aside0.mk A70
    clear A70
    by_cases c8:t114=true
    ·subst c8
     have H1:(impl_allIn.l0 k1 a1 a2 l0 (l0.length:Int) (wrap64 (x11_1+1)))=some r:=by rw [if_pos rfl] at H;exact H
     clear H
     have H:=H1
     clear H1
     have H':=Aside0.mk H
     clear H
     have p113: 0≤ (x11_1:Int):=of_decide_eq_true zq1
     have q113:x11_1< (l0.length:Int):=of_decide_eq_true zq1
     obtain⟨ad113,e113,hx113_0⟩:=Kd.at_int HR0.out x11_1 p113 q113
     cases e113
     replace p113:=eq_true p113
     replace q113:=eq_true q113
     go_wp2_with (first|((with_reducible refine gate_callee (f:=78) rfl ?_);refine goesL_ (some 18) rfl rfl Try.func78 (by kernel_rfl) rfl #[.int .i64 (rd l0 x11_1),.int .i64 a1,.int .i64 a2] rfl zq2 ?_;(with_reducible refine(impl_in.calls (rd l0 x11_1) a1 a2 true _ A7.out).mono ?_);rintro e w' ⟨rfl,⟨nd,rfl⟩⟩;refine⟨_,rfl,?_⟩))
     go_roundg k1
     case measure=>have:=HK1.out;omega
     case rel=>exact⟨(wrap64 (x11_1+1)),(by first|rfl|(simp;done)|(simp [*];done)),H',⟨by have:=HK1.out;omega⟩,by repeat(first|exact Drawn0.refl _|apply Drawn0.step)⟩
    ·replace c8:=Bool.eq_false_iff.mpr c8
     subst c8
     have H1:(some false)=some r:=by rw [if_neg (show ¬ (false=true) by decide)] at H;exact H
     clear H
     have H:=H1
     clear H1
     obtain rfl:=Option.some.inj H
     have p113: 0≤ (x11_1:Int):=of_decide_eq_true zq1
     have q113:x11_1< (l0.length:Int):=of_decide_eq_true zq1
     obtain⟨ad113,e113,hx113_0⟩:=Kd.at_int HR0.out x11_1 p113 q113
     cases e113
     replace p113:=eq_true p113
     replace q113:=eq_true q113
     go_wp2_with (first|((with_reducible refine gate_callee (f:=78) rfl ?_);refine goesL_ (some 18) rfl rfl Try.func78 (by kernel_rfl) rfl #[.int .i64 (rd l0 x11_1),.int .i64 a1,.int .i64 a2] rfl zq2 ?_;(with_reducible refine(impl_in.calls (rd l0 x11_1) a1 a2 false _ A7.out).mono ?_);rintro e w' ⟨rfl,⟨nd,rfl⟩⟩;refine⟨_,rfl,?_⟩))
     go_ret
     exact⟨by first|rfl|(simp;done)|(simp [*];done),by repeat(first|exact Drawn0.refl _|apply Drawn0.step)⟩
   ·rw [if_neg c4] at H
    have c4b0:decide (x11_1< (l0.length:Int))=false:=decide_eq_false c4
    clear c4
    obtain rfl:=Option.some.inj H
    go_wp2
    go_ret
    exact⟨by first|rfl|(simp;done)|(simp [*];done),by repeat(first|exact Drawn0.refl _|apply Drawn0.step)⟩
mutual
def impl_GoodParents.j0:Nat→List Int→Bool→Option (Bool)
 | 0,_,_=>none
 |k+1,x0,x16=>if x16=true then(some false) else(impl_GoodParents.l0 k x0 (x0.length:Int) 0)
def impl_GoodParents.l0:Nat→List Int→Int→Int→Option (Bool)
 | 0,_,_,_=>none
 |k+1,x0,x18,x19=>if x19<x18 then(impl_GoodParents.l1 k x0 x19 x18 x19 (x0.length:Int) 0) else(some true)
def impl_GoodParents.l1:Nat→List Int→Int→Int→Int→Int→Int→Option (Bool)
 | 0,_,_,_,_,_,_=>none
 |k+1,x0,x4,x18,x19,x24,x25=>if x25<x24 then(if x4≥0 then(if 0≤x4 then(if x4< (x0.length:Int) then(impl_GoodParents.l1 k x0 (rd x0 x4) x18 x19 x24 (wrap64 (x25+1))) else(none)) else(none)) else(impl_GoodParents.l1 k x0 x4 x18 x19 x24 (wrap64 (x25+1)))) else(if x4≥0 then(some false) else(impl_GoodParents.l0 k x0 x18 (wrap64 (x19+1))))
end
def impl_GoodParents.f (k:Nat) (l0:List Int):Option (Bool):=(impl_isSpots.f (l0.length:Int)).bind fun t115=>(if t115=true then((impl_allIn.f k l0 (-1) (wrap64 ((l0.length:Int) - 1))).bind fun t116=>(impl_GoodParents.j0 k l0 (!t116))) else(impl_GoodParents.j0 k l0 true))
theorem zcc {q p:Prop} (b:q) (h:q→p:=by intro z;repeat(first|exact z|(with_reducible refine Kd.C_alloc ?_ _)|(with_reducible refine Kd.C_drewN ?_ _)|(with_reducible refine Kd.C_drew ?_))):p:=h b
set_option maxHeartbeats 8000000 in
set_option maxRecDepth 100000 in
theorem impl_GoodParents.calls (k:Nat) (A0:Option Addr) (c0:Nat) (l0:List Int) (r:Bool) (w:World) (hr0:Kd.C (Kd.int .i64) w A0 l0.length l0) (hc0:l0.length≤c0) (h:impl_GoodParents.f k l0=some r):
  Calls Try.prog 15 #[.slice A0 l0.length c0] w fun e w'=>e= .returned (.bool r)∧Drawn0 w w':=by
 have HR0:=Aside0.mk hr0
 have HC0:=Aside0.mk hc0
 clear hr0 hc0
 have H:((impl_isSpots.f (l0.length:Int)).bind fun t115=>(if t115=true then((impl_allIn.f k l0 (-1) (wrap64 ((l0.length:Int) - 1))).bind fun t116=>(impl_GoodParents.j0 k l0 (!t116))) else(impl_GoodParents.j0 k l0 true)))=some r:=h
 clear h
 have HC2:=Aside0.mk H
 clear H
 go_enter Try.func15,Try.ntmps15
 go_upto_region 1 with (fail)
 go_cut [16] (fun v16 wc=> ∃ (kq:Nat) (x16_1:Bool),v16= .bool x16_1∧Aside0 (impl_GoodParents.j0 kq l0 x16_1=some r)∧Aside0 (kq≤k)∧Drawn0 w wc)
 case first=>
  have H:=HC2.out
  clear HC2
  replace H:=Option.bind_eq_some_iff.mp H
  obtain⟨t115,A30,H⟩:=H
  replace H:(if t115=true then((impl_allIn.f k l0 (-1) (wrap64 ((l0.length:Int) - 1))).bind fun t116=>(impl_GoodParents.j0 k l0 (!t116))) else(impl_GoodParents.j0 k l0 true))=some r:=H
  have A3:=Aside0.mk A30
  clear A30
  by_cases c4:t115=true
  ·subst c4
   have H1:((impl_allIn.f k l0 (-1) (wrap64 ((l0.length:Int) - 1))).bind fun t116=>(impl_GoodParents.j0 k l0 (!t116)))=some r:=by rw [if_pos rfl] at H;exact H
   clear H
   have H:=H1
   clear H1
   replace H:=Option.bind_eq_some_iff.mp H
   obtain⟨t116,A50,H⟩:=H
   replace H:(impl_GoodParents.j0 k l0 (!t116))=some r:=H
   have A5:=Aside0.mk A50
   clear A50
   have H':=Aside0.mk H
   clear H
   go_wp2_with (first|((with_reducible refine gate_callee (f:=60) rfl ?_);refine goesL_ (some 7) rfl rfl Try.func60 (by kernel_rfl) rfl #[.int .i64 (l0.length:Int)] rfl zq2 ?_;(with_reducible refine(impl_isSpots.calls (l0.length:Int) true _ A3.out).mono ?_);rintro e w' ⟨rfl,⟨nd,rfl⟩⟩;refine⟨_,rfl,?_⟩)|(go_at_call 61;(with_reducible refine(impl_allIn.calls k _ _ l0 (-1) (wrap64 ((l0.length:Int) - 1)) t116 _ ?side1 ?side2 A5.out).mono ?_);(case side1=>exact zcc (HR0.out));(case side2=>exact HC0.out);rintro e w' ⟨rfl,⟨nd,rfl⟩⟩))
   go_meet
   case rel=>exact⟨_,(!t116),(by first|rfl|(simp;done)|(simp [*];done)),H',⟨by first|omega|exact Nat.le_refl _⟩,by repeat(first|exact Drawn0.refl _|apply Drawn0.step)⟩
  ·replace c4:=Bool.eq_false_iff.mpr c4
   subst c4
   have H1:(impl_GoodParents.j0 k l0 true)=some r:=by rw [if_neg (show ¬ (false=true) by decide)] at H;exact H
   clear H
   have H:=H1
   clear H1
   have H':=Aside0.mk H
   clear H
   go_wp2_with (first|((with_reducible refine gate_callee (f:=60) rfl ?_);refine goesL_ (some 7) rfl rfl Try.func60 (by kernel_rfl) rfl #[.int .i64 (l0.length:Int)] rfl zq2 ?_;(with_reducible refine(impl_isSpots.calls (l0.length:Int) false _ A3.out).mono ?_);rintro e w' ⟨rfl,⟨nd,rfl⟩⟩;refine⟨_,rfl,?_⟩))
   go_meet
   case rel=>exact⟨_,(true),(by first|rfl|(simp;done)|(simp [*];done)),H',⟨by first|omega|exact Nat.le_refl _⟩,by repeat(first|exact Drawn0.refl _|apply Drawn0.step)⟩
 case rest=>
  clear HC2
  try clear c1
  try clear p2
  try clear c4
  obtain⟨kq,x16_1,rfl,HA,HJ1,⟨mc1,rfl⟩⟩:=hcut
  cases kq with
  |zero=>exact absurd HA.out (by simp [impl_GoodParents.j0])
  |succ kj1=>
   have H:=HA.out
   clear HA
   simp only [impl_GoodParents.j0] at H
   by_cases c6:x16_1=true
   ·subst c6
    have H1:(some false)=some r:=by rw [if_pos rfl] at H;exact H
    clear H
    have H:=H1
    clear H1
    obtain rfl:=Option.some.inj H
    go_wp2
    go_ret
    exact⟨by first|rfl|(simp;done)|(simp [*];done),by repeat(first|exact Drawn0.refl _|apply Drawn0.step)⟩
   ·replace c6:=Bool.eq_false_iff.mpr c6
    subst c6
    have H1:(impl_GoodParents.l0 kj1 l0 (l0.length:Int) 0)=some r:=by rw [if_neg (show ¬ (false=true) by decide)] at H;exact H
    clear H
    have H:=H1
    clear H1
    have H':=Aside0.mk H
    clear H
    go_wp2
    go_loopg [19] kj1 (fun kq v19 w'=> ∃ (x19_2:Int),v19= .int .i64 x19_2∧Aside0 (impl_GoodParents.l0 kq l0 (l0.length:Int) x19_2=some r)∧Aside0 (kq≤kj1)∧Drawn0 w w')
    case atStart=>exact⟨(0),(by first|rfl|(simp;done)|(simp [*];done)),H',⟨Nat.le_refl _⟩,by repeat(first|exact Drawn0.refl _|apply Drawn0.step)⟩
    case round=>
     clear H'
     try clear c1
     try clear p2
     try clear c4
     try clear c6
     try clear p6
     try clear p2
     obtain⟨x19_2,rfl,HA,HK2,⟨m2,rfl⟩⟩:=hrel
     cases gk with
     |zero=>exact absurd HA.out (by simp [impl_GoodParents.l0])
     |succ k2=>
      have H:=HA.out
      clear HA
      simp only [impl_GoodParents.l0] at H
      by_cases c7:x19_2< (l0.length:Int)
      ·rw [if_pos c7] at H
       have c7b0:decide (x19_2< (l0.length:Int))=true:=decide_eq_true c7
       clear c7
       have H':=Aside0.mk H
       clear H
       go_wp2
       go_loopg [4,25] k2 (fun kq v4 v25 w'=> ∃ (x4_3:Int) (x25_3:Int),v4= .int .i64 x4_3∧v25= .int .i64 x25_3∧Aside0 (impl_GoodParents.l1 kq l0 x4_3 (l0.length:Int) x19_2 (l0.length:Int) x25_3=some r)∧Aside0 (kq≤k2)∧Drawn0 w w')
       case atStart=>exact⟨(x19_2),(0),(by first|rfl|(simp;done)|(simp [*];done)),(by first|rfl|(simp;done)|(simp [*];done)),H',⟨Nat.le_refl _⟩,by repeat(first|exact Drawn0.refl _|apply Drawn0.step)⟩
       case round=>
        clear H'
        try clear c1
        try clear p2
        try clear c4
        try clear c6
        try clear p6
        try clear c7
        try clear c7b0
        try clear p2
        try clear p6
        obtain⟨x4_3,x25_3,rfl,rfl,HA,HK3,⟨m3,rfl⟩⟩:=hrel
        cases gk with
        |zero=>exact absurd HA.out (by simp [impl_GoodParents.l1])
        |succ k3=>
         have H:=HA.out
         clear HA
         simp only [impl_GoodParents.l1] at H
         by_cases c8:x25_3< (l0.length:Int)
         ·rw [if_pos c8] at H
          have c8b0:decide (x25_3< (l0.length:Int))=true:=decide_eq_true c8
          clear c8
          by_cases c9:x4_3≥0
          ·rw [if_pos c9] at H
           have c9b0:decide (0≤x4_3)=true:=decide_eq_true c9
           clear c9
           by_cases c10: 0≤x4_3
           case neg=>rw [if_neg c10] at H;exact absurd H (by simp)
           rw [if_pos c10] at H
           have c10b0:decide (0≤x4_3)=true:=decide_eq_true c10
           clear c10
           by_cases c11:x4_3< (l0.length:Int)
           case neg=>rw [if_neg c11] at H;exact absurd H (by simp)
           rw [if_pos c11] at H
           have c11b0:decide (x4_3< (l0.length:Int))=true:=decide_eq_true c11
           clear c11
           have H':=Aside0.mk H
           clear H
           have p117: 0≤ (x4_3:Int):=of_decide_eq_true zq1
           have q117:x4_3< (l0.length:Int):=of_decide_eq_true zq1
           obtain⟨ad117,e117,hx117_0⟩:=Kd.at_int HR0.out x4_3 p117 q117
           cases e117
           replace p117:=eq_true p117
           replace q117:=eq_true q117
           go_wp2
           go_roundg k3
           case measure=>have:=HJ1.out;have:=HK2.out;have:=HK3.out;omega
           case rel=>exact⟨(rd l0 x4_3),(wrap64 (x25_3+1)),(by first|rfl|(simp;done)|(simp [*];done)),(by first|rfl|(simp;done)|(simp [*];done)),H',⟨by have:=HJ1.out;have:=HK2.out;have:=HK3.out;omega⟩,by repeat(first|exact Drawn0.refl _|apply Drawn0.step)⟩
          ·rw [if_neg c9] at H
           have c9b0:decide (0≤x4_3)=false:=decide_eq_false c9
           clear c9
           have H':=Aside0.mk H
           clear H
           go_wp2
           go_roundg k3
           case measure=>have:=HJ1.out;have:=HK2.out;have:=HK3.out;omega
           case rel=>exact⟨(x4_3),(wrap64 (x25_3+1)),(by first|rfl|(simp;done)|(simp [*];done)),(by first|rfl|(simp;done)|(simp [*];done)),H',⟨by have:=HJ1.out;have:=HK2.out;have:=HK3.out;omega⟩,by repeat(first|exact Drawn0.refl _|apply Drawn0.step)⟩
         ·rw [if_neg c8] at H
          have c8b0:decide (x25_3< (l0.length:Int))=false:=decide_eq_false c8
          clear c8
          by_cases c12:x4_3≥0
          ·rw [if_pos c12] at H
           have c12b0:decide (0≤x4_3)=true:=decide_eq_true c12
           clear c12
           obtain rfl:=Option.some.inj H
           go_wp2
           go_ret
           exact⟨by first|rfl|(simp;done)|(simp [*];done),by repeat(first|exact Drawn0.refl _|apply Drawn0.step)⟩
          ·rw [if_neg c12] at H
           have c12b0:decide (0≤x4_3)=false:=decide_eq_false c12
           clear c12
           have H':=Aside0.mk H
           clear H
           go_wp2
           go_roundg k3
           case measure=>have:=HJ1.out;have:=HK2.out;have:=HK3.out;omega
           case rel=>exact⟨(wrap64 (x19_2+1)),(by first|rfl|(simp;done)|(simp [*];done)),H',⟨by have:=HJ1.out;have:=HK2.out;have:=HK3.out;omega⟩,by repeat(first|exact Drawn0.refl _|apply Drawn0.step)⟩
      ·rw [if_neg c7] at H
       have c7b0:decide (x19_2< (l0.length:Int))=false:=decide_eq_false c7
       clear c7
       obtain rfl:=Option.some.inj H
       go_wp2
       go_ret
       exact⟨by first|rfl|(simp;done)|(simp [*];done),by repeat(first|exact Drawn0.refl _|apply Drawn0.step)⟩
def spec_l10Two.f (k:Nat) (l0:List Int) (a1:Int) (a2:Int):Option (Bool):=(spec_GoodParents.f k l0).bind fun t132=>(if t132=true then((spec_l1In.f a1 0 (wrap64 ((l0.length:Int) - 1))).bind fun t133=>(if t133=true then((spec_l1In.f a2 0 (wrap64 ((l0.length:Int) - 1))).bind fun t134=>(some t134)) else(some false))) else(some false))
set_option maxHeartbeats 8000000 in
set_option maxRecDepth 100000 in
theorem spec_l10Two.calls (k:Nat) (A0:Option Addr) (c0:Nat) (l0:List Int) (a1:Int) (a2:Int) (r:Bool) (w:World) (hr0:Kd.C (Kd.int .i64) w A0 l0.length l0) (hc0:l0.length≤c0) (h:spec_l10Two.f k l0 a1 a2=some r):
  Calls Try.prog 62 #[.slice A0 l0.length c0,.int .i64 a1,.int .i64 a2] w fun e w'=>e= .returned (.bool r)∧Drawn0 w w':=by
 have HR0:=Aside0.mk hr0
 have HC0:=Aside0.mk hc0
 clear hr0 hc0
 have H:((spec_GoodParents.f k l0).bind fun t132=>(if t132=true then((spec_l1In.f a1 0 (wrap64 ((l0.length:Int) - 1))).bind fun t133=>(if t133=true then((spec_l1In.f a2 0 (wrap64 ((l0.length:Int) - 1))).bind fun t134=>(some t134)) else(some false))) else(some false)))=some r:=h
 clear h
 replace H:=Option.bind_eq_some_iff.mp H
 obtain⟨t132,A40,H⟩:=H
 replace H:(if t132=true then((spec_l1In.f a1 0 (wrap64 ((l0.length:Int) - 1))).bind fun t133=>(if t133=true then((spec_l1In.f a2 0 (wrap64 ((l0.length:Int) - 1))).bind fun t134=>(some t134)) else(some false))) else(some false))=some r:=H
 have A4:=Aside0.mk A40
 clear A40
 by_cases c5:t132=true
 ·subst c5
  have H1:((spec_l1In.f a1 0 (wrap64 ((l0.length:Int) - 1))).bind fun t133=>(if t133=true then((spec_l1In.f a2 0 (wrap64 ((l0.length:Int) - 1))).bind fun t134=>(some t134)) else(some false)))=some r:=by rw [if_pos rfl] at H;exact H
  clear H
  have H:=H1
  clear H1
  replace H:=Option.bind_eq_some_iff.mp H
  obtain⟨t133,A60,H⟩:=H
  replace H:(if t133=true then((spec_l1In.f a2 0 (wrap64 ((l0.length:Int) - 1))).bind fun t134=>(some t134)) else(some false))=some r:=H
  have A6:=Aside0.mk A60
  clear A60
  by_cases c7:t133=true
  ·subst c7
   have H1:((spec_l1In.f a2 0 (wrap64 ((l0.length:Int) - 1))).bind fun t134=>(some t134))=some r:=by rw [if_pos rfl] at H;exact H
   clear H
   have H:=H1
   clear H1
   replace H:=Option.bind_eq_some_iff.mp H
   obtain⟨t134,A80,H⟩:=H
   replace H:(some t134)=some r:=H
   have A8:=Aside0.mk A80
   clear A80
   obtain rfl:=Option.some.inj H
   go_enter Try.func62,Try.ntmps62
   go_wp2_with (first|((with_reducible refine gate_callee (f:=13) rfl ?_);refine goesL_ (some 8) rfl rfl Try.func13 (by kernel_rfl) rfl #[.slice A0 l0.length c0] rfl zq2 ?_;(with_reducible refine(spec_GoodParents.calls k _ _ l0 true _ ?side1 ?side2 A4.out).mono ?_);(case side1=>exact zcc (HR0.out));(case side2=>exact HC0.out);rintro e w' ⟨rfl,⟨nd,rfl⟩⟩;refine⟨_,rfl,?_⟩)|(go_at_call 59;(with_reducible refine(spec_l1In.calls a1 0 (wrap64 ((l0.length:Int) - 1)) true _ A6.out).mono ?_);rintro e w' ⟨rfl,⟨nd,rfl⟩⟩)|(go_at_call 59;(with_reducible refine(spec_l1In.calls a2 0 (wrap64 ((l0.length:Int) - 1)) t134 _ A8.out).mono ?_);rintro e w' ⟨rfl,⟨nd,rfl⟩⟩))
   go_ret
   exact⟨by first|rfl|(simp;done)|(simp [*];done),by repeat(first|exact Drawn0.refl _|apply Drawn0.step)⟩
  ·replace c7:=Bool.eq_false_iff.mpr c7
   subst c7
   have H1:(some false)=some r:=by rw [if_neg (show ¬ (false=true) by decide)] at H;exact H
   clear H
   have H:=H1
   clear H1
   obtain rfl:=Option.some.inj H
   go_enter Try.func62,Try.ntmps62
   go_wp2_with (first|((with_reducible refine gate_callee (f:=13) rfl ?_);refine goesL_ (some 8) rfl rfl Try.func13 (by kernel_rfl) rfl #[.slice A0 l0.length c0] rfl zq2 ?_;(with_reducible refine(spec_GoodParents.calls k _ _ l0 true _ ?side1 ?side2 A4.out).mono ?_);(case side1=>exact zcc (HR0.out));(case side2=>exact HC0.out);rintro e w' ⟨rfl,⟨nd,rfl⟩⟩;refine⟨_,rfl,?_⟩)|(go_at_call 59;(with_reducible refine(spec_l1In.calls a1 0 (wrap64 ((l0.length:Int) - 1)) false _ A6.out).mono ?_);rintro e w' ⟨rfl,⟨nd,rfl⟩⟩))
   go_ret
   exact⟨by first|rfl|(simp;done)|(simp [*];done),by repeat(first|exact Drawn0.refl _|apply Drawn0.step)⟩
 ·replace c5:=Bool.eq_false_iff.mpr c5
  subst c5
  have H1:(some false)=some r:=by rw [if_neg (show ¬ (false=true) by decide)] at H;exact H
  clear H
  have H:=H1
  clear H1
  obtain rfl:=Option.some.inj H
  go_enter Try.func62,Try.ntmps62
  go_wp2_with (first|((with_reducible refine gate_callee (f:=13) rfl ?_);refine goesL_ (some 8) rfl rfl Try.func13 (by kernel_rfl) rfl #[.slice A0 l0.length c0] rfl zq2 ?_;(with_reducible refine(spec_GoodParents.calls k _ _ l0 false _ ?side1 ?side2 A4.out).mono ?_);(case side1=>exact zcc (HR0.out));(case side2=>exact HC0.out);rintro e w' ⟨rfl,⟨nd,rfl⟩⟩;refine⟨_,rfl,?_⟩))
  go_ret
  exact⟨by first|rfl|(simp;done)|(simp [*];done),by repeat(first|exact Drawn0.refl _|apply Drawn0.step)⟩
def spec_l10Up.l0:Nat→List Int→Int→List Int→Option (List Int)
 | 0,_,_,_=>none
 |k+1,x0,x1,x5=>if x1≥0 then(if x5.length< 17592186044416 then(if 0≤x1 then(if x1< (x0.length:Int) then(spec_l10Up.l0 k x0 (rd x0 x1) (x5++ [x1])) else(none)) else(none)) else(none)) else(some x5)
def spec_l10Up.f (k:Nat) (l0:List Int) (a1:Int):Option (List Int):=spec_l10Up.l0 k l0 a1 ([] :List Int)
theorem zfh {r q p:Prop} (a:r) (b:q) (h:r→q→p:=by intro z H;first|(rw [z];with_reducible exact H)|(have H2_:=(Option.bind_some _ _).symm.trans H;rw [z];with_reducible exact H2_)|(have H2_:=(Option.bind_some _ _).symm.trans H;with_reducible exact H2_)|with_reducible exact H|(rw [z];exact H)|exact H):p:=h a b
theorem zhx {w W:World} {a:Addr} {v:Value} (b:Aside0 (Below w.heap.size w W)) (h:w.cell? a=some v):W.cell? a=some v:=(b.out.cell (World.block_lt_of_cell? w _ h)).trans h
theorem zk1 {q p:Prop} (b:Aside0 q) (h:q→p:=by intro z;repeat(first|(with_reducible first|exact z|apply below_alloc|apply pw_below_drewN|apply below_drew1)|exact z)):p:=h b.out
theorem zq4 {q p:Prop} (b:Aside0 q) (h:q→p:=by intro z;(with_reducible repeat(first|apply Kd.R_alloc|apply Kd.R_drewN|apply Kd.R_drew));exact z):p:=h b.out
set_option maxHeartbeats 8000000 in
set_option maxRecDepth 100000 in
theorem spec_l10Up.calls (k:Nat) (A0:Option Addr) (c0:Nat) (l0:List Int) (a1:Int) (r:List Int) (w:World) (hr0:Kd.C (Kd.int .i64) w A0 l0.length l0) (hc0:l0.length≤c0) (h:spec_l10Up.f k l0 a1=some r):
  Calls Try.prog 92 #[.slice A0 l0.length c0,.int .i64 a1] w fun e w'=> ∃ v0_:Value,e= .returned (v0_)∧Kd.R (Kd.int .i64) 3 w' w.heap.size (fun _=>True) v0_ r∧Below w.heap.size w w':=by
 have HR0:=Aside0.mk hr0
 have HC0:=Aside0.mk hc0
 clear hr0 hc0
 have HB:=Aside0.mk (Below.refl w.heap.size w)
 have H:(spec_l10Up.l0 k l0 a1 ([] :List Int))=some r:=h
 clear h
 have H':=Aside0.mk H
 clear H
 go_enter Try.func92,Try.ntmps92
 go_wp2
 go_loopg [1,5] k (fun kq v1 v5 w'=> ∃ (x1_1:Int) (x5_1:List Int),v1= .int .i64 x1_1∧Aside0 (spec_l10Up.l0 kq l0 x1_1 x5_1=some r)∧Aside0 (kq≤k)∧Aside0 (Kd.R (Kd.int .i64) 3 w' w.heap.size (fun _=>True) v5 x5_1)∧Aside0 (Below w.heap.size w w'))
 case atStart=>exact⟨(a1),(([] :List Int)),(by first|rfl|(simp;done)|(simp [*];done)),H',⟨Nat.le_refl _⟩,⟨by first|exact Kd.R_nil _ _ _ _ _|exact Kd.N_nil _ _ _ _ _|exact Kd.V_nil _ _ _ _ _|exact Kd.Q_nil _ _ _ _ _|exact Kd.S_nil _ _ _ _ _⟩,⟨by exact zk1 HB⟩⟩
 case round=>
  clear H'
  try clear p2
  obtain⟨x1_1,x5_1,rfl,HA,HK1,HO_5,HB⟩:=hrel
  cases gk with
  |zero=>exact absurd HA.out (by simp [spec_l10Up.l0])
  |succ k1=>
   have H:=HA.out
   clear HA
   simp only [spec_l10Up.l0] at H
   by_cases c3:x1_1≥0
   ·rw [if_pos c3] at H
    have c3b0:decide (0≤x1_1)=true:=decide_eq_true c3
    clear c3
    by_cases c4:x5_1.length< 17592186044416
    case neg=>rw [if_neg c4] at H;exact absurd H (by simp)
    rw [if_pos c4] at H
    have LMc4:=Aside0.mk c4
    clear c4
    obtain⟨y135,hy135⟩ :∃ y_:List Int,y_= (x5_1++ [x1_1]):=⟨_,rfl⟩
    replace H:(if 0≤x1_1 then(if x1_1< (l0.length:Int) then(spec_l10Up.l0 k1 l0 (rd l0 x1_1) y135) else(none)) else(none))=some r:=zfh hy135 H
    have Ny135:=Aside0.mk hy135
    clear hy135
    by_cases c5: 0≤x1_1
    case neg=>rw [if_neg c5] at H;exact absurd H (by simp)
    rw [if_pos c5] at H
    have c5b0:decide (0≤x1_1)=true:=decide_eq_true c5
    clear c5
    by_cases c6:x1_1< (l0.length:Int)
    case neg=>rw [if_neg c6] at H;exact absurd H (by simp)
    rw [if_pos c6] at H
    have c6b0:decide (x1_1< (l0.length:Int))=true:=decide_eq_true c6
    clear c6
    have H':=Aside0.mk H
    clear H
    go_wp2_with (first|((with_reducible refine gate_builtin (b:= .append) (xs:= #[.tmp 8,.tmp 10]) rfl ?_);at_builtin;refine Kd.R_append (Kd.int .i64) (w0:=w) w.heap.size rfl (.tmp 8) (.tmp 10) 22 3 (.int .i64 0) 8 rfl Try.underlying22 info3 rfl (by decide) (by omega) u5 x5_1 x1_1 [.int .i64 x1_1] (fun _=>True) (fun _=>False) rfl rfl ?aP (fun _ hk=>hk.elim) ?aF ?aO ?aB ?aS ?aL ?_;(case aP=>exact rfl);(case aB=>exact(by exact zk1 HB));(case aF=>exact(fun _ _=>trivial));(case aO=>exact(zq4 HO_5));(case aS=>exact(below_size (by exact zk1 HB)));(case aL=>have:=LMc4.out;omega);intro v136 w7 ho hb hg hat;rw [← Ny135.out] at ho;have HO137:=Aside0.mk (ho);replace HB:=Aside0.mk (hb);clear HO_5;clear ho hb hg hat;have p138: 0≤ (x1_1:Int):=of_decide_eq_true zq1;have q138:x1_1< (l0.length:Int):=of_decide_eq_true zq1;obtain⟨ad138,e138,hx138_0⟩:=Kd.at_int HR0.out x1_1 p138 q138;cases e138;replace hx138_0:=zhx HB hx138_0;replace p138:=eq_true p138;replace q138:=eq_true q138))
    go_roundg k1
    case measure=>have:=HK1.out;omega
    case rel=>exact⟨(rd l0 x1_1),(y135),(by first|rfl|(simp;done)|(simp [*];done)),H',⟨by have:=HK1.out;omega⟩,⟨by(with_reducible repeat(first|apply Kd.R_alloc|apply Kd.R_drewN|apply Kd.R_drew));exact HO137.out⟩,⟨by exact zk1 HB⟩⟩
   ·rw [if_neg c3] at H
    have c3b0:decide (0≤x1_1)=false:=decide_eq_false c3
    clear c3
    obtain rfl:=Option.some.inj H
    go_wp2
    go_ret
    exact⟨_,by first|rfl|(simp [errW_none,errW_some]<;>rfl)|(simp [*,errW_none,errW_some]<;>rfl),by(with_reducible repeat(first|apply Kd.R_alloc|apply Kd.R_drewN|apply Kd.R_drew));exact HO_5.out,by exact zk1 HB⟩
mutual
def spec_l10On.l0:Nat→List Int→List Int→List Int→Int→Int→Option (List Int × Bool)
 | 0,_,_,_,_,_=>none
 |k+1,x8,x9,x22,x23,x24=>if x24<x23 then(if 0≤x24 then(if x24< (x22.length:Int) then(spec_l10On.l1 k x8 x9 x24 (rd x22 x24) x22 x23 x24 x9 (x9.length:Int) 0) else(none)) else(none)) else(some (([] :List Int),false))
def spec_l10On.l1:Nat→List Int→List Int→Int→Int→List Int→Int→Int→List Int→Int→Int→Option (List Int × Bool)
 | 0,_,_,_,_,_,_,_,_,_,_=>none
 |k+1,x8,x9,x10,x11,x22,x23,x24,x29,x30,x31=>if x31<x30 then(if 0≤x31 then(if x31< (x29.length:Int) then(if x11= (rd x29 x31) then((some (([] :List Int):List Int)).bind fun y147=>(if 0≤ (wrap64 (x10+1)) then(if (wrap64 (x10+1))≤ (x8.length:Int) then((some (x8.take ((wrap64 (x10+1)):Int).toNat:List Int)).bind fun y150=>(if y147.length+y150.length< 17592186044416 then(spec_l10On.l2 k x9 (y147++y150) (wrap64 (x31 - 1))) else(none))) else(none)) else(none))) else(spec_l10On.l1 k x8 x9 x10 x11 x22 x23 x24 x29 x30 (wrap64 (x31+1)))) else(none)) else(none)) else(spec_l10On.l0 k x8 x9 x22 x23 (wrap64 (x24+1)))
def spec_l10On.l2:Nat→List Int→List Int→Int→Option (List Int × Bool)
 | 0,_,_,_=>none
 |k+1,x9,x14,x15=>if x15≥0 then(if 0≤x15 then(if x15< (x9.length:Int) then(if x14.length< 17592186044416 then(spec_l10On.l2 k x9 (x14++ [rd x9 x15]) (wrap64 (x15 - 1))) else(none)) else(none)) else(none)) else(some (x14,true))
end
def spec_l10On.f (k:Nat) (l0:List Int) (a1:Int) (a2:Int):Option (List Int × Bool):=(spec_l10Up.f k l0 a1).bind fun t139=>((spec_l10Up.f k l0 a2).bind fun t142=>(spec_l10On.l0 k t139 t142 t139 (t139.length:Int) 0))
set_option maxHeartbeats 8000000 in
set_option maxRecDepth 100000 in
theorem spec_l10On.calls (k:Nat) (A0:Option Addr) (c0:Nat) (l0:List Int) (a1:Int) (a2:Int) (r1:List Int) (r2:Bool) (w:World) (hr0:Kd.C (Kd.int .i64) w A0 l0.length l0) (hc0:l0.length≤c0) (h:spec_l10On.f k l0 a1 a2=some (r1,r2)):
  Calls Try.prog 63 #[.slice A0 l0.length c0,.int .i64 a1,.int .i64 a2] w fun e w'=> ∃ v0_:Value,e= .returned (.tuple #[v0_,.bool r2])∧Kd.R (Kd.int .i64) 3 w' w.heap.size (fun _=>True) v0_ r1∧Below w.heap.size w w':=by
 have HR0:=Aside0.mk hr0
 have HC0:=Aside0.mk hc0
 clear hr0 hc0
 have HB:=Aside0.mk (Below.refl w.heap.size w)
 have H:((spec_l10Up.f k l0 a1).bind fun t139=>((spec_l10Up.f k l0 a2).bind fun t142=>(spec_l10On.l0 k t139 t142 t139 (t139.length:Int) 0)))=some (r1,r2):=h
 clear h
 replace H:=Option.bind_eq_some_iff.mp H
 obtain⟨t139,A40,H⟩:=H
 replace H:((spec_l10Up.f k l0 a2).bind fun t142=>(spec_l10On.l0 k t139 t142 t139 (t139.length:Int) 0))=some (r1,r2):=H
 have A4:=Aside0.mk A40
 clear A40
 replace H:=Option.bind_eq_some_iff.mp H
 obtain⟨t142,A50,H⟩:=H
 replace H:(spec_l10On.l0 k t139 t142 t139 (t139.length:Int) 0)=some (r1,r2):=H
 have A5:=Aside0.mk A50
 clear A50
 have H':=Aside0.mk H
 clear H
 go_enter Try.func63,Try.ntmps63
 go_wp2_with (first|((with_reducible refine gate_callee (f:=92) rfl ?_);refine goesL_ (some 18) rfl rfl Try.func92 (by kernel_rfl) rfl #[.slice A0 l0.length c0,.int .i64 a1] rfl zq2 ?_;(with_reducible refine(spec_l10Up.calls k _ _ l0 a1 t139 _ ?side1 ?side2 A4.out).mono ?_);(case side1=>exact zcc (HR0.out));(case side2=>exact HC0.out);rintro e w6 ⟨v140,rfl,ho0,hb⟩;refine⟨_,rfl,?_⟩;have HO141:=Aside0.mk (Kd.R_lower ho0 (below_size (by exact zk1 HB)));replace HB:=Aside0.mk (below_step (by exact zk1 HB) hb);(try clear hb);(try clear hb2);(try clear hk);(try clear hi);(try clear ho0))|((with_reducible refine gate_callee (f:=92) rfl ?_);refine goesL_ (some 21) rfl rfl Try.func92 (by kernel_rfl) rfl #[.slice A0 l0.length c0,.int .i64 a2] rfl zq2 ?_;(with_reducible refine(spec_l10Up.calls k _ _ l0 a2 t142 _ ?side1 ?side2 A5.out).mono ?_);(case side1=>exact zcc ((Kd.C_below HR0.out HB.out)));(case side2=>exact HC0.out);rintro e w7 ⟨v143,rfl,ho0,hb⟩;refine⟨_,rfl,?_⟩;have HO144:=Aside0.mk (Kd.R_lower (Kd.R_new' ho0 (Kd.R_lt (zq4 HO141))) (below_size (by exact zk1 HB)));replace HO141:=Aside0.mk (Kd.R_elder' (zq4 HO141) (Kd.R_base ho0) hb);replace HB:=Aside0.mk (below_step (by exact zk1 HB) hb);(try clear hb);(try clear hb2);(try clear hk);(try clear hi);(try clear ho0);obtain⟨Ao8,co8,eo8⟩:=Kd.R_slice HO141.out;subst eo8))
 go_loopg [24] k (fun kq v24 w'=> ∃ (x24_1:Int),v24= .int .i64 x24_1∧Aside0 (spec_l10On.l0 kq t139 t142 t139 (t139.length:Int) x24_1=some (r1,r2))∧Aside0 (kq≤k)∧Aside0 (Kd.R (Kd.int .i64) 3 w' w.heap.size (fun k_=>some k_≠ (v143:Value).ownBlock) (.slice Ao8 t139.length co8) t139)∧Aside0 (Kd.R (Kd.int .i64) 3 w' w.heap.size (fun k_=>some k_≠ ((.slice Ao8 t139.length co8):Value).ownBlock∧some k_≠ ((.slice Ao8 t139.length co8):Value).ownBlock) v143 t142)∧Aside0 (Kd.R (Kd.int .i64) 3 w' w.heap.size (fun k_=>some k_≠ (v143:Value).ownBlock) (.slice Ao8 t139.length co8) t139)∧Aside0 (Below w.heap.size w w'))
 case atStart=>exact⟨(0),(by first|rfl|(simp;done)|(simp [*];done)),H',⟨Nat.le_refl _⟩,⟨by(with_reducible repeat(first|apply Kd.R_alloc|apply Kd.R_drewN|apply Kd.R_drew));exact Kd.R_mono HO141.out (fun _ hk=>hk.2)⟩,⟨by(with_reducible repeat(first|apply Kd.R_alloc|apply Kd.R_drewN|apply Kd.R_drew));exact Kd.R_mono HO144.out (fun _ hk=>⟨hk.2,hk.2⟩)⟩,⟨by(with_reducible repeat(first|apply Kd.R_alloc|apply Kd.R_drewN|apply Kd.R_drew));exact Kd.R_mono HO141.out (fun _ hk=>hk.2)⟩,⟨by exact zk1 HB⟩⟩
 case round=>
  clear H'
  try clear p2
  try clear c6
  obtain⟨x24_1,rfl,HA,HK1,HO_8,HO_9,HO_22,HB⟩:=hrel
  cases gk with
  |zero=>exact absurd HA.out (by simp [spec_l10On.l0])
  |succ k1=>
   have H:=HA.out
   clear HA
   simp only [spec_l10On.l0] at H
   by_cases c9:x24_1< (t139.length:Int)
   ·rw [if_pos c9] at H
    have c9b0:decide (x24_1< (t139.length:Int))=true:=decide_eq_true c9
    clear c9
    by_cases c10: 0≤x24_1
    case neg=>rw [if_neg c10] at H;exact absurd H (by simp)
    rw [if_pos c10] at H
    have c10b0:decide (0≤x24_1)=true:=decide_eq_true c10
    clear c10
    by_cases c11:x24_1< (t139.length:Int)
    case neg=>rw [if_neg c11] at H;exact absurd H (by simp)
    rw [if_pos c11] at H
    have c11b0:decide (x24_1< (t139.length:Int))=true:=decide_eq_true c11
    clear c11
    have H':=Aside0.mk H
    clear H
    have p145: 0≤ (x24_1:Int):=of_decide_eq_true zq1
    have q145:x24_1< (t139.length:Int):=of_decide_eq_true zq1
    obtain⟨ad145,e145,hx145_0⟩:=Kd.at_int (Kd.R_reads' HO_22.out).2.2 x24_1 p145 q145
    cases e145
    replace p145:=eq_true p145
    replace q145:=eq_true q145
    obtain⟨Ao12,co12,eo12⟩:=Kd.R_slice HO_9.out
    subst eo12
    go_wp2
    go_loopg [31] k1 (fun kq v31 w'=> ∃ (x31_2:Int),v31= .int .i64 x31_2∧Aside0 (spec_l10On.l1 kq t139 t142 x24_1 (rd t139 x24_1) t139 (t139.length:Int) x24_1 t142 (t142.length:Int) x31_2=some (r1,r2))∧Aside0 (kq≤k1)∧Aside0 (Kd.R (Kd.int .i64) 3 w' w.heap.size (fun k_=>some k_≠ ((.slice Ao12 t142.length co12):Value).ownBlock∧some k_≠ ((.slice Ao12 t142.length co12):Value).ownBlock) (.slice (some ad145) t139.length co8) t139)∧Aside0 (Kd.R (Kd.int .i64) 3 w' w.heap.size (fun k_=>some k_≠ ((.slice (some ad145) t139.length co8):Value).ownBlock∧some k_≠ ((.slice (some ad145) t139.length co8):Value).ownBlock) (.slice Ao12 t142.length co12) t142)∧Aside0 (Kd.R (Kd.int .i64) 3 w' w.heap.size (fun k_=>some k_≠ ((.slice Ao12 t142.length co12):Value).ownBlock∧some k_≠ ((.slice Ao12 t142.length co12):Value).ownBlock) (.slice (some ad145) t139.length co8) t139)∧Aside0 (Kd.R (Kd.int .i64) 3 w' w.heap.size (fun k_=>some k_≠ ((.slice (some ad145) t139.length co8):Value).ownBlock∧some k_≠ ((.slice (some ad145) t139.length co8):Value).ownBlock) (.slice Ao12 t142.length co12) t142)∧Aside0 (Below w.heap.size w w'))
    case atStart=>exact⟨(0),(by first|rfl|(simp;done)|(simp [*];done)),H',⟨Nat.le_refl _⟩,⟨by(with_reducible repeat(first|apply Kd.R_alloc|apply Kd.R_drewN|apply Kd.R_drew));exact Kd.R_mono HO_8.out (fun _ hk=>⟨hk,hk⟩)⟩,⟨by(with_reducible repeat(first|apply Kd.R_alloc|apply Kd.R_drewN|apply Kd.R_drew));exact HO_9.out⟩,⟨by(with_reducible repeat(first|apply Kd.R_alloc|apply Kd.R_drewN|apply Kd.R_drew));exact Kd.R_mono HO_22.out (fun _ hk=>⟨hk,hk⟩)⟩,⟨by(with_reducible repeat(first|apply Kd.R_alloc|apply Kd.R_drewN|apply Kd.R_drew));exact HO_9.out⟩,⟨by exact zk1 HB⟩⟩
    case round=>
     clear H'
     try clear c1
     try clear p1
     try clear q1
     try clear hx1
     try clear p2
     try clear c6
     try clear c9
     try clear c9b0
     try clear c10
     try clear c10b0
     try clear c11
     try clear c11b0
     try clear hx145_0
     try clear p145
     try clear p2
     try clear q145
     obtain⟨x31_2,rfl,HA,HK2,HO_8,HO_9,HO_22,HO_29,HB⟩:=hrel
     cases gk with
     |zero=>exact absurd HA.out (by simp [spec_l10On.l1])
     |succ k2=>
      have H:=HA.out
      clear HA
      simp only [spec_l10On.l1] at H
      by_cases c13:x31_2< (t142.length:Int)
      ·rw [if_pos c13] at H
       have c13b0:decide (x31_2< (t142.length:Int))=true:=decide_eq_true c13
       clear c13
       by_cases c14: 0≤x31_2
       case neg=>rw [if_neg c14] at H;exact absurd H (by simp)
       rw [if_pos c14] at H
       have c14b0:decide (0≤x31_2)=true:=decide_eq_true c14
       clear c14
       by_cases c15:x31_2< (t142.length:Int)
       case neg=>rw [if_neg c15] at H;exact absurd H (by simp)
       rw [if_pos c15] at H
       have c15b0:decide (x31_2< (t142.length:Int))=true:=decide_eq_true c15
       clear c15
       by_cases c16:(rd t139 x24_1)= (rd t142 x31_2)
       ·rw [if_pos c16] at H
        have c16b0:((rd t139 x24_1)== (rd t142 x31_2))=true:=beq_iff_eq.mpr c16
        have c16b1:((rd t139 x24_1) != (rd t142 x31_2))=false:=bne_eq_false_iff_eq.mpr c16
        clear c16
        obtain⟨y147,hy147⟩ :∃ y_:List Int,y_= (([] :List Int)):=⟨_,rfl⟩
        replace H:(if 0≤ (wrap64 (x24_1+1)) then(if (wrap64 (x24_1+1))≤ (t139.length:Int) then((some (t139.take ((wrap64 (x24_1+1)):Int).toNat:List Int)).bind fun y150=>(if y147.length+y150.length< 17592186044416 then(spec_l10On.l2 k2 t142 (y147++y150) (wrap64 (x31_2 - 1))) else(none))) else(none)) else(none))=some (r1,r2):=zfh hy147 H
        have Ny147:=Aside0.mk hy147
        clear hy147
        obtain⟨ji17,hji17⟩ :∃ j_:Int,(wrap64 (x24_1+1))=j_:=⟨_,rfl⟩
        replace H:(if 0≤ (ji17) then(if (ji17)≤ (t139.length:Int) then((some (t139.take ((ji17):Int).toNat:List Int)).bind fun y150=>(if y147.length+y150.length< 17592186044416 then(spec_l10On.l2 k2 t142 (y147++y150) (wrap64 (x31_2 - 1))) else(none))) else(none)) else(none))=some (r1,r2):=by first|(rw [hji17] at H;exact H)|(simp only [hji17] at H ⊢;exact H)
        have hji17w:(IntKind.i64.wrap (x24_1+1))=ji17:=(i64_w _).trans hji17
        by_cases c18: 0≤ (ji17)
        case neg=>rw [if_neg c18] at H;exact absurd H (by simp)
        rw [if_pos c18] at H
        have c18b0:=eq_true c18
        have c18b1:decide (0≤ (ji17))=true:=decide_eq_true c18
        clear c18
        by_cases c19:(ji17)≤ (t139.length:Int)
        case neg=>rw [if_neg c19] at H;exact absurd H (by simp)
        rw [if_pos c19] at H
        have c19b0:=eq_true c19
        have c19b1:decide ((ji17)≤ (t139.length:Int))=true:=decide_eq_true c19
        clear c19
        obtain⟨y150,hy150⟩ :∃ y_:List Int,y_= (t139.take ((ji17):Int).toNat):=⟨_,rfl⟩
        replace H:(if y147.length+y150.length< 17592186044416 then(spec_l10On.l2 k2 t142 (y147++y150) (wrap64 (x31_2 - 1))) else(none))=some (r1,r2):=zfh hy150 H
        have Ny150:=Aside0.mk hy150
        clear hy150
        by_cases c20:y147.length+y150.length< 17592186044416
        case neg=>rw [if_neg c20] at H;exact absurd H (by simp)
        rw [if_pos c20] at H
        have LMc20:=Aside0.mk c20
        clear c20
        obtain⟨y154,hy154⟩ :∃ y_:List Int,y_= (y147++y150):=⟨_,rfl⟩
        replace H:(spec_l10On.l2 k2 t142 y154 (wrap64 (x31_2 - 1)))=some (r1,r2):=zfh hy154 H
        have Ny154:=Aside0.mk hy154
        clear hy154
        have H':=Aside0.mk H
        clear H
        have p146: 0≤ (x31_2:Int):=of_decide_eq_true zq1
        have q146:x31_2< (t142.length:Int):=of_decide_eq_true zq1
        obtain⟨ad146,e146,hx146_0⟩:=Kd.at_int (Kd.R_reads' HO_29.out).2.2 x31_2 p146 q146
        cases e146
        replace p146:=eq_true p146
        replace q146:=eq_true q146
        go_wp2_with (first|((with_reducible refine gate_dst (N:=39) rfl ?_);refine Kd.R_lit (Kd.int .i64) _ 3 ?hg (N:=39) ?hd (xs:=([] :List Int)) (inner:= []) (ok:=fun _=>True) (okp:=fun _=>True) ?hr ?hp (fun _ hk=>hk) trivial (Below.refl _ _) (Nat.le_refl _) (by simp) ?_;(case hd=>rfl);(case hg=>rfl);(case hr=>first|(go_simp;done)|(go_simp;rfl));(case hp=>exact(Reps.none _ _));intro v148 w21 ho22 hb hg_ hnew_;clear hg_ hnew_;(first|rw [← Ny147.out] at ho22|(simp only [Int.reduceToNat] at ho22;rw [← Ny147.out] at ho22));have HO149:=Aside0.mk (Kd.R_lower (Kd.R_new' (Kd.R_new' (Kd.R_new' (Kd.R_new' ho22 (Kd.R_lt (zq4 HO_8))) (Kd.R_lt (zq4 HO_9))) (Kd.R_lt (zq4 HO_22))) (Kd.R_lt (zq4 HO_29))) (below_size (by exact zk1 HB)));replace HO_8:=Aside0.mk (Kd.R_elder' (zq4 HO_8) (Kd.R_base ho22) hb);replace HO_9:=Aside0.mk (Kd.R_elder' (zq4 HO_9) (Kd.R_base ho22) hb);replace HO_22:=Aside0.mk (Kd.R_elder' (zq4 HO_22) (Kd.R_base ho22) hb);replace HO_29:=Aside0.mk (Kd.R_elder' (zq4 HO_29) (Kd.R_base ho22) hb);replace HB:=Aside0.mk (below_step (by exact zk1 HB) hb);clear hb ho22;have q23:((ji17):Int)≤ ((t139.length:Int):Int):=of_decide_eq_true zq1;obtain⟨i023,hi023,_,hsz23,_⟩:=info_parts info3;have hroom23:t139.length≤co8:=(Kd.R_reads' HO_8.out).2.1;have hC23:Kd.C (Kd.int .i64) _ (some ad145) t139.length t139:=(Kd.R_reads' HO_8.out).2.2;have hcut23:=cut_to (P:=Try.prog) 22 3 .i64 Try.underlying22 hi023 (some ad145) t139.length co8 (ji17) (of_decide_eq_true zq1) q23 hroom23;have hr23:=Kd.C_take (m:=((ji17):Int).toNat) hC23 (by omega);have hy23:y150.length= ((ji17):Int).toNat:=(by rw [Ny150.out,List.length_take];omega);rw [← Ny150.out] at hr23;rw [← hy23] at hcut23;have HR153:=Aside0.mk hr23;have HC153:=Aside0.mk (show y150.length≤co8 from by omega);clear hr23 hC23 hroom23 hi023 hsz23;have KY23:=Aside0.mk hy23;clear hy23;have KL23:=Aside0.mk (show ((ji17):Int).toNat≤t139.length from by omega);replace q23:=eq_true q23)|((with_reducible refine gate_builtin (b:= .append) (xs:= #[.tmp 39,.tmp 43]) rfl ?_);at_builtin;refine Kd.R_append_rows (Kd.int .i64) (w0:=w) w.heap.size rfl (.tmp 39) (.tmp 43) 22 3 (.int .i64 0) 8 rfl Try.underlying22 info3 rfl (by decide) (by omega) v148 y147 y150 _ _ _ (fun k_=>some k_≠ (.slice (some ad145) t139.length co8:Value).ownBlock∧some k_≠ (.slice (some ad146) t142.length co12:Value).ownBlock∧some k_≠ (.slice (some ad145) t139.length co8:Value).ownBlock∧some k_≠ (.slice (some ad146) t142.length co12:Value).ownBlock) (fun _=>False) rfl rfl ?aO ?aR (fun _ _ h=>h) (fun _ h=>h.elim) ?aF ?aB ?aS ?aL ?_;(case aR=>repeat(first|exact(by repeat(first|(with_reducible exact HR153.out)|(with_reducible refine Kd.C_alloc ?_ _)|(with_reducible refine Kd.C_drewN ?_ _)|(with_reducible refine Kd.C_drew ?_)|exact HR153.out))|(with_reducible refine Kd.C_alloc ?_ _)|(with_reducible refine Kd.C_drewN ?_ _)|(with_reducible refine Kd.C_drew ?_)));(case aB=>exact(by exact zk1 HB));(case aF=>exact(fun k_ hk=>⟨Kd.fresh' (Kd.R_lt (zq4 HO_8)) k_ hk,Kd.fresh' (Kd.R_lt (zq4 HO_9)) k_ hk,Kd.fresh' (Kd.R_lt (zq4 HO_22)) k_ hk,Kd.fresh' (Kd.R_lt (zq4 HO_29)) k_ hk⟩));(case aO=>exact(by(with_reducible repeat(first|apply Kd.R_alloc|apply Kd.R_drewN|apply Kd.R_drew));exact Kd.R_mono HO149.out (fun _ hk=>⟨hk.1.1.1.2,⟨hk.1.1.2,⟨hk.1.2,hk.2⟩⟩⟩)));(case aS=>exact(below_size (by exact zk1 HB)));(case aL=>have:=LMc20.out;omega);intro v155 w24 ho hb hg hat;rw [← Ny154.out] at ho;have HO156:=Aside0.mk (ho);replace HO_9:=Aside0.mk (Kd.R_after (ok:=(fun k_=>some k_≠ (.slice (some ad145) t139.length co8:Value).ownBlock∧some k_≠ (.slice (some ad145) t139.length co8:Value).ownBlock)) (zq4 HO_9) hg hat);replace HO_22:=Aside0.mk (Kd.R_after (ok:=(fun k_=>some k_≠ (.slice (some ad146) t142.length co12:Value).ownBlock∧some k_≠ (.slice (some ad146) t142.length co12:Value).ownBlock)) (zq4 HO_22) hg hat);replace HO_29:=Aside0.mk (Kd.R_after (ok:=(fun k_=>some k_≠ (.slice (some ad145) t139.length co8:Value).ownBlock∧some k_≠ (.slice (some ad145) t139.length co8:Value).ownBlock)) (zq4 HO_29) hg hat);replace HB:=Aside0.mk (hb);replace HR153:=Aside0.mk ((show Kd.C (Kd.int .i64) w24 (some ad145) y150.length y150 from by rw [Ny150.out];exact Kd.C_take (m:=((ji17):Int).toNat) ((Kd.R_reads' (Kd.R_after (ok:=(fun k_=>some k_≠ (.slice (some ad146) t142.length co12:Value).ownBlock∧some k_≠ (.slice (some ad146) t142.length co12:Value).ownBlock)) (zq4 HO_8) hg hat)).2.2) KL23.out));replace HO_8:=Aside0.mk (Kd.R_after (ok:=(fun k_=>some k_≠ (.slice (some ad146) t142.length co12:Value).ownBlock∧some k_≠ (.slice (some ad146) t142.length co12:Value).ownBlock)) (zq4 HO_8) hg hat);clear HO149;clear ho hb hg hat))
        go_loopg [14,15] k2 (fun kq v14 v15 w'=> ∃ (x14_3:List Int) (x15_3:Int),v15= .int .i64 x15_3∧Aside0 (spec_l10On.l2 kq t142 x14_3 x15_3=some (r1,r2))∧Aside0 (kq≤k2)∧Aside0 (Kd.R (Kd.int .i64) 3 w' w.heap.size (fun k_=>some k_≠ (v14:Value).ownBlock) (.slice (some ad146) t142.length co12) t142)∧Aside0 (Kd.R (Kd.int .i64) 3 w' w.heap.size (fun k_=>some k_≠ ((.slice (some ad146) t142.length co12):Value).ownBlock) v14 x14_3)∧Aside0 (Below w.heap.size w w'))
        case atStart=>exact⟨(y154),(wrap64 (x31_2 - 1)),(by first|rfl|(simp;done)|(simp [*];done)),H',⟨Nat.le_refl _⟩,⟨by(with_reducible repeat(first|apply Kd.R_alloc|apply Kd.R_drewN|apply Kd.R_drew));exact Kd.R_mono HO_9.out (fun _ hk=>hk.2)⟩,⟨by(with_reducible repeat(first|apply Kd.R_alloc|apply Kd.R_drewN|apply Kd.R_drew));exact Kd.R_mono HO156.out (fun _ hk=>hk.2.1)⟩,⟨by exact zk1 HB⟩⟩
        case round=>
         clear H'
         try clear c1
         try clear p1
         try clear q1
         try clear hx1
         try clear c2
         try clear p2
         try clear q2
         try clear c6
         try clear p6
         try clear c9
         try clear c9b0
         try clear c10
         try clear c10b0
         try clear c11
         try clear c11b0
         try clear c13
         try clear c13b0
         try clear c14
         try clear c14b0
         try clear p14
         try clear q14
         try clear hx14
         try clear c15
         try clear c15b0
         try clear c16
         try clear c16b0
         try clear c16b1
         try clear c18
         try clear c18b0
         try clear c18b1
         try clear c19
         try clear c19b0
         try clear c19b1
         try clear c20
         try clear q23
         try clear hx145_0
         try clear hx146_0
         try clear p1
         try clear p145
         try clear p146
         try clear p2
         try clear q1
         try clear q145
         try clear q146
         try clear q23
         obtain⟨x14_3,x15_3,rfl,HA,HK3,HO_9,HO_14,HB⟩:=hrel
         cases gk with
         |zero=>exact absurd HA.out (by simp [spec_l10On.l2])
         |succ k3=>
          have H:=HA.out
          clear HA
          simp only [spec_l10On.l2] at H
          by_cases c25:x15_3≥0
          ·rw [if_pos c25] at H
           have c25b0:decide (0≤x15_3)=true:=decide_eq_true c25
           clear c25
           by_cases c26: 0≤x15_3
           case neg=>rw [if_neg c26] at H;exact absurd H (by simp)
           rw [if_pos c26] at H
           have c26b0:decide (0≤x15_3)=true:=decide_eq_true c26
           clear c26
           by_cases c27:x15_3< (t142.length:Int)
           case neg=>rw [if_neg c27] at H;exact absurd H (by simp)
           rw [if_pos c27] at H
           have c27b0:decide (x15_3< (t142.length:Int))=true:=decide_eq_true c27
           clear c27
           by_cases c28:x14_3.length< 17592186044416
           case neg=>rw [if_neg c28] at H;exact absurd H (by simp)
           rw [if_pos c28] at H
           have LMc28:=Aside0.mk c28
           clear c28
           obtain⟨y158,hy158⟩ :∃ y_:List Int,y_= (x14_3++ [rd t142 x15_3]):=⟨_,rfl⟩
           replace H:(spec_l10On.l2 k3 t142 y158 (wrap64 (x15_3 - 1)))=some (r1,r2):=zfh hy158 H
           have Ny158:=Aside0.mk hy158
           clear hy158
           have H':=Aside0.mk H
           clear H
           have p157: 0≤ (x15_3:Int):=of_decide_eq_true zq1
           have q157:x15_3< (t142.length:Int):=of_decide_eq_true zq1
           obtain⟨ad157,e157,hx157_0⟩:=Kd.at_int (Kd.R_reads' HO_9.out).2.2 x15_3 p157 q157
           obtain rfl:ad146=ad157:=(by injection e157)
           replace p157:=eq_true p157
           replace q157:=eq_true q157
           go_wp2_with (first|((with_reducible refine gate_builtin (b:= .append) (xs:= #[.tmp 51,.tmp 56]) rfl ?_);at_builtin;refine Kd.R_append (Kd.int .i64) (w0:=w) w.heap.size rfl (.tmp 51) (.tmp 56) 22 3 (.int .i64 0) 8 rfl Try.underlying22 info3 rfl (by decide) (by omega) u14 x14_3 (rd t142 x15_3) [.int .i64 (rd t142 x15_3)] (fun k_=>some k_≠ (.slice (some ad146) t142.length co12:Value).ownBlock) (fun _=>False) rfl rfl ?aP (fun _ hk=>hk.elim) ?aF ?aO ?aB ?aS ?aL ?_;(case aP=>exact rfl);(case aB=>exact(by exact zk1 HB));(case aF=>exact(fun k_ hk=>Kd.fresh' (Kd.R_lt (zq4 HO_9)) k_ hk));(case aO=>exact(zq4 HO_14));(case aS=>exact(below_size (by exact zk1 HB)));(case aL=>have:=LMc28.out;omega);intro v159 w29 ho hb hg hat;rw [← Ny158.out] at ho;have HO160:=Aside0.mk (ho);replace HO_9:=Aside0.mk (Kd.R_after (ok:=(fun _=>True)) (by(with_reducible repeat(first|apply Kd.R_alloc|apply Kd.R_drewN|apply Kd.R_drew));exact Kd.R_mono HO_9.out (fun _ hk=>⟨trivial,hk⟩)) hg hat);replace HB:=Aside0.mk (hb);clear HO_14;clear ho hb hg hat))
           go_roundg k3
           case measure=>have:=HK1.out;have:=HK2.out;have:=HK3.out;omega
           case rel=>exact⟨(y158),(wrap64 (x15_3 - 1)),(by first|rfl|(simp;done)|(simp [*];done)),H',⟨by have:=HK1.out;have:=HK2.out;have:=HK3.out;omega⟩,⟨by(with_reducible repeat(first|apply Kd.R_alloc|apply Kd.R_drewN|apply Kd.R_drew));exact Kd.R_mono HO_9.out (fun _ hk=>hk.2)⟩,⟨by(with_reducible repeat(first|apply Kd.R_alloc|apply Kd.R_drewN|apply Kd.R_drew));exact HO160.out⟩,⟨by exact zk1 HB⟩⟩
          ·rw [if_neg c25] at H
           have c25b0:decide (0≤x15_3)=false:=decide_eq_false c25
           clear c25
           simp only [Option.some.injEq,Prod.mk.injEq] at H
           obtain⟨rfl,rfl⟩:=H
           go_wp2
           go_ret2
           exact⟨_,by first|rfl|(simp [errW_none,errW_some]<;>rfl)|(simp only [← hji17];first|rfl|(simp [errW_none,errW_some]<;>rfl))|(simp [*,errW_none,errW_some]<;>rfl),by(with_reducible repeat(first|apply Kd.R_alloc|apply Kd.R_drewN|apply Kd.R_drew));exact Kd.R_mono HO_14.out (fun _ hk=>trivial),by exact zk1 HB⟩
       ·rw [if_neg c16] at H
        have c16b0:((rd t139 x24_1)== (rd t142 x31_2))=false:=beq_eq_false_iff_ne.mpr c16
        have c16b1:((rd t139 x24_1) != (rd t142 x31_2))=true:=bne_iff_ne.mpr c16
        have H':=Aside0.mk H
        clear H
        have p146: 0≤ (x31_2:Int):=of_decide_eq_true zq1
        have q146:x31_2< (t142.length:Int):=of_decide_eq_true zq1
        obtain⟨ad146,e146,hx146_0⟩:=Kd.at_int (Kd.R_reads' HO_29.out).2.2 x31_2 p146 q146
        cases e146
        replace p146:=eq_true p146
        replace q146:=eq_true q146
        go_wp2
        go_roundg k2
        case measure=>have:=HK1.out;have:=HK2.out;omega
        case rel=>exact⟨(wrap64 (x31_2+1)),(by first|rfl|(simp;done)|(simp [*];done)),H',⟨by have:=HK1.out;have:=HK2.out;omega⟩,⟨by(with_reducible repeat(first|apply Kd.R_alloc|apply Kd.R_drewN|apply Kd.R_drew));exact HO_8.out⟩,⟨by(with_reducible repeat(first|apply Kd.R_alloc|apply Kd.R_drewN|apply Kd.R_drew));exact HO_9.out⟩,⟨by(with_reducible repeat(first|apply Kd.R_alloc|apply Kd.R_drewN|apply Kd.R_drew));exact HO_22.out⟩,⟨by(with_reducible repeat(first|apply Kd.R_alloc|apply Kd.R_drewN|apply Kd.R_drew));exact HO_29.out⟩,⟨by exact zk1 HB⟩⟩
      ·rw [if_neg c13] at H
       have c13b0:decide (x31_2< (t142.length:Int))=false:=decide_eq_false c13
       clear c13
       have H':=Aside0.mk H
       clear H
       go_wp2
       go_roundg k2
       case measure=>have:=HK1.out;have:=HK2.out;omega
       case rel=>exact⟨(wrap64 (x24_1+1)),(by first|rfl|(simp;done)|(simp [*];done)),H',⟨by have:=HK1.out;have:=HK2.out;omega⟩,⟨by(with_reducible repeat(first|apply Kd.R_alloc|apply Kd.R_drewN|apply Kd.R_drew));exact Kd.R_mono HO_8.out (fun _ hk=>hk.1)⟩,⟨by(with_reducible repeat(first|apply Kd.R_alloc|apply Kd.R_drewN|apply Kd.R_drew));exact HO_9.out⟩,⟨by(with_reducible repeat(first|apply Kd.R_alloc|apply Kd.R_drewN|apply Kd.R_drew));exact Kd.R_mono HO_22.out (fun _ hk=>hk.1)⟩,⟨by exact zk1 HB⟩⟩
   ·rw [if_neg c9] at H
    have c9b0:decide (x24_1< (t139.length:Int))=false:=decide_eq_false c9
    clear c9
    simp only [Option.some.injEq,Prod.mk.injEq] at H
    obtain⟨rfl,rfl⟩:=H
    go_wp2
    go_ret2
    exact⟨_,by first|rfl|(simp [errW_none,errW_some]<;>rfl)|(simp [*,errW_none,errW_some]<;>rfl),by first|exact Kd.R_nil _ _ _ _ _|exact Kd.N_nil _ _ _ _ _|exact Kd.V_nil _ _ _ _ _|exact Kd.Q_nil _ _ _ _ _|exact Kd.S_nil _ _ _ _ _,by exact zk1 HB⟩
def spec_ComesFrom.j0:Nat→List Int→Int→Int→Bool→Option (Int × Bool)
 | 0,_,_,_,_=>none
 |k+1,x0,x1,x2,x19=>if x19=true then(some (0,false)) else((spec_l10On.f k x0 x1 x2).bind fun bt162=>(if bt162.2=true then(if 0≤ (wrap64 ((bt162.1.length:Int) - 2)) then(if (wrap64 ((bt162.1.length:Int) - 2))< (bt162.1.length:Int) then(some (rd bt162.1 (wrap64 ((bt162.1.length:Int) - 2)),true)) else(none)) else(none)) else(some (0,false))))
def spec_ComesFrom.f (k:Nat) (l0:List Int) (a1:Int) (a2:Int):Option (Int × Bool):=(spec_l10Two.f k l0 a1 a2).bind fun t161=>(if t161=true then(spec_ComesFrom.j0 k l0 a1 a2 (a1==a2)) else(spec_ComesFrom.j0 k l0 a1 a2 true))
set_option maxHeartbeats 8000000 in
set_option maxRecDepth 100000 in
theorem spec_ComesFrom.calls (k:Nat) (A0:Option Addr) (c0:Nat) (l0:List Int) (a1:Int) (a2:Int) (r1:Int) (r2:Bool) (w:World) (hr0:Kd.C (Kd.int .i64) w A0 l0.length l0) (hc0:l0.length≤c0) (h:spec_ComesFrom.f k l0 a1 a2=some (r1,r2)):
  Calls Try.prog 17 #[.slice A0 l0.length c0,.int .i64 a1,.int .i64 a2] w fun e w'=>e= .returned (.tuple #[.int .i64 r1,.bool r2])∧Below w.heap.size w w':=by
 have HR0:=Aside0.mk hr0
 have HC0:=Aside0.mk hc0
 clear hr0 hc0
 have HB:=Aside0.mk (Below.refl w.heap.size w)
 have H:((spec_l10Two.f k l0 a1 a2).bind fun t161=>(if t161=true then(spec_ComesFrom.j0 k l0 a1 a2 (a1==a2)) else(spec_ComesFrom.j0 k l0 a1 a2 true)))=some (r1,r2):=h
 clear h
 have HC4:=Aside0.mk H
 clear H
 go_enter Try.func17,Try.ntmps17
 go_upto_region 1 with (fail)
 go_cut [19] (fun v19 wc=> ∃ (kq:Nat) (x19_3:Bool),v19= .bool x19_3∧Aside0 (spec_ComesFrom.j0 kq l0 a1 a2 x19_3=some (r1,r2))∧Aside0 (kq≤k)∧Aside0 (Below w.heap.size w wc))
 case first=>
  have H:=HC4.out
  clear HC4
  replace H:=Option.bind_eq_some_iff.mp H
  obtain⟨t161,A50,H⟩:=H
  replace H:(if t161=true then(spec_ComesFrom.j0 k l0 a1 a2 (a1==a2)) else(spec_ComesFrom.j0 k l0 a1 a2 true))=some (r1,r2):=H
  have A5:=Aside0.mk A50
  clear A50
  by_cases c6:t161=true
  ·subst c6
   have H1:(spec_ComesFrom.j0 k l0 a1 a2 (a1==a2))=some (r1,r2):=by rw [if_pos rfl] at H;exact H
   clear H
   have H:=H1
   clear H1
   have H':=Aside0.mk H
   clear H
   go_wp2_with (first|((with_reducible refine gate_callee (f:=62) rfl ?_);refine goesL_ (some 13) rfl rfl Try.func62 (by kernel_rfl) rfl #[.slice A0 l0.length c0,.int .i64 a1,.int .i64 a2] rfl zq2 ?_;(with_reducible refine(spec_l10Two.calls k _ _ l0 a1 a2 true _ ?side1 ?side2 A5.out).mono ?_);(case side1=>exact zcc ((Kd.C_below HR0.out HB.out)));(case side2=>exact HC0.out);rintro e w' ⟨rfl,⟨nd,rfl⟩⟩;refine⟨_,rfl,?_⟩))
   go_meet
   case rel=>exact⟨_,((a1==a2)),(by first|rfl|(simp;done)|(simp [*];done)),H',⟨by first|omega|exact Nat.le_refl _⟩,⟨by exact zk1 HB⟩⟩
  ·replace c6:=Bool.eq_false_iff.mpr c6
   subst c6
   have H1:(spec_ComesFrom.j0 k l0 a1 a2 true)=some (r1,r2):=by rw [if_neg (show ¬ (false=true) by decide)] at H;exact H
   clear H
   have H:=H1
   clear H1
   have H':=Aside0.mk H
   clear H
   go_wp2_with (first|((with_reducible refine gate_callee (f:=62) rfl ?_);refine goesL_ (some 13) rfl rfl Try.func62 (by kernel_rfl) rfl #[.slice A0 l0.length c0,.int .i64 a1,.int .i64 a2] rfl zq2 ?_;(with_reducible refine(spec_l10Two.calls k _ _ l0 a1 a2 false _ ?side1 ?side2 A5.out).mono ?_);(case side1=>exact zcc ((Kd.C_below HR0.out HB.out)));(case side2=>exact HC0.out);rintro e w' ⟨rfl,⟨nd,rfl⟩⟩;refine⟨_,rfl,?_⟩))
   go_meet
   case rel=>exact⟨_,(true),(by first|rfl|(simp;done)|(simp [*];done)),H',⟨by first|omega|exact Nat.le_refl _⟩,⟨by exact zk1 HB⟩⟩
 case rest=>
  clear HC4
  try clear c1
  try clear p2
  try clear c6
  obtain⟨kq,x19_3,rfl,HA,HJ3,HB⟩:=hcut
  cases kq with
  |zero=>exact absurd HA.out (by simp [spec_ComesFrom.j0])
  |succ kj3=>
   have H:=HA.out
   clear HA
   simp only [spec_ComesFrom.j0] at H
   by_cases c7:x19_3=true
   ·subst c7
    have H1:(some (0,false))=some (r1,r2):=by rw [if_pos rfl] at H;exact H
    clear H
    have H:=H1
    clear H1
    simp only [Option.some.injEq,Prod.mk.injEq] at H
    obtain⟨rfl,rfl⟩:=H
    go_wp2
    go_ret2
    exact⟨by first|rfl|(simp [errW_none,errW_some]<;>rfl)|(simp [*,errW_none,errW_some]<;>rfl),by exact zk1 HB⟩
   ·replace c7:=Bool.eq_false_iff.mpr c7
    subst c7
    have H1:((spec_l10On.f kj3 l0 a1 a2).bind fun bt162=>(if bt162.2=true then(if 0≤ (wrap64 ((bt162.1.length:Int) - 2)) then(if (wrap64 ((bt162.1.length:Int) - 2))< (bt162.1.length:Int) then(some (rd bt162.1 (wrap64 ((bt162.1.length:Int) - 2)),true)) else(none)) else(none)) else(some (0,false))))=some (r1,r2):=by rw [if_neg (show ¬ (false=true) by decide)] at H;exact H
    clear H
    have H:=H1
    clear H1
    replace H:=Option.bind_eq_some_iff.mp H
    obtain⟨⟨t162,t163⟩,A80,H⟩:=H
    replace H:(if t163=true then(if 0≤ (wrap64 ((t162.length:Int) - 2)) then(if (wrap64 ((t162.length:Int) - 2))< (t162.length:Int) then(some (rd t162 (wrap64 ((t162.length:Int) - 2)),true)) else(none)) else(none)) else(some (0,false)))=some (r1,r2):=H
    have A8:=Aside0.mk A80
    clear A80
    by_cases c9:t163=true
    ·subst c9
     have H1:(if 0≤ (wrap64 ((t162.length:Int) - 2)) then(if (wrap64 ((t162.length:Int) - 2))< (t162.length:Int) then(some (rd t162 (wrap64 ((t162.length:Int) - 2)),true)) else(none)) else(none))=some (r1,r2):=by rw [if_pos rfl] at H;exact H
     clear H
     have H:=H1
     clear H1
     obtain⟨ji10,hji10⟩ :∃ j_:Int,(wrap64 ((t162.length:Int) - 2))=j_:=⟨_,rfl⟩
     replace H:(if 0≤ (ji10) then(if (ji10)< (t162.length:Int) then(some (rd t162 (ji10),true)) else(none)) else(none))=some (r1,r2):=by first|(rw [hji10] at H;exact H)|(simp only [hji10] at H ⊢;exact H)
     (try rw [hji10] at A8)
     have hji10w:(IntKind.i64.wrap ((t162.length:Int) - 2))=ji10:=(i64_w _).trans hji10
     by_cases c11: 0≤ (ji10)
     case neg=>rw [if_neg c11] at H;exact absurd H (by simp)
     rw [if_pos c11] at H
     have c11b0:decide (0≤ (ji10))=true:=decide_eq_true c11
     clear c11
     by_cases c12:(ji10)< (t162.length:Int)
     case neg=>rw [if_neg c12] at H;exact absurd H (by simp)
     rw [if_pos c12] at H
     have c12b0:decide ((ji10)< (t162.length:Int))=true:=decide_eq_true c12
     clear c12
     simp only [Option.some.injEq,Prod.mk.injEq] at H
     obtain⟨rfl,rfl⟩:=H
     go_wp2_with (first|((with_reducible refine gate_callee (f:=63) rfl ?_);refine goesL_ (some 24) rfl rfl Try.func63 (by kernel_rfl) rfl #[.slice A0 l0.length c0,.int .i64 a1,.int .i64 a2] rfl zq2 ?_;(with_reducible refine(spec_l10On.calls kj3 _ _ l0 a1 a2 t162 true _ ?side1 ?side2 A8.out).mono ?_);(case side1=>exact zcc ((Kd.C_below HR0.out HB.out)));(case side2=>exact HC0.out);rintro e w13 ⟨v164,rfl,ho0,hb⟩;refine⟨_,rfl,?_⟩;have HO165:=Aside0.mk (Kd.R_lower ho0 (below_size (by exact zk1 HB)));replace HB:=Aside0.mk (below_step (by exact zk1 HB) hb);(try clear hb);(try clear hb2);(try clear hk);(try clear hi);(try clear ho0);obtain⟨Ao14,co14,eo14⟩:=Kd.R_slice HO165.out;subst eo14;have p166: 0≤ ((ji10):Int):=of_decide_eq_true zq1;have q166:(ji10)< (t162.length:Int):=of_decide_eq_true zq1;obtain⟨ad166,e166,hx166_0⟩:=Kd.at_int (Kd.R_reads' HO165.out).2.2 (ji10) p166 q166;cases e166;replace p166:=eq_true p166;replace q166:=eq_true q166))
     go_ret2
     exact⟨by first|rfl|(simp [errW_none,errW_some]<;>rfl)|(simp only [← hji10];first|rfl|(simp [errW_none,errW_some]<;>rfl))|(simp [*,errW_none,errW_some]<;>rfl),by exact zk1 HB⟩
    ·replace c9:=Bool.eq_false_iff.mpr c9
     subst c9
     have H1:(some (0,false))=some (r1,r2):=by rw [if_neg (show ¬ (false=true) by decide)] at H;exact H
     clear H
     have H:=H1
     clear H1
     simp only [Option.some.injEq,Prod.mk.injEq] at H
     obtain⟨rfl,rfl⟩:=H
     go_wp2_with (first|((with_reducible refine gate_callee (f:=63) rfl ?_);refine goesL_ (some 24) rfl rfl Try.func63 (by kernel_rfl) rfl #[.slice A0 l0.length c0,.int .i64 a1,.int .i64 a2] rfl zq2 ?_;(with_reducible refine(spec_l10On.calls kj3 _ _ l0 a1 a2 t162 false _ ?side1 ?side2 A8.out).mono ?_);(case side1=>exact zcc ((Kd.C_below HR0.out HB.out)));(case side2=>exact HC0.out);rintro e w15 ⟨v164,rfl,ho0,hb⟩;refine⟨_,rfl,?_⟩;have HO165:=Aside0.mk (Kd.R_lower ho0 (below_size (by exact zk1 HB)));replace HB:=Aside0.mk (below_step (by exact zk1 HB) hb);(try clear hb);(try clear hb2);(try clear hk);(try clear hi);(try clear ho0)))
     go_ret2
     exact⟨by first|rfl|(simp [errW_none,errW_some]<;>rfl)|(simp [*,errW_none,errW_some]<;>rfl),by exact zk1 HB⟩
def impl_goodTree.f (k:Nat) (l0:List Int) (l1:List Int):Option (Bool):=(impl_GoodParents.f k l0).bind fun t167=>(if t167=true then((impl_allIn.f k l1 0 (wrap64 ((l0.length:Int) - 1))).bind fun t168=>(some t168)) else(some false))
set_option maxHeartbeats 8000000 in
set_option maxRecDepth 100000 in
theorem impl_goodTree.calls (k:Nat) (A0:Option Addr) (c0:Nat) (l0:List Int) (A1:Option Addr) (c1:Nat) (l1:List Int) (r:Bool) (w:World) (hr0:Kd.C (Kd.int .i64) w A0 l0.length l0) (hc0:l0.length≤c0) (hr1:Kd.C (Kd.int .i64) w A1 l1.length l1) (hc1:l1.length≤c1) (h:impl_goodTree.f k l0 l1=some r):
  Calls Try.prog 64 #[.slice A0 l0.length c0,.slice A1 l1.length c1] w fun e w'=>e= .returned (.bool r)∧Drawn0 w w':=by
 have HR0:=Aside0.mk hr0
 have HC0:=Aside0.mk hc0
 clear hr0 hc0
 have HR1:=Aside0.mk hr1
 have HC1:=Aside0.mk hc1
 clear hr1 hc1
 have H:((impl_GoodParents.f k l0).bind fun t167=>(if t167=true then((impl_allIn.f k l1 0 (wrap64 ((l0.length:Int) - 1))).bind fun t168=>(some t168)) else(some false)))=some r:=h
 clear h
 replace H:=Option.bind_eq_some_iff.mp H
 obtain⟨t167,A30,H⟩:=H
 replace H:(if t167=true then((impl_allIn.f k l1 0 (wrap64 ((l0.length:Int) - 1))).bind fun t168=>(some t168)) else(some false))=some r:=H
 have A3:=Aside0.mk A30
 clear A30
 by_cases c4:t167=true
 ·subst c4
  have H1:((impl_allIn.f k l1 0 (wrap64 ((l0.length:Int) - 1))).bind fun t168=>(some t168))=some r:=by rw [if_pos rfl] at H;exact H
  clear H
  have H:=H1
  clear H1
  replace H:=Option.bind_eq_some_iff.mp H
  obtain⟨t168,A50,H⟩:=H
  replace H:(some t168)=some r:=H
  have A5:=Aside0.mk A50
  clear A50
  obtain rfl:=Option.some.inj H
  go_enter Try.func64,Try.ntmps64
  go_wp2_with (first|((with_reducible refine gate_callee (f:=15) rfl ?_);refine goesL_ (some 6) rfl rfl Try.func15 (by kernel_rfl) rfl #[.slice A0 l0.length c0] rfl zq2 ?_;(with_reducible refine(impl_GoodParents.calls k _ _ l0 true _ ?side1 ?side2 A3.out).mono ?_);(case side1=>exact zcc (HR0.out));(case side2=>exact HC0.out);rintro e w' ⟨rfl,⟨nd,rfl⟩⟩;refine⟨_,rfl,?_⟩)|(go_at_call 61;(with_reducible refine(impl_allIn.calls k _ _ l1 0 (wrap64 ((l0.length:Int) - 1)) t168 _ ?side1 ?side2 A5.out).mono ?_);(case side1=>exact zcc (HR1.out));(case side2=>exact HC1.out);rintro e w' ⟨rfl,⟨nd,rfl⟩⟩))
  go_ret
  exact⟨by first|rfl|(simp;done)|(simp [*];done),by repeat(first|exact Drawn0.refl _|apply Drawn0.step)⟩
 ·replace c4:=Bool.eq_false_iff.mpr c4
  subst c4
  have H1:(some false)=some r:=by rw [if_neg (show ¬ (false=true) by decide)] at H;exact H
  clear H
  have H:=H1
  clear H1
  obtain rfl:=Option.some.inj H
  go_enter Try.func64,Try.ntmps64
  go_wp2_with (first|((with_reducible refine gate_callee (f:=15) rfl ?_);refine goesL_ (some 6) rfl rfl Try.func15 (by kernel_rfl) rfl #[.slice A0 l0.length c0] rfl zq2 ?_;(with_reducible refine(impl_GoodParents.calls k _ _ l0 false _ ?side1 ?side2 A3.out).mono ?_);(case side1=>exact zcc (HR0.out));(case side2=>exact HC0.out);rintro e w' ⟨rfl,⟨nd,rfl⟩⟩;refine⟨_,rfl,?_⟩))
  go_ret
  exact⟨by first|rfl|(simp;done)|(simp [*];done),by repeat(first|exact Drawn0.refl _|apply Drawn0.step)⟩
def impl_branches.l0:Nat→List Int→Int→List Int→List Int→Int→Int→Option (List Int)
 | 0,_,_,_,_,_,_=>none
 |k+1,x0,x1,x5,x8,x9,x10=>if x10<x9 then(if 0≤x10 then(if x10< (x8.length:Int) then(if (rd x8 x10)=x1 then(if x5.length< 17592186044416 then(impl_branches.l0 k x0 x1 (x5++ [x10]) x8 x9 (wrap64 (x10+1))) else(none)) else(if 0≤x1 then(if x1< (x0.length:Int) then(if (rd x0 x1)=x10 then(if x5.length< 17592186044416 then(impl_branches.l0 k x0 x1 (x5++ [x10]) x8 x9 (wrap64 (x10+1))) else(none)) else(impl_branches.l0 k x0 x1 x5 x8 x9 (wrap64 (x10+1)))) else(none)) else(none))) else(none)) else(none)) else(some x5)
def impl_branches.f (k:Nat) (l0:List Int) (a1:Int):Option (List Int):=impl_branches.l0 k l0 a1 ([] :List Int) l0 (l0.length:Int) 0
set_option maxHeartbeats 8000000 in
set_option maxRecDepth 100000 in
theorem impl_branches.calls (k:Nat) (A0:Option Addr) (c0:Nat) (l0:List Int) (a1:Int) (r:List Int) (w:World) (hr0:Kd.C (Kd.int .i64) w A0 l0.length l0) (hc0:l0.length≤c0) (h:impl_branches.f k l0 a1=some r):
  Calls Try.prog 95 #[.slice A0 l0.length c0,.int .i64 a1] w fun e w'=> ∃ v0_:Value,e= .returned (v0_)∧Kd.R (Kd.int .i64) 3 w' w.heap.size (fun _=>True) v0_ r∧Below w.heap.size w w':=by
 have HR0:=Aside0.mk hr0
 have HC0:=Aside0.mk hc0
 clear hr0 hc0
 have HB:=Aside0.mk (Below.refl w.heap.size w)
 have H:(impl_branches.l0 k l0 a1 ([] :List Int) l0 (l0.length:Int) 0)=some r:=h
 clear h
 have H':=Aside0.mk H
 clear H
 go_enter Try.func95,Try.ntmps95
 go_wp2
 go_loopg [5,10] k (fun kq v5 v10 w'=> ∃ (x5_1:List Int) (x10_1:Int),v10= .int .i64 x10_1∧Aside0 (impl_branches.l0 kq l0 a1 x5_1 l0 (l0.length:Int) x10_1=some r)∧Aside0 (kq≤k)∧Aside0 (Kd.R (Kd.int .i64) 3 w' w.heap.size (fun _=>True) v5 x5_1)∧Aside0 (Below w.heap.size w w'))
 case atStart=>exact⟨(([] :List Int)),(0),(by first|rfl|(simp;done)|(simp [*];done)),H',⟨Nat.le_refl _⟩,⟨by first|exact Kd.R_nil _ _ _ _ _|exact Kd.N_nil _ _ _ _ _|exact Kd.V_nil _ _ _ _ _|exact Kd.Q_nil _ _ _ _ _|exact Kd.S_nil _ _ _ _ _⟩,⟨by exact zk1 HB⟩⟩
 case round=>
  clear H'
  try clear p2
  obtain⟨x5_1,x10_1,rfl,HA,HK1,HO_5,HB⟩:=hrel
  cases gk with
  |zero=>exact absurd HA.out (by simp [impl_branches.l0])
  |succ k1=>
   have H:=HA.out
   clear HA
   simp only [impl_branches.l0] at H
   by_cases c3:x10_1< (l0.length:Int)
   ·rw [if_pos c3] at H
    have c3b0:decide (x10_1< (l0.length:Int))=true:=decide_eq_true c3
    clear c3
    by_cases c4: 0≤x10_1
    case neg=>rw [if_neg c4] at H;exact absurd H (by simp)
    rw [if_pos c4] at H
    have c4b0:decide (0≤x10_1)=true:=decide_eq_true c4
    clear c4
    by_cases c5:x10_1< (l0.length:Int)
    case neg=>rw [if_neg c5] at H;exact absurd H (by simp)
    rw [if_pos c5] at H
    have c5b0:decide (x10_1< (l0.length:Int))=true:=decide_eq_true c5
    clear c5
    by_cases c6:(rd l0 x10_1)=a1
    ·rw [if_pos c6] at H
     have c6b0:((rd l0 x10_1)==a1)=true:=beq_iff_eq.mpr c6
     have c6b1:((rd l0 x10_1) !=a1)=false:=bne_eq_false_iff_eq.mpr c6
     clear c6
     by_cases c7:x5_1.length< 17592186044416
     case neg=>rw [if_neg c7] at H;exact absurd H (by simp)
     rw [if_pos c7] at H
     have LMc7:=Aside0.mk c7
     clear c7
     obtain⟨y170,hy170⟩ :∃ y_:List Int,y_= (x5_1++ [x10_1]):=⟨_,rfl⟩
     replace H:(impl_branches.l0 k1 l0 a1 y170 l0 (l0.length:Int) (wrap64 (x10_1+1)))=some r:=zfh hy170 H
     have Ny170:=Aside0.mk hy170
     clear hy170
     have H':=Aside0.mk H
     clear H
     have p169: 0≤ (x10_1:Int):=of_decide_eq_true zq1
     have q169:x10_1< (l0.length:Int):=of_decide_eq_true zq1
     obtain⟨ad169,e169,hx169_0⟩:=Kd.at_int HR0.out x10_1 p169 q169
     cases e169
     replace hx169_0:=zhx HB hx169_0
     replace p169:=eq_true p169
     replace q169:=eq_true q169
     go_wp2_with (first|((with_reducible refine gate_builtin (b:= .append) (xs:= #[.tmp 26,.tmp 28]) rfl ?_);at_builtin;refine Kd.R_append (Kd.int .i64) (w0:=w) w.heap.size rfl (.tmp 26) (.tmp 28) 22 3 (.int .i64 0) 8 rfl Try.underlying22 info3 rfl (by decide) (by omega) u5 x5_1 x10_1 [.int .i64 x10_1] (fun _=>True) (fun _=>False) rfl rfl ?aP (fun _ hk=>hk.elim) ?aF ?aO ?aB ?aS ?aL ?_;(case aP=>exact rfl);(case aB=>exact(by exact zk1 HB));(case aF=>exact(fun _ _=>trivial));(case aO=>exact(zq4 HO_5));(case aS=>exact(below_size (by exact zk1 HB)));(case aL=>have:=LMc7.out;omega);intro v171 w8 ho hb hg hat;rw [← Ny170.out] at ho;have HO172:=Aside0.mk (ho);replace HB:=Aside0.mk (hb);clear HO_5;clear ho hb hg hat))
     go_roundg k1
     case measure=>have:=HK1.out;omega
     case rel=>exact⟨(y170),(wrap64 (x10_1+1)),(by first|rfl|(simp;done)|(simp [*];done)),H',⟨by have:=HK1.out;omega⟩,⟨by(with_reducible repeat(first|apply Kd.R_alloc|apply Kd.R_drewN|apply Kd.R_drew));exact HO172.out⟩,⟨by exact zk1 HB⟩⟩
    ·rw [if_neg c6] at H
     have c6b0:((rd l0 x10_1)==a1)=false:=beq_eq_false_iff_ne.mpr c6
     have c6b1:((rd l0 x10_1) !=a1)=true:=bne_iff_ne.mpr c6
     by_cases c9: 0≤a1
     case neg=>rw [if_neg c9] at H;exact absurd H (by simp)
     rw [if_pos c9] at H
     have c9b0:decide (0≤a1)=true:=decide_eq_true c9
     clear c9
     by_cases c10:a1< (l0.length:Int)
     case neg=>rw [if_neg c10] at H;exact absurd H (by simp)
     rw [if_pos c10] at H
     have c10b0:decide (a1< (l0.length:Int))=true:=decide_eq_true c10
     clear c10
     by_cases c11:(rd l0 a1)=x10_1
     ·rw [if_pos c11] at H
      have c11b0:((rd l0 a1)==x10_1)=true:=beq_iff_eq.mpr c11
      have c11b1:((rd l0 a1) !=x10_1)=false:=bne_eq_false_iff_eq.mpr c11
      clear c11
      by_cases c12:x5_1.length< 17592186044416
      case neg=>rw [if_neg c12] at H;exact absurd H (by simp)
      rw [if_pos c12] at H
      have LMc12:=Aside0.mk c12
      clear c12
      obtain⟨y174,hy174⟩ :∃ y_:List Int,y_= (x5_1++ [x10_1]):=⟨_,rfl⟩
      replace H:(impl_branches.l0 k1 l0 a1 y174 l0 (l0.length:Int) (wrap64 (x10_1+1)))=some r:=zfh hy174 H
      have Ny174:=Aside0.mk hy174
      clear hy174
      have H':=Aside0.mk H
      clear H
      have p169: 0≤ (x10_1:Int):=of_decide_eq_true zq1
      have q169:x10_1< (l0.length:Int):=of_decide_eq_true zq1
      obtain⟨ad169,e169,hx169_0⟩:=Kd.at_int HR0.out x10_1 p169 q169
      cases e169
      replace hx169_0:=zhx HB hx169_0
      replace p169:=eq_true p169
      replace q169:=eq_true q169
      have p173: 0≤ (a1:Int):=of_decide_eq_true zq1
      have q173:a1< (l0.length:Int):=of_decide_eq_true zq1
      obtain⟨ad173,e173,hx173_0⟩:=Kd.at_int HR0.out a1 p173 q173
      obtain rfl:ad169=ad173:=(by injection e173)
      replace hx173_0:=zhx HB hx173_0
      replace p173:=eq_true p173
      replace q173:=eq_true q173
      go_wp2_with (first|((with_reducible refine gate_builtin (b:= .append) (xs:= #[.tmp 26,.tmp 28]) rfl ?_);at_builtin;refine Kd.R_append (Kd.int .i64) (w0:=w) w.heap.size rfl (.tmp 26) (.tmp 28) 22 3 (.int .i64 0) 8 rfl Try.underlying22 info3 rfl (by decide) (by omega) u5 x5_1 x10_1 [.int .i64 x10_1] (fun _=>True) (fun _=>False) rfl rfl ?aP (fun _ hk=>hk.elim) ?aF ?aO ?aB ?aS ?aL ?_;(case aP=>exact rfl);(case aB=>exact(by exact zk1 HB));(case aF=>exact(fun _ _=>trivial));(case aO=>exact(zq4 HO_5));(case aS=>exact(below_size (by exact zk1 HB)));(case aL=>have:=LMc12.out;omega);intro v175 w13 ho hb hg hat;rw [← Ny174.out] at ho;have HO176:=Aside0.mk (ho);replace HB:=Aside0.mk (hb);clear HO_5;clear ho hb hg hat))
      go_roundg k1
      case measure=>have:=HK1.out;omega
      case rel=>exact⟨(y174),(wrap64 (x10_1+1)),(by first|rfl|(simp;done)|(simp [*];done)),H',⟨by have:=HK1.out;omega⟩,⟨by(with_reducible repeat(first|apply Kd.R_alloc|apply Kd.R_drewN|apply Kd.R_drew));exact HO176.out⟩,⟨by exact zk1 HB⟩⟩
     ·rw [if_neg c11] at H
      have c11b0:((rd l0 a1)==x10_1)=false:=beq_eq_false_iff_ne.mpr c11
      have c11b1:((rd l0 a1) !=x10_1)=true:=bne_iff_ne.mpr c11
      have H':=Aside0.mk H
      clear H
      have p169: 0≤ (x10_1:Int):=of_decide_eq_true zq1
      have q169:x10_1< (l0.length:Int):=of_decide_eq_true zq1
      obtain⟨ad169,e169,hx169_0⟩:=Kd.at_int HR0.out x10_1 p169 q169
      cases e169
      replace hx169_0:=zhx HB hx169_0
      replace p169:=eq_true p169
      replace q169:=eq_true q169
      have p173: 0≤ (a1:Int):=of_decide_eq_true zq1
      have q173:a1< (l0.length:Int):=of_decide_eq_true zq1
      obtain⟨ad173,e173,hx173_0⟩:=Kd.at_int HR0.out a1 p173 q173
      obtain rfl:ad169=ad173:=(by injection e173)
      replace hx173_0:=zhx HB hx173_0
      replace p173:=eq_true p173
      replace q173:=eq_true q173
      go_wp2
      go_roundg k1
      case measure=>have:=HK1.out;omega
      case rel=>exact⟨(x5_1),(wrap64 (x10_1+1)),(by first|rfl|(simp;done)|(simp [*];done)),H',⟨by have:=HK1.out;omega⟩,⟨by(with_reducible repeat(first|apply Kd.R_alloc|apply Kd.R_drewN|apply Kd.R_drew));exact HO_5.out⟩,⟨by exact zk1 HB⟩⟩
   ·rw [if_neg c3] at H
    have c3b0:decide (x10_1< (l0.length:Int))=false:=decide_eq_false c3
    clear c3
    obtain rfl:=Option.some.inj H
    go_wp2
    go_ret
    exact⟨_,by first|rfl|(simp [errW_none,errW_some]<;>rfl)|(simp [*,errW_none,errW_some]<;>rfl),by(with_reducible repeat(first|apply Kd.R_alloc|apply Kd.R_drewN|apply Kd.R_drew));exact HO_5.out,by exact zk1 HB⟩
mutual
def impl_spread.l0:Nat→List Int→List (S61)→List (S101)→Option ((List (S61)))
 | 0,_,_,_=>none
 |k+1,x0,x5,x6=>if (x6.length:Int) > 0 then(if 0< (x6.length:Int) then((impl_branches.f k x0 ((rd_T101 x6 0).f0)).bind fun t182=>(impl_spread.l1 k x0 x5 x6 t182 (t182.length:Int) 0 ((rd_T101 x6 0).f0) ((rd_T101 x6 0).f1))) else(none)) else(some x5)
def impl_spread.l1:Nat→List Int→List (S61)→List (S101)→List Int→Int→Int→Int→Int→Option ((List (S61)))
 | 0,_,_,_,_,_,_,_,_=>none
 |k+1,x0,x5,x6,x24,x25,x26,x182000,x182001=>if x26<x25 then(if 0≤x26 then(if x26< (x24.length:Int) then(if (rd x24 x26)=x182001 then(impl_spread.l1 k x0 x5 x6 x24 x25 (wrap64 (x26+1)) x182000 x182001) else(if x5.length< 8796093022208 then(if x6.length< 8796093022208 then(impl_spread.l1 k x0 (x5++ [(⟨x182000,rd x24 x26⟩ :S61)]) (x6++ [(⟨rd x24 x26,x182000⟩ :S101)]) x24 x25 (wrap64 (x26+1)) x182000 x182001) else(none)) else(none))) else(none)) else(none)) else(if 1≤ (x6.length:Int) then(impl_spread.l0 k x0 x5 (x6.drop (1:Int).toNat)) else(none))
end
def impl_spread.f (k:Nat) (l0:List Int) (a1:Int):Option ((List (S61))):=impl_spread.l0 k l0 ([] :List (S61)) (([(⟨a1,(-1)⟩ :S101)] :List (S101)))
theorem zk2 {q r1 p:Prop} (b:Aside0 q) (b1:r1) (h:q→r1→p:=by intro z g1;repeat(first|(with_reducible first|exact z|apply below_alloc|apply pw_below_drewN|apply below_drew1|refine below_set ?_ g1)|exact z)):p:=h b.out b1
theorem zq3 {q p:Prop} (b:Aside0 q) (h:q→p:=by intro z;(with_reducible repeat(first|refine blk_drewN ?_ _|refine blk_drew ?_ |refine blk_alloc ?_ _));exact z):p:=h b.out
set_option maxHeartbeats 8000000 in
set_option maxRecDepth 100000 in
theorem impl_spread.calls (k:Nat) (A0:Option Addr) (c0:Nat) (l0:List Int) (a1:Int) (r:List (S61)) (w:World) (hr0:Kd.C (Kd.int .i64) w A0 l0.length l0) (hc0:l0.length≤c0) (h:impl_spread.f k l0 a1=some r):
  Calls Try.prog 73 #[.slice A0 l0.length c0,.int .i64 a1] w fun e w'=> ∃ v0_:Value,e= .returned (v0_)∧Kd.R k61 61 w' w.heap.size (fun _=>True) v0_ r∧Below w.heap.size w w':=by
 have hu101:=Try.underlying101
 have hu61:=Try.underlying61
 have HR0:=Aside0.mk hr0
 have HC0:=Aside0.mk hc0
 clear hr0 hc0
 have HB:=Aside0.mk (Below.refl w.heap.size w)
 have H:(impl_spread.l0 k l0 ([] :List (S61)) (([(⟨a1,(-1)⟩ :S101)] :List (S101))))=some r:=h
 clear h
 obtain⟨y177,hy177⟩ :∃ y_:List (S101),y_= (([(⟨a1,(-1)⟩ :S101)] :List (S101))):=⟨_,rfl⟩
 replace H:(impl_spread.l0 k l0 ([] :List (S61)) y177)=some r:=zfh hy177 H
 have Ny177:=Aside0.mk hy177
 clear hy177
 have H':=Aside0.mk H
 clear H
 go_enter Try.func73,Try.ntmps73
 go_wp2_with (first|((with_reducible refine gate_dst (N:=12) rfl ?_);refine Kd.R_lit k101 _ 101 ?hg (N:=12) ?hd (xs:=([(⟨a1,(-1)⟩ :S101)] :List (S101))) (inner:= [.int .i64 a1,.int .i64 (-1)]) (ok:=fun _=>True) (okp:=fun _=>True) ?hr ?hp (fun _ hk=>hk) trivial (Below.refl _ _) (Nat.le_refl _) (by simp) ?_;(case hd=>rfl);(case hg=>rfl);(case hr=>first|(go_simp;done)|(go_simp;rfl));(case hp=>exact(Reps.c2 (show Kd.M k101 _ _ _ (⟨a1,(-1)⟩ :S101) [.int .i64 a1,.int .i64 (-1)] from (k101_mkM _ _ _ (⟨a1,(-1)⟩ :S101) )) (Reps.none _ _)));intro v178 w3 ho4 hb hg_ hnew_;clear hg_ hnew_;(first|rw [← Ny177.out] at ho4|(simp only [Int.reduceToNat] at ho4;rw [← Ny177.out] at ho4));have HO179:=Aside0.mk (Kd.R_lower ho4 (below_size (by exact zk1 HB)));replace HB:=Aside0.mk (below_step (by exact zk1 HB) hb);clear hb ho4))
 go_loopg [5,6] k (fun kq v5 v6 w'=> ∃ (x5_1:List (S61)) (x6_1:List (S101)),Aside0 (impl_spread.l0 kq l0 x5_1 x6_1=some r)∧Aside0 (kq≤k)∧Aside0 (Kd.R k61 61 w' w.heap.size (fun _=>True) v5 x5_1)∧Aside0 (Kd.Q k101 101 w' w.heap.size (fun _=>True) v6 x6_1)∧Aside0 (Below w.heap.size w w'))
 case atStart=>exact⟨(([] :List (S61))),(y177),H',⟨Nat.le_refl _⟩,⟨by first|exact Kd.R_nil _ _ _ _ _|exact Kd.N_nil _ _ _ _ _|exact Kd.V_nil _ _ _ _ _|exact Kd.Q_nil _ _ _ _ _|exact Kd.S_nil _ _ _ _ _⟩,⟨Kd.Q_of_R (zq4 HO179)⟩,⟨by exact zk1 HB⟩⟩
 case round=>
  clear H'
  try clear c2
  try clear p2
  obtain⟨x5_1,x6_1,HA,HK1,HO_5,HO_6,HB⟩:=hrel
  cases gk with
  |zero=>exact absurd HA.out (by simp [impl_spread.l0])
  |succ k1=>
   have H:=HA.out
   clear HA
   simp only [impl_spread.l0] at H
   by_cases c5:(x6_1.length:Int) > 0
   ·rw [if_pos c5] at H
    have c5b0:decide (0< (x6_1.length:Int))=true:=decide_eq_true c5
    have c5b1:decide (0<x6_1.length)=true:=decide_eq_true (by omega)
    clear c5
    by_cases c6: 0< (x6_1.length:Int)
    case neg=>rw [if_neg c6] at H;exact absurd H (by simp)
    rw [if_pos c6] at H
    have c6b0:decide (0< (x6_1.length:Int))=true:=decide_eq_true c6
    have c6b1:decide (0<x6_1.length)=true:=decide_eq_true (by omega)
    clear c6
    replace H:=Option.bind_eq_some_iff.mp H
    obtain⟨t182,A70,H⟩:=H
    replace H:(impl_spread.l1 k1 l0 x5_1 x6_1 t182 (t182.length:Int) 0 ((rd_T101 x6_1 0).f0) ((rd_T101 x6_1 0).f1))=some r:=H
    have A7:=Aside0.mk A70
    clear A70
    have H':=Aside0.mk H
    clear H
    obtain⟨Ao8,co8,eo8,_⟩:=Kd.Q_slice HO_6.out
    subst eo8
    have p180: 0≤ (0:Int):=(by omega)
    have q180: 0< (x6_1.length:Int):=of_decide_eq_true zq1
    obtain⟨ad180,e180,hx180_0,hx180_1⟩:=at_T101 (Kd.Q_reads' HO_6.out).2.2 0 p180 q180
    cases e180
    have qi180:(0<x6_1.length)=True:=eq_true (by omega)
    (try rw [show ((0:Int)).toNat=0 from rfl] at hx180_0)
    (try rw [show 0 * 2=0 from rfl] at hx180_0)
    (try rw [Addr.add_zero'] at hx180_0)
    (try rw [show ((0:Int)).toNat=0 from rfl] at hx180_1)
    (try rw [show 0 * 2=0 from rfl] at hx180_1)
    (try rw [Addr.add_zero'] at hx180_1)
    replace p180:=eq_true p180
    replace q180:=eq_true q180
    go_wp2_with (first|((with_reducible refine gate_dst (N:=7) rfl ?_);refine box_event ?hg (N:=7) ?hd (cs:= #[.int .i64 0,.int .i64 0]) (t:=101) ?hr ?_;(case hd=>rfl);(case hg=>rfl);(case hr=>first|(go_simp;done)|(go_simp;rfl));intro gb181 hg w9 hbox hb;have BK181:=Aside0.mk (hbox);have GW181:=Aside0.mk ((by rw [hg];exact(below_size (by exact zk1 HB)):w.heap.size≤gb181));have GE181:=Aside0.mk ((by rw [hg];exact(below_size (by exact zk1 HB)):w.heap.size≤gb181));replace HO_5:=Aside0.mk (Kd.R_below (zq4 HO_5) hb);replace HO_6:=Aside0.mk (Kd.Q_below (Kd.Q_elderB (by(with_reducible repeat(first|apply Kd.Q_alloc|apply Kd.Q_drewN|apply Kd.Q_drew));exact HO_6.out) gb181 (Nat.le_of_eq hg.symm)) hb);replace HB:=Aside0.mk (below_step (by exact zk1 HB) hb);clear hb hbox hg;have hcz10_0:w9.cell? ⟨gb181,0,none⟩=some (.int .i64 0):=(blk_cell BK181.out 0).trans rfl;have hcz10_1:w9.cell? ⟨gb181,1,none⟩=some (.int .i64 0):=(blk_cell BK181.out 1).trans rfl;have hfz10_0:=blk_frozen BK181.out 0;have hfz10_1:=blk_frozen BK181.out 1)|((with_reducible refine gate_callee (f:=95) rfl ?_);refine goesL_ (some 24) rfl rfl Try.func95 (by kernel_rfl) rfl #[.slice A0 l0.length c0,.int .i64 ((rd_T101 x6_1 0).f0)] rfl zq2 ?_;(with_reducible refine(impl_branches.calls k1 _ _ l0 ((rd_T101 x6_1 0).f0) t182 _ ?side1 ?side2 A7.out).mono ?_);(case side1=>exact Kd.C_below HR0.out (by exact zk2 HB GE181.out));(case side2=>exact HC0.out);rintro e w11 ⟨v183,rfl,ho0,hb⟩;refine⟨_,rfl,?_⟩;have HO184:=Aside0.mk (Kd.R_lower ho0 (below_size (by exact zk2 HB GE181.out)));replace HO_5:=Aside0.mk (Kd.R_below (by(with_reducible repeat(first|apply Kd.R_alloc|apply Kd.R_drewN|apply Kd.R_drew));exact(Kd.R_mono (Kd.R_far (p:=⟨gb181,1,none⟩) (Kd.R_far (p:=⟨gb181,0,none⟩) (Kd.R_types HO_5.out BK181.out (by decide)) (fun _ hk=>hk.2) (.int .i64 ((rd_T101 x6_1 0).f0))) (fun _ hk=>hk.2) (.int .i64 ((rd_T101 x6_1 0).f1))) (fun _ h_=>h_.1))) hb);replace HO_6:=Aside0.mk (Kd.Q_below (by(with_reducible repeat(first|apply Kd.Q_alloc|apply Kd.Q_drewN|apply Kd.Q_drew));exact(Kd.Q_mono (Kd.Q_far (p:=⟨gb181,1,none⟩) (Kd.Q_far (p:=⟨gb181,0,none⟩) (Kd.Q_mono HO_6.out (fun k_ hk=>(⟨hk,hk.2⟩ :_∧k_≠gb181))) (fun _ hk=>hk.2) (.int .i64 ((rd_T101 x6_1 0).f0))) (fun _ hk=>hk.2) (.int .i64 ((rd_T101 x6_1 0).f1))) (fun _ h_=>h_.1))) hb);replace BK181:=Aside0.mk (blk_below (g:=gb181) (o:= .cells #[.int .i64 ((rd_T101 x6_1 0).f0),.int .i64 ((rd_T101 x6_1 0).f1)] 101 (0,0)) (by(with_reducible repeat(first|refine blk_drewN ?_ _|refine blk_drew ?_ |refine blk_alloc ?_ _));refine blk_put (cs:= #[.int .i64 ((rd_T101 x6_1 0).f0),.int .i64 0]) ?_ 1 _ rfl;(with_reducible repeat(first|refine blk_drewN ?_ _|refine blk_drew ?_ |refine blk_alloc ?_ _));refine blk_put (cs:= #[.int .i64 0,.int .i64 0]) ?_ 0 _ rfl;(with_reducible repeat(first|refine blk_drewN ?_ _|refine blk_drew ?_ |refine blk_alloc ?_ _));exact BK181.out) hb);replace HB:=Aside0.mk (below_step (by exact zk2 HB GE181.out) hb);(try clear hb);(try clear hb2);(try clear hk);(try clear hi);(try clear ho0);obtain⟨Ao12,co12,eo12⟩:=Kd.R_slice HO184.out;subst eo12))
    go_loopg [5,6,26] k1 (fun kq v5 v6 v26 w'=> ∃ (x5_2:List (S61)) (x6_2:List (S101)) (x26_2:Int),v26= .int .i64 x26_2∧Aside0 (impl_spread.l1 kq l0 x5_2 x6_2 t182 (t182.length:Int) x26_2 ((rd_T101 x6_1 0).f0) ((rd_T101 x6_1 0).f1)=some r)∧Aside0 (kq≤k1)∧Aside0 (Kd.R k61 61 w' w.heap.size (fun _=>True) v5 x5_2)∧Aside0 (Kd.Q k101 101 w' w.heap.size (fun k_=>k_≠gb181) v6 x6_2)∧Aside0 (Kd.R (Kd.int .i64) 3 w' w.heap.size (fun _=>True) (.slice Ao12 t182.length co12) t182)∧Aside0 (w'.heap[gb181]?=some (.cells #[.int .i64 ((rd_T101 x6_1 0).f0),.int .i64 ((rd_T101 x6_1 0).f1)] 101 (0,0)))∧Aside0 (Below w.heap.size w w'))
    case atStart=>exact⟨(x5_1),(x6_1),(0),(by first|rfl|(simp;done)|(simp [*];done)),H',⟨Nat.le_refl _⟩,⟨by(with_reducible repeat(first|apply Kd.R_alloc|apply Kd.R_drewN|apply Kd.R_drew));exact HO_5.out⟩,⟨by(with_reducible repeat(first|apply Kd.Q_alloc|apply Kd.Q_drewN|apply Kd.Q_drew));exact Kd.Q_mono HO_6.out (fun _ hk=>hk.2)⟩,⟨by(with_reducible repeat(first|apply Kd.R_alloc|apply Kd.R_drewN|apply Kd.R_drew));exact HO184.out⟩,⟨by(with_reducible repeat(first|refine blk_drewN ?_ _|refine blk_drew ?_ |refine blk_alloc ?_ _));exact BK181.out⟩,⟨by exact zk2 HB GE181.out⟩⟩
    case round=>
     clear H'
     try clear p1
     try clear q1
     try clear hx1
     try clear qi1
     try clear c2
     try clear p2
     try clear c5
     try clear c5b0
     try clear c5b1
     try clear c6
     try clear c6b0
     try clear c6b1
     try clear c7
     try clear c9
     try clear hcz10_0
     try clear hcz10_1
     try clear hfz10_0
     try clear hfz10_1
     try clear hx180_0
     try clear hx180_1
     try clear p180
     try clear p2
     try clear q180
     obtain⟨x5_2,x6_2,x26_2,rfl,HA,HK2,HO_5,HO_6,HO_24,BK181,HB⟩:=hrel
     cases gk with
     |zero=>exact absurd HA.out (by simp [impl_spread.l1])
     |succ k2=>
      have H:=HA.out
      clear HA
      simp only [impl_spread.l1] at H
      by_cases c13:x26_2< (t182.length:Int)
      ·rw [if_pos c13] at H
       have c13b0:decide (x26_2< (t182.length:Int))=true:=decide_eq_true c13
       clear c13
       by_cases c14: 0≤x26_2
       case neg=>rw [if_neg c14] at H;exact absurd H (by simp)
       rw [if_pos c14] at H
       have c14b0:decide (0≤x26_2)=true:=decide_eq_true c14
       clear c14
       by_cases c15:x26_2< (t182.length:Int)
       case neg=>rw [if_neg c15] at H;exact absurd H (by simp)
       rw [if_pos c15] at H
       have c15b0:decide (x26_2< (t182.length:Int))=true:=decide_eq_true c15
       clear c15
       by_cases c16:(rd t182 x26_2)= ((rd_T101 x6_1 0).f1)
       ·rw [if_pos c16] at H
        have c16b0:((rd t182 x26_2)== ((rd_T101 x6_1 0).f1))=true:=beq_iff_eq.mpr c16
        have c16b1:((rd t182 x26_2) != ((rd_T101 x6_1 0).f1))=false:=bne_eq_false_iff_eq.mpr c16
        clear c16
        have H':=Aside0.mk H
        clear H
        have p185: 0≤ (x26_2:Int):=of_decide_eq_true zq1
        have q185:x26_2< (t182.length:Int):=of_decide_eq_true zq1
        obtain⟨ad185,e185,hx185_0⟩:=Kd.at_int (Kd.R_reads' HO_24.out).2.2 x26_2 p185 q185
        cases e185
        replace p185:=eq_true p185
        replace q185:=eq_true q185
        have hcz17_0:wr.cell? ⟨gb181,0,none⟩=some (.int .i64 ((rd_T101 x6_1 0).f0)):=(blk_cell BK181.out 0).trans rfl
        have hcz17_1:wr.cell? ⟨gb181,1,none⟩=some (.int .i64 ((rd_T101 x6_1 0).f1)):=(blk_cell BK181.out 1).trans rfl
        have hfz17_0:=blk_frozen BK181.out 0
        have hfz17_1:=blk_frozen BK181.out 1
        go_wp2
        go_roundg k2
        case measure=>have:=HK1.out;have:=HK2.out;omega
        case rel=>exact⟨(x5_2),(x6_2),(wrap64 (x26_2+1)),(by first|rfl|(simp;done)|(simp [*];done)),H',⟨by have:=HK1.out;have:=HK2.out;omega⟩,⟨by(with_reducible repeat(first|apply Kd.R_alloc|apply Kd.R_drewN|apply Kd.R_drew));exact HO_5.out⟩,⟨by(with_reducible repeat(first|apply Kd.Q_alloc|apply Kd.Q_drewN|apply Kd.Q_drew));exact HO_6.out⟩,⟨by(with_reducible repeat(first|apply Kd.R_alloc|apply Kd.R_drewN|apply Kd.R_drew));exact HO_24.out⟩,⟨by(with_reducible repeat(first|refine blk_drewN ?_ _|refine blk_drew ?_ |refine blk_alloc ?_ _));exact BK181.out⟩,⟨by exact zk2 HB GE181.out⟩⟩
       ·rw [if_neg c16] at H
        have c16b0:((rd t182 x26_2)== ((rd_T101 x6_1 0).f1))=false:=beq_eq_false_iff_ne.mpr c16
        have c16b1:((rd t182 x26_2) != ((rd_T101 x6_1 0).f1))=true:=bne_iff_ne.mpr c16
        by_cases c18:x5_2.length< 8796093022208
        case neg=>rw [if_neg c18] at H;exact absurd H (by simp)
        rw [if_pos c18] at H
        have LMc18:=Aside0.mk c18
        clear c18
        obtain⟨y186,hy186⟩ :∃ y_:List (S61),y_= (x5_2++ [(⟨((rd_T101 x6_1 0).f0),rd t182 x26_2⟩ :S61)]):=⟨_,rfl⟩
        replace H:(if x6_2.length< 8796093022208 then(impl_spread.l1 k2 l0 y186 (x6_2++ [(⟨rd t182 x26_2,((rd_T101 x6_1 0).f0)⟩ :S101)]) t182 (t182.length:Int) (wrap64 (x26_2+1)) ((rd_T101 x6_1 0).f0) ((rd_T101 x6_1 0).f1)) else(none))=some r:=zfh hy186 H
        have Ny186:=Aside0.mk hy186
        clear hy186
        by_cases c19:x6_2.length< 8796093022208
        case neg=>rw [if_neg c19] at H;exact absurd H (by simp)
        rw [if_pos c19] at H
        have LMc19:=Aside0.mk c19
        clear c19
        obtain⟨y189,hy189⟩ :∃ y_:List (S101),y_= (x6_2++ [(⟨rd t182 x26_2,((rd_T101 x6_1 0).f0)⟩ :S101)]):=⟨_,rfl⟩
        replace H:(impl_spread.l1 k2 l0 y186 y189 t182 (t182.length:Int) (wrap64 (x26_2+1)) ((rd_T101 x6_1 0).f0) ((rd_T101 x6_1 0).f1))=some r:=zfh hy189 H
        have Ny189:=Aside0.mk hy189
        clear hy189
        have H':=Aside0.mk H
        clear H
        have p185: 0≤ (x26_2:Int):=of_decide_eq_true zq1
        have q185:x26_2< (t182.length:Int):=of_decide_eq_true zq1
        obtain⟨ad185,e185,hx185_0⟩:=Kd.at_int (Kd.R_reads' HO_24.out).2.2 x26_2 p185 q185
        cases e185
        replace p185:=eq_true p185
        replace q185:=eq_true q185
        have hcz20_0:wr.cell? ⟨gb181,0,none⟩=some (.int .i64 ((rd_T101 x6_1 0).f0)):=(blk_cell BK181.out 0).trans rfl
        have hcz20_1:wr.cell? ⟨gb181,1,none⟩=some (.int .i64 ((rd_T101 x6_1 0).f1)):=(blk_cell BK181.out 1).trans rfl
        have hfz20_0:=blk_frozen BK181.out 0
        have hfz20_1:=blk_frozen BK181.out 1
        go_wp2_with (first|((with_reducible refine gate_builtin (b:= .append) (xs:= #[.tmp 34,.tmp 39]) rfl ?_);at_builtin;refine Kd.R_append k61 (w0:=w) w.heap.size rfl (.tmp 34) (.tmp 39) 39 61 (.agg #[(.int .i64 0),(.int .i64 0)]) 16 rfl Try.underlying39 info61 rfl (by decide) (by omega) u5 x5_2 (⟨((rd_T101 x6_1 0).f0),rd t182 x26_2⟩ :S61) [.int .i64 ((rd_T101 x6_1 0).f0),.int .i64 (rd t182 x26_2)] (fun _=>True) (fun _=>False) rfl rfl ?aP (fun _ hk=>hk.elim) ?aF ?aO ?aB ?aS ?aL ?_;(case aP=>exact k61_mkM _ _ _ (⟨((rd_T101 x6_1 0).f0),rd t182 x26_2⟩ :S61));(case aB=>exact(by exact zk2 HB GE181.out));(case aF=>exact(fun _ _=>trivial));(case aO=>exact(zq4 HO_5));(case aS=>exact(below_size (by exact zk2 HB GE181.out)));(case aL=>have:=LMc18.out;omega);intro v187 w21 ho hb hg hat;rw [← Ny186.out] at ho;have HO188:=Aside0.mk (ho);replace HO_6:=Aside0.mk (Kd.Q_over' (by(with_reducible repeat(first|apply Kd.Q_alloc|apply Kd.Q_drewN|apply Kd.Q_drew));exact HO_6.out) (Kd.R_typed (zq4 HO_5)) (by decide) hg);replace HO_24:=Aside0.mk (Kd.R_over' (zq4 HO_24) (Kd.R_typed (zq4 HO_5)) (by decide) hg);replace BK181:=Aside0.mk (blk_grown (g:=gb181) (o:= .cells #[.int .i64 ((rd_T101 x6_1 0).f0),.int .i64 ((rd_T101 x6_1 0).f1)] 101 (0,0)) (zq3 BK181) hg (Kd.R_ne HO_5.out BK181.out (by decide)));replace HB:=Aside0.mk (hb);clear HO_5;clear ho hb hg hat;have hcz22_0:w21.cell? ⟨gb181,0,none⟩=some (.int .i64 ((rd_T101 x6_1 0).f0)):=(blk_cell BK181.out 0).trans rfl;have hcz22_1:w21.cell? ⟨gb181,1,none⟩=some (.int .i64 ((rd_T101 x6_1 0).f1)):=(blk_cell BK181.out 1).trans rfl;have hfz22_0:=blk_frozen BK181.out 0;have hfz22_1:=blk_frozen BK181.out 1)|((with_reducible refine gate_builtin (b:= .append) (xs:= #[.tmp 41,.tmp 46]) rfl ?_);at_builtin;refine Kd.Q_append k101 (w0:=w) w.heap.size rfl (.tmp 41) (.tmp 46) 102 101 (.agg #[(.int .i64 0),(.int .i64 0)]) 16 rfl Try.underlying102 info101 rfl (by decide) (by omega) u6 x6_2 (⟨rd t182 x26_2,((rd_T101 x6_1 0).f0)⟩ :S101) [.int .i64 (rd t182 x26_2),.int .i64 ((rd_T101 x6_1 0).f0)] (fun k_=>k_≠gb181) (fun _=>False) rfl rfl ?aP (fun _ hk=>hk.elim) ?aF ?aO ?aB ?aS ?aL ?_;(case aP=>exact k101_mkM _ _ _ (⟨rd t182 x26_2,((rd_T101 x6_1 0).f0)⟩ :S101));(case aB=>exact(by exact zk2 HB GE181.out));(case aF=>exact(fun k_ hk=>Kd.freshB (g:=gb181) (o:= .cells #[.int .i64 ((rd_T101 x6_1 0).f0),.int .i64 ((rd_T101 x6_1 0).f1)] 101 (0,0)) (zq3 BK181) k_ hk));(case aO=>exact(by(with_reducible repeat(first|apply Kd.Q_alloc|apply Kd.Q_drewN|apply Kd.Q_drew));exact HO_6.out));(case aS=>exact(below_size (by exact zk2 HB GE181.out)));(case aL=>have:=LMc19.out;omega);intro v190 w23 ho hb hg hat;rw [← Ny189.out] at ho;have HO191:=Aside0.mk (ho);replace HO_24:=Aside0.mk (Kd.R_over' (zq4 HO_24) (Kd.Q_typed (by(with_reducible repeat(first|apply Kd.Q_alloc|apply Kd.Q_drewN|apply Kd.Q_drew));exact HO_6.out)) (by decide) hg);replace BK181:=Aside0.mk (blk_grown (g:=gb181) (o:= .cells #[.int .i64 ((rd_T101 x6_1 0).f0),.int .i64 ((rd_T101 x6_1 0).f1)] 101 (0,0)) (zq3 BK181) hg (Kd.Q_away HO_6.out (fun _ hk=>hk)));replace HO188:=Aside0.mk (Kd.R_over' (zq4 HO188) (Kd.Q_typed (by(with_reducible repeat(first|apply Kd.Q_alloc|apply Kd.Q_drewN|apply Kd.Q_drew));exact HO_6.out)) (by decide) hg);replace HB:=Aside0.mk (hb);clear HO_6;clear ho hb hg hat))
        go_roundg k2
        case measure=>have:=HK1.out;have:=HK2.out;omega
        case rel=>exact⟨(y186),(y189),(wrap64 (x26_2+1)),(by first|rfl|(simp;done)|(simp [*];done)),H',⟨by have:=HK1.out;have:=HK2.out;omega⟩,⟨by(with_reducible repeat(first|apply Kd.R_alloc|apply Kd.R_drewN|apply Kd.R_drew));exact HO188.out⟩,⟨by(with_reducible repeat(first|apply Kd.Q_alloc|apply Kd.Q_drewN|apply Kd.Q_drew));exact HO191.out⟩,⟨by(with_reducible repeat(first|apply Kd.R_alloc|apply Kd.R_drewN|apply Kd.R_drew));exact HO_24.out⟩,⟨by(with_reducible repeat(first|refine blk_drewN ?_ _|refine blk_drew ?_ |refine blk_alloc ?_ _));exact BK181.out⟩,⟨by exact zk2 HB GE181.out⟩⟩
      ·rw [if_neg c13] at H
       have c13b0:decide (x26_2< (t182.length:Int))=false:=decide_eq_false c13
       clear c13
       by_cases c24: 1≤ (x6_2.length:Int)
       case neg=>rw [if_neg c24] at H;exact absurd H (by simp)
       rw [if_pos c24] at H
       have c24b0:=eq_true c24
       have c24b1:decide (1≤ (x6_2.length:Int))=true:=decide_eq_true c24
       clear c24
       obtain⟨y192,hy192⟩ :∃ y_:List (S101),y_= (x6_2.drop (1:Int).toNat):=⟨_,rfl⟩
       replace H:(impl_spread.l0 k2 l0 x5_2 y192)=some r:=zfh hy192 H
       have Ny192:=Aside0.mk hy192
       clear hy192
       have H':=Aside0.mk H
       clear H
       obtain⟨Ao25,co25,eo25,_⟩:=Kd.Q_slice HO_6.out
       subst eo25
       have q26:(1:Int)≤ ((x6_2.length:Int):Int):=of_decide_eq_true zq1
       obtain⟨i026,hi026,_,hsz26,_⟩:=info_parts info101
       have hcut26:=cut_from (P:=Try.prog) 102 101 .i64 Try.underlying102 hi026 2 hsz26 Ao25 x6_2.length co25 1 (by omega) q26
       have hr26:=Kd.Q_drop (k:=(1:Int).toNat) HO_6.out (by omega)
       obtain⟨A26,hA26⟩ :∃ A1,A1= (if co25= (1:Int).toNat then Ao25 else(Ao25:Option Addr).map (·.add ((1:Int).toNat * 2))):=⟨_,rfl⟩
       obtain⟨c26,hc26⟩ :∃ c1,c1=co25 - (1:Int).toNat:=⟨_,rfl⟩
       have hy26:y192.length=x6_2.length - (1:Int).toNat:=(by rw [Ny192.out,List.length_drop])
       rw [← Ny192.out] at hr26
       rw [← hy26,← hA26,← hc26] at hcut26
       replace hr26:Kd.Q k101 101 wr w.heap.size (fun k_=>k_≠gb181) (.slice A26 y192.length c26) y192:=(by rw [hA26,hc26,hy26];exact hr26)
       have HE26:Aside0 ((Value.slice A26 y192.length c26).ownBlock= (.slice Ao25 x6_2.length co25:Value).ownBlock):=⟨by rw [hA26];split<;>(cases (Ao25:Option Addr)<;>rfl)⟩
       clear hy26 hi026 hsz26 HO_6 hA26 hc26
       have HO194:=Aside0.mk hr26
       clear hr26
       replace q26:=eq_true q26
       go_wp2
       go_roundg k2
       case measure=>have:=HK1.out;have:=HK2.out;omega
       case rel=>exact⟨(x5_2),(y192),H',⟨by have:=HK1.out;have:=HK2.out;omega⟩,⟨by(with_reducible repeat(first|apply Kd.R_alloc|apply Kd.R_drewN|apply Kd.R_drew));exact HO_5.out⟩,⟨by(with_reducible repeat(first|apply Kd.Q_alloc|apply Kd.Q_drewN|apply Kd.Q_drew));exact Kd.Q_mono HO194.out (fun _ hk=>trivial)⟩,⟨by exact zk2 HB GE181.out⟩⟩
   ·rw [if_neg c5] at H
    have c5b0:decide (0< (x6_1.length:Int))=false:=decide_eq_false c5
    have c5b1:decide (0<x6_1.length)=false:=decide_eq_false (by omega)
    clear c5
    obtain rfl:=Option.some.inj H
    obtain⟨Ao27,co27,eo27,_⟩:=Kd.Q_slice HO_6.out
    subst eo27
    go_wp2
    go_ret
    exact⟨_,by first|rfl|(simp [errW_none,errW_some]<;>rfl)|(simp [*,errW_none,errW_some]<;>rfl),by(with_reducible repeat(first|apply Kd.R_alloc|apply Kd.R_drewN|apply Kd.R_drew));exact HO_5.out,by exact zk1 HB⟩
def hopD:List S61→Int→Int × Bool
 | [],_=>(0,false)
 |y::r,v=>if (hopD r v).2=true then hopD r v else if y.f1=v then(y.f0,true) else(0,false)
def okI (x:Int):Bool:=decide (-9223372036854775808≤x∧x≤9223372036854775807)
def okHops (hs:List S61):Bool:=decide (hs.length≤1000000) && hs.all fun y=>okI y.f0 && okI y.f1
theorem hopD_snoc:∀ (l:List S61) (y:S61) (v:Int),hopD (l++ [y]) v=if y.f1=v then(y.f0,true) else hopD l v
 | [],y,v=>by simp [hopD]
 |x::l,y,v=>by
  rw [List.cons_append,hopD,hopD_snoc l y v]
  by_cases h:y.f1=v
  ·rw [if_pos h,if_pos rfl,if_pos h]
  ·rw [if_neg h,if_neg h,hopD]
noncomputable def mapD (l:List S61):DataW Unit:=l.foldl (fun D y=>D.put (.int .i64 y.f1) (.lit (.int .i64 y.f0))) (.map [])
theorem mapD_snoc (l:List S61) (y:S61):mapD (l++ [y])= (mapD l).put (.int .i64 y.f1) (.lit (.int .i64 y.f0)):=by
 unfold mapD
 rw [List.foldl_append]
 rfl
theorem snoc_ind {α :Type} {P:List α →Prop} (h0:P []) (h1:∀ l x,P l→P (l++ [x])):∀ l,P l:=by
 intro l
 generalize hn:l.length=n
 induction n generalizing l with
 |zero=>rw [List.eq_nil_of_length_eq_zero hn];exact h0
 |succ n ih=>
  rcases List.eq_nil_or_concat l with e|⟨p,x,rfl⟩
  ·rw [e] at hn;simp at hn
  ·rw [List.concat_eq_append] at hn ⊢
   exact h1 p x (ih p (by simpa using hn))
theorem mapD_is:∀ l:List S61,Go.Maps.IsMap (mapD l):=by
 refine snoc_ind ⟨[],rfl⟩ fun l x h=>?_
 rw [mapD_snoc]
 obtain⟨es,e⟩:=h
 rw [e]
 exact⟨_,rfl⟩
theorem keyL_ne {a b:Int} (h:a≠b):(Lit.int .i64 a)≠ (Lit.int .i64 b):=fun e=>h (by injection e)
theorem mapD_tells (v:Int):∀ l:List S61,(mapD l).atKey (.int .i64 v) (.lit (.int .i64 0))= .lit (.int .i64 (hopD l v).1)∧Go.Maps.has (mapD l) (.int .i64 v)= (hopD l v).2:=by
 refine snoc_ind ⟨rfl,rfl⟩ fun l x h=>?_
 rw [mapD_snoc,hopD_snoc]
 by_cases e:x.f1=v
 ·rw [if_pos e,e]
  exact⟨Go.Maps.atKey_put_same (mapD_is l) (by first|trivial|exact⟨_,_,rfl⟩|simp [WideAt.IsKeyLit]) _ _,Go.Maps.has_put_same (mapD_is l) (by first|trivial|exact⟨_,_,rfl⟩|simp [WideAt.IsKeyLit]) _⟩
 ·rw [if_neg e,Go.Maps.atKey_put_other (keyL_ne (fun h=>e h.symm)),Go.Maps.has_put_other (keyL_ne (fun h=>e h.symm))]
  exact h
theorem lawI:Go.Maps.Keyed Try.prog 3:=Go.Maps.int_keyed Try.underlying3
theorem zeroI (w:World):(zeroValue 3).run Try.prog w= .ok (.int .i64 0) w:=by kernel_rfl
theorem wfI {x:Int} (h:okI x=true):(Lit.int .i64 x).wf=true:=by
 unfold okI at h
 rw [decide_eq_true_eq] at h
 exact Go.WalkArith.wf_i64 h
theorem own_mapNe {H:Type} {P:Program} {k:TypeId} {R:Value→Option (DataW H × List MemPlace)} {b n:Nat} {D:DataW H} {w:World} (h:w.ownsMap P k R b n D) {cells:Array Value} {q:TypeId} (e:w.heap[b]?=some (.cells cells q (0,0))):False:=by
 obtain⟨es,clock,hb,_⟩:=h
 rw [hb] at e
 cases e
theorem own_mapBelow {H:Type} {P:Program} {k:TypeId} {R:Value→Option (DataW H × List MemPlace)} {b n:Nat} {D:DataW H} {w w1:World} (h:w.ownsMap P k R b n D) (hb:Below w.heap.size w w1):w1.ownsMap P k R b n D:=by
 have hlt:=h.lt
 obtain⟨es,clock,e,r⟩:=h
 exact⟨es,clock,(hb.block b hlt).trans e,r⟩
theorem own_mapSet {H:Type} {P:Program} {k:TypeId} {R:Value→Option (DataW H × List MemPlace)} {b n:Nat} {D:DataW H} {w:World} {p:Addr} {u:Value} (h:w.ownsMap P k R b n D) (hne:b≠p.block):(w.setCell p u).ownsMap P k R b n D:=by
 obtain⟨es,clock,e,r⟩:=h
 exact⟨es,clock,(Below.heap_setCell w p u b hne).trans e,r⟩
theorem own_mapRow {H:Type} {P:Program} {k:TypeId} {R:Value→Option (DataW H × List MemPlace)} {b n:Nat} {D:DataW H} {w w1:World} {α :Type} {d:Kd α} {e base:Nat} {ok:Nat→Prop} {v:Value} {xs:List α} (h:w.ownsMap P k R b n D) (hr:d.R e w base ok v xs) (hg:w.grownBy w1 v.ownBlock):w1.ownsMap P k R b n D:=by
 refine h.kept hg fun ev=>?_
 obtain⟨_,_,_,q,_,cells,hc⟩:=(Kd.R_bound hr).1 b ev.symm
 exact own_mapNe h hc
theorem R_overMap {H:Type} {P:Program} {k:TypeId} {R:Value→Option (DataW H × List MemPlace)} {b n:Nat} {D:DataW H} {w w1:World} {α :Type} {d:Kd α} {e base:Nat} {ok:Nat→Prop} {v:Value} {xs:List α} (hr:d.R e w base ok v xs) (h:w.ownsMap P k R b n D) (hg:w.grownBy w1 (some b)):d.R e w1 base ok v xs:=
 Kd.R_mono (Kd.R_grown (Kd.R_bound hr) hg (fun k hk e=>by
  obtain⟨_,_,_,q,_,cells,hc⟩:=hk
  injection e with e
  rw [e] at hc
  exact own_mapNe h hc)) (fun _ hk=>hk.1)
def impl_onTree.l1:Nat→List S61→Int→List Int→Int→Option (List Int × Bool)
 | 0,_,_,_,_=>none
 |k+1,hs,x2,x11,x12=>if x12=x2 then(some (x11,true)) else(if okI x12=true then(if (hopD hs x12).2=true then(if x11.length< 17592186044416 then(impl_onTree.l1 k hs x2 (x11++ [(hopD hs x12).1]) (hopD hs x12).1) else(none)) else(some (([] :List Int),false))) else(none))
def impl_onTree.f (k:Nat) (l0:List Int) (a1:Int) (a2:Int):Option (List Int × Bool):=(impl_spread.f k l0 a2).bind fun t195=>(if okHops t195=true then(impl_onTree.l1 k t195 a2 [a1] a1) else(none))
set_option maxHeartbeats 8000000 in
set_option maxRecDepth 100000 in
theorem impl_onTree.calls (k:Nat) (A0:Option Addr) (c0:Nat) (l0:List Int) (a1:Int) (a2:Int) (r1:List Int) (r2:Bool) (w:World) (hr0:Kd.C (Kd.int .i64) w A0 l0.length l0) (hc0:l0.length≤c0) (h:impl_onTree.f k l0 a1 a2=some (r1,r2)):
  Calls Try.prog 65 #[.slice A0 l0.length c0,.int .i64 a1,.int .i64 a2] w fun e w'=> ∃ v0_:Value,e= .returned (.tuple #[v0_,.bool r2])∧Kd.R (Kd.int .i64) 3 w' w.heap.size (fun _=>True) v0_ r1∧Below w.heap.size w w':=by
 have hu61:=Try.underlying61
 have hmm:= @run_makeMap Try.prog
 have HR0:=Aside0.mk hr0
 have HC0:=Aside0.mk hc0
 clear hr0 hc0
 have HB:=Aside0.mk (Below.refl w.heap.size w)
 have HM0:=Aside0.mk (World.ownsMap_made w Try.prog 3 (plainElem (H:=Unit) Try.prog 3))
 have H:((impl_spread.f k l0 a2).bind fun t195=>(if okHops t195=true then(impl_onTree.l1 k t195 a2 [a1] a1) else(none)))=some (r1,r2):=h
 clear h
 replace H:=Option.bind_eq_some_iff.mp H
 obtain⟨t195,A40,H⟩:=H
 by_cases hok:okHops t195=true
 case neg=>
  rw [if_neg hok] at H
  exact absurd H (by simp)
 rw [if_pos hok] at H
 have OKL:=Aside0.mk (show t195.length≤1000000 by unfold okHops at hok;rw [Bool.and_eq_true,decide_eq_true_eq] at hok;exact hok.1)
 have OKH:=Aside0.mk (show ∀ y ∈ t195,okI y.f0=true∧okI y.f1=true by
  unfold okHops at hok
  rw [Bool.and_eq_true,List.all_eq_true] at hok
  intro y hy
  have:=hok.2 y hy
  rwa [Bool.and_eq_true] at this)
 clear hok
 have A4:=Aside0.mk A40
 clear A40
 have H':=Aside0.mk H
 clear H
 go_enter Try.func65,Try.ntmps65
 go_wp2_with (first|((with_reducible refine gate_callee (f:=73) rfl ?_);refine goesL_ (some 18) rfl rfl Try.func73 (by kernel_rfl) rfl #[.slice A0 l0.length c0,.int .i64 a2] rfl zq2 ?_;(with_reducible refine(impl_spread.calls k _ _ l0 a2 t195 _ ?side1 ?side2 A4.out).mono ?_);(case side1=>exact zcc (HR0.out));(case side2=>exact HC0.out);rintro e w5 ⟨v196,rfl,ho0,hb⟩;refine⟨_,rfl,?_⟩;have n0_:=Aside0.mk (Kd.R_lower ho0 (below_size (by exact zk1 HB)));have n7_:=Aside0.mk (own_mapBelow HM0.out hb);have n1_:=Aside0.mk (below_step (by exact zk1 HB) hb);clear HB;have HO197:=n0_;have HB:=n1_;have HM:=n7_;clear n0_ n1_ n7_ HM0;(try clear hb);(try clear hb2);(try clear hk);(try clear hi);(try clear ho0);obtain⟨Ao6,co6,eo6⟩:=Kd.R_slice HO197.out;subst eo6))
 go_loopg [20] t195.length (fun kq v20 w'=> ∃ (x20_1:Int),v20= .int .i64 x20_1∧Aside0 (0≤x20_1∧x20_1≤ (t195.length:Int))∧Aside0 (t195.length - x20_1.toNat≤kq)∧Aside0 (Kd.R k61 61 w' w.heap.size (fun _=>True) (.slice Ao6 t195.length co6) t195)∧Aside0 (w'.ownsMap Try.prog 3 (plainElem (H:=Unit) Try.prog 3) w.heap.size x20_1.toNat (mapD (t195.take x20_1.toNat)))∧Aside0 (Below w.heap.size w w'))
 case atStart=>exact⟨0,rfl,⟨⟨Int.le_refl _,by omega⟩⟩,⟨by omega⟩,⟨by(with_reducible repeat(first|apply Kd.R_alloc|apply Kd.R_drewN|apply Kd.R_drew));exact HO197.out⟩,⟨by(repeat(first|exact HM.out|refine World.ownsMap.alloc ?_ _|refine World.ownsMap.drew ?_))⟩,⟨by exact zk1 HB⟩⟩
 case round=>
  clear hmm
  obtain⟨x20_1,rfl,HN1,HK1,HO_18,HM,HB⟩:=hrel
  by_cases c7:x20_1< (t195.length:Int)
  ·have c7b0:decide (x20_1< (t195.length:Int))=true:=decide_eq_true c7
   have hn0:=HN1.out.1
   have c8b0:decide (0≤x20_1)=true:=decide_eq_true hn0
   have hlt:x20_1.toNat<t195.length:=by omega
   have hrd:rd_T61 t195 x20_1=t195[x20_1.toNat]:=by unfold rd_T61;rw [List.getD_eq_getElem?_getD,List.getElem?_eq_getElem hlt];rfl
   have hoky:=OKH.out _ (List.getElem_mem hlt)
   rw [← hrd] at hoky
   have hput:mapD (t195.take (x20_1.toNat+1))= (mapD (t195.take x20_1.toNat)).put (.int .i64 (rd_T61 t195 x20_1).f1) (.lit (.int .i64 (rd_T61 t195 x20_1).f0)):=by rw [List.take_add_one,List.getElem?_eq_getElem hlt,Option.toList,mapD_snoc,hrd]
   have HPUT:=Aside0.mk hput
   have HLT:=Aside0.mk hlt
   have HWR:=Aside0.mk (show wrap64 (x20_1+1)=x20_1+1∧ (x20_1+1).toNat=x20_1.toNat+1 by have:=OKL.out;unfold wrap64;omega)
   have HWK:=Aside0.mk (Go.Maps.keyOf_int_mk (P:=Try.prog) Try.underlying3 (wfI hoky.2))
   have HWE:=Aside0.mk (plainElem_int (H:=Unit) (P:=Try.prog) Try.underlying3 (wfI hoky.1))
   have HML:=Aside0.mk (show x20_1.toNat<maxLen by have:=OKL.out;unfold maxLen;omega)
   have p1: 0≤x20_1:=hn0
   have q1:x20_1< (t195.length:Int):=c7
   clear c7 hput hrd hoky hlt hn0
   obtain⟨ad198,e198,hx198_0,hx198_1⟩:=at_T61 (Kd.R_reads' HO_18.out).2.2 x20_1 p1 q1
   cases e198
   replace p1:=eq_true p1
   replace q1:=eq_true q1
   go_wp2_with (first|((with_reducible refine gate_dst (N:=10) rfl ?_);refine box_event ?hg (N:=10) ?hd (cs:= #[.int .i64 0,.int .i64 0]) (t:=61) ?hr ?_;(case hd=>rfl);(case hg=>rfl);(case hr=>first|(go_simp;done)|(go_simp;rfl));intro gb199 hg w10 hbox hb;have n0_:=Aside0.mk (Kd.R_below (Kd.R_elderB (zq4 HO_18) gb199 (Nat.le_of_eq hg.symm)) hb);have n1_:=Aside0.mk (below_step (by exact zk1 HB) hb);have n2_:=Aside0.mk (hbox);have n3_:=Aside0.mk ((by rw [hg];exact(below_size (by exact zk1 HB)):w.heap.size≤gb199));have n4_:=Aside0.mk ((by rw [hg];exact(below_size (by exact zk1 HB)):w.heap.size≤gb199));have NBM:=Aside0.mk (show w.heap.size≠gb199 by rw [hg];exact Nat.ne_of_lt HM.out.lt);replace HM:=Aside0.mk (own_mapBelow HM.out hb);clear HO_18;clear HB;have HO_18:=n0_;have HB:=n1_;have BK199:=n2_;have GW199:=n3_;have GE199:=n4_;clear n0_ n1_ n2_ n3_ n4_;clear hb hbox hg;have hcz11_0:w10.cell? ⟨gb199,0,none⟩=some (.int .i64 0):=(blk_cell BK199.out 0).trans rfl;have hcz11_1:w10.cell? ⟨gb199,1,none⟩=some (.int .i64 0):=(blk_cell BK199.out 1).trans rfl;have hfz11_0:=blk_frozen BK199.out 0;have hfz11_1:=blk_frozen BK199.out 1)|(at_mapUpdate;refine wpList_mapUpdate_own _ rfl _ _ _ 99 rfl 3 3 lawI Try.underlying99 (plainElem (H:=Unit) Try.prog 3) w.heap.size x20_1.toNat (mapD (t195.take x20_1.toNat)) rfl (by(repeat(first|exact HM.out|refine own_mapSet ?_ NBM.out))) HML.out _ _ _ rfl rfl HWK.out _ [] HWE.out ?_;intro w11 hown1 hgrow1;rw [← HPUT.out] at hown1;have HM1:=Aside0.mk hown1;clear hown1;have HG1:=Aside0.mk hgrow1;clear hgrow1)|go_in)
   go_roundg (t195.length - (x20_1.toNat+1))
   case measure=>have:=HK1.out;have:=HLT.out;omega
   case rel=>exact⟨x20_1+1,(by first|rw [HWR.out.1]|simp only [HWR.out.1]),⟨by have:=HN1.out;have:=HLT.out;omega⟩,⟨by rw [HWR.out.2];exact Nat.le_refl _⟩,⟨by(with_reducible repeat(first|apply Kd.R_alloc|apply Kd.R_drewN|apply Kd.R_drew));exact R_overMap (P:=Try.prog) (k:=3) (R:=plainElem (H:=Unit) Try.prog 3) (n:=x20_1.toNat) (D:=mapD (t195.take x20_1.toNat)) (Kd.R_mono (Kd.R_far (p:=⟨gb199,1,none⟩) (Kd.R_far (p:=⟨gb199,0,none⟩) (Kd.R_mono HO_18.out (fun k_ hk=>(⟨hk,hk.2⟩ :_∧k_≠gb199))) (fun _ hk=>hk.2) (.int .i64 ((rd_T61 t195 x20_1).f0))) (fun _ hk=>hk.2) (.int .i64 ((rd_T61 t195 x20_1).f1))) (fun _ hk=>trivial)) (by(repeat(first|exact HM.out|refine own_mapSet ?_ NBM.out))) HG1.out⟩,⟨by rw [HWR.out.2];exact HM1.out⟩,⟨by exact Below.grown (by exact zk2 HB GE199.out) HG1.out (below_size (by exact zk2 HB GE199.out)) (fun j hj=>by cases hj;exact Nat.le_refl _)⟩⟩
  ·have c7b0:decide (x20_1< (t195.length:Int))=false:=decide_eq_false c7
   have hall:x20_1.toNat=t195.length:=by have:=HN1.out;omega
   clear c7
   rw [hall] at HM
   have HMA:=Aside0.mk (show _ by have:=HM.out;rw [List.take_length] at this;exact this)
   clear HM
   have HM:=HMA
   clear HMA
   obtain⟨y200,hy200⟩ :∃ y_:List Int,y_= (([a1] :List Int)):=⟨_,rfl⟩
   have H:=H'.out
   rw [← hy200] at H
   clear H'
   have Ny200:=Aside0.mk hy200
   clear hy200
   have H':=Aside0.mk H
   clear H
   go_wp2_with (first|((with_reducible refine gate_dst (N:=31) rfl ?_);refine Kd.R_lit (Kd.int .i64) _ 3 ?hg (N:=31) ?hd (xs:=([a1] :List Int)) (inner:= [.int .i64 a1]) (ok:=fun _=>True) (okp:=fun _=>True) ?hr ?hp (fun _ hk=>hk) trivial (Below.refl _ _) (Nat.le_refl _) (by simp) ?_;(case hd=>rfl);(case hg=>rfl);(case hr=>first|(go_simp;done)|(go_simp;rfl));(case hp=>exact(Reps.one (show Kd.M (Kd.int .i64) _ _ _ a1 [.int .i64 a1] from rfl) (Reps.none _ _)));intro v201 w12 ho13 hb hg_ hnew_;clear hg_ hnew_;(first|rw [← Ny200.out] at ho13|(simp only [Int.reduceToNat] at ho13;rw [← Ny200.out] at ho13));have HO202:=Aside0.mk (Kd.R_lower ho13 (below_size (by exact zk1 HB)));replace HM:=Aside0.mk (own_mapBelow HM.out hb);replace HB:=Aside0.mk (below_step (by exact zk1 HB) hb);clear hb ho13))
   go_loopg [11,12] k (fun kq v11 v12 w'=> ∃ (x11_2:List Int) (x12_2:Int),v12= .int .i64 x12_2∧Aside0 (impl_onTree.l1 kq t195 a2 x11_2 x12_2=some (r1,r2))∧Aside0 (kq≤k)∧Aside0 (Kd.R (Kd.int .i64) 3 w' w.heap.size (fun _=>True) v11 x11_2)∧Aside0 (w'.ownsMap Try.prog 3 (plainElem (H:=Unit) Try.prog 3) w.heap.size t195.length (mapD t195))∧Aside0 (Below w.heap.size w w'))
   case atStart=>exact⟨y200,(a1),(by first|rfl|(simp;done)|(simp [*];done)),H',⟨Nat.le_refl _⟩,⟨by(with_reducible repeat(first|apply Kd.R_alloc|apply Kd.R_drewN|apply Kd.R_drew));exact HO202.out⟩,⟨by(repeat(first|exact HM.out|refine World.ownsMap.alloc ?_ _|refine World.ownsMap.drew ?_))⟩,⟨by exact zk1 HB⟩⟩
   case round=>
    clear H'
    try clear c7b0
    clear HM HB
    obtain⟨x11_2,x12_2,rfl,HA,HK2,HO_11,HM,HB⟩:=hrel
    cases gk with
    |zero=>exact absurd HA.out (by simp [impl_onTree.l1])
    |succ k2=>
     have H:=HA.out
     clear HA
     simp only [impl_onTree.l1] at H
     by_cases c14:x12_2=a2
     ·rw [if_pos c14] at H
      have c14b0:(x12_2==a2)=true:=beq_iff_eq.mpr c14
      have c14b1:(x12_2 !=a2)=false:=bne_eq_false_iff_eq.mpr c14
      clear c14
      simp only [Option.some.injEq,Prod.mk.injEq] at H
      obtain⟨rfl,rfl⟩:=H
      go_wp2
      go_ret2
      exact⟨_,by first|rfl|(simp [errW_none,errW_some]<;>rfl)|(simp [*,errW_none,errW_some]<;>rfl),by(with_reducible repeat(first|apply Kd.R_alloc|apply Kd.R_drewN|apply Kd.R_drew));exact HO_11.out,by exact zk1 HB⟩
     ·rw [if_neg c14] at H
      have c14b0:(x12_2==a2)=false:=beq_eq_false_iff_ne.mpr c14
      have c14b1:(x12_2 !=a2)=true:=bne_iff_ne.mpr c14
      by_cases c13:okI x12_2=true
      case neg=>
       rw [if_neg c13] at H
       exact absurd H (by simp)
      rw [if_pos c13] at H
      by_cases c16:(hopD t195 x12_2).2=true
      ·rw [if_pos c16] at H
       by_cases c17:x11_2.length< 17592186044416
       case neg=>rw [if_neg c17] at H;exact absurd H (by simp)
       rw [if_pos c17] at H
       have LMc17:=Aside0.mk c17
       clear c17
       obtain⟨hv,hhv⟩ :∃ y_:Int,y_= (hopD t195 x12_2).1:=⟨_,rfl⟩
       rw [← hhv] at H
       have HHV:=Aside0.mk hhv
       clear hhv
       obtain⟨y205,hy205⟩ :∃ y_:List Int,y_= (x11_2++ [hv]):=⟨_,rfl⟩
       rw [← hy205] at H
       have Ny205:=Aside0.mk hy205
       clear hy205
       have H':=Aside0.mk H
       clear H
       go_wp2_with (first|(at_lookup;refine wpList_lookup_own_ok_int _ rfl _ _ 99 rfl 3 3 .i64 lawI Try.underlying99 Try.underlying3 (zeroI _) w.heap.size t195.length (mapD t195) rfl HM.out _ _ rfl (Go.Maps.keyOf_int_mk Try.underlying3 (wfI c13)) ?_;intro c hat hwc;obtain rfl:hv=c:=(by rw [(mapD_tells x12_2 t195).1,← HHV.out] at hat;injection hat with hat;injection hat with _ hat;(try exact hat));clear hat hwc;rw [(mapD_tells x12_2 t195).2,c16])|((with_reducible refine gate_builtin (b:= .append) (xs:= #[.tmp 44,.tmp 46]) rfl ?_);at_builtin;refine Kd.R_append (Kd.int .i64) (w0:=w) w.heap.size rfl (.tmp 44) (.tmp 46) 22 3 (.int .i64 0) 8 rfl Try.underlying22 info3 rfl (by decide) (by omega) u11 x11_2 hv [.int .i64 hv] (fun _=>True) (fun _=>False) rfl rfl ?aP (fun _ hk=>hk.elim) ?aF ?aO ?aB ?aS ?aL ?_;(case aP=>exact rfl);(case aB=>exact(by exact zk1 HB));(case aF=>exact(fun _ _=>trivial));(case aO=>exact(zq4 HO_11));(case aS=>exact(below_size (by exact zk1 HB)));(case aL=>have:=LMc17.out;omega);intro v206 w19 ho hb hg hat;rw [← Ny205.out] at ho;have n0_:=Aside0.mk (hb);have n1_:=Aside0.mk (ho);replace HM:=Aside0.mk (own_mapRow HM.out HO_11.out hg);clear HB;clear HO_11;have HB:=n0_;have HO207:=n1_;clear n0_ n1_;clear ho hb hg hat))
       go_roundg k2
       case measure=>have:=HK2.out;omega
       case rel=>exact⟨y205,hv,(by first|rfl|(simp;done)|(simp [*];done)),H',⟨by have:=HK2.out;omega⟩,⟨by(with_reducible repeat(first|apply Kd.R_alloc|apply Kd.R_drewN|apply Kd.R_drew));exact HO207.out⟩,⟨by(repeat(first|exact HM.out|refine World.ownsMap.alloc ?_ _|refine World.ownsMap.drew ?_))⟩,⟨by exact zk1 HB⟩⟩
      ·replace c16:=Bool.eq_false_iff.mpr c16
       rw [if_neg (by rw [c16];decide)] at H
       simp only [Option.some.injEq,Prod.mk.injEq] at H
       obtain⟨rfl,rfl⟩:=H
       go_wp2_with (first|(at_lookup;refine wpList_lookup_own_ok_int _ rfl _ _ 99 rfl 3 3 .i64 lawI Try.underlying99 Try.underlying3 (zeroI _) w.heap.size t195.length (mapD t195) rfl HM.out _ _ rfl (Go.Maps.keyOf_int_mk Try.underlying3 (wfI c13)) ?_;intro c hat hwc;clear hat hwc;rw [(mapD_tells x12_2 t195).2,c16]))
       go_ret2
       exact⟨_,by first|rfl|(simp [errW_none,errW_some]<;>rfl)|(simp [*,errW_none,errW_some]<;>rfl),by first|exact Kd.R_nil _ _ _ _ _|exact Kd.N_nil _ _ _ _ _|exact Kd.V_nil _ _ _ _ _|exact Kd.Q_nil _ _ _ _ _|exact Kd.S_nil _ _ _ _ _,by exact zk1 HB⟩
def impl_ComesFrom.j0:Nat→List Int→Int→Int→Bool→Option (Int × Bool)
 | 0,_,_,_,_=>none
 |k+1,x0,x1,x2,x20=>if x20=true then(some (0,false)) else((impl_onTree.f k x0 x1 x2).bind fun bt212=>(if bt212.2=true then(if 0≤ (wrap64 ((bt212.1.length:Int) - 2)) then(if (wrap64 ((bt212.1.length:Int) - 2))< (bt212.1.length:Int) then(some (rd bt212.1 (wrap64 ((bt212.1.length:Int) - 2)),true)) else(none)) else(none)) else(some (0,false))))
def impl_ComesFrom.f (k:Nat) (l0:List Int) (a1:Int) (a2:Int):Option (Int × Bool):=(impl_goodTree.f k l0 (([a1,a2] :List Int))).bind fun t211=>(if t211=true then(impl_ComesFrom.j0 k l0 a1 a2 (a1==a2)) else(impl_ComesFrom.j0 k l0 a1 a2 true))
set_option maxHeartbeats 8000000 in
set_option maxRecDepth 100000 in
theorem impl_ComesFrom.calls (k:Nat) (A0:Option Addr) (c0:Nat) (l0:List Int) (a1:Int) (a2:Int) (r1:Int) (r2:Bool) (w:World) (hr0:Kd.C (Kd.int .i64) w A0 l0.length l0) (hc0:l0.length≤c0) (h:impl_ComesFrom.f k l0 a1 a2=some (r1,r2)):
  Calls Try.prog 18 #[.slice A0 l0.length c0,.int .i64 a1,.int .i64 a2] w fun e w'=>e= .returned (.tuple #[.int .i64 r1,.bool r2])∧Below w.heap.size w w':=by
 have HR0:=Aside0.mk hr0
 have HC0:=Aside0.mk hc0
 clear hr0 hc0
 have HB:=Aside0.mk (Below.refl w.heap.size w)
 have H:((impl_goodTree.f k l0 (([a1,a2] :List Int))).bind fun t211=>(if t211=true then(impl_ComesFrom.j0 k l0 a1 a2 (a1==a2)) else(impl_ComesFrom.j0 k l0 a1 a2 true)))=some (r1,r2):=h
 clear h
 have HC4:=Aside0.mk H
 clear H
 go_enter Try.func18,Try.ntmps18
 go_upto_region 1 with (fail)
 go_cut [20] (fun v20 wc=> ∃ (kq:Nat) (x20_3:Bool),v20= .bool x20_3∧Aside0 (impl_ComesFrom.j0 kq l0 a1 a2 x20_3=some (r1,r2))∧Aside0 (kq≤k)∧Aside0 (Below w.heap.size w wc))
 case first=>
  have H:=HC4.out
  clear HC4
  obtain⟨y208,hy208⟩ :∃ y_:List Int,y_= (([a1,a2] :List Int)):=⟨_,rfl⟩
  replace H:((impl_goodTree.f k l0 y208).bind fun t211=>(if t211=true then(impl_ComesFrom.j0 k l0 a1 a2 (a1==a2)) else(impl_ComesFrom.j0 k l0 a1 a2 true)))=some (r1,r2):=zfh hy208 H
  have Ny208:=Aside0.mk hy208
  clear hy208
  replace H:=Option.bind_eq_some_iff.mp H
  obtain⟨t211,A50,H⟩:=H
  replace H:(if t211=true then(impl_ComesFrom.j0 k l0 a1 a2 (a1==a2)) else(impl_ComesFrom.j0 k l0 a1 a2 true))=some (r1,r2):=H
  have A5:=Aside0.mk A50
  clear A50
  by_cases c6:t211=true
  ·subst c6
   have H1:(impl_ComesFrom.j0 k l0 a1 a2 (a1==a2))=some (r1,r2):=by rw [if_pos rfl] at H;exact H
   clear H
   have H:=H1
   clear H1
   have H':=Aside0.mk H
   clear H
   go_wp2_with (first|((with_reducible refine gate_dst (N:=13) rfl ?_);refine Kd.R_lit (Kd.int .i64) _ 3 ?hg (N:=13) ?hd (xs:=([a1,a2] :List Int)) (inner:= [.int .i64 a1,.int .i64 a2]) (ok:=fun _=>True) (okp:=fun _=>True) ?hr ?hp (fun _ hk=>hk) trivial (Below.refl _ _) (Nat.le_refl _) (by simp) ?_;(case hd=>rfl);(case hg=>rfl);(case hr=>first|(go_simp;done)|(go_simp;rfl));(case hp=>exact(Reps.one (show Kd.M (Kd.int .i64) _ _ _ a1 [.int .i64 a1] from rfl) (Reps.one (show Kd.M (Kd.int .i64) _ _ _ a2 [.int .i64 a2] from rfl) (Reps.none _ _))));intro v209 w7 ho8 hb hg_ hnew_;clear hg_ hnew_;(first|rw [← Ny208.out] at ho8|(simp only [Int.reduceToNat] at ho8;rw [← Ny208.out] at ho8));have HO210:=Aside0.mk (Kd.R_lower ho8 (below_size (by exact zk1 HB)));replace HB:=Aside0.mk (below_step (by exact zk1 HB) hb);clear hb ho8;obtain⟨Ao9,co9,eo9⟩:=Kd.R_slice HO210.out;subst eo9)|((with_reducible refine gate_callee (f:=64) rfl ?_);refine goesL_ (some 14) rfl rfl Try.func64 (by kernel_rfl) rfl #[.slice A0 l0.length c0,.slice Ao9 y208.length co9] rfl zq2 ?_;(with_reducible refine(impl_goodTree.calls k _ _ l0 _ _ y208 true _ ?side1 ?side2 ?side3 ?side4 A5.out).mono ?_);(case side1=>exact zcc ((Kd.C_below HR0.out HB.out)));(case side2=>exact HC0.out);(case side3=>exact zcc ((Kd.R_reads' HO210.out).2.2));(case side4=>exact(Kd.R_reads' HO210.out).2.1);rintro e w' ⟨rfl,⟨nd,rfl⟩⟩;refine⟨_,rfl,?_⟩))
   go_meet
   case rel=>exact⟨_,((a1==a2)),(by first|rfl|(simp;done)|(simp [*];done)),H',⟨by first|omega|exact Nat.le_refl _⟩,⟨by exact zk1 HB⟩⟩
  ·replace c6:=Bool.eq_false_iff.mpr c6
   subst c6
   have H1:(impl_ComesFrom.j0 k l0 a1 a2 true)=some (r1,r2):=by rw [if_neg (show ¬ (false=true) by decide)] at H;exact H
   clear H
   have H:=H1
   clear H1
   have H':=Aside0.mk H
   clear H
   go_wp2_with (first|((with_reducible refine gate_dst (N:=13) rfl ?_);refine Kd.R_lit (Kd.int .i64) _ 3 ?hg (N:=13) ?hd (xs:=([a1,a2] :List Int)) (inner:= [.int .i64 a1,.int .i64 a2]) (ok:=fun _=>True) (okp:=fun _=>True) ?hr ?hp (fun _ hk=>hk) trivial (Below.refl _ _) (Nat.le_refl _) (by simp) ?_;(case hd=>rfl);(case hg=>rfl);(case hr=>first|(go_simp;done)|(go_simp;rfl));(case hp=>exact(Reps.one (show Kd.M (Kd.int .i64) _ _ _ a1 [.int .i64 a1] from rfl) (Reps.one (show Kd.M (Kd.int .i64) _ _ _ a2 [.int .i64 a2] from rfl) (Reps.none _ _))));intro v209 w10 ho11 hb hg_ hnew_;clear hg_ hnew_;(first|rw [← Ny208.out] at ho11|(simp only [Int.reduceToNat] at ho11;rw [← Ny208.out] at ho11));have HO210:=Aside0.mk (Kd.R_lower ho11 (below_size (by exact zk1 HB)));replace HB:=Aside0.mk (below_step (by exact zk1 HB) hb);clear hb ho11;obtain⟨Ao12,co12,eo12⟩:=Kd.R_slice HO210.out;subst eo12)|((with_reducible refine gate_callee (f:=64) rfl ?_);refine goesL_ (some 14) rfl rfl Try.func64 (by kernel_rfl) rfl #[.slice A0 l0.length c0,.slice Ao12 y208.length co12] rfl zq2 ?_;(with_reducible refine(impl_goodTree.calls k _ _ l0 _ _ y208 false _ ?side1 ?side2 ?side3 ?side4 A5.out).mono ?_);(case side1=>exact zcc ((Kd.C_below HR0.out HB.out)));(case side2=>exact HC0.out);(case side3=>exact zcc ((Kd.R_reads' HO210.out).2.2));(case side4=>exact(Kd.R_reads' HO210.out).2.1);rintro e w' ⟨rfl,⟨nd,rfl⟩⟩;refine⟨_,rfl,?_⟩))
   go_meet
   case rel=>exact⟨_,(true),(by first|rfl|(simp;done)|(simp [*];done)),H',⟨by first|omega|exact Nat.le_refl _⟩,⟨by exact zk1 HB⟩⟩
 case rest=>
  clear HC4
  try clear c1
  try clear p2
  try clear c6
  obtain⟨kq,x20_3,rfl,HA,HJ3,HB⟩:=hcut
  cases kq with
  |zero=>exact absurd HA.out (by simp [impl_ComesFrom.j0])
  |succ kj3=>
   have H:=HA.out
   clear HA
   simp only [impl_ComesFrom.j0] at H
   by_cases c13:x20_3=true
   ·subst c13
    have H1:(some (0,false))=some (r1,r2):=by rw [if_pos rfl] at H;exact H
    clear H
    have H:=H1
    clear H1
    simp only [Option.some.injEq,Prod.mk.injEq] at H
    obtain⟨rfl,rfl⟩:=H
    go_wp2
    go_ret2
    exact⟨by first|rfl|(simp [errW_none,errW_some]<;>rfl)|(simp [*,errW_none,errW_some]<;>rfl),by exact zk1 HB⟩
   ·replace c13:=Bool.eq_false_iff.mpr c13
    subst c13
    have H1:((impl_onTree.f kj3 l0 a1 a2).bind fun bt212=>(if bt212.2=true then(if 0≤ (wrap64 ((bt212.1.length:Int) - 2)) then(if (wrap64 ((bt212.1.length:Int) - 2))< (bt212.1.length:Int) then(some (rd bt212.1 (wrap64 ((bt212.1.length:Int) - 2)),true)) else(none)) else(none)) else(some (0,false))))=some (r1,r2):=by rw [if_neg (show ¬ (false=true) by decide)] at H;exact H
    clear H
    have H:=H1
    clear H1
    replace H:=Option.bind_eq_some_iff.mp H
    obtain⟨⟨t212,t213⟩,A140,H⟩:=H
    replace H:(if t213=true then(if 0≤ (wrap64 ((t212.length:Int) - 2)) then(if (wrap64 ((t212.length:Int) - 2))< (t212.length:Int) then(some (rd t212 (wrap64 ((t212.length:Int) - 2)),true)) else(none)) else(none)) else(some (0,false)))=some (r1,r2):=H
    have A14:=Aside0.mk A140
    clear A140
    by_cases c15:t213=true
    ·subst c15
     have H1:(if 0≤ (wrap64 ((t212.length:Int) - 2)) then(if (wrap64 ((t212.length:Int) - 2))< (t212.length:Int) then(some (rd t212 (wrap64 ((t212.length:Int) - 2)),true)) else(none)) else(none))=some (r1,r2):=by rw [if_pos rfl] at H;exact H
     clear H
     have H:=H1
     clear H1
     obtain⟨ji16,hji16⟩ :∃ j_:Int,(wrap64 ((t212.length:Int) - 2))=j_:=⟨_,rfl⟩
     replace H:(if 0≤ (ji16) then(if (ji16)< (t212.length:Int) then(some (rd t212 (ji16),true)) else(none)) else(none))=some (r1,r2):=by first|(rw [hji16] at H;exact H)|(simp only [hji16] at H ⊢;exact H)
     (try rw [hji16] at A14)
     have hji16w:(IntKind.i64.wrap ((t212.length:Int) - 2))=ji16:=(i64_w _).trans hji16
     by_cases c17: 0≤ (ji16)
     case neg=>rw [if_neg c17] at H;exact absurd H (by simp)
     rw [if_pos c17] at H
     have c17b0:decide (0≤ (ji16))=true:=decide_eq_true c17
     clear c17
     by_cases c18:(ji16)< (t212.length:Int)
     case neg=>rw [if_neg c18] at H;exact absurd H (by simp)
     rw [if_pos c18] at H
     have c18b0:decide ((ji16)< (t212.length:Int))=true:=decide_eq_true c18
     clear c18
     simp only [Option.some.injEq,Prod.mk.injEq] at H
     obtain⟨rfl,rfl⟩:=H
     go_wp2_with (first|((with_reducible refine gate_callee (f:=65) rfl ?_);refine goesL_ (some 25) rfl rfl Try.func65 (by kernel_rfl) rfl #[.slice A0 l0.length c0,.int .i64 a1,.int .i64 a2] rfl zq2 ?_;(with_reducible refine(impl_onTree.calls kj3 _ _ l0 a1 a2 t212 true _ ?side1 ?side2 A14.out).mono ?_);(case side1=>exact zcc ((Kd.C_below HR0.out HB.out)));(case side2=>exact HC0.out);rintro e w19 ⟨v214,rfl,ho0,hb⟩;refine⟨_,rfl,?_⟩;have HO215:=Aside0.mk (Kd.R_lower ho0 (below_size (by exact zk1 HB)));replace HB:=Aside0.mk (below_step (by exact zk1 HB) hb);(try clear hb);(try clear hb2);(try clear hk);(try clear hi);(try clear ho0);obtain⟨Ao20,co20,eo20⟩:=Kd.R_slice HO215.out;subst eo20;have p216: 0≤ ((ji16):Int):=of_decide_eq_true zq1;have q216:(ji16)< (t212.length:Int):=of_decide_eq_true zq1;obtain⟨ad216,e216,hx216_0⟩:=Kd.at_int (Kd.R_reads' HO215.out).2.2 (ji16) p216 q216;cases e216;replace p216:=eq_true p216;replace q216:=eq_true q216))
     go_ret2
     exact⟨by first|rfl|(simp [errW_none,errW_some]<;>rfl)|(simp only [← hji16];first|rfl|(simp [errW_none,errW_some]<;>rfl))|(simp [*,errW_none,errW_some]<;>rfl),by exact zk1 HB⟩
    ·replace c15:=Bool.eq_false_iff.mpr c15
     subst c15
     have H1:(some (0,false))=some (r1,r2):=by rw [if_neg (show ¬ (false=true) by decide)] at H;exact H
     clear H
     have H:=H1
     clear H1
     simp only [Option.some.injEq,Prod.mk.injEq] at H
     obtain⟨rfl,rfl⟩:=H
     go_wp2_with (first|((with_reducible refine gate_callee (f:=65) rfl ?_);refine goesL_ (some 25) rfl rfl Try.func65 (by kernel_rfl) rfl #[.slice A0 l0.length c0,.int .i64 a1,.int .i64 a2] rfl zq2 ?_;(with_reducible refine(impl_onTree.calls kj3 _ _ l0 a1 a2 t212 false _ ?side1 ?side2 A14.out).mono ?_);(case side1=>exact zcc ((Kd.C_below HR0.out HB.out)));(case side2=>exact HC0.out);rintro e w21 ⟨v214,rfl,ho0,hb⟩;refine⟨_,rfl,?_⟩;have HO215:=Aside0.mk (Kd.R_lower ho0 (below_size (by exact zk1 HB)));replace HB:=Aside0.mk (below_step (by exact zk1 HB) hb);(try clear hb);(try clear hb2);(try clear hk);(try clear hi);(try clear ho0)))
     go_ret2
     exact⟨by first|rfl|(simp [errW_none,errW_some]<;>rfl)|(simp [*,errW_none,errW_some]<;>rfl),by exact zk1 HB⟩
def spec_OnTree.f (k:Nat) (l0:List Int) (a1:Int) (a2:Int):Option (List Int × Bool):=(spec_l10Two.f k l0 a1 a2).bind fun t231=>(if t231=true then((spec_l10On.f k l0 a1 a2).bind fun bt232=>(some (bt232.1,bt232.2))) else(some (([] :List Int),false)))
set_option maxHeartbeats 8000000 in
set_option maxRecDepth 100000 in
theorem spec_OnTree.calls (k:Nat) (A0:Option Addr) (c0:Nat) (l0:List Int) (a1:Int) (a2:Int) (r1:List Int) (r2:Bool) (w:World) (hr0:Kd.C (Kd.int .i64) w A0 l0.length l0) (hc0:l0.length≤c0) (h:spec_OnTree.f k l0 a1 a2=some (r1,r2)):
  Calls Try.prog 19 #[.slice A0 l0.length c0,.int .i64 a1,.int .i64 a2] w fun e w'=> ∃ v0_:Value,e= .returned (.tuple #[v0_,.bool r2])∧Kd.R (Kd.int .i64) 3 w' w.heap.size (fun _=>True) v0_ r1∧Below w.heap.size w w':=by
 have HR0:=Aside0.mk hr0
 have HC0:=Aside0.mk hc0
 clear hr0 hc0
 have HB:=Aside0.mk (Below.refl w.heap.size w)
 have H:((spec_l10Two.f k l0 a1 a2).bind fun t231=>(if t231=true then((spec_l10On.f k l0 a1 a2).bind fun bt232=>(some (bt232.1,bt232.2))) else(some (([] :List Int),false))))=some (r1,r2):=h
 clear h
 replace H:=Option.bind_eq_some_iff.mp H
 obtain⟨t231,A40,H⟩:=H
 replace H:(if t231=true then((spec_l10On.f k l0 a1 a2).bind fun bt232=>(some (bt232.1,bt232.2))) else(some (([] :List Int),false)))=some (r1,r2):=H
 have A4:=Aside0.mk A40
 clear A40
 by_cases c5:t231=true
 ·subst c5
  have H1:((spec_l10On.f k l0 a1 a2).bind fun bt232=>(some (bt232.1,bt232.2)))=some (r1,r2):=by rw [if_pos rfl] at H;exact H
  clear H
  have H:=H1
  clear H1
  replace H:=Option.bind_eq_some_iff.mp H
  obtain⟨⟨t232,t233⟩,A60,H⟩:=H
  replace H:(some (t232,t233))=some (r1,r2):=H
  have A6:=Aside0.mk A60
  clear A60
  simp only [Option.some.injEq,Prod.mk.injEq] at H
  obtain⟨rfl,rfl⟩:=H
  go_enter Try.func19,Try.ntmps19
  go_wp2_with (first|((with_reducible refine gate_callee (f:=62) rfl ?_);refine goesL_ (some 11) rfl rfl Try.func62 (by kernel_rfl) rfl #[.slice A0 l0.length c0,.int .i64 a1,.int .i64 a2] rfl zq2 ?_;(with_reducible refine(spec_l10Two.calls k _ _ l0 a1 a2 true _ ?side1 ?side2 A4.out).mono ?_);(case side1=>exact zcc (HR0.out));(case side2=>exact HC0.out);rintro e w' ⟨rfl,⟨nd,rfl⟩⟩;refine⟨_,rfl,?_⟩)|((with_reducible refine gate_callee (f:=63) rfl ?_);refine goesL_ (some 16) rfl rfl Try.func63 (by kernel_rfl) rfl #[.slice A0 l0.length c0,.int .i64 a1,.int .i64 a2] rfl zq2 ?_;(with_reducible refine(spec_l10On.calls k _ _ l0 a1 a2 t232 t233 _ ?side1 ?side2 A6.out).mono ?_);(case side1=>exact zcc (HR0.out));(case side2=>exact HC0.out);rintro e w7 ⟨v234,rfl,ho0,hb⟩;refine⟨_,rfl,?_⟩;have HO235:=Aside0.mk (Kd.R_lower ho0 (below_size (by exact zk1 HB)));replace HB:=Aside0.mk (below_step (by exact zk1 HB) hb);(try clear hb);(try clear hb2);(try clear hk);(try clear hi);(try clear ho0)))
  go_ret2
  exact⟨_,by first|rfl|(simp [errW_none,errW_some]<;>rfl)|(simp [*,errW_none,errW_some]<;>rfl),by(with_reducible repeat(first|apply Kd.R_alloc|apply Kd.R_drewN|apply Kd.R_drew));exact HO235.out,by exact zk1 HB⟩
 ·replace c5:=Bool.eq_false_iff.mpr c5
  subst c5
  have H1:(some (([] :List Int),false))=some (r1,r2):=by rw [if_neg (show ¬ (false=true) by decide)] at H;exact H
  clear H
  have H:=H1
  clear H1
  simp only [Option.some.injEq,Prod.mk.injEq] at H
  obtain⟨rfl,rfl⟩:=H
  go_enter Try.func19,Try.ntmps19
  go_wp2_with (first|((with_reducible refine gate_callee (f:=62) rfl ?_);refine goesL_ (some 11) rfl rfl Try.func62 (by kernel_rfl) rfl #[.slice A0 l0.length c0,.int .i64 a1,.int .i64 a2] rfl zq2 ?_;(with_reducible refine(spec_l10Two.calls k _ _ l0 a1 a2 false _ ?side1 ?side2 A4.out).mono ?_);(case side1=>exact zcc (HR0.out));(case side2=>exact HC0.out);rintro e w' ⟨rfl,⟨nd,rfl⟩⟩;refine⟨_,rfl,?_⟩))
  go_ret2
  exact⟨_,by first|rfl|(simp [errW_none,errW_some]<;>rfl)|(simp [*,errW_none,errW_some]<;>rfl),by first|exact Kd.R_nil _ _ _ _ _|exact Kd.N_nil _ _ _ _ _|exact Kd.V_nil _ _ _ _ _|exact Kd.Q_nil _ _ _ _ _|exact Kd.S_nil _ _ _ _ _,by exact zk1 HB⟩
def impl_OnTree.f (k:Nat) (l0:List Int) (a1:Int) (a2:Int):Option (List Int × Bool):=(impl_goodTree.f k l0 (([a1,a2] :List Int))).bind fun t239=>(if t239=true then((impl_onTree.f k l0 a1 a2).bind fun bt240=>(some (bt240.1,bt240.2))) else(some (([] :List Int),false)))
set_option maxHeartbeats 8000000 in
set_option maxRecDepth 100000 in
theorem impl_OnTree.calls (k:Nat) (A0:Option Addr) (c0:Nat) (l0:List Int) (a1:Int) (a2:Int) (r1:List Int) (r2:Bool) (w:World) (hr0:Kd.C (Kd.int .i64) w A0 l0.length l0) (hc0:l0.length≤c0) (h:impl_OnTree.f k l0 a1 a2=some (r1,r2)):
  Calls Try.prog 20 #[.slice A0 l0.length c0,.int .i64 a1,.int .i64 a2] w fun e w'=> ∃ v0_:Value,e= .returned (.tuple #[v0_,.bool r2])∧Kd.R (Kd.int .i64) 3 w' w.heap.size (fun _=>True) v0_ r1∧Below w.heap.size w w':=by
 have HR0:=Aside0.mk hr0
 have HC0:=Aside0.mk hc0
 clear hr0 hc0
 have HB:=Aside0.mk (Below.refl w.heap.size w)
 have H:((impl_goodTree.f k l0 (([a1,a2] :List Int))).bind fun t239=>(if t239=true then((impl_onTree.f k l0 a1 a2).bind fun bt240=>(some (bt240.1,bt240.2))) else(some (([] :List Int),false))))=some (r1,r2):=h
 clear h
 obtain⟨y236,hy236⟩ :∃ y_:List Int,y_= (([a1,a2] :List Int)):=⟨_,rfl⟩
 replace H:((impl_goodTree.f k l0 y236).bind fun t239=>(if t239=true then((impl_onTree.f k l0 a1 a2).bind fun bt240=>(some (bt240.1,bt240.2))) else(some (([] :List Int),false))))=some (r1,r2):=zfh hy236 H
 have Ny236:=Aside0.mk hy236
 clear hy236
 replace H:=Option.bind_eq_some_iff.mp H
 obtain⟨t239,A40,H⟩:=H
 replace H:(if t239=true then((impl_onTree.f k l0 a1 a2).bind fun bt240=>(some (bt240.1,bt240.2))) else(some (([] :List Int),false)))=some (r1,r2):=H
 have A4:=Aside0.mk A40
 clear A40
 by_cases c5:t239=true
 ·subst c5
  have H1:((impl_onTree.f k l0 a1 a2).bind fun bt240=>(some (bt240.1,bt240.2)))=some (r1,r2):=by rw [if_pos rfl] at H;exact H
  clear H
  have H:=H1
  clear H1
  replace H:=Option.bind_eq_some_iff.mp H
  obtain⟨⟨t240,t241⟩,A60,H⟩:=H
  replace H:(some (t240,t241))=some (r1,r2):=H
  have A6:=Aside0.mk A60
  clear A60
  simp only [Option.some.injEq,Prod.mk.injEq] at H
  obtain⟨rfl,rfl⟩:=H
  go_enter Try.func20,Try.ntmps20
  go_wp2_with (first|((with_reducible refine gate_dst (N:=11) rfl ?_);refine Kd.R_lit (Kd.int .i64) _ 3 ?hg (N:=11) ?hd (xs:=([a1,a2] :List Int)) (inner:= [.int .i64 a1,.int .i64 a2]) (ok:=fun _=>True) (okp:=fun _=>True) ?hr ?hp (fun _ hk=>hk) trivial (Below.refl _ _) (Nat.le_refl _) (by simp) ?_;(case hd=>rfl);(case hg=>rfl);(case hr=>first|(go_simp;done)|(go_simp;rfl));(case hp=>exact(Reps.one (show Kd.M (Kd.int .i64) _ _ _ a1 [.int .i64 a1] from rfl) (Reps.one (show Kd.M (Kd.int .i64) _ _ _ a2 [.int .i64 a2] from rfl) (Reps.none _ _))));intro v237 w7 ho8 hb hg_ hnew_;clear hg_ hnew_;(first|rw [← Ny236.out] at ho8|(simp only [Int.reduceToNat] at ho8;rw [← Ny236.out] at ho8));have HO238:=Aside0.mk (Kd.R_lower ho8 (below_size (by exact zk1 HB)));replace HB:=Aside0.mk (below_step (by exact zk1 HB) hb);clear hb ho8;obtain⟨Ao9,co9,eo9⟩:=Kd.R_slice HO238.out;subst eo9)|((with_reducible refine gate_callee (f:=64) rfl ?_);refine goesL_ (some 12) rfl rfl Try.func64 (by kernel_rfl) rfl #[.slice A0 l0.length c0,.slice Ao9 y236.length co9] rfl zq2 ?_;(with_reducible refine(impl_goodTree.calls k _ _ l0 _ _ y236 true _ ?side1 ?side2 ?side3 ?side4 A4.out).mono ?_);(case side1=>exact zcc ((Kd.C_below HR0.out HB.out)));(case side2=>exact HC0.out);(case side3=>exact zcc ((Kd.R_reads' HO238.out).2.2));(case side4=>exact(Kd.R_reads' HO238.out).2.1);rintro e w' ⟨rfl,⟨nd,rfl⟩⟩;refine⟨_,rfl,?_⟩)|((with_reducible refine gate_callee (f:=65) rfl ?_);refine goesL_ (some 17) rfl rfl Try.func65 (by kernel_rfl) rfl #[.slice A0 l0.length c0,.int .i64 a1,.int .i64 a2] rfl zq2 ?_;(with_reducible refine(impl_onTree.calls k _ _ l0 a1 a2 t240 t241 _ ?side1 ?side2 A6.out).mono ?_);(case side1=>repeat(first|exact(Kd.C_below HR0.out (by exact zk1 HB))|(with_reducible refine Kd.C_alloc ?_ _)|(with_reducible refine Kd.C_drewN ?_ _)|(with_reducible refine Kd.C_drew ?_)));(case side2=>exact HC0.out);rintro e w10 ⟨v242,rfl,ho0,hb⟩;refine⟨_,rfl,?_⟩;have HO243:=Aside0.mk (Kd.R_lower (Kd.R_new' ho0 (Kd.R_lt (zq4 HO238))) (below_size (by exact zk1 HB)));replace HO238:=Aside0.mk (Kd.R_elder' (zq4 HO238) (Kd.R_base ho0) hb);replace HB:=Aside0.mk (below_step (by exact zk1 HB) hb);(try clear hb);(try clear hb2);(try clear hk);(try clear hi);(try clear ho0)))
  go_ret2
  exact⟨_,by first|rfl|(simp [errW_none,errW_some]<;>rfl)|(simp [*,errW_none,errW_some]<;>rfl),by(with_reducible repeat(first|apply Kd.R_alloc|apply Kd.R_drewN|apply Kd.R_drew));exact Kd.R_mono HO243.out (fun _ hk=>trivial),by exact zk1 HB⟩
 ·replace c5:=Bool.eq_false_iff.mpr c5
  subst c5
  have H1:(some (([] :List Int),false))=some (r1,r2):=by rw [if_neg (show ¬ (false=true) by decide)] at H;exact H
  clear H
  have H:=H1
  clear H1
  simp only [Option.some.injEq,Prod.mk.injEq] at H
  obtain⟨rfl,rfl⟩:=H
  go_enter Try.func20,Try.ntmps20
  go_wp2_with (first|((with_reducible refine gate_dst (N:=11) rfl ?_);refine Kd.R_lit (Kd.int .i64) _ 3 ?hg (N:=11) ?hd (xs:=([a1,a2] :List Int)) (inner:= [.int .i64 a1,.int .i64 a2]) (ok:=fun _=>True) (okp:=fun _=>True) ?hr ?hp (fun _ hk=>hk) trivial (Below.refl _ _) (Nat.le_refl _) (by simp) ?_;(case hd=>rfl);(case hg=>rfl);(case hr=>first|(go_simp;done)|(go_simp;rfl));(case hp=>exact(Reps.one (show Kd.M (Kd.int .i64) _ _ _ a1 [.int .i64 a1] from rfl) (Reps.one (show Kd.M (Kd.int .i64) _ _ _ a2 [.int .i64 a2] from rfl) (Reps.none _ _))));intro v237 w11 ho12 hb hg_ hnew_;clear hg_ hnew_;(first|rw [← Ny236.out] at ho12|(simp only [Int.reduceToNat] at ho12;rw [← Ny236.out] at ho12));have HO238:=Aside0.mk (Kd.R_lower ho12 (below_size (by exact zk1 HB)));replace HB:=Aside0.mk (below_step (by exact zk1 HB) hb);clear hb ho12;obtain⟨Ao13,co13,eo13⟩:=Kd.R_slice HO238.out;subst eo13)|((with_reducible refine gate_callee (f:=64) rfl ?_);refine goesL_ (some 12) rfl rfl Try.func64 (by kernel_rfl) rfl #[.slice A0 l0.length c0,.slice Ao13 y236.length co13] rfl zq2 ?_;(with_reducible refine(impl_goodTree.calls k _ _ l0 _ _ y236 false _ ?side1 ?side2 ?side3 ?side4 A4.out).mono ?_);(case side1=>exact zcc ((Kd.C_below HR0.out HB.out)));(case side2=>exact HC0.out);(case side3=>exact zcc ((Kd.R_reads' HO238.out).2.2));(case side4=>exact(Kd.R_reads' HO238.out).2.1);rintro e w' ⟨rfl,⟨nd,rfl⟩⟩;refine⟨_,rfl,?_⟩))
  go_ret2
  exact⟨_,by first|rfl|(simp [errW_none,errW_some]<;>rfl)|(simp [*,errW_none,errW_some]<;>rfl),by first|exact Kd.R_nil _ _ _ _ _|exact Kd.N_nil _ _ _ _ _|exact Kd.V_nil _ _ _ _ _|exact Kd.Q_nil _ _ _ _ _|exact Kd.S_nil _ _ _ _ _,by exact zk1 HB⟩
def spec_l1Put.l0:Nat→List Int→Int→Int→Option (List Int)
 | 0,_,_,_=>none
 |k+1,x0,x1,x5=>if x5< (x0.length:Int) then(if 0≤x5 then(if (rd x0 x5)<x1 then(spec_l1Put.l0 k x0 x1 (wrap64 (x5+1))) else(if (rd x0 x5)=x1 then(some x0) else((some (([] :List Int):List Int)).bind fun y354=>(if x5≤ (x0.length:Int) then((some (x0.take (x5:Int).toNat:List Int)).bind fun y357=>(if y354.length+y357.length< 17592186044416 then((some (y354++y357:List Int)).bind fun y361=>(if y361.length< 17592186044416 then((some (y361++ [x1] :List Int)).bind fun y364=>((some (x0.drop (x5:Int).toNat:List Int)).bind fun y367=>(if y364.length+y367.length< 17592186044416 then(some (y364++y367)) else(none)))) else(none))) else(none))) else(none))))) else(none)) else((some (([] :List Int):List Int)).bind fun y374=>(if 0≤x5 then(if x5≤ (x0.length:Int) then((some (x0.take (x5:Int).toNat:List Int)).bind fun y377=>(if y374.length+y377.length< 17592186044416 then((some (y374++y377:List Int)).bind fun y381=>(if y381.length< 17592186044416 then((some (y381++ [x1] :List Int)).bind fun y384=>((some (x0.drop (x5:Int).toNat:List Int)).bind fun y387=>(if y384.length+y387.length< 17592186044416 then(some (y384++y387)) else(none)))) else(none))) else(none))) else(none)) else(none)))
def spec_l1Put.f (k:Nat) (l0:List Int) (a1:Int):Option (List Int):=spec_l1Put.l0 k l0 a1 0
theorem zk3 {q p:Prop} (b:Aside0 q) (h:q→p:=by intro z;repeat(first|(with_reducible first|exact z|apply Kept.alloc|apply Kept.drewN|apply Kept.drew)|exact z)):p:=h b.out
set_option maxHeartbeats 8000000 in
set_option maxRecDepth 100000 in
theorem spec_l1Put.calls (k:Nat) (P0_:Nat→Prop) (u9000_:Value) (l0:List Int) (a1:Int) (r:List Int) (w0 w:World) (hB:Below w0.heap.size w0 w) (ho0:Kd.R (Kd.int .i64) 3 w w0.heap.size P0_ u9000_ l0) (h:spec_l1Put.f k l0 a1=some r):
  Calls Try.prog 105 #[u9000_,.int .i64 a1] w fun e w'=> ∃ v0_:Value,e= .returned (v0_)∧Kd.R (Kd.int .i64) 3 w' w0.heap.size (fun k_=>(P0_ k_∨w.heap.size≤k_)) v0_ r∧Below w0.heap.size w0 w'∧Kept w w' (fun k_=>P0_ k_):=by
 have HO0:=Aside0.mk (show Kd.R (Kd.int .i64) 3 w w0.heap.size (fun k_=>(P0_ k_∨w.heap.size≤k_)) u9000_ l0 from Kd.R_mono ho0 (fun k_ hk=>(.inl hk)))
 have HK:=Aside0.mk (Kept.refl w (fun k_=>P0_ k_))
 have HW0:=Aside0.mk hB.size
 have HB:=Aside0.mk hB
 clear hB
 have H:(spec_l1Put.l0 k l0 a1 0)=some r:=h
 clear h
 have H':=Aside0.mk H
 clear H
 go_enter Try.func105,Try.ntmps105
 go_wp2
 go_loopg [5] k (fun kq v5 w'=> ∃ (x5_1:Int),v5= .int .i64 x5_1∧Aside0 (spec_l1Put.l0 kq l0 a1 x5_1=some r)∧Aside0 (kq≤k)∧Aside0 (Kd.R (Kd.int .i64) 3 w' w0.heap.size (fun k_=>(P0_ k_∨w.heap.size≤k_)) u9000_ l0)∧Aside0 (Kept w w' (fun k_=>P0_ k_))∧Aside0 (Below w0.heap.size w0 w'))
 case atStart=>exact⟨(0),(by first|rfl|(simp;done)|(simp [*];done)),H',⟨Nat.le_refl _⟩,⟨by(with_reducible repeat(first|apply Kd.R_alloc|apply Kd.R_drewN|apply Kd.R_drew));exact HO0.out⟩,⟨by exact zk3 HK⟩,⟨by exact zk1 HB⟩⟩
 case round=>
  clear H'
  try clear c1
  try clear p2
  obtain⟨x5_1,rfl,HA,HK1,HO_0,HK,HB⟩:=hrel
  cases gk with
  |zero=>exact absurd HA.out (by simp [spec_l1Put.l0])
  |succ k1=>
   have H:=HA.out
   clear HA
   simp only [spec_l1Put.l0] at H
   by_cases c3:x5_1< (l0.length:Int)
   ·rw [if_pos c3] at H
    have c3b0:decide (x5_1< (l0.length:Int))=true:=decide_eq_true c3
    clear c3
    by_cases c4: 0≤x5_1
    case neg=>rw [if_neg c4] at H;exact absurd H (by simp)
    rw [if_pos c4] at H
    have c4b0:decide (0≤x5_1)=true:=decide_eq_true c4
    clear c4
    by_cases c5:(rd l0 x5_1)<a1
    ·rw [if_pos c5] at H
     have c5b0:decide ((rd l0 x5_1)<a1)=true:=decide_eq_true c5
     clear c5
     have H':=Aside0.mk H
     clear H
     obtain⟨Ao6,co6,eo6⟩:=Kd.R_slice HO_0.out
     subst eo6
     have p352: 0≤ (x5_1:Int):=of_decide_eq_true zq1
     have q352:x5_1< (l0.length:Int):=of_decide_eq_true zq1
     obtain⟨ad352,e352,hx352_0⟩:=Kd.at_int (Kd.R_reads' HO_0.out).2.2 x5_1 p352 q352
     cases e352
     replace p352:=eq_true p352
     replace q352:=eq_true q352
     go_wp2
     go_roundg k1
     case measure=>have:=HK1.out;omega
     case rel=>exact⟨(wrap64 (x5_1+1)),(by first|rfl|(simp;done)|(simp [*];done)),H',⟨by have:=HK1.out;omega⟩,⟨by(with_reducible repeat(first|apply Kd.R_alloc|apply Kd.R_drewN|apply Kd.R_drew));exact HO_0.out⟩,⟨by exact zk3 HK⟩,⟨by exact zk1 HB⟩⟩
    ·rw [if_neg c5] at H
     have c5b0:decide ((rd l0 x5_1)<a1)=false:=decide_eq_false c5
     clear c5
     by_cases c7:(rd l0 x5_1)=a1
     ·rw [if_pos c7] at H
      have c7b0:((rd l0 x5_1)==a1)=true:=beq_iff_eq.mpr c7
      have c7b1:((rd l0 x5_1) !=a1)=false:=bne_eq_false_iff_eq.mpr c7
      clear c7
      obtain rfl:=Option.some.inj H
      obtain⟨Ao8,co8,eo8⟩:=Kd.R_slice HO_0.out
      subst eo8
      have p352: 0≤ (x5_1:Int):=of_decide_eq_true zq1
      have q352:x5_1< (l0.length:Int):=of_decide_eq_true zq1
      obtain⟨ad352,e352,hx352_0⟩:=Kd.at_int (Kd.R_reads' HO_0.out).2.2 x5_1 p352 q352
      cases e352
      replace p352:=eq_true p352
      replace q352:=eq_true q352
      have p353: 0≤ (x5_1:Int):=of_decide_eq_true zq1
      have q353:x5_1< (l0.length:Int):=of_decide_eq_true zq1
      obtain⟨ad353,e353,hx353_0⟩:=Kd.at_int (Kd.R_reads' HO_0.out).2.2 x5_1 p353 q353
      obtain rfl:ad352=ad353:=(by injection e353)
      replace p353:=eq_true p353
      replace q353:=eq_true q353
      go_wp2
      go_ret
      exact⟨_,by first|rfl|(simp [errW_none,errW_some]<;>rfl)|(simp [*,errW_none,errW_some]<;>rfl),by(with_reducible repeat(first|apply Kd.R_alloc|apply Kd.R_drewN|apply Kd.R_drew));exact HO_0.out,by exact zk1 HB,by exact zk3 HK⟩
     ·rw [if_neg c7] at H
      have c7b0:((rd l0 x5_1)==a1)=false:=beq_eq_false_iff_ne.mpr c7
      have c7b1:((rd l0 x5_1) !=a1)=true:=bne_iff_ne.mpr c7
      obtain⟨y354,hy354⟩ :∃ y_:List Int,y_= (([] :List Int)):=⟨_,rfl⟩
      replace H:(if x5_1≤ (l0.length:Int) then((some (l0.take (x5_1:Int).toNat:List Int)).bind fun y357=>(if y354.length+y357.length< 17592186044416 then((some (y354++y357:List Int)).bind fun y361=>(if y361.length< 17592186044416 then((some (y361++ [a1] :List Int)).bind fun y364=>((some (l0.drop (x5_1:Int).toNat:List Int)).bind fun y367=>(if y364.length+y367.length< 17592186044416 then(some (y364++y367)) else(none)))) else(none))) else(none))) else(none))=some r:=zfh hy354 H
      have Ny354:=Aside0.mk hy354
      clear hy354
      have c9b0:=eq_true (of_decide_eq_true zq1: 0≤x5_1)
      by_cases c10:x5_1≤ (l0.length:Int)
      case neg=>rw [if_neg c10] at H;exact absurd H (by simp)
      rw [if_pos c10] at H
      have c10b0:=eq_true c10
      have c10b1:decide (x5_1≤ (l0.length:Int))=true:=decide_eq_true c10
      clear c10
      obtain⟨y357,hy357⟩ :∃ y_:List Int,y_= (l0.take (x5_1:Int).toNat):=⟨_,rfl⟩
      replace H:(if y354.length+y357.length< 17592186044416 then((some (y354++y357:List Int)).bind fun y361=>(if y361.length< 17592186044416 then((some (y361++ [a1] :List Int)).bind fun y364=>((some (l0.drop (x5_1:Int).toNat:List Int)).bind fun y367=>(if y364.length+y367.length< 17592186044416 then(some (y364++y367)) else(none)))) else(none))) else(none))=some r:=zfh hy357 H
      have Ny357:=Aside0.mk hy357
      clear hy357
      by_cases c11:y354.length+y357.length< 17592186044416
      case neg=>rw [if_neg c11] at H;exact absurd H (by simp)
      rw [if_pos c11] at H
      have LMc11:=Aside0.mk c11
      clear c11
      obtain⟨y361,hy361⟩ :∃ y_:List Int,y_= (y354++y357):=⟨_,rfl⟩
      replace H:(if y361.length< 17592186044416 then((some (y361++ [a1] :List Int)).bind fun y364=>((some (l0.drop (x5_1:Int).toNat:List Int)).bind fun y367=>(if y364.length+y367.length< 17592186044416 then(some (y364++y367)) else(none)))) else(none))=some r:=zfh hy361 H
      have Ny361:=Aside0.mk hy361
      clear hy361
      by_cases c12:y361.length< 17592186044416
      case neg=>rw [if_neg c12] at H;exact absurd H (by simp)
      rw [if_pos c12] at H
      have LMc12:=Aside0.mk c12
      clear c12
      obtain⟨y364,hy364⟩ :∃ y_:List Int,y_= (y361++ [a1]):=⟨_,rfl⟩
      replace H:((some (l0.drop (x5_1:Int).toNat:List Int)).bind fun y367=>(if y364.length+y367.length< 17592186044416 then(some (y364++y367)) else(none)))=some r:=zfh hy364 H
      have Ny364:=Aside0.mk hy364
      clear hy364
      have c13b0:=eq_true (of_decide_eq_true zq1: 0≤x5_1)
      have c14b0:=eq_true (of_decide_eq_true zq1:x5_1≤ (l0.length:Int))
      obtain⟨y367,hy367⟩ :∃ y_:List Int,y_= (l0.drop (x5_1:Int).toNat):=⟨_,rfl⟩
      replace H:(if y364.length+y367.length< 17592186044416 then(some (y364++y367)) else(none))=some r:=zfh hy367 H
      have Ny367:=Aside0.mk hy367
      clear hy367
      by_cases c15:y364.length+y367.length< 17592186044416
      case neg=>rw [if_neg c15] at H;exact absurd H (by simp)
      rw [if_pos c15] at H
      have LMc15:=Aside0.mk c15
      clear c15
      obtain⟨y371,hy371⟩ :∃ y_:List Int,y_= (y364++y367):=⟨_,rfl⟩
      replace H:(some y371)=some r:=zfh hy371 H
      have Ny371:=Aside0.mk hy371
      clear hy371
      obtain rfl:=Option.some.inj H
      obtain⟨Ao16,co16,eo16⟩:=Kd.R_slice HO_0.out
      subst eo16
      have p352: 0≤ (x5_1:Int):=of_decide_eq_true zq1
      have q352:x5_1< (l0.length:Int):=of_decide_eq_true zq1
      obtain⟨ad352,e352,hx352_0⟩:=Kd.at_int (Kd.R_reads' HO_0.out).2.2 x5_1 p352 q352
      cases e352
      replace p352:=eq_true p352
      replace q352:=eq_true q352
      have p353: 0≤ (x5_1:Int):=of_decide_eq_true zq1
      have q353:x5_1< (l0.length:Int):=of_decide_eq_true zq1
      obtain⟨ad353,e353,hx353_0⟩:=Kd.at_int (Kd.R_reads' HO_0.out).2.2 x5_1 p353 q353
      obtain rfl:ad352=ad353:=(by injection e353)
      replace p353:=eq_true p353
      replace q353:=eq_true q353
      go_wp2_with (first|((with_reducible refine gate_dst (N:=34) rfl ?_);refine Kd.R_lit (Kd.int .i64) _ 3 ?hg (N:=34) ?hd (xs:=([] :List Int)) (inner:= []) (ok:=fun _=>True) (okp:=fun _=>True) ?hr ?hp (fun _ hk=>hk) trivial (Below.refl _ _) (Nat.le_refl _) (by simp) ?_;(case hd=>rfl);(case hg=>rfl);(case hr=>first|(go_simp;done)|(go_simp;rfl));(case hp=>exact(Reps.none _ _));intro v355 w17 ho18 hb hg_ hnew_;clear hg_ hnew_;(first|rw [← Ny354.out] at ho18|(simp only [Int.reduceToNat] at ho18;rw [← Ny354.out] at ho18));have HO356:=Aside0.mk (Kd.R_lower (Kd.R_new' (Kd.R_newM (M:=fun k_=>(P0_ k_∨w.heap.size≤k_)) ho18 (by first|exact HK.out.1|exact(show Kept w _ (fun k_=>P0_ k_) from by exact zk3 HK).1) (fun k_ h_=> .inr h_)) (Kd.R_lt (zq4 HO_0))) (below_size (by exact zk1 HB)));replace HO_0:=Aside0.mk (Kd.R_elder' (zq4 HO_0) (Kd.R_base ho18) hb);replace HK:=Aside0.mk (Kept.below (S:=(fun k_=>P0_ k_)) (by exact zk3 HK) hb);replace HB:=Aside0.mk (below_step (by exact zk1 HB) hb);clear hb ho18;have q19:(x5_1:Int)≤ ((l0.length:Int):Int):=of_decide_eq_true zq1;obtain⟨i019,hi019,_,hsz19,_⟩:=info_parts info3;have hroom19:l0.length≤co16:=(Kd.R_reads' HO_0.out).2.1;have hC19:Kd.C (Kd.int .i64) _ (some ad352) l0.length l0:=(Kd.R_reads' HO_0.out).2.2;have hcut19:=cut_to (P:=Try.prog) 22 3 .i64 Try.underlying22 hi019 (some ad352) l0.length co16 x5_1 (of_decide_eq_true zq1) q19 hroom19;have hr19:=Kd.C_take (m:=(x5_1:Int).toNat) hC19 (by omega);have hy19:y357.length= (x5_1:Int).toNat:=(by rw [Ny357.out,List.length_take];omega);rw [← Ny357.out] at hr19;rw [← hy19] at hcut19;have HR360:=Aside0.mk hr19;have HC360:=Aside0.mk (show y357.length≤co16 from by omega);clear hr19 hC19 hroom19 hi019 hsz19;have KY19:=Aside0.mk hy19;clear hy19;have KL19:=Aside0.mk (show (x5_1:Int).toNat≤l0.length from by omega);replace q19:=eq_true q19)|((with_reducible refine gate_builtin (b:= .append) (xs:= #[.tmp 34,.tmp 37]) rfl ?_);at_builtin;refine Kd.R_append_rows (Kd.int .i64) (w0:=w0) w0.heap.size rfl (.tmp 34) (.tmp 37) 22 3 (.int .i64 0) 8 rfl Try.underlying22 info3 rfl (by decide) (by omega) v355 y354 y357 _ _ _ (fun k_=>(P0_ k_∨w.heap.size≤k_)∧some k_≠ (.slice (some ad352) l0.length co16:Value).ownBlock) (fun _=>False) rfl rfl ?aO ?aR (fun _ _ h=>h) (fun _ h=>h.elim) ?aF ?aB ?aS ?aL ?_;(case aR=>repeat(first|exact(by repeat(first|(with_reducible exact HR360.out)|(with_reducible refine Kd.C_alloc ?_ _)|(with_reducible refine Kd.C_drewN ?_ _)|(with_reducible refine Kd.C_drew ?_)|exact HR360.out))|(with_reducible refine Kd.C_alloc ?_ _)|(with_reducible refine Kd.C_drewN ?_ _)|(with_reducible refine Kd.C_drew ?_)));(case aB=>exact(by exact zk1 HB));(case aF=>exact(fun k_ hk=>⟨(.inr (Nat.le_trans (by first|exact HK.out.1|exact(show Kept w _ (fun k_=>P0_ k_) from by exact zk3 HK).1) hk)),Kd.fresh' (Kd.R_lt (zq4 HO_0)) k_ hk⟩));(case aO=>exact(by(with_reducible repeat(first|apply Kd.R_alloc|apply Kd.R_drewN|apply Kd.R_drew));exact Kd.R_mono HO356.out (fun _ hk=>⟨hk.1.1,hk.2⟩)));(case aS=>exact(below_size (by exact zk1 HB)));(case aL=>have:=LMc11.out;omega);intro v362 w20 ho hb hg hat;rw [← Ny361.out] at ho;have HO363:=Aside0.mk (ho);replace HB:=Aside0.mk (hb);replace HK:=Aside0.mk (Kept.of_grown (S:=(fun k_=>P0_ k_)) hg (by exact zk3 HK) (fun k_ e_=>(HO356.out.1 k_ e_).1.1));replace HR360:=Aside0.mk ((show Kd.C (Kd.int .i64) w20 (some ad352) y357.length y357 from by rw [Ny357.out];exact Kd.C_take (m:=(x5_1:Int).toNat) ((Kd.R_reads' (Kd.R_after (ok:=(fun k_=>(P0_ k_∨w.heap.size≤k_))) (zq4 HO_0) hg hat)).2.2) KL19.out));replace HO_0:=Aside0.mk (Kd.R_after (ok:=(fun k_=>(P0_ k_∨w.heap.size≤k_))) (zq4 HO_0) hg hat);clear HO356;clear ho hb hg hat)|((with_reducible refine gate_builtin (b:= .append) (xs:= #[.tmp 39,.tmp 41]) rfl ?_);at_builtin;refine Kd.R_append (Kd.int .i64) (w0:=w0) w0.heap.size rfl (.tmp 39) (.tmp 41) 22 3 (.int .i64 0) 8 rfl Try.underlying22 info3 rfl (by decide) (by omega) v362 y361 a1 [.int .i64 a1] (fun k_=>(P0_ k_∨w.heap.size≤k_)∧some k_≠ (.slice (some ad352) l0.length co16:Value).ownBlock) (fun _=>False) rfl rfl ?aP (fun _ hk=>hk.elim) ?aF ?aO ?aB ?aS ?aL ?_;(case aP=>exact rfl);(case aB=>exact(by exact zk1 HB));(case aF=>exact(fun k_ hk=>⟨(.inr (Nat.le_trans (by first|exact HK.out.1|exact(show Kept w _ (fun k_=>P0_ k_) from by exact zk3 HK).1) hk)),Kd.fresh' (Kd.R_lt (zq4 HO_0)) k_ hk⟩));(case aO=>exact(zq4 HO363));(case aS=>exact(below_size (by exact zk1 HB)));(case aL=>have:=LMc12.out;omega);intro v365 w21 ho hb hg hat;rw [← Ny364.out] at ho;have HO366:=Aside0.mk (ho);replace HB:=Aside0.mk (hb);replace HK:=Aside0.mk (Kept.of_grown (S:=(fun k_=>P0_ k_)) hg (by exact zk3 HK) (fun k_ e_=>(HO363.out.1 k_ e_).1));replace HR360:=Aside0.mk ((show Kd.C (Kd.int .i64) w21 (some ad352) y357.length y357 from by rw [Ny357.out];exact Kd.C_take (m:=(x5_1:Int).toNat) ((Kd.R_reads' (Kd.R_after (ok:=(fun k_=>(P0_ k_∨w.heap.size≤k_))) (zq4 HO_0) hg hat)).2.2) KL19.out));replace HO_0:=Aside0.mk (Kd.R_after (ok:=(fun k_=>(P0_ k_∨w.heap.size≤k_))) (zq4 HO_0) hg hat);clear HO363;clear ho hb hg hat;have q22:(x5_1:Int)≤ ((l0.length:Int):Int):=of_decide_eq_true zq1;obtain⟨i022,hi022,_,hsz22,_⟩:=info_parts info3;have hroom22:l0.length≤co16:=(Kd.R_reads' HO_0.out).2.1;have hC22:Kd.C (Kd.int .i64) _ (some ad352) l0.length l0:=(Kd.R_reads' HO_0.out).2.2;have q022:(0:Int)≤ (x5_1:Int):=of_decide_eq_true zq1;have hcut22:=cut_from (P:=Try.prog) 22 3 .i64 Try.underlying22 hi022 1 hsz22 (some ad352) l0.length co16 x5_1 q022 q22;have hr22:=Kd.C_drop (m:=(x5_1:Int).toNat) (c:=co16) hC22 (by omega) hroom22;obtain⟨A22,hA22⟩ :∃ A1,A1= (if co16= (x5_1:Int).toNat then(some ad352) else((some ad352):Option Addr).map (·.add ((x5_1:Int).toNat * 1))):=⟨_,rfl⟩;obtain⟨c22,hc22⟩ :∃ c1,c1=co16 - (x5_1:Int).toNat:=⟨_,rfl⟩;have hy22:y367.length=l0.length - (x5_1:Int).toNat:=(by rw [Ny367.out,List.length_drop]<;>omega);rw [show (l0).drop (x5_1:Int).toNat=y367 from Ny367.out.symm] at hr22;replace hr22:Kd.C (Kd.int .i64) _ A22 y367.length y367:=(by rw [hA22];exact hr22);rw [← hy22,← hA22,← hc22] at hcut22;have HR370:=Aside0.mk hr22;have HC370:=Aside0.mk (show y367.length≤c22 from by rw [hy22,hc22];exact Nat.sub_le_sub_right hroom22 _);clear hr22 hC22 hroom22 hi022 hsz22 hc22;have KY22:=Aside0.mk hy22;have KA22:=Aside0.mk hA22;clear hy22 hA22;have KL22:=Aside0.mk (show (x5_1:Int).toNat≤l0.length from by omega);replace q22:=eq_true q22)|((with_reducible refine gate_builtin (b:= .append) (xs:= #[.tmp 43,.tmp 46]) rfl ?_);at_builtin;refine Kd.R_append_rows (Kd.int .i64) (w0:=w0) w0.heap.size rfl (.tmp 43) (.tmp 46) 22 3 (.int .i64 0) 8 rfl Try.underlying22 info3 rfl (by decide) (by omega) v365 y364 y367 _ _ _ (fun k_=>(P0_ k_∨w.heap.size≤k_)∧some k_≠ (.slice (some ad352) l0.length co16:Value).ownBlock) (fun _=>False) rfl rfl ?aO ?aR (fun _ _ h=>h) (fun _ h=>h.elim) ?aF ?aB ?aS ?aL ?_;(case aR=>repeat(first|exact(by repeat(first|(with_reducible exact HR370.out)|(with_reducible refine Kd.C_alloc ?_ _)|(with_reducible refine Kd.C_drewN ?_ _)|(with_reducible refine Kd.C_drew ?_)|exact HR370.out))|(with_reducible refine Kd.C_alloc ?_ _)|(with_reducible refine Kd.C_drewN ?_ _)|(with_reducible refine Kd.C_drew ?_)));(case aB=>exact(by exact zk1 HB));(case aF=>exact(fun k_ hk=>⟨(.inr (Nat.le_trans (by first|exact HK.out.1|exact(show Kept w _ (fun k_=>P0_ k_) from by exact zk3 HK).1) hk)),Kd.fresh' (Kd.R_lt (zq4 HO_0)) k_ hk⟩));(case aO=>exact(zq4 HO366));(case aS=>exact(below_size (by exact zk1 HB)));(case aL=>have:=LMc15.out;omega);intro v372 w23 ho hb hg hat;rw [← Ny371.out] at ho;have HO373:=Aside0.mk (ho);replace HB:=Aside0.mk (hb);replace HK:=Aside0.mk (Kept.of_grown (S:=(fun k_=>P0_ k_)) hg (by exact zk3 HK) (fun k_ e_=>(HO366.out.1 k_ e_).1));replace HR360:=Aside0.mk ((show Kd.C (Kd.int .i64) w23 (some ad352) y357.length y357 from by rw [Ny357.out];exact Kd.C_take (m:=(x5_1:Int).toNat) ((Kd.R_reads' (Kd.R_after (ok:=(fun k_=>(P0_ k_∨w.heap.size≤k_))) (zq4 HO_0) hg hat)).2.2) KL19.out));replace HR370:=Aside0.mk ((show Kd.C (Kd.int .i64) w23 A22 y367.length y367 from by rw [Ny367.out,KA22.out];exact Kd.C_drop (m:=(x5_1:Int).toNat) (c:=co16) ((Kd.R_reads' (Kd.R_after (ok:=(fun k_=>(P0_ k_∨w.heap.size≤k_))) (zq4 HO_0) hg hat)).2.2) KL22.out ((Kd.R_reads' (Kd.R_after (ok:=(fun k_=>(P0_ k_∨w.heap.size≤k_))) (zq4 HO_0) hg hat)).2.1)));replace HO_0:=Aside0.mk (Kd.R_after (ok:=(fun k_=>(P0_ k_∨w.heap.size≤k_))) (zq4 HO_0) hg hat);clear HO366;clear ho hb hg hat))
      go_ret
      exact⟨_,by first|rfl|(simp [errW_none,errW_some]<;>rfl)|(simp [*,errW_none,errW_some]<;>rfl),by(with_reducible repeat(first|apply Kd.R_alloc|apply Kd.R_drewN|apply Kd.R_drew));exact Kd.R_mono HO373.out (fun _ hk=>hk.1),by exact zk1 HB,by exact zk3 HK⟩
   ·rw [if_neg c3] at H
    have c3b0:decide (x5_1< (l0.length:Int))=false:=decide_eq_false c3
    clear c3
    obtain⟨y374,hy374⟩ :∃ y_:List Int,y_= (([] :List Int)):=⟨_,rfl⟩
    replace H:(if 0≤x5_1 then(if x5_1≤ (l0.length:Int) then((some (l0.take (x5_1:Int).toNat:List Int)).bind fun y377=>(if y374.length+y377.length< 17592186044416 then((some (y374++y377:List Int)).bind fun y381=>(if y381.length< 17592186044416 then((some (y381++ [a1] :List Int)).bind fun y384=>((some (l0.drop (x5_1:Int).toNat:List Int)).bind fun y387=>(if y384.length+y387.length< 17592186044416 then(some (y384++y387)) else(none)))) else(none))) else(none))) else(none)) else(none))=some r:=zfh hy374 H
    have Ny374:=Aside0.mk hy374
    clear hy374
    by_cases c24: 0≤x5_1
    case neg=>rw [if_neg c24] at H;exact absurd H (by simp)
    rw [if_pos c24] at H
    have c24b0:=eq_true c24
    have c24b1:decide (0≤x5_1)=true:=decide_eq_true c24
    clear c24
    by_cases c25:x5_1≤ (l0.length:Int)
    case neg=>rw [if_neg c25] at H;exact absurd H (by simp)
    rw [if_pos c25] at H
    have c25b0:=eq_true c25
    have c25b1:decide (x5_1≤ (l0.length:Int))=true:=decide_eq_true c25
    clear c25
    obtain⟨y377,hy377⟩ :∃ y_:List Int,y_= (l0.take (x5_1:Int).toNat):=⟨_,rfl⟩
    replace H:(if y374.length+y377.length< 17592186044416 then((some (y374++y377:List Int)).bind fun y381=>(if y381.length< 17592186044416 then((some (y381++ [a1] :List Int)).bind fun y384=>((some (l0.drop (x5_1:Int).toNat:List Int)).bind fun y387=>(if y384.length+y387.length< 17592186044416 then(some (y384++y387)) else(none)))) else(none))) else(none))=some r:=zfh hy377 H
    have Ny377:=Aside0.mk hy377
    clear hy377
    by_cases c26:y374.length+y377.length< 17592186044416
    case neg=>rw [if_neg c26] at H;exact absurd H (by simp)
    rw [if_pos c26] at H
    have LMc26:=Aside0.mk c26
    clear c26
    obtain⟨y381,hy381⟩ :∃ y_:List Int,y_= (y374++y377):=⟨_,rfl⟩
    replace H:(if y381.length< 17592186044416 then((some (y381++ [a1] :List Int)).bind fun y384=>((some (l0.drop (x5_1:Int).toNat:List Int)).bind fun y387=>(if y384.length+y387.length< 17592186044416 then(some (y384++y387)) else(none)))) else(none))=some r:=zfh hy381 H
    have Ny381:=Aside0.mk hy381
    clear hy381
    by_cases c27:y381.length< 17592186044416
    case neg=>rw [if_neg c27] at H;exact absurd H (by simp)
    rw [if_pos c27] at H
    have LMc27:=Aside0.mk c27
    clear c27
    obtain⟨y384,hy384⟩ :∃ y_:List Int,y_= (y381++ [a1]):=⟨_,rfl⟩
    replace H:((some (l0.drop (x5_1:Int).toNat:List Int)).bind fun y387=>(if y384.length+y387.length< 17592186044416 then(some (y384++y387)) else(none)))=some r:=zfh hy384 H
    have Ny384:=Aside0.mk hy384
    clear hy384
    have c28b0:=eq_true (of_decide_eq_true zq1: 0≤x5_1)
    have c29b0:=eq_true (of_decide_eq_true zq1:x5_1≤ (l0.length:Int))
    obtain⟨y387,hy387⟩ :∃ y_:List Int,y_= (l0.drop (x5_1:Int).toNat):=⟨_,rfl⟩
    replace H:(if y384.length+y387.length< 17592186044416 then(some (y384++y387)) else(none))=some r:=zfh hy387 H
    have Ny387:=Aside0.mk hy387
    clear hy387
    by_cases c30:y384.length+y387.length< 17592186044416
    case neg=>rw [if_neg c30] at H;exact absurd H (by simp)
    rw [if_pos c30] at H
    have LMc30:=Aside0.mk c30
    clear c30
    obtain⟨y391,hy391⟩ :∃ y_:List Int,y_= (y384++y387):=⟨_,rfl⟩
    replace H:(some y391)=some r:=zfh hy391 H
    have Ny391:=Aside0.mk hy391
    clear hy391
    obtain rfl:=Option.some.inj H
    obtain⟨Ao31,co31,eo31⟩:=Kd.R_slice HO_0.out
    subst eo31
    go_wp2_with (first|((with_reducible refine gate_dst (N:=34) rfl ?_);refine Kd.R_lit (Kd.int .i64) _ 3 ?hg (N:=34) ?hd (xs:=([] :List Int)) (inner:= []) (ok:=fun _=>True) (okp:=fun _=>True) ?hr ?hp (fun _ hk=>hk) trivial (Below.refl _ _) (Nat.le_refl _) (by simp) ?_;(case hd=>rfl);(case hg=>rfl);(case hr=>first|(go_simp;done)|(go_simp;rfl));(case hp=>exact(Reps.none _ _));intro v375 w32 ho33 hb hg_ hnew_;clear hg_ hnew_;(first|rw [← Ny374.out] at ho33|(simp only [Int.reduceToNat] at ho33;rw [← Ny374.out] at ho33));have HO376:=Aside0.mk (Kd.R_lower (Kd.R_new' (Kd.R_newM (M:=fun k_=>(P0_ k_∨w.heap.size≤k_)) ho33 (by first|exact HK.out.1|exact(show Kept w _ (fun k_=>P0_ k_) from by exact zk3 HK).1) (fun k_ h_=> .inr h_)) (Kd.R_lt (zq4 HO_0))) (below_size (by exact zk1 HB)));replace HO_0:=Aside0.mk (Kd.R_elder' (zq4 HO_0) (Kd.R_base ho33) hb);replace HK:=Aside0.mk (Kept.below (S:=(fun k_=>P0_ k_)) (by exact zk3 HK) hb);replace HB:=Aside0.mk (below_step (by exact zk1 HB) hb);clear hb ho33;have q34:(x5_1:Int)≤ ((l0.length:Int):Int):=of_decide_eq_true zq1;obtain⟨i034,hi034,_,hsz34,_⟩:=info_parts info3;have hroom34:l0.length≤co31:=(Kd.R_reads' HO_0.out).2.1;have hC34:Kd.C (Kd.int .i64) _ Ao31 l0.length l0:=(Kd.R_reads' HO_0.out).2.2;have hcut34:=cut_to (P:=Try.prog) 22 3 .i64 Try.underlying22 hi034 Ao31 l0.length co31 x5_1 (of_decide_eq_true zq1) q34 hroom34;have hr34:=Kd.C_take (m:=(x5_1:Int).toNat) hC34 (by omega);have hy34:y377.length= (x5_1:Int).toNat:=(by rw [Ny377.out,List.length_take];omega);rw [← Ny377.out] at hr34;rw [← hy34] at hcut34;have HR380:=Aside0.mk hr34;have HC380:=Aside0.mk (show y377.length≤co31 from by omega);clear hr34 hC34 hroom34 hi034 hsz34;have KY34:=Aside0.mk hy34;clear hy34;have KL34:=Aside0.mk (show (x5_1:Int).toNat≤l0.length from by omega);replace q34:=eq_true q34)|((with_reducible refine gate_builtin (b:= .append) (xs:= #[.tmp 34,.tmp 37]) rfl ?_);at_builtin;refine Kd.R_append_rows (Kd.int .i64) (w0:=w0) w0.heap.size rfl (.tmp 34) (.tmp 37) 22 3 (.int .i64 0) 8 rfl Try.underlying22 info3 rfl (by decide) (by omega) v375 y374 y377 _ _ _ (fun k_=>(P0_ k_∨w.heap.size≤k_)∧some k_≠ (.slice Ao31 l0.length co31:Value).ownBlock) (fun _=>False) rfl rfl ?aO ?aR (fun _ _ h=>h) (fun _ h=>h.elim) ?aF ?aB ?aS ?aL ?_;(case aR=>repeat(first|exact(by repeat(first|(with_reducible exact HR380.out)|(with_reducible refine Kd.C_alloc ?_ _)|(with_reducible refine Kd.C_drewN ?_ _)|(with_reducible refine Kd.C_drew ?_)|exact HR380.out))|(with_reducible refine Kd.C_alloc ?_ _)|(with_reducible refine Kd.C_drewN ?_ _)|(with_reducible refine Kd.C_drew ?_)));(case aB=>exact(by exact zk1 HB));(case aF=>exact(fun k_ hk=>⟨(.inr (Nat.le_trans (by first|exact HK.out.1|exact(show Kept w _ (fun k_=>P0_ k_) from by exact zk3 HK).1) hk)),Kd.fresh' (Kd.R_lt (zq4 HO_0)) k_ hk⟩));(case aO=>exact(by(with_reducible repeat(first|apply Kd.R_alloc|apply Kd.R_drewN|apply Kd.R_drew));exact Kd.R_mono HO376.out (fun _ hk=>⟨hk.1.1,hk.2⟩)));(case aS=>exact(below_size (by exact zk1 HB)));(case aL=>have:=LMc26.out;omega);intro v382 w35 ho hb hg hat;rw [← Ny381.out] at ho;have HO383:=Aside0.mk (ho);replace HB:=Aside0.mk (hb);replace HK:=Aside0.mk (Kept.of_grown (S:=(fun k_=>P0_ k_)) hg (by exact zk3 HK) (fun k_ e_=>(HO376.out.1 k_ e_).1.1));replace HR380:=Aside0.mk ((show Kd.C (Kd.int .i64) w35 Ao31 y377.length y377 from by rw [Ny377.out];exact Kd.C_take (m:=(x5_1:Int).toNat) ((Kd.R_reads' (Kd.R_after (ok:=(fun k_=>(P0_ k_∨w.heap.size≤k_))) (zq4 HO_0) hg hat)).2.2) KL34.out));replace HO_0:=Aside0.mk (Kd.R_after (ok:=(fun k_=>(P0_ k_∨w.heap.size≤k_))) (zq4 HO_0) hg hat);clear HO376;clear ho hb hg hat)|((with_reducible refine gate_builtin (b:= .append) (xs:= #[.tmp 39,.tmp 41]) rfl ?_);at_builtin;refine Kd.R_append (Kd.int .i64) (w0:=w0) w0.heap.size rfl (.tmp 39) (.tmp 41) 22 3 (.int .i64 0) 8 rfl Try.underlying22 info3 rfl (by decide) (by omega) v382 y381 a1 [.int .i64 a1] (fun k_=>(P0_ k_∨w.heap.size≤k_)∧some k_≠ (.slice Ao31 l0.length co31:Value).ownBlock) (fun _=>False) rfl rfl ?aP (fun _ hk=>hk.elim) ?aF ?aO ?aB ?aS ?aL ?_;(case aP=>exact rfl);(case aB=>exact(by exact zk1 HB));(case aF=>exact(fun k_ hk=>⟨(.inr (Nat.le_trans (by first|exact HK.out.1|exact(show Kept w _ (fun k_=>P0_ k_) from by exact zk3 HK).1) hk)),Kd.fresh' (Kd.R_lt (zq4 HO_0)) k_ hk⟩));(case aO=>exact(zq4 HO383));(case aS=>exact(below_size (by exact zk1 HB)));(case aL=>have:=LMc27.out;omega);intro v385 w36 ho hb hg hat;rw [← Ny384.out] at ho;have HO386:=Aside0.mk (ho);replace HB:=Aside0.mk (hb);replace HK:=Aside0.mk (Kept.of_grown (S:=(fun k_=>P0_ k_)) hg (by exact zk3 HK) (fun k_ e_=>(HO383.out.1 k_ e_).1));replace HR380:=Aside0.mk ((show Kd.C (Kd.int .i64) w36 Ao31 y377.length y377 from by rw [Ny377.out];exact Kd.C_take (m:=(x5_1:Int).toNat) ((Kd.R_reads' (Kd.R_after (ok:=(fun k_=>(P0_ k_∨w.heap.size≤k_))) (zq4 HO_0) hg hat)).2.2) KL34.out));replace HO_0:=Aside0.mk (Kd.R_after (ok:=(fun k_=>(P0_ k_∨w.heap.size≤k_))) (zq4 HO_0) hg hat);clear HO383;clear ho hb hg hat;have q37:(x5_1:Int)≤ ((l0.length:Int):Int):=of_decide_eq_true zq1;obtain⟨i037,hi037,_,hsz37,_⟩:=info_parts info3;have hroom37:l0.length≤co31:=(Kd.R_reads' HO_0.out).2.1;have hC37:Kd.C (Kd.int .i64) _ Ao31 l0.length l0:=(Kd.R_reads' HO_0.out).2.2;have q037:(0:Int)≤ (x5_1:Int):=of_decide_eq_true zq1;have hcut37:=cut_from (P:=Try.prog) 22 3 .i64 Try.underlying22 hi037 1 hsz37 Ao31 l0.length co31 x5_1 q037 q37;have hr37:=Kd.C_drop (m:=(x5_1:Int).toNat) (c:=co31) hC37 (by omega) hroom37;obtain⟨A37,hA37⟩ :∃ A1,A1= (if co31= (x5_1:Int).toNat then Ao31 else(Ao31:Option Addr).map (·.add ((x5_1:Int).toNat * 1))):=⟨_,rfl⟩;obtain⟨c37,hc37⟩ :∃ c1,c1=co31 - (x5_1:Int).toNat:=⟨_,rfl⟩;have hy37:y387.length=l0.length - (x5_1:Int).toNat:=(by rw [Ny387.out,List.length_drop]<;>omega);rw [show (l0).drop (x5_1:Int).toNat=y387 from Ny387.out.symm] at hr37;replace hr37:Kd.C (Kd.int .i64) _ A37 y387.length y387:=(by rw [hA37];exact hr37);rw [← hy37,← hA37,← hc37] at hcut37;have HR390:=Aside0.mk hr37;have HC390:=Aside0.mk (show y387.length≤c37 from by rw [hy37,hc37];exact Nat.sub_le_sub_right hroom37 _);clear hr37 hC37 hroom37 hi037 hsz37 hc37;have KY37:=Aside0.mk hy37;have KA37:=Aside0.mk hA37;clear hy37 hA37;have KL37:=Aside0.mk (show (x5_1:Int).toNat≤l0.length from by omega);replace q37:=eq_true q37)|((with_reducible refine gate_builtin (b:= .append) (xs:= #[.tmp 43,.tmp 46]) rfl ?_);at_builtin;refine Kd.R_append_rows (Kd.int .i64) (w0:=w0) w0.heap.size rfl (.tmp 43) (.tmp 46) 22 3 (.int .i64 0) 8 rfl Try.underlying22 info3 rfl (by decide) (by omega) v385 y384 y387 _ _ _ (fun k_=>(P0_ k_∨w.heap.size≤k_)∧some k_≠ (.slice Ao31 l0.length co31:Value).ownBlock) (fun _=>False) rfl rfl ?aO ?aR (fun _ _ h=>h) (fun _ h=>h.elim) ?aF ?aB ?aS ?aL ?_;(case aR=>repeat(first|exact(by repeat(first|(with_reducible exact HR390.out)|(with_reducible refine Kd.C_alloc ?_ _)|(with_reducible refine Kd.C_drewN ?_ _)|(with_reducible refine Kd.C_drew ?_)|exact HR390.out))|(with_reducible refine Kd.C_alloc ?_ _)|(with_reducible refine Kd.C_drewN ?_ _)|(with_reducible refine Kd.C_drew ?_)));(case aB=>exact(by exact zk1 HB));(case aF=>exact(fun k_ hk=>⟨(.inr (Nat.le_trans (by first|exact HK.out.1|exact(show Kept w _ (fun k_=>P0_ k_) from by exact zk3 HK).1) hk)),Kd.fresh' (Kd.R_lt (zq4 HO_0)) k_ hk⟩));(case aO=>exact(zq4 HO386));(case aS=>exact(below_size (by exact zk1 HB)));(case aL=>have:=LMc30.out;omega);intro v392 w38 ho hb hg hat;rw [← Ny391.out] at ho;have HO393:=Aside0.mk (ho);replace HB:=Aside0.mk (hb);replace HK:=Aside0.mk (Kept.of_grown (S:=(fun k_=>P0_ k_)) hg (by exact zk3 HK) (fun k_ e_=>(HO386.out.1 k_ e_).1));replace HR380:=Aside0.mk ((show Kd.C (Kd.int .i64) w38 Ao31 y377.length y377 from by rw [Ny377.out];exact Kd.C_take (m:=(x5_1:Int).toNat) ((Kd.R_reads' (Kd.R_after (ok:=(fun k_=>(P0_ k_∨w.heap.size≤k_))) (zq4 HO_0) hg hat)).2.2) KL34.out));replace HR390:=Aside0.mk ((show Kd.C (Kd.int .i64) w38 A37 y387.length y387 from by rw [Ny387.out,KA37.out];exact Kd.C_drop (m:=(x5_1:Int).toNat) (c:=co31) ((Kd.R_reads' (Kd.R_after (ok:=(fun k_=>(P0_ k_∨w.heap.size≤k_))) (zq4 HO_0) hg hat)).2.2) KL37.out ((Kd.R_reads' (Kd.R_after (ok:=(fun k_=>(P0_ k_∨w.heap.size≤k_))) (zq4 HO_0) hg hat)).2.1)));replace HO_0:=Aside0.mk (Kd.R_after (ok:=(fun k_=>(P0_ k_∨w.heap.size≤k_))) (zq4 HO_0) hg hat);clear HO386;clear ho hb hg hat))
    go_ret
    exact⟨_,by first|rfl|(simp [errW_none,errW_some]<;>rfl)|(simp [*,errW_none,errW_some]<;>rfl),by(with_reducible repeat(first|apply Kd.R_alloc|apply Kd.R_drewN|apply Kd.R_drew));exact Kd.R_mono HO393.out (fun _ hk=>hk.1),by exact zk1 HB,by exact zk3 HK⟩
def spec_l10Joined.l0:Nat→List Int→Int→List Int→List Int→Int→Int→Option (List Int)
 | 0,_,_,_,_,_,_=>none
 |k+1,x0,x1,x5,x8,x9,x10=>if x10<x9 then(if 0≤x10 then(if x10< (x8.length:Int) then(if (rd x8 x10)=x1 then((spec_l1Put.f k x5 x10).bind fun t395=>(spec_l10Joined.l0 k x0 x1 t395 x8 x9 (wrap64 (x10+1)))) else(if 0≤x1 then(if x1< (x0.length:Int) then(if (rd x0 x1)=x10 then((spec_l1Put.f k x5 x10).bind fun t399=>(spec_l10Joined.l0 k x0 x1 t399 x8 x9 (wrap64 (x10+1)))) else(spec_l10Joined.l0 k x0 x1 x5 x8 x9 (wrap64 (x10+1)))) else(none)) else(none))) else(none)) else(none)) else(some x5)
def spec_l10Joined.f (k:Nat) (l0:List Int) (a1:Int):Option (List Int):=spec_l10Joined.l0 k l0 a1 ([] :List Int) l0 (l0.length:Int) 0
set_option maxHeartbeats 8000000 in
set_option maxRecDepth 100000 in
theorem spec_l10Joined.calls (k:Nat) (A0:Option Addr) (c0:Nat) (l0:List Int) (a1:Int) (r:List Int) (w:World) (hr0:Kd.C (Kd.int .i64) w A0 l0.length l0) (hc0:l0.length≤c0) (h:spec_l10Joined.f k l0 a1=some r):
  Calls Try.prog 94 #[.slice A0 l0.length c0,.int .i64 a1] w fun e w'=> ∃ v0_:Value,e= .returned (v0_)∧Kd.R (Kd.int .i64) 3 w' w.heap.size (fun _=>True) v0_ r∧Below w.heap.size w w':=by
 have HR0:=Aside0.mk hr0
 have HC0:=Aside0.mk hc0
 clear hr0 hc0
 have HB:=Aside0.mk (Below.refl w.heap.size w)
 have H:(spec_l10Joined.l0 k l0 a1 ([] :List Int) l0 (l0.length:Int) 0)=some r:=h
 clear h
 have H':=Aside0.mk H
 clear H
 go_enter Try.func94,Try.ntmps94
 go_wp2
 go_loopg [5,10] k (fun kq v5 v10 w'=> ∃ (x5_1:List Int) (x10_1:Int),v10= .int .i64 x10_1∧Aside0 (spec_l10Joined.l0 kq l0 a1 x5_1 l0 (l0.length:Int) x10_1=some r)∧Aside0 (kq≤k)∧Aside0 (Kd.R (Kd.int .i64) 3 w' w.heap.size (fun _=>True) v5 x5_1)∧Aside0 (Below w.heap.size w w'))
 case atStart=>exact⟨(([] :List Int)),(0),(by first|rfl|(simp;done)|(simp [*];done)),H',⟨Nat.le_refl _⟩,⟨by first|exact Kd.R_nil _ _ _ _ _|exact Kd.N_nil _ _ _ _ _|exact Kd.V_nil _ _ _ _ _|exact Kd.Q_nil _ _ _ _ _|exact Kd.S_nil _ _ _ _ _⟩,⟨by exact zk1 HB⟩⟩
 case round=>
  clear H'
  try clear p2
  obtain⟨x5_1,x10_1,rfl,HA,HK1,HO_5,HB⟩:=hrel
  cases gk with
  |zero=>exact absurd HA.out (by simp [spec_l10Joined.l0])
  |succ k1=>
   have H:=HA.out
   clear HA
   simp only [spec_l10Joined.l0] at H
   by_cases c3:x10_1< (l0.length:Int)
   ·rw [if_pos c3] at H
    have c3b0:decide (x10_1< (l0.length:Int))=true:=decide_eq_true c3
    clear c3
    by_cases c4: 0≤x10_1
    case neg=>rw [if_neg c4] at H;exact absurd H (by simp)
    rw [if_pos c4] at H
    have c4b0:decide (0≤x10_1)=true:=decide_eq_true c4
    clear c4
    by_cases c5:x10_1< (l0.length:Int)
    case neg=>rw [if_neg c5] at H;exact absurd H (by simp)
    rw [if_pos c5] at H
    have c5b0:decide (x10_1< (l0.length:Int))=true:=decide_eq_true c5
    clear c5
    by_cases c6:(rd l0 x10_1)=a1
    ·rw [if_pos c6] at H
     have c6b0:((rd l0 x10_1)==a1)=true:=beq_iff_eq.mpr c6
     have c6b1:((rd l0 x10_1) !=a1)=false:=bne_eq_false_iff_eq.mpr c6
     clear c6
     replace H:=Option.bind_eq_some_iff.mp H
     obtain⟨t395,A70,H⟩:=H
     replace H:(spec_l10Joined.l0 k1 l0 a1 t395 l0 (l0.length:Int) (wrap64 (x10_1+1)))=some r:=H
     have A7:=Aside0.mk A70
     clear A70
     have H':=Aside0.mk H
     clear H
     have p394: 0≤ (x10_1:Int):=of_decide_eq_true zq1
     have q394:x10_1< (l0.length:Int):=of_decide_eq_true zq1
     obtain⟨ad394,e394,hx394_0⟩:=Kd.at_int HR0.out x10_1 p394 q394
     cases e394
     replace hx394_0:=zhx HB hx394_0
     replace p394:=eq_true p394
     replace q394:=eq_true q394
     obtain⟨Ao8,co8,eo8⟩:=Kd.R_slice HO_5.out
     subst eo8
     go_wp2_with (first|((with_reducible refine gate_callee (f:=105) rfl ?_);refine goesL_ (some 28) rfl rfl Try.func105 (by kernel_rfl) rfl #[.slice Ao8 x5_1.length co8,.int .i64 x10_1] rfl zq2 ?_;(with_reducible refine(spec_l1Put.calls k1 (fun k_=>some k_= (.slice Ao8 x5_1.length co8:Value).ownBlock) (.slice Ao8 x5_1.length co8) x5_1 x10_1 t395 w _ ?side1 ?side2 A7.out).mono ?_);(case side1=>exact zk1 HB);(case side2=>exact Kd.R_tight rfl HO_5.out);rintro e w9 ⟨v396,rfl,ho0,hb,hkp⟩;refine⟨_,rfl,?_⟩;have HO397:=Aside0.mk (Kd.R_mono (ok':=fun k_=>True) ho0 (fun k_ hk_=>trivial));replace HB:=Aside0.mk (hb);clear HO_5;(try clear hb);(try clear hkp);(try clear ho0)))
     go_roundg k1
     case measure=>have:=HK1.out;omega
     case rel=>exact⟨(t395),(wrap64 (x10_1+1)),(by first|rfl|(simp;done)|(simp [*];done)),H',⟨by have:=HK1.out;omega⟩,⟨by(with_reducible repeat(first|apply Kd.R_alloc|apply Kd.R_drewN|apply Kd.R_drew));exact HO397.out⟩,⟨by exact zk1 HB⟩⟩
    ·rw [if_neg c6] at H
     have c6b0:((rd l0 x10_1)==a1)=false:=beq_eq_false_iff_ne.mpr c6
     have c6b1:((rd l0 x10_1) !=a1)=true:=bne_iff_ne.mpr c6
     by_cases c10: 0≤a1
     case neg=>rw [if_neg c10] at H;exact absurd H (by simp)
     rw [if_pos c10] at H
     have c10b0:decide (0≤a1)=true:=decide_eq_true c10
     clear c10
     by_cases c11:a1< (l0.length:Int)
     case neg=>rw [if_neg c11] at H;exact absurd H (by simp)
     rw [if_pos c11] at H
     have c11b0:decide (a1< (l0.length:Int))=true:=decide_eq_true c11
     clear c11
     by_cases c12:(rd l0 a1)=x10_1
     ·rw [if_pos c12] at H
      have c12b0:((rd l0 a1)==x10_1)=true:=beq_iff_eq.mpr c12
      have c12b1:((rd l0 a1) !=x10_1)=false:=bne_eq_false_iff_eq.mpr c12
      clear c12
      replace H:=Option.bind_eq_some_iff.mp H
      obtain⟨t399,A130,H⟩:=H
      replace H:(spec_l10Joined.l0 k1 l0 a1 t399 l0 (l0.length:Int) (wrap64 (x10_1+1)))=some r:=H
      have A13:=Aside0.mk A130
      clear A130
      have H':=Aside0.mk H
      clear H
      have p394: 0≤ (x10_1:Int):=of_decide_eq_true zq1
      have q394:x10_1< (l0.length:Int):=of_decide_eq_true zq1
      obtain⟨ad394,e394,hx394_0⟩:=Kd.at_int HR0.out x10_1 p394 q394
      cases e394
      replace hx394_0:=zhx HB hx394_0
      replace p394:=eq_true p394
      replace q394:=eq_true q394
      have p398: 0≤ (a1:Int):=of_decide_eq_true zq1
      have q398:a1< (l0.length:Int):=of_decide_eq_true zq1
      obtain⟨ad398,e398,hx398_0⟩:=Kd.at_int HR0.out a1 p398 q398
      obtain rfl:ad394=ad398:=(by injection e398)
      replace hx398_0:=zhx HB hx398_0
      replace p398:=eq_true p398
      replace q398:=eq_true q398
      obtain⟨Ao14,co14,eo14⟩:=Kd.R_slice HO_5.out
      subst eo14
      go_wp2_with (first|((with_reducible refine gate_callee (f:=105) rfl ?_);refine goesL_ (some 28) rfl rfl Try.func105 (by kernel_rfl) rfl #[.slice Ao14 x5_1.length co14,.int .i64 x10_1] rfl zq2 ?_;(with_reducible refine(spec_l1Put.calls k1 (fun k_=>some k_= (.slice Ao14 x5_1.length co14:Value).ownBlock) (.slice Ao14 x5_1.length co14) x5_1 x10_1 t399 w _ ?side1 ?side2 A13.out).mono ?_);(case side1=>exact zk1 HB);(case side2=>exact Kd.R_tight rfl HO_5.out);rintro e w15 ⟨v400,rfl,ho0,hb,hkp⟩;refine⟨_,rfl,?_⟩;have HO401:=Aside0.mk (Kd.R_mono (ok':=fun k_=>True) ho0 (fun k_ hk_=>trivial));replace HB:=Aside0.mk (hb);clear HO_5;(try clear hb);(try clear hkp);(try clear ho0)))
      go_roundg k1
      case measure=>have:=HK1.out;omega
      case rel=>exact⟨(t399),(wrap64 (x10_1+1)),(by first|rfl|(simp;done)|(simp [*];done)),H',⟨by have:=HK1.out;omega⟩,⟨by(with_reducible repeat(first|apply Kd.R_alloc|apply Kd.R_drewN|apply Kd.R_drew));exact HO401.out⟩,⟨by exact zk1 HB⟩⟩
     ·rw [if_neg c12] at H
      have c12b0:((rd l0 a1)==x10_1)=false:=beq_eq_false_iff_ne.mpr c12
      have c12b1:((rd l0 a1) !=x10_1)=true:=bne_iff_ne.mpr c12
      have H':=Aside0.mk H
      clear H
      have p394: 0≤ (x10_1:Int):=of_decide_eq_true zq1
      have q394:x10_1< (l0.length:Int):=of_decide_eq_true zq1
      obtain⟨ad394,e394,hx394_0⟩:=Kd.at_int HR0.out x10_1 p394 q394
      cases e394
      replace hx394_0:=zhx HB hx394_0
      replace p394:=eq_true p394
      replace q394:=eq_true q394
      have p398: 0≤ (a1:Int):=of_decide_eq_true zq1
      have q398:a1< (l0.length:Int):=of_decide_eq_true zq1
      obtain⟨ad398,e398,hx398_0⟩:=Kd.at_int HR0.out a1 p398 q398
      obtain rfl:ad394=ad398:=(by injection e398)
      replace hx398_0:=zhx HB hx398_0
      replace p398:=eq_true p398
      replace q398:=eq_true q398
      go_wp2
      go_roundg k1
      case measure=>have:=HK1.out;omega
      case rel=>exact⟨(x5_1),(wrap64 (x10_1+1)),(by first|rfl|(simp;done)|(simp [*];done)),H',⟨by have:=HK1.out;omega⟩,⟨by(with_reducible repeat(first|apply Kd.R_alloc|apply Kd.R_drewN|apply Kd.R_drew));exact HO_5.out⟩,⟨by exact zk1 HB⟩⟩
   ·rw [if_neg c3] at H
    have c3b0:decide (x10_1< (l0.length:Int))=false:=decide_eq_false c3
    clear c3
    obtain rfl:=Option.some.inj H
    go_wp2
    go_ret
    exact⟨_,by first|rfl|(simp [errW_none,errW_some]<;>rfl)|(simp [*,errW_none,errW_some]<;>rfl),by(with_reducible repeat(first|apply Kd.R_alloc|apply Kd.R_drewN|apply Kd.R_drew));exact HO_5.out,by exact zk1 HB⟩
end Go.Proofs.Ytedegfbheihopaa.P
