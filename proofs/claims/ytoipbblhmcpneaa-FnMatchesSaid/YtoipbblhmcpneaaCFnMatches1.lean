/- Functions, walks and plain lemmas that the law FnMatches reaches, part 1. -/
import Derived.Test.YtoipbblhmcpneaaCFnMatches0
import Derived.Below
import Derived.Deep.Draws
import Derived.Deep.AppendLies
import Derived.Maps.AppendAt
import Derived.OwnWalk
import Derived.Laws.BytesArg
import Derived.Laws.MakeOwn
import Derived.Laws.OwnMore
import Derived.Deep.OwnRows
import Derived.Tactics
import Derived.Lib.ConvBytes
import Derived.Laws.Slices
import Derived.WalkKit
import Derived.KernelRfl
import Derived.RowKit3
import Derived.Deep.LoopGhost
import Derived.Deep.QuietTactic
import Derived.BigQuiet
import Derived.WideLaws
import Derived.Deep.DeepCutAuto
import Derived.Deep.CutBlock
import Derived.Deep.RegionHeld3
import Derived.Laws.Rows
import Derived.Lib.AppendStr
import Derived.ArgAppend
import Derived.Laws.IdiomCopy
import Derived.OrdersHeld
import Derived.Laws.BitsLemmas
import Derived.RowKit
import Derived.WalkSpells
import Derived.Lib.SliceRun
import Derived.Shelf.Abstract
import Derived.ProofKit
import Derived.OpenShut
import Derived.ShutString
import Derived.ChangeOld
import Derived.SizedLaws
namespace Go.Proofs.Ytoipbblhmcpneaa.P
open Go.RowKit Go.Proofs.YtoipbblhmcpneaaW.PrintWords Go.Proofs.YtoipbblhmcpneaaW.PrintLast Go.Proofs.YtoipbblhmcpneaaW.PrintMore
attribute [local go_sem] max2_int min2_int max_two min_two max_three min_three max_four min_four   -- for this text's walks alone
set_option linter.unusedVariables false
set_option linter.unusedSimpArgs false
theorem call_args {P:Program} {f:FuncId} {a b:Array Value} {w:World} {Q:Ending→World→Prop} (e:a=b) (h:Calls P f a w Q):Calls P f b w Q:=e ▸ h
theorem info3:(Try.prog.info? 3).map (fun i=>(i.zero,i.size,i.bytes))=some (some (.int .i64 0),1,8):=by kernel_rfl
theorem info22:(Try.prog.info? 22).map (fun i=>(i.zero,i.size,i.bytes))=some (some (.slice none 0 0),1,24):=by kernel_rfl
-- the values' own types
def rd_L1 (xs:List (List Int)) (i:Int):(List Int):=xs.getD i.toNat ([] :List Int)
theorem at_L1 {w:World} {A:Option Addr} {n:Nat} {xs:List (List Int)} (h:Kd.C (Kd.slice 3 (Kd.int .i64)) w A n xs) (i:Int) (h0: 0≤i) (h1:i<n):∃ ad A0 c0,A=some ad∧w.cell? (ad.add i.toNat)=some (.slice A0 (rd_L1 xs i).length c0)∧ (rd_L1 xs i).length≤c0∧ (Kd.int .i64).C w A0 (rd_L1 xs i).length (rd_L1 xs i):=by
 obtain⟨ad,c,e,_,hK,hc0⟩:=Kd.C_get h ([] :List Int) i h0 h1
 have hc:∀ j u,c[j]?=some u→w.cell? (ad.add (i.toNat * 1+j))=some u:=hc0
 obtain⟨A0,c0,rfl,l0,g0⟩:=hK
 exact⟨ad,A0,c0,e,by have hq:=hc 0 _ rfl;rwa [Nat.mul_one,Nat.add_zero] at hq,l0,g0⟩
def spec_l1Has.l0:Nat→Int→List Int→Int→Int→Option (Bool)
 | 0,_,_,_,_=>none
 |k+1,x1,x7,x8,x9=>if x9<x8 then(if 0≤x9 then(if x9< (x7.length:Int) then(if (rd x7 x9)=x1 then(some true) else(spec_l1Has.l0 k x1 x7 x8 (wrap64 (x9+1)))) else(none)) else(none)) else(some false)
def spec_l1Has.f (k:Nat) (l0:List Int) (a1:Int):Option (Bool):=spec_l1Has.l0 k a1 l0 (l0.length:Int) 0
theorem zcc {q p:Prop} (b:q) (h:q→p:=by intro z;repeat(first|exact z|(with_reducible refine Kd.C_alloc ?_ _)|(with_reducible refine Kd.C_drewN ?_ _)|(with_reducible refine Kd.C_drew ?_))):p:=h b
theorem znn {α :Type} {c:Prop} [Decidable c] {x:Option α} {r: α} {q:Prop} (h:¬ c) (H:(if c then x else none)=some r):q:=by rw [if_neg h] at H;cases H
theorem zq1 {p:Prop} (h:p:=by first|(with_reducible assumption)|assumption):p:=h
theorem zq2 {p:Prop} (h:p:=by(try simp only [List.map_toArray,List.map_cons,List.map_nil]);first|done|rfl|(simp only [List.length_drop,List.length_take];rfl)):p:=h
theorem zrs {p:Prop} (h:p:=by first|rfl|(simp;done)|(simp [*];done)):p:=h
set_option maxHeartbeats 8000000 in
set_option maxRecDepth 100000 in
theorem spec_l1Has.calls (k:Nat) (A0:Option Addr) (c0:Nat) (l0:List Int) (a1:Int) (r:Bool) (w:World) (hr0:Kd.C (Kd.int .i64) w A0 l0.length l0) (hc0:l0.length≤c0) (h:spec_l1Has.f k l0 a1=some r):
  Calls Try.prog 43 #[.slice A0 l0.length c0,.int .i64 a1] w fun e w'=>e= .returned (.bool r)∧Drawn0 w w':=by
 have HR0:=Aside0.mk hr0
 have HC0:=Aside0.mk hc0
 clear hr0 hc0
 have H:(spec_l1Has.l0 k a1 l0 (l0.length:Int) 0)=some r:=h
 clear h
 have H':=Aside0.mk H
 clear H
 go_enter Try.func43,Try.ntmps43
 go_wp2
 go_loopg [9] k (fun kq v9 w'=> ∃ (x9_1:Int),v9= .int .i64 x9_1∧Aside0 (spec_l1Has.l0 kq a1 l0 (l0.length:Int) x9_1=some r)∧Aside0 (kq≤k)∧Drawn0 w w')
 case atStart=>exact⟨(0),zrs,H',⟨Nat.le_refl _⟩,by repeat(first|exact Drawn0.refl _|apply Drawn0.step)⟩
 case round=>
  clear H'
  try clear p2
  obtain⟨x9_1,rfl,HA,HK1,⟨m1,rfl⟩⟩:=hrel
  cases gk with
  |zero=>exact absurd HA.out (by simp [spec_l1Has.l0])
  |succ k1=>
   have H:=HA.out
   clear HA
   simp only [spec_l1Has.l0] at H
   by_cases c3:x9_1< (l0.length:Int)
   ·rw [if_pos c3] at H
    have c3b0:decide (x9_1< (l0.length:Int))=true:=decide_eq_true c3
    clear c3
    by_cases c4: 0≤x9_1
    case neg=>exact znn c4 H
    rw [if_pos c4] at H
    have c4b0:decide (0≤x9_1)=true:=decide_eq_true c4
    clear c4
    by_cases c5:x9_1< (l0.length:Int)
    case neg=>exact znn c5 H
    rw [if_pos c5] at H
    have c5b0:decide (x9_1< (l0.length:Int))=true:=decide_eq_true c5
    clear c5
    by_cases c6:(rd l0 x9_1)=a1
    ·rw [if_pos c6] at H
     have c6b0:((rd l0 x9_1)==a1)=true:=beq_iff_eq.mpr c6
     have c6b1:((rd l0 x9_1) !=a1)=false:=bne_eq_false_iff_eq.mpr c6
     clear c6
     obtain rfl:=Option.some.inj H
     have p101: 0≤ (x9_1:Int):=of_decide_eq_true zq1
     have q101:x9_1< (l0.length:Int):=of_decide_eq_true zq1
     obtain⟨ad101,e101,hx101_0⟩:=Kd.at_int HR0.out x9_1 p101 q101
     cases e101
     replace p101:=eq_true p101
     replace q101:=eq_true q101
     go_wp2
     go_ret
     exact⟨by first|rfl|(simp;done)|(simp [*];done),by repeat(first|exact Drawn0.refl _|apply Drawn0.step)⟩
    ·rw [if_neg c6] at H
     have c6b0:((rd l0 x9_1)==a1)=false:=beq_eq_false_iff_ne.mpr c6
     have c6b1:((rd l0 x9_1) !=a1)=true:=bne_iff_ne.mpr c6
     have H':=Aside0.mk H
     clear H
     have p101: 0≤ (x9_1:Int):=of_decide_eq_true zq1
     have q101:x9_1< (l0.length:Int):=of_decide_eq_true zq1
     obtain⟨ad101,e101,hx101_0⟩:=Kd.at_int HR0.out x9_1 p101 q101
     cases e101
     replace p101:=eq_true p101
     replace q101:=eq_true q101
     go_wp2
     go_roundg k1
     case measure=>have:=HK1.out;omega
     case rel=>exact⟨(wrap64 (x9_1+1)),zrs,H',⟨by have:=HK1.out;omega⟩,by repeat(first|exact Drawn0.refl _|apply Drawn0.step)⟩
   ·rw [if_neg c3] at H
    have c3b0:decide (x9_1< (l0.length:Int))=false:=decide_eq_false c3
    clear c3
    obtain rfl:=Option.some.inj H
    go_wp2
    go_ret
    exact⟨by first|rfl|(simp;done)|(simp [*];done),by repeat(first|exact Drawn0.refl _|apply Drawn0.step)⟩
def spec_l12Place.l0:Nat→List Int→Int→List Int→Int→Int→Option (Int)
 | 0,_,_,_,_,_=>none
 |k+1,x0,x1,x7,x8,x9=>if x9<x8 then(if 0≤x9 then(if x9< (x7.length:Int) then(if (rd x7 x9)=x1 then(some x9) else(spec_l12Place.l0 k x0 x1 x7 x8 (wrap64 (x9+1)))) else(none)) else(none)) else(some (x0.length:Int))
def spec_l12Place.f (k:Nat) (l0:List Int) (a1:Int):Option (Int):=spec_l12Place.l0 k l0 a1 l0 (l0.length:Int) 0
set_option maxHeartbeats 8000000 in
set_option maxRecDepth 100000 in
theorem spec_l12Place.calls (k:Nat) (A0:Option Addr) (c0:Nat) (l0:List Int) (a1:Int) (r:Int) (w:World) (hr0:Kd.C (Kd.int .i64) w A0 l0.length l0) (hc0:l0.length≤c0) (h:spec_l12Place.f k l0 a1=some r):
  Calls Try.prog 44 #[.slice A0 l0.length c0,.int .i64 a1] w fun e w'=>e= .returned (.int .i64 r)∧Drawn0 w w':=by
 have HR0:=Aside0.mk hr0
 have HC0:=Aside0.mk hc0
 clear hr0 hc0
 have H:(spec_l12Place.l0 k l0 a1 l0 (l0.length:Int) 0)=some r:=h
 clear h
 have H':=Aside0.mk H
 clear H
 go_enter Try.func44,Try.ntmps44
 go_wp2
 go_loopg [9] k (fun kq v9 w'=> ∃ (x9_1:Int),v9= .int .i64 x9_1∧Aside0 (spec_l12Place.l0 kq l0 a1 l0 (l0.length:Int) x9_1=some r)∧Aside0 (kq≤k)∧Drawn0 w w')
 case atStart=>exact⟨(0),zrs,H',⟨Nat.le_refl _⟩,by repeat(first|exact Drawn0.refl _|apply Drawn0.step)⟩
 case round=>
  clear H'
  try clear p2
  obtain⟨x9_1,rfl,HA,HK1,⟨m1,rfl⟩⟩:=hrel
  cases gk with
  |zero=>exact absurd HA.out (by simp [spec_l12Place.l0])
  |succ k1=>
   have H:=HA.out
   clear HA
   simp only [spec_l12Place.l0] at H
   by_cases c3:x9_1< (l0.length:Int)
   ·rw [if_pos c3] at H
    have c3b0:decide (x9_1< (l0.length:Int))=true:=decide_eq_true c3
    clear c3
    by_cases c4: 0≤x9_1
    case neg=>exact znn c4 H
    rw [if_pos c4] at H
    have c4b0:decide (0≤x9_1)=true:=decide_eq_true c4
    clear c4
    by_cases c5:x9_1< (l0.length:Int)
    case neg=>exact znn c5 H
    rw [if_pos c5] at H
    have c5b0:decide (x9_1< (l0.length:Int))=true:=decide_eq_true c5
    clear c5
    by_cases c6:(rd l0 x9_1)=a1
    ·rw [if_pos c6] at H
     have c6b0:((rd l0 x9_1)==a1)=true:=beq_iff_eq.mpr c6
     have c6b1:((rd l0 x9_1) !=a1)=false:=bne_eq_false_iff_eq.mpr c6
     clear c6
     obtain rfl:=Option.some.inj H
     have p102: 0≤ (x9_1:Int):=of_decide_eq_true zq1
     have q102:x9_1< (l0.length:Int):=of_decide_eq_true zq1
     obtain⟨ad102,e102,hx102_0⟩:=Kd.at_int HR0.out x9_1 p102 q102
     cases e102
     replace p102:=eq_true p102
     replace q102:=eq_true q102
     go_wp2
     go_ret
     exact⟨by first|rfl|(simp;done)|(simp [*];done),by repeat(first|exact Drawn0.refl _|apply Drawn0.step)⟩
    ·rw [if_neg c6] at H
     have c6b0:((rd l0 x9_1)==a1)=false:=beq_eq_false_iff_ne.mpr c6
     have c6b1:((rd l0 x9_1) !=a1)=true:=bne_iff_ne.mpr c6
     have H':=Aside0.mk H
     clear H
     have p102: 0≤ (x9_1:Int):=of_decide_eq_true zq1
     have q102:x9_1< (l0.length:Int):=of_decide_eq_true zq1
     obtain⟨ad102,e102,hx102_0⟩:=Kd.at_int HR0.out x9_1 p102 q102
     cases e102
     replace p102:=eq_true p102
     replace q102:=eq_true q102
     go_wp2
     go_roundg k1
     case measure=>have:=HK1.out;omega
     case rel=>exact⟨(wrap64 (x9_1+1)),zrs,H',⟨by have:=HK1.out;omega⟩,by repeat(first|exact Drawn0.refl _|apply Drawn0.step)⟩
   ·rw [if_neg c3] at H
    have c3b0:decide (x9_1< (l0.length:Int))=false:=decide_eq_false c3
    clear c3
    obtain rfl:=Option.some.inj H
    go_wp2
    go_ret
    exact⟨by first|rfl|(simp;done)|(simp [*];done),by repeat(first|exact Drawn0.refl _|apply Drawn0.step)⟩
def spec_PlaceOf.f (k:Nat) (l0:List Int) (a1:Int):Option (Int × Bool):=if (l0.length:Int) > 8 then(some (0,false)) else((spec_l1Has.f k l0 a1).bind fun t103=>(if t103=true then((spec_l12Place.f k l0 a1).bind fun t104=>(some (t104,true))) else(some (0,false))))
set_option maxHeartbeats 8000000 in
set_option maxRecDepth 100000 in
theorem spec_PlaceOf.calls (k:Nat) (A0:Option Addr) (c0:Nat) (l0:List Int) (a1:Int) (r1:Int) (r2:Bool) (w:World) (hr0:Kd.C (Kd.int .i64) w A0 l0.length l0) (hc0:l0.length≤c0) (h:spec_PlaceOf.f k l0 a1=some (r1,r2)):
  Calls Try.prog 13 #[.slice A0 l0.length c0,.int .i64 a1] w fun e w'=>e= .returned (.tuple #[.int .i64 r1,.bool r2])∧Drawn0 w w':=by
 have HR0:=Aside0.mk hr0
 have HC0:=Aside0.mk hc0
 clear hr0 hc0
 have H:(if (l0.length:Int) > 8 then(some (0,false)) else((spec_l1Has.f k l0 a1).bind fun t103=>(if t103=true then((spec_l12Place.f k l0 a1).bind fun t104=>(some (t104,true))) else(some (0,false)))))=some (r1,r2):=h
 clear h
 by_cases c3:(l0.length:Int) > 8
 ·rw [if_pos c3] at H
  have c3b0:decide (8< (l0.length:Int))=true:=decide_eq_true c3
  have c3b1:decide (8<l0.length)=true:=decide_eq_true (by omega)
  clear c3
  simp only [Option.some.injEq,Prod.mk.injEq] at H
  obtain⟨rfl,rfl⟩:=H
  go_enter Try.func13,Try.ntmps13
  go_wp2
  go_ret2
  exact⟨by first|rfl|(simp;done)|(simp [*];done),by repeat(first|exact Drawn0.refl _|apply Drawn0.step)⟩
 ·rw [if_neg c3] at H
  have c3b0:decide (8< (l0.length:Int))=false:=decide_eq_false c3
  have c3b1:decide (8<l0.length)=false:=decide_eq_false (by omega)
  clear c3
  replace H:=Option.bind_eq_some_iff.mp H
  obtain⟨t103,A40,H⟩:=H
  replace H:(if t103=true then((spec_l12Place.f k l0 a1).bind fun t104=>(some (t104,true))) else(some (0,false)))=some (r1,r2):=H
  have A4:=Aside0.mk A40
  clear A40
  by_cases c5:t103=true
  ·subst c5
   have H1:((spec_l12Place.f k l0 a1).bind fun t104=>(some (t104,true)))=some (r1,r2):=by rw [if_pos rfl] at H;exact H
   clear H
   have H:=H1
   clear H1
   replace H:=Option.bind_eq_some_iff.mp H
   obtain⟨t104,A60,H⟩:=H
   replace H:(some (t104,true))=some (r1,r2):=H
   have A6:=Aside0.mk A60
   clear A60
   simp only [Option.some.injEq,Prod.mk.injEq] at H
   obtain⟨rfl,rfl⟩:=H
   go_enter Try.func13,Try.ntmps13
   go_wp2_with (first|(go_at_call 43;(with_reducible refine(spec_l1Has.calls k _ _ l0 a1 true _ ?side1 ?side2 A4.out).mono ?_);(case side1=>exact zcc (HR0.out));(case side2=>exact HC0.out);rintro e w' ⟨rfl,⟨nd,rfl⟩⟩)|((with_reducible refine gate_callee (f:=44) rfl ?_);refine goesL_ (some 17) rfl rfl Try.func44 (by kernel_rfl) rfl #[.slice A0 l0.length c0,.int .i64 a1] rfl zq2 ?_;(with_reducible refine(spec_l12Place.calls k _ _ l0 a1 t104 _ ?side1 ?side2 A6.out).mono ?_);(case side1=>exact zcc (HR0.out));(case side2=>exact HC0.out);rintro e w' ⟨rfl,⟨nd,rfl⟩⟩;refine⟨_,rfl,?_⟩))
   go_ret2
   exact⟨by first|rfl|(simp;done)|(simp [*];done),by repeat(first|exact Drawn0.refl _|apply Drawn0.step)⟩
  ·replace c5:=Bool.eq_false_iff.mpr c5
   subst c5
   have H1:(some (0,false))=some (r1,r2):=by rw [if_neg (show ¬ (false=true) by decide)] at H;exact H
   clear H
   have H:=H1
   clear H1
   simp only [Option.some.injEq,Prod.mk.injEq] at H
   obtain⟨rfl,rfl⟩:=H
   go_enter Try.func13,Try.ntmps13
   go_wp2_with (first|(go_at_call 43;(with_reducible refine(spec_l1Has.calls k _ _ l0 a1 false _ ?side1 ?side2 A4.out).mono ?_);(case side1=>exact zcc (HR0.out));(case side2=>exact HC0.out);rintro e w' ⟨rfl,⟨nd,rfl⟩⟩))
   go_ret2
   exact⟨by first|rfl|(simp;done)|(simp [*];done),by repeat(first|exact Drawn0.refl _|apply Drawn0.step)⟩
def slices_Index_int.l0:Nat→List Int→Int→Int→Int→Option (Int)
 | 0,_,_,_,_=>none
 |k+1,x0,x1,x7,x8=>if x8<x7 then(if 0≤x8 then(if x8< (x0.length:Int) then(if x1= (rd x0 x8) then(some x8) else(slices_Index_int.l0 k x0 x1 x7 (wrap64 (x8+1)))) else(none)) else(none)) else(some (-1))
def slices_Index_int.f (k:Nat) (l0:List Int) (a1:Int):Option (Int):=slices_Index_int.l0 k l0 a1 (l0.length:Int) 0
set_option maxHeartbeats 8000000 in
set_option maxRecDepth 100000 in
theorem slices_Index_int.calls (k:Nat) (A0:Option Addr) (c0:Nat) (l0:List Int) (a1:Int) (r:Int) (w:World) (hr0:Kd.C (Kd.int .i64) w A0 l0.length l0) (hc0:l0.length≤c0) (h:slices_Index_int.f k l0 a1=some r):
  Calls Try.prog 45 #[.slice A0 l0.length c0,.int .i64 a1] w fun e w'=>e= .returned (.int .i64 r)∧Drawn0 w w':=by
 have HR0:=Aside0.mk hr0
 have HC0:=Aside0.mk hc0
 clear hr0 hc0
 have H:(slices_Index_int.l0 k l0 a1 (l0.length:Int) 0)=some r:=h
 clear h
 have H':=Aside0.mk H
 clear H
 go_enter Try.func45,Try.ntmps45
 go_wp2
 go_loopg [8] k (fun kq v8 w'=> ∃ (x8_1:Int),v8= .int .i64 x8_1∧Aside0 (slices_Index_int.l0 kq l0 a1 (l0.length:Int) x8_1=some r)∧Aside0 (kq≤k)∧Drawn0 w w')
 case atStart=>exact⟨(0),zrs,H',⟨Nat.le_refl _⟩,by repeat(first|exact Drawn0.refl _|apply Drawn0.step)⟩
 case round=>
  clear H'
  try clear p2
  obtain⟨x8_1,rfl,HA,HK1,⟨m1,rfl⟩⟩:=hrel
  cases gk with
  |zero=>exact absurd HA.out (by simp [slices_Index_int.l0])
  |succ k1=>
   have H:=HA.out
   clear HA
   simp only [slices_Index_int.l0] at H
   by_cases c3:x8_1< (l0.length:Int)
   ·rw [if_pos c3] at H
    have c3b0:decide (x8_1< (l0.length:Int))=true:=decide_eq_true c3
    clear c3
    by_cases c4: 0≤x8_1
    case neg=>exact znn c4 H
    rw [if_pos c4] at H
    have c4b0:decide (0≤x8_1)=true:=decide_eq_true c4
    clear c4
    by_cases c5:x8_1< (l0.length:Int)
    case neg=>exact znn c5 H
    rw [if_pos c5] at H
    have c5b0:decide (x8_1< (l0.length:Int))=true:=decide_eq_true c5
    clear c5
    by_cases c6:a1= (rd l0 x8_1)
    ·rw [if_pos c6] at H
     have c6b0:(a1== (rd l0 x8_1))=true:=beq_iff_eq.mpr c6
     have c6b1:(a1 != (rd l0 x8_1))=false:=bne_eq_false_iff_eq.mpr c6
     clear c6
     obtain rfl:=Option.some.inj H
     have p110: 0≤ (x8_1:Int):=of_decide_eq_true zq1
     have q110:x8_1< (l0.length:Int):=of_decide_eq_true zq1
     obtain⟨ad110,e110,hx110_0⟩:=Kd.at_int HR0.out x8_1 p110 q110
     cases e110
     replace p110:=eq_true p110
     replace q110:=eq_true q110
     go_wp2
     go_ret
     exact⟨by first|rfl|(simp;done)|(simp [*];done),by repeat(first|exact Drawn0.refl _|apply Drawn0.step)⟩
    ·rw [if_neg c6] at H
     have c6b0:(a1== (rd l0 x8_1))=false:=beq_eq_false_iff_ne.mpr c6
     have c6b1:(a1 != (rd l0 x8_1))=true:=bne_iff_ne.mpr c6
     have H':=Aside0.mk H
     clear H
     have p110: 0≤ (x8_1:Int):=of_decide_eq_true zq1
     have q110:x8_1< (l0.length:Int):=of_decide_eq_true zq1
     obtain⟨ad110,e110,hx110_0⟩:=Kd.at_int HR0.out x8_1 p110 q110
     cases e110
     replace p110:=eq_true p110
     replace q110:=eq_true q110
     go_wp2
     go_roundg k1
     case measure=>have:=HK1.out;omega
     case rel=>exact⟨(wrap64 (x8_1+1)),zrs,H',⟨by have:=HK1.out;omega⟩,by repeat(first|exact Drawn0.refl _|apply Drawn0.step)⟩
   ·rw [if_neg c3] at H
    have c3b0:decide (x8_1< (l0.length:Int))=false:=decide_eq_false c3
    clear c3
    obtain rfl:=Option.some.inj H
    go_wp2
    go_ret
    exact⟨by first|rfl|(simp;done)|(simp [*];done),by repeat(first|exact Drawn0.refl _|apply Drawn0.step)⟩
def impl_PlaceOf.f (k:Nat) (l0:List Int) (a1:Int):Option (Int × Bool):=(slices_Index_int.f k l0 a1).bind fun t111=>(if (l0.length:Int) > 8 then(some (0,false)) else(if t111< 0 then(some (0,false)) else(some (t111,true))))
set_option maxHeartbeats 8000000 in
set_option maxRecDepth 100000 in
theorem impl_PlaceOf.calls (k:Nat) (A0:Option Addr) (c0:Nat) (l0:List Int) (a1:Int) (r1:Int) (r2:Bool) (w:World) (hr0:Kd.C (Kd.int .i64) w A0 l0.length l0) (hc0:l0.length≤c0) (h:impl_PlaceOf.f k l0 a1=some (r1,r2)):
  Calls Try.prog 15 #[.slice A0 l0.length c0,.int .i64 a1] w fun e w'=>e= .returned (.tuple #[.int .i64 r1,.bool r2])∧Drawn0 w w':=by
 have HR0:=Aside0.mk hr0
 have HC0:=Aside0.mk hc0
 clear hr0 hc0
 have H:((slices_Index_int.f k l0 a1).bind fun t111=>(if (l0.length:Int) > 8 then(some (0,false)) else(if t111< 0 then(some (0,false)) else(some (t111,true)))))=some (r1,r2):=h
 clear h
 replace H:=Option.bind_eq_some_iff.mp H
 obtain⟨t111,A30,H⟩:=H
 replace H:(if (l0.length:Int) > 8 then(some (0,false)) else(if t111< 0 then(some (0,false)) else(some (t111,true))))=some (r1,r2):=H
 have A3:=Aside0.mk A30
 clear A30
 by_cases c4:(l0.length:Int) > 8
 ·rw [if_pos c4] at H
  have c4b0:decide (8< (l0.length:Int))=true:=decide_eq_true c4
  have c4b1:decide (8<l0.length)=true:=decide_eq_true (by omega)
  clear c4
  simp only [Option.some.injEq,Prod.mk.injEq] at H
  obtain⟨rfl,rfl⟩:=H
  go_enter Try.func15,Try.ntmps15
  go_wp2_with (first|((with_reducible refine gate_callee (f:=45) rfl ?_);refine goesL_ (some 9) rfl rfl Try.func45 (by kernel_rfl) rfl #[.slice A0 l0.length c0,.int .i64 a1] rfl zq2 ?_;(with_reducible refine(slices_Index_int.calls k _ _ l0 a1 t111 _ ?side1 ?side2 A3.out).mono ?_);(case side1=>exact zcc (HR0.out));(case side2=>exact HC0.out);rintro e w' ⟨rfl,⟨nd,rfl⟩⟩;refine⟨_,rfl,?_⟩))
  go_ret2
  exact⟨by first|rfl|(simp;done)|(simp [*];done),by repeat(first|exact Drawn0.refl _|apply Drawn0.step)⟩
 ·rw [if_neg c4] at H
  have c4b0:decide (8< (l0.length:Int))=false:=decide_eq_false c4
  have c4b1:decide (8<l0.length)=false:=decide_eq_false (by omega)
  clear c4
  by_cases c5:t111< 0
  ·rw [if_pos c5] at H
   have c5b0:decide (t111< 0)=true:=decide_eq_true c5
   clear c5
   simp only [Option.some.injEq,Prod.mk.injEq] at H
   obtain⟨rfl,rfl⟩:=H
   go_enter Try.func15,Try.ntmps15
   go_wp2_with (first|((with_reducible refine gate_callee (f:=45) rfl ?_);refine goesL_ (some 9) rfl rfl Try.func45 (by kernel_rfl) rfl #[.slice A0 l0.length c0,.int .i64 a1] rfl zq2 ?_;(with_reducible refine(slices_Index_int.calls k _ _ l0 a1 t111 _ ?side1 ?side2 A3.out).mono ?_);(case side1=>exact zcc (HR0.out));(case side2=>exact HC0.out);rintro e w' ⟨rfl,⟨nd,rfl⟩⟩;refine⟨_,rfl,?_⟩))
   go_ret2
   exact⟨by first|rfl|(simp;done)|(simp [*];done),by repeat(first|exact Drawn0.refl _|apply Drawn0.step)⟩
  ·rw [if_neg c5] at H
   have c5b0:decide (t111< 0)=false:=decide_eq_false c5
   clear c5
   simp only [Option.some.injEq,Prod.mk.injEq] at H
   obtain⟨rfl,rfl⟩:=H
   go_enter Try.func15,Try.ntmps15
   go_wp2_with (first|((with_reducible refine gate_callee (f:=45) rfl ?_);refine goesL_ (some 9) rfl rfl Try.func45 (by kernel_rfl) rfl #[.slice A0 l0.length c0,.int .i64 a1] rfl zq2 ?_;(with_reducible refine(slices_Index_int.calls k _ _ l0 a1 t111 _ ?side1 ?side2 A3.out).mono ?_);(case side1=>exact zcc (HR0.out));(case side2=>exact HC0.out);rintro e w' ⟨rfl,⟨nd,rfl⟩⟩;refine⟨_,rfl,?_⟩))
   go_ret2
   exact⟨by first|rfl|(simp;done)|(simp [*];done),by repeat(first|exact Drawn0.refl _|apply Drawn0.step)⟩
def spec_l1In.f (a0:Int) (a1:Int) (a2:Int):Option (Bool):=if a0≥a1 then(some (decide (a0≤a2))) else(some false)
set_option maxHeartbeats 8000000 in
set_option maxRecDepth 100000 in
theorem spec_l1In.calls (a0:Int) (a1:Int) (a2:Int) (r:Bool) (w:World) (h:spec_l1In.f a0 a1 a2=some r):
  Calls Try.prog 49 #[.int .i64 a0,.int .i64 a1,.int .i64 a2] w fun e w'=>e= .returned (.bool r)∧Drawn0 w w':=by
 have H:(if a0≥a1 then(some (decide (a0≤a2))) else(some false))=some r:=h
 clear h
 by_cases c4:a0≥a1
 ·rw [if_pos c4] at H
  have c4b0:decide (a1≤a0)=true:=decide_eq_true c4
  clear c4
  obtain rfl:=Option.some.inj H
  go_enter Try.func49,Try.ntmps49
  go_wp2
  go_ret
  exact⟨by first|rfl|(simp;done)|(simp [*];done),by repeat(first|exact Drawn0.refl _|apply Drawn0.step)⟩
 ·rw [if_neg c4] at H
  have c4b0:decide (a1≤a0)=false:=decide_eq_false c4
  clear c4
  obtain rfl:=Option.some.inj H
  go_enter Try.func49,Try.ntmps49
  go_wp2
  go_ret
  exact⟨by first|rfl|(simp;done)|(simp [*];done),by repeat(first|exact Drawn0.refl _|apply Drawn0.step)⟩
def spec_l12All.l0:Nat→List Int→Int→List Int→Int→Int→Option (Bool)
 | 0,_,_,_,_,_=>none
 |k+1,x0,x1,x7,x8,x9=>if x9<x8 then(if 0≤x9 then(if x9< (x7.length:Int) then((spec_l1In.f (rd x7 x9) 0 (wrap64 (x1 - 1))).bind fun t135=>(if t135=true then(if x9≤ (x0.length:Int) then((spec_l1Has.f k (x0.take (x9:Int).toNat) (rd x7 x9)).bind fun t137=>(if t137=true then(some false) else(spec_l12All.l0 k x0 x1 x7 x8 (wrap64 (x9+1))))) else(none)) else(some false))) else(none)) else(none)) else(some ((x0.length:Int)==x1))
def spec_l12All.f (k:Nat) (l0:List Int) (a1:Int):Option (Bool):=spec_l12All.l0 k l0 a1 l0 (l0.length:Int) 0
set_option maxHeartbeats 8000000 in
set_option maxRecDepth 100000 in
theorem spec_l12All.calls (k:Nat) (A0:Option Addr) (c0:Nat) (l0:List Int) (a1:Int) (r:Bool) (w:World) (hr0:Kd.C (Kd.int .i64) w A0 l0.length l0) (hc0:l0.length≤c0) (h:spec_l12All.f k l0 a1=some r):
  Calls Try.prog 48 #[.slice A0 l0.length c0,.int .i64 a1] w fun e w'=>e= .returned (.bool r)∧Drawn0 w w':=by
 have HR0:=Aside0.mk hr0
 have HC0:=Aside0.mk hc0
 clear hr0 hc0
 have H:(spec_l12All.l0 k l0 a1 l0 (l0.length:Int) 0)=some r:=h
 clear h
 have H':=Aside0.mk H
 clear H
 go_enter Try.func48,Try.ntmps48
 go_wp2
 go_loopg [9] k (fun kq v9 w'=> ∃ (x9_1:Int),v9= .int .i64 x9_1∧Aside0 (spec_l12All.l0 kq l0 a1 l0 (l0.length:Int) x9_1=some r)∧Aside0 (kq≤k)∧Drawn0 w w')
 case atStart=>exact⟨(0),zrs,H',⟨Nat.le_refl _⟩,by repeat(first|exact Drawn0.refl _|apply Drawn0.step)⟩
 case round=>
  clear H'
  try clear p2
  obtain⟨x9_1,rfl,HA,HK1,⟨m1,rfl⟩⟩:=hrel
  cases gk with
  |zero=>exact absurd HA.out (by simp [spec_l12All.l0])
  |succ k1=>
   have H:=HA.out
   clear HA
   simp only [spec_l12All.l0] at H
   by_cases c3:x9_1< (l0.length:Int)
   ·rw [if_pos c3] at H
    have c3b0:decide (x9_1< (l0.length:Int))=true:=decide_eq_true c3
    clear c3
    by_cases c4: 0≤x9_1
    case neg=>exact znn c4 H
    rw [if_pos c4] at H
    have c4b0:decide (0≤x9_1)=true:=decide_eq_true c4
    clear c4
    by_cases c5:x9_1< (l0.length:Int)
    case neg=>exact znn c5 H
    rw [if_pos c5] at H
    have c5b0:decide (x9_1< (l0.length:Int))=true:=decide_eq_true c5
    clear c5
    replace H:=Option.bind_eq_some_iff.mp H
    obtain⟨t135,A60,H⟩:=H
    replace H:(if t135=true then(if x9_1≤ (l0.length:Int) then((spec_l1Has.f k1 (l0.take (x9_1:Int).toNat) (rd l0 x9_1)).bind fun t137=>(if t137=true then(some false) else(spec_l12All.l0 k1 l0 a1 l0 (l0.length:Int) (wrap64 (x9_1+1))))) else(none)) else(some false))=some r:=H
    have A6:=Aside0.mk A60
    clear A60
    by_cases c7:t135=true
    ·subst c7
     have H1:(if x9_1≤ (l0.length:Int) then((spec_l1Has.f k1 (l0.take (x9_1:Int).toNat) (rd l0 x9_1)).bind fun t137=>(if t137=true then(some false) else(spec_l12All.l0 k1 l0 a1 l0 (l0.length:Int) (wrap64 (x9_1+1))))) else(none))=some r:=by rw [if_pos rfl] at H;exact H
     clear H
     have H:=H1
     clear H1
     have c8b0:=eq_true (of_decide_eq_true zq1: 0≤x9_1)
     by_cases c9:x9_1≤ (l0.length:Int)
     case neg=>exact znn c9 H
     rw [if_pos c9] at H
     have c9b0:=eq_true c9
     have c9b1:decide (x9_1≤ (l0.length:Int))=true:=decide_eq_true c9
     clear c9
     replace H:=Option.bind_eq_some_iff.mp H
     obtain⟨t137,A100,H⟩:=H
     replace H:(if t137=true then(some false) else(spec_l12All.l0 k1 l0 a1 l0 (l0.length:Int) (wrap64 (x9_1+1))))=some r:=H
     have A10:=Aside0.mk A100
     clear A100
     by_cases c11:t137=true
     ·subst c11
      have H1:(some false)=some r:=by rw [if_pos rfl] at H;exact H
      clear H
      have H:=H1
      clear H1
      obtain rfl:=Option.some.inj H
      have p134: 0≤ (x9_1:Int):=of_decide_eq_true zq1
      have q134:x9_1< (l0.length:Int):=of_decide_eq_true zq1
      obtain⟨ad134,e134,hx134_0⟩:=Kd.at_int HR0.out x9_1 p134 q134
      cases e134
      replace p134:=eq_true p134
      replace q134:=eq_true q134
      go_wp2_with (first|((with_reducible refine gate_callee (f:=49) rfl ?_);refine goesL_ (some 17) rfl rfl Try.func49 (by kernel_rfl) rfl #[.int .i64 (rd l0 x9_1),.int .i64 0,.int .i64 (wrap64 (a1 - 1))] rfl zq2 ?_;(with_reducible refine(spec_l1In.calls (rd l0 x9_1) 0 (wrap64 (a1 - 1)) true _ A6.out).mono ?_);rintro e w' ⟨rfl,⟨nd,rfl⟩⟩;refine⟨_,rfl,?_⟩;obtain⟨i012,hi012,_,hsz12,_⟩:=info_parts info3;obtain⟨hcut12,hA12,hC12⟩:=print_take_of (P:=Try.prog) (Value.int .i64) 0 22 3 .i64 Try.underlying22 hi012 hsz12 (some ad134) c0 l0 x9_1 (of_decide_eq_true zq1) (of_decide_eq_true zq1) HC0.out;have HR136:=Aside0.mk (Kd.C_of_reads (h1:=fun _=>rfl) (hA12 _ (Kd.reads_of_C HR0.out)));have HC136:=Aside0.mk hC12;clear hA12 hC12 hi012 hsz12)|(go_at_call 43;refine call_args (a:= #[.slice ?_ (l0.take (x9_1:Int).toNat).length ?_,?_]) (by rw [show (l0.take (x9_1:Int).toNat).length= (x9_1:Int).toNat from by rw [List.length_take];have h_:(x9_1:Int)≤ (l0.length:Int):=of_decide_eq_true zq1;omega]) ?_;(with_reducible refine(spec_l1Has.calls k1 _ _ (l0.take (x9_1:Int).toNat) (rd l0 x9_1) true _ ?side1 ?side2 A10.out).mono ?_);(case side1=>exact zcc (HR136.out));(case side2=>exact HC136.out);rintro e w' ⟨rfl,⟨nd,rfl⟩⟩))
      go_ret
      exact⟨by first|rfl|(simp;done)|(simp [*];done),by repeat(first|exact Drawn0.refl _|apply Drawn0.step)⟩
     ·replace c11:=Bool.eq_false_iff.mpr c11
      subst c11
      have H1:(spec_l12All.l0 k1 l0 a1 l0 (l0.length:Int) (wrap64 (x9_1+1)))=some r:=by rw [if_neg (show ¬ (false=true) by decide)] at H;exact H
      clear H
      have H:=H1
      clear H1
      have H':=Aside0.mk H
      clear H
      have p134: 0≤ (x9_1:Int):=of_decide_eq_true zq1
      have q134:x9_1< (l0.length:Int):=of_decide_eq_true zq1
      obtain⟨ad134,e134,hx134_0⟩:=Kd.at_int HR0.out x9_1 p134 q134
      cases e134
      replace p134:=eq_true p134
      replace q134:=eq_true q134
      go_wp2_with (first|((with_reducible refine gate_callee (f:=49) rfl ?_);refine goesL_ (some 17) rfl rfl Try.func49 (by kernel_rfl) rfl #[.int .i64 (rd l0 x9_1),.int .i64 0,.int .i64 (wrap64 (a1 - 1))] rfl zq2 ?_;(with_reducible refine(spec_l1In.calls (rd l0 x9_1) 0 (wrap64 (a1 - 1)) true _ A6.out).mono ?_);rintro e w' ⟨rfl,⟨nd,rfl⟩⟩;refine⟨_,rfl,?_⟩;obtain⟨i013,hi013,_,hsz13,_⟩:=info_parts info3;obtain⟨hcut13,hA13,hC13⟩:=print_take_of (P:=Try.prog) (Value.int .i64) 0 22 3 .i64 Try.underlying22 hi013 hsz13 (some ad134) c0 l0 x9_1 (of_decide_eq_true zq1) (of_decide_eq_true zq1) HC0.out;have HR136:=Aside0.mk (Kd.C_of_reads (h1:=fun _=>rfl) (hA13 _ (Kd.reads_of_C HR0.out)));have HC136:=Aside0.mk hC13;clear hA13 hC13 hi013 hsz13)|(go_at_call 43;refine call_args (a:= #[.slice ?_ (l0.take (x9_1:Int).toNat).length ?_,?_]) (by rw [show (l0.take (x9_1:Int).toNat).length= (x9_1:Int).toNat from by rw [List.length_take];have h_:(x9_1:Int)≤ (l0.length:Int):=of_decide_eq_true zq1;omega]) ?_;(with_reducible refine(spec_l1Has.calls k1 _ _ (l0.take (x9_1:Int).toNat) (rd l0 x9_1) false _ ?side1 ?side2 A10.out).mono ?_);(case side1=>exact zcc (HR136.out));(case side2=>exact HC136.out);rintro e w' ⟨rfl,⟨nd,rfl⟩⟩))
      go_roundg k1
      case measure=>have:=HK1.out;omega
      case rel=>exact⟨(wrap64 (x9_1+1)),zrs,H',⟨by have:=HK1.out;omega⟩,by repeat(first|exact Drawn0.refl _|apply Drawn0.step)⟩
    ·replace c7:=Bool.eq_false_iff.mpr c7
     subst c7
     have H1:(some false)=some r:=by rw [if_neg (show ¬ (false=true) by decide)] at H;exact H
     clear H
     have H:=H1
     clear H1
     obtain rfl:=Option.some.inj H
     have p134: 0≤ (x9_1:Int):=of_decide_eq_true zq1
     have q134:x9_1< (l0.length:Int):=of_decide_eq_true zq1
     obtain⟨ad134,e134,hx134_0⟩:=Kd.at_int HR0.out x9_1 p134 q134
     cases e134
     replace p134:=eq_true p134
     replace q134:=eq_true q134
     go_wp2_with (first|((with_reducible refine gate_callee (f:=49) rfl ?_);refine goesL_ (some 17) rfl rfl Try.func49 (by kernel_rfl) rfl #[.int .i64 (rd l0 x9_1),.int .i64 0,.int .i64 (wrap64 (a1 - 1))] rfl zq2 ?_;(with_reducible refine(spec_l1In.calls (rd l0 x9_1) 0 (wrap64 (a1 - 1)) false _ A6.out).mono ?_);rintro e w' ⟨rfl,⟨nd,rfl⟩⟩;refine⟨_,rfl,?_⟩))
     go_ret
     exact⟨by first|rfl|(simp;done)|(simp [*];done),by repeat(first|exact Drawn0.refl _|apply Drawn0.step)⟩
   ·rw [if_neg c3] at H
    have c3b0:decide (x9_1< (l0.length:Int))=false:=decide_eq_false c3
    clear c3
    obtain rfl:=Option.some.inj H
    go_wp2
    go_ret
    exact⟨by first|rfl|(simp;done)|(simp [*];done),by repeat(first|exact Drawn0.refl _|apply Drawn0.step)⟩
def spec_l1All.l0:Nat→Int→Int→List Int→Int→Int→Option (Bool)
 | 0,_,_,_,_,_=>none
 |k+1,x1,x2,x9,x10,x11=>if x11<x10 then(if 0≤x11 then(if x11< (x9.length:Int) then((spec_l1In.f (rd x9 x11) x1 x2).bind fun t139=>(if t139=true then(spec_l1All.l0 k x1 x2 x9 x10 (wrap64 (x11+1))) else(some false))) else(none)) else(none)) else(some true)
def spec_l1All.f (k:Nat) (l0:List Int) (a1:Int) (a2:Int):Option (Bool):=spec_l1All.l0 k a1 a2 l0 (l0.length:Int) 0
set_option maxHeartbeats 8000000 in
set_option maxRecDepth 100000 in
theorem spec_l1All.calls (k:Nat) (A0:Option Addr) (c0:Nat) (l0:List Int) (a1:Int) (a2:Int) (r:Bool) (w:World) (hr0:Kd.C (Kd.int .i64) w A0 l0.length l0) (hc0:l0.length≤c0) (h:spec_l1All.f k l0 a1 a2=some r):
  Calls Try.prog 50 #[.slice A0 l0.length c0,.int .i64 a1,.int .i64 a2] w fun e w'=>e= .returned (.bool r)∧Drawn0 w w':=by
 have HR0:=Aside0.mk hr0
 have HC0:=Aside0.mk hc0
 clear hr0 hc0
 have H:(spec_l1All.l0 k a1 a2 l0 (l0.length:Int) 0)=some r:=h
 clear h
 have H':=Aside0.mk H
 clear H
 go_enter Try.func50,Try.ntmps50
 go_wp2
 go_loopg [11] k (fun kq v11 w'=> ∃ (x11_1:Int),v11= .int .i64 x11_1∧Aside0 (spec_l1All.l0 kq a1 a2 l0 (l0.length:Int) x11_1=some r)∧Aside0 (kq≤k)∧Drawn0 w w')
 case atStart=>exact⟨(0),zrs,H',⟨Nat.le_refl _⟩,by repeat(first|exact Drawn0.refl _|apply Drawn0.step)⟩
 case round=>
  clear H'
  try clear p2
  obtain⟨x11_1,rfl,HA,HK1,⟨m1,rfl⟩⟩:=hrel
  cases gk with
  |zero=>exact absurd HA.out (by simp [spec_l1All.l0])
  |succ k1=>
   have H:=HA.out
   clear HA
   simp only [spec_l1All.l0] at H
   by_cases c4:x11_1< (l0.length:Int)
   ·rw [if_pos c4] at H
    have c4b0:decide (x11_1< (l0.length:Int))=true:=decide_eq_true c4
    clear c4
    by_cases c5: 0≤x11_1
    case neg=>exact znn c5 H
    rw [if_pos c5] at H
    have c5b0:decide (0≤x11_1)=true:=decide_eq_true c5
    clear c5
    by_cases c6:x11_1< (l0.length:Int)
    case neg=>exact znn c6 H
    rw [if_pos c6] at H
    have c6b0:decide (x11_1< (l0.length:Int))=true:=decide_eq_true c6
    clear c6
    replace H:=Option.bind_eq_some_iff.mp H
    obtain⟨t139,A70,H⟩:=H
    replace H:(if t139=true then(spec_l1All.l0 k1 a1 a2 l0 (l0.length:Int) (wrap64 (x11_1+1))) else(some false))=some r:=H
    have A7:=Aside0.mk A70
    clear A70
    by_cases c8:t139=true
    ·subst c8
     have H1:(spec_l1All.l0 k1 a1 a2 l0 (l0.length:Int) (wrap64 (x11_1+1)))=some r:=by rw [if_pos rfl] at H;exact H
     clear H
     have H:=H1
     clear H1
     have H':=Aside0.mk H
     clear H
     have p138: 0≤ (x11_1:Int):=of_decide_eq_true zq1
     have q138:x11_1< (l0.length:Int):=of_decide_eq_true zq1
     obtain⟨ad138,e138,hx138_0⟩:=Kd.at_int HR0.out x11_1 p138 q138
     cases e138
     replace p138:=eq_true p138
     replace q138:=eq_true q138
     go_wp2_with (first|((with_reducible refine gate_callee (f:=49) rfl ?_);refine goesL_ (some 18) rfl rfl Try.func49 (by kernel_rfl) rfl #[.int .i64 (rd l0 x11_1),.int .i64 a1,.int .i64 a2] rfl zq2 ?_;(with_reducible refine(spec_l1In.calls (rd l0 x11_1) a1 a2 true _ A7.out).mono ?_);rintro e w' ⟨rfl,⟨nd,rfl⟩⟩;refine⟨_,rfl,?_⟩))
     go_roundg k1
     case measure=>have:=HK1.out;omega
     case rel=>exact⟨(wrap64 (x11_1+1)),zrs,H',⟨by have:=HK1.out;omega⟩,by repeat(first|exact Drawn0.refl _|apply Drawn0.step)⟩
    ·replace c8:=Bool.eq_false_iff.mpr c8
     subst c8
     have H1:(some false)=some r:=by rw [if_neg (show ¬ (false=true) by decide)] at H;exact H
     clear H
     have H:=H1
     clear H1
     obtain rfl:=Option.some.inj H
     have p138: 0≤ (x11_1:Int):=of_decide_eq_true zq1
     have q138:x11_1< (l0.length:Int):=of_decide_eq_true zq1
     obtain⟨ad138,e138,hx138_0⟩:=Kd.at_int HR0.out x11_1 p138 q138
     cases e138
     replace p138:=eq_true p138
     replace q138:=eq_true q138
     go_wp2_with (first|((with_reducible refine gate_callee (f:=49) rfl ?_);refine goesL_ (some 18) rfl rfl Try.func49 (by kernel_rfl) rfl #[.int .i64 (rd l0 x11_1),.int .i64 a1,.int .i64 a2] rfl zq2 ?_;(with_reducible refine(spec_l1In.calls (rd l0 x11_1) a1 a2 false _ A7.out).mono ?_);rintro e w' ⟨rfl,⟨nd,rfl⟩⟩;refine⟨_,rfl,?_⟩))
     go_ret
     exact⟨by first|rfl|(simp;done)|(simp [*];done),by repeat(first|exact Drawn0.refl _|apply Drawn0.step)⟩
   ·rw [if_neg c4] at H
    have c4b0:decide (x11_1< (l0.length:Int))=false:=decide_eq_false c4
    clear c4
    obtain rfl:=Option.some.inj H
    go_wp2
    go_ret
    exact⟨by first|rfl|(simp;done)|(simp [*];done),by repeat(first|exact Drawn0.refl _|apply Drawn0.step)⟩
mutual
def spec_GoodWishes.l0:Nat→Int→Int→List (List Int)→Int→Int→List (List Int)→List (List Int)→List Int→Option (Bool)
 | 0,_,_,_,_,_,_,_,_=>none
 |k+1,x3,x4,x16,x17,x18,x141000,x141001,x141002=>if x18<x17 then(if 0≤x18 then(if x18< (x16.length:Int) then((spec_l12All.f k (rd_L1 x16 x18) x4).bind fun t142=>(if t142=true then(spec_GoodWishes.l0 k x3 x4 x16 x17 (wrap64 (x18+1)) x141000 x141001 x141002) else(some false))) else(none)) else(none)) else(spec_GoodWishes.l1 k x3 x4 x141001 (x141001.length:Int) 0 x141000 x141001 x141002)
def spec_GoodWishes.l1:Nat→Int→Int→List (List Int)→Int→Int→List (List Int)→List (List Int)→List Int→Option (Bool)
 | 0,_,_,_,_,_,_,_,_=>none
 |k+1,x3,x4,x28,x29,x30,x141000,x141001,x141002=>if x30<x29 then(if 0≤x30 then(if x30< (x28.length:Int) then((spec_l12All.f k (rd_L1 x28 x30) x3).bind fun t144=>(if t144=true then(spec_GoodWishes.l1 k x3 x4 x28 x29 (wrap64 (x30+1)) x141000 x141001 x141002) else(some false))) else(none)) else(none)) else((spec_l1In.f x3 1 8).bind fun t145=>(if t145=true then((spec_l1In.f x4 1 8).bind fun t146=>(if t146=true then(if (x141002.length:Int)=x4 then((spec_l1All.f k x141002 0 8).bind fun t147=>(some t147)) else(some false)) else(some false))) else(some false)))
end
def spec_GoodWishes.f (k:Nat) (l0_0:List (List Int)) (l0_1:List (List Int)) (l0_2:List Int):Option (Bool):=spec_GoodWishes.l0 k (l0_0.length:Int) (l0_1.length:Int) l0_0 (l0_0.length:Int) 0 l0_0 l0_1 l0_2
theorem zcz {w:World} {g t:Nat} {cells:Array Value} (b:Aside0 (w.heap[g]?=some (.cells cells t (0,0)))) (i:Nat) (v:Value) (h:cells[i]?=some v:=by rfl):w.cell? ⟨g,i,none⟩=some v:=(blk_cell b.out i).trans h
theorem zer {p:Prop} (h:p:=by first|rfl|(simp [errW_none,errW_some]<;>rfl)|(simp [*,errW_none,errW_some]<;>rfl)):p:=h
theorem zhx {w W:World} {a:Addr} {v:Value} (b:Aside0 (Below w.heap.size w W)) (h:w.cell? a=some v):W.cell? a=some v:=(b.out.cell (World.block_lt_of_cell? w _ h)).trans h
theorem zk1 {q p:Prop} (b:Aside0 q) (h:q→p:=by intro z;repeat(first|(with_reducible first|exact z|apply below_alloc|apply pw_below_drewN|apply below_drew1)|exact z)):p:=h b.out
theorem zk2 {q r1 p:Prop} (b:Aside0 q) (b1:r1) (h:q→r1→p:=by intro z g1;repeat(first|(with_reducible first|exact z|apply below_alloc|apply pw_below_drewN|apply below_drew1|refine below_set ?_ g1)|exact z)):p:=h b.out b1
set_option maxHeartbeats 8000000 in
set_option maxRecDepth 100000 in
theorem spec_GoodWishes.calls (k:Nat) (A0_0:Option Addr) (c0_0:Nat) (l0_0:List (List Int)) (A0_1:Option Addr) (c0_1:Nat) (l0_1:List (List Int)) (A0_2:Option Addr) (c0_2:Nat) (l0_2:List Int) (r:Bool) (w:World) (hr0_0:Kd.C (Kd.slice 3 (Kd.int .i64)) w A0_0 l0_0.length l0_0) (hc0_0:l0_0.length≤c0_0) (hr0_1:Kd.C (Kd.slice 3 (Kd.int .i64)) w A0_1 l0_1.length l0_1) (hc0_1:l0_1.length≤c0_1) (hr0_2:Kd.C (Kd.int .i64) w A0_2 l0_2.length l0_2) (hc0_2:l0_2.length≤c0_2) (h:spec_GoodWishes.f k l0_0 l0_1 l0_2=some r):
  Calls Try.prog 18 #[.agg #[.slice A0_0 l0_0.length c0_0,.slice A0_1 l0_1.length c0_1,.slice A0_2 l0_2.length c0_2]] w fun e w'=>e= .returned (.bool r)∧Below w.heap.size w w':=by
 have hu33:=Try.underlying33
 have HR0_0:=Aside0.mk hr0_0
 have HC0_0:=Aside0.mk hc0_0
 clear hr0_0 hc0_0
 have HR0_1:=Aside0.mk hr0_1
 have HC0_1:=Aside0.mk hc0_1
 clear hr0_1 hc0_1
 have HR0_2:=Aside0.mk hr0_2
 have HC0_2:=Aside0.mk hc0_2
 clear hr0_2 hc0_2
 have HB:=Aside0.mk (Below.refl w.heap.size w)
 have H:(spec_GoodWishes.l0 k (l0_0.length:Int) (l0_1.length:Int) l0_0 (l0_0.length:Int) 0 l0_0 l0_1 l0_2)=some r:=h
 clear h
 have H':=Aside0.mk H
 clear H
 go_enter Try.func18,Try.ntmps18
 go_wp2_with (first|((with_reducible refine gate_dst (N:=1) rfl ?_);(try(refine gate_guard (by rfl) ?_;dsimp only));refine box_event ?hg (N:=1) ?hd (cs:= #[.slice A0_0 l0_0.length c0_0,.slice A0_1 l0_1.length c0_1,.slice A0_2 l0_2.length c0_2]) (t:=33) ?hr ?_;(case hd=>rfl);(case hg=>rfl);(case hr=>first|(go_simp;done)|(go_simp;rfl));intro gb140 hg w2 hbox hb;have BK140:=Aside0.mk (hbox);have GW140:=Aside0.mk ((by rw [hg];exact(below_size (by exact zk1 HB)):w.heap.size≤gb140));have GE140:=GW140;replace HB:=Aside0.mk (below_step (by exact zk1 HB) hb);clear hb hbox hg;have hcz3_0:=zcz BK140 0 (.slice A0_0 l0_0.length c0_0);have hcz3_1:=zcz BK140 1 (.slice A0_1 l0_1.length c0_1);have hcz3_2:=zcz BK140 2 (.slice A0_2 l0_2.length c0_2);have hfz3_0:=blk_frozen BK140.out 0;have hfz3_1:=blk_frozen BK140.out 1;have hfz3_2:=blk_frozen BK140.out 2))
 go_loopg [18] k (fun kq v18 w'=> ∃ (x18_1:Int),v18= .int .i64 x18_1∧Aside0 (spec_GoodWishes.l0 kq (l0_0.length:Int) (l0_1.length:Int) l0_0 (l0_0.length:Int) x18_1 l0_0 l0_1 l0_2=some r)∧Aside0 (kq≤k)∧Aside0 (w'.heap[gb140]?=some (.cells #[(.slice A0_0 l0_0.length c0_0),(.slice A0_1 l0_1.length c0_1),(.slice A0_2 l0_2.length c0_2)] 33 (0,0)))∧Aside0 (Below w.heap.size w w'))
 case atStart=>exact⟨(0),zrs,H',⟨Nat.le_refl _⟩,⟨by(with_reducible repeat(first|refine blk_drewN ?_ _|refine blk_drew ?_ |refine blk_alloc ?_ _));exact BK140.out⟩,⟨by exact zk2 HB GE140.out⟩⟩
 case round=>
  clear H'
  try clear c1
  try clear p2
  try clear hcz3_0
  try clear hcz3_1
  try clear hcz3_2
  try clear hfz3_0
  try clear hfz3_1
  try clear hfz3_2
  obtain⟨x18_1,rfl,HA,HK1,BK140,HB⟩:=hrel
  cases gk with
  |zero=>exact absurd HA.out (by simp [spec_GoodWishes.l0])
  |succ k1=>
   have H:=HA.out
   clear HA
   simp only [spec_GoodWishes.l0] at H
   by_cases c4:x18_1< (l0_0.length:Int)
   ·rw [if_pos c4] at H
    have c4b0:decide (x18_1< (l0_0.length:Int))=true:=decide_eq_true c4
    clear c4
    by_cases c5: 0≤x18_1
    case neg=>exact znn c5 H
    rw [if_pos c5] at H
    have c5b0:decide (0≤x18_1)=true:=decide_eq_true c5
    clear c5
    by_cases c6:x18_1< (l0_0.length:Int)
    case neg=>exact znn c6 H
    rw [if_pos c6] at H
    have c6b0:decide (x18_1< (l0_0.length:Int))=true:=decide_eq_true c6
    clear c6
    replace H:=Option.bind_eq_some_iff.mp H
    obtain⟨t142,A70,H⟩:=H
    replace H:(if t142=true then(spec_GoodWishes.l0 k1 (l0_0.length:Int) (l0_1.length:Int) l0_0 (l0_0.length:Int) (wrap64 (x18_1+1)) l0_0 l0_1 l0_2) else(some false))=some r:=H
    have A7:=Aside0.mk A70
    clear A70
    by_cases c8:t142=true
    ·subst c8
     have H1:(spec_GoodWishes.l0 k1 (l0_0.length:Int) (l0_1.length:Int) l0_0 (l0_0.length:Int) (wrap64 (x18_1+1)) l0_0 l0_1 l0_2)=some r:=by rw [if_pos rfl] at H;exact H
     clear H
     have H:=H1
     clear H1
     have H':=Aside0.mk H
     clear H
     have p141: 0≤ (x18_1:Int):=of_decide_eq_true zq1
     have q141:x18_1< (l0_0.length:Int):=of_decide_eq_true zq1
     obtain⟨ad141,A141_0,c141_0,e141,hx141_0,hl141_0,hi141_0⟩:=at_L1 HR0_0.out x18_1 p141 q141
     cases e141
     replace hx141_0:=zhx HB hx141_0
     have HR141_0:=Aside0.mk hi141_0
     have HC141_0:=Aside0.mk hl141_0
     clear hi141_0 hl141_0
     replace p141:=eq_true p141
     replace q141:=eq_true q141
     go_wp2_with (first|((with_reducible refine gate_callee (f:=48) rfl ?_);refine goesL_ (some 24) rfl rfl Try.func48 (by kernel_rfl) rfl #[.slice A141_0 (rd_L1 l0_0 x18_1).length c141_0,.int .i64 (l0_1.length:Int)] rfl zq2 ?_;(with_reducible refine(spec_l12All.calls k1 _ _ (rd_L1 l0_0 x18_1) (l0_1.length:Int) true _ ?side1 ?side2 A7.out).mono ?_);(case side1=>exact zcc ((Kd.C_below HR141_0.out HB.out)));(case side2=>exact HC141_0.out);rintro e w' ⟨rfl,⟨nd,rfl⟩⟩;refine⟨_,rfl,?_⟩))
     go_roundg k1
     case measure=>have:=HK1.out;omega
     case rel=>exact⟨(wrap64 (x18_1+1)),zrs,H',⟨by have:=HK1.out;omega⟩,⟨by(with_reducible repeat(first|refine blk_drewN ?_ _|refine blk_drew ?_ |refine blk_alloc ?_ _));exact BK140.out⟩,⟨by exact zk2 HB GE140.out⟩⟩
    ·replace c8:=Bool.eq_false_iff.mpr c8
     subst c8
     have H1:(some false)=some r:=by rw [if_neg (show ¬ (false=true) by decide)] at H;exact H
     clear H
     have H:=H1
     clear H1
     obtain rfl:=Option.some.inj H
     have p141: 0≤ (x18_1:Int):=of_decide_eq_true zq1
     have q141:x18_1< (l0_0.length:Int):=of_decide_eq_true zq1
     obtain⟨ad141,A141_0,c141_0,e141,hx141_0,hl141_0,hi141_0⟩:=at_L1 HR0_0.out x18_1 p141 q141
     cases e141
     replace hx141_0:=zhx HB hx141_0
     have HR141_0:=Aside0.mk hi141_0
     have HC141_0:=Aside0.mk hl141_0
     clear hi141_0 hl141_0
     replace p141:=eq_true p141
     replace q141:=eq_true q141
     go_wp2_with (first|((with_reducible refine gate_callee (f:=48) rfl ?_);refine goesL_ (some 24) rfl rfl Try.func48 (by kernel_rfl) rfl #[.slice A141_0 (rd_L1 l0_0 x18_1).length c141_0,.int .i64 (l0_1.length:Int)] rfl zq2 ?_;(with_reducible refine(spec_l12All.calls k1 _ _ (rd_L1 l0_0 x18_1) (l0_1.length:Int) false _ ?side1 ?side2 A7.out).mono ?_);(case side1=>exact zcc ((Kd.C_below HR141_0.out HB.out)));(case side2=>exact HC141_0.out);rintro e w' ⟨rfl,⟨nd,rfl⟩⟩;refine⟨_,rfl,?_⟩))
     go_ret
     exact⟨zer,by exact zk2 HB GE140.out⟩
   ·rw [if_neg c4] at H
    have c4b0:decide (x18_1< (l0_0.length:Int))=false:=decide_eq_false c4
    clear c4
    have H':=Aside0.mk H
    clear H
    have hcz9_0:wr.cell? ⟨gb140,0,none⟩=some (.slice A0_0 l0_0.length c0_0):=(blk_cell BK140.out 0).trans rfl
    have hcz9_1:wr.cell? ⟨gb140,1,none⟩=some (.slice A0_1 l0_1.length c0_1):=(blk_cell BK140.out 1).trans rfl
    have hcz9_2:wr.cell? ⟨gb140,2,none⟩=some (.slice A0_2 l0_2.length c0_2):=(blk_cell BK140.out 2).trans rfl
    have hfz9_0:=blk_frozen BK140.out 0
    have hfz9_1:=blk_frozen BK140.out 1
    have hfz9_2:=blk_frozen BK140.out 2
    go_wp2
    go_loopg [30] k1 (fun kq v30 w'=> ∃ (x30_2:Int),v30= .int .i64 x30_2∧Aside0 (spec_GoodWishes.l1 kq (l0_0.length:Int) (l0_1.length:Int) l0_1 (l0_1.length:Int) x30_2 l0_0 l0_1 l0_2=some r)∧Aside0 (kq≤k1)∧Aside0 (w'.heap[gb140]?=some (.cells #[(.slice A0_0 l0_0.length c0_0),(.slice A0_1 l0_1.length c0_1),(.slice A0_2 l0_2.length c0_2)] 33 (0,0)))∧Aside0 (Below w.heap.size w w'))
    case atStart=>exact⟨(0),zrs,H',⟨Nat.le_refl _⟩,⟨by(with_reducible repeat(first|refine blk_drewN ?_ _|refine blk_drew ?_ |refine blk_alloc ?_ _));exact BK140.out⟩,⟨by exact zk2 HB GE140.out⟩⟩
    case round=>
     clear H'
     try clear c1
     try clear p1
     try clear q1
     try clear hx1
     try clear p2
     try clear c4
     try clear c4b0
     try clear c5
     try clear c5b0
     try clear c6
     try clear c6b0
     try clear p6
     try clear c8
     try clear hcz3_0
     try clear hcz3_1
     try clear hcz3_2
     try clear hcz9_0
     try clear hcz9_1
     try clear hcz9_2
     try clear hfz3_0
     try clear hfz3_1
     try clear hfz3_2
     try clear hfz9_0
     try clear hfz9_1
     try clear hfz9_2
     try clear hx141_0
     try clear p141
     try clear p2
     try clear q141
     obtain⟨x30_2,rfl,HA,HK2,BK140,HB⟩:=hrel
     cases gk with
     |zero=>exact absurd HA.out (by simp [spec_GoodWishes.l1])
     |succ k2=>
      have H:=HA.out
      clear HA
      simp only [spec_GoodWishes.l1] at H
      by_cases c10:x30_2< (l0_1.length:Int)
      ·rw [if_pos c10] at H
       have c10b0:decide (x30_2< (l0_1.length:Int))=true:=decide_eq_true c10
       clear c10
       by_cases c11: 0≤x30_2
       case neg=>exact znn c11 H
       rw [if_pos c11] at H
       have c11b0:decide (0≤x30_2)=true:=decide_eq_true c11
       clear c11
       by_cases c12:x30_2< (l0_1.length:Int)
       case neg=>exact znn c12 H
       rw [if_pos c12] at H
       have c12b0:decide (x30_2< (l0_1.length:Int))=true:=decide_eq_true c12
       clear c12
       replace H:=Option.bind_eq_some_iff.mp H
       obtain⟨t144,A130,H⟩:=H
       replace H:(if t144=true then(spec_GoodWishes.l1 k2 (l0_0.length:Int) (l0_1.length:Int) l0_1 (l0_1.length:Int) (wrap64 (x30_2+1)) l0_0 l0_1 l0_2) else(some false))=some r:=H
       have A13:=Aside0.mk A130
       clear A130
       by_cases c14:t144=true
       ·subst c14
        have H1:(spec_GoodWishes.l1 k2 (l0_0.length:Int) (l0_1.length:Int) l0_1 (l0_1.length:Int) (wrap64 (x30_2+1)) l0_0 l0_1 l0_2)=some r:=by rw [if_pos rfl] at H;exact H
        clear H
        have H:=H1
        clear H1
        have H':=Aside0.mk H
        clear H
        have p143: 0≤ (x30_2:Int):=of_decide_eq_true zq1
        have q143:x30_2< (l0_1.length:Int):=of_decide_eq_true zq1
        obtain⟨ad143,A143_0,c143_0,e143,hx143_0,hl143_0,hi143_0⟩:=at_L1 HR0_1.out x30_2 p143 q143
        cases e143
        replace hx143_0:=zhx HB hx143_0
        have HR143_0:=Aside0.mk hi143_0
        have HC143_0:=Aside0.mk hl143_0
        clear hi143_0 hl143_0
        replace p143:=eq_true p143
        replace q143:=eq_true q143
        go_wp2_with (first|((with_reducible refine gate_callee (f:=48) rfl ?_);refine goesL_ (some 36) rfl rfl Try.func48 (by kernel_rfl) rfl #[.slice A143_0 (rd_L1 l0_1 x30_2).length c143_0,.int .i64 (l0_0.length:Int)] rfl zq2 ?_;(with_reducible refine(spec_l12All.calls k2 _ _ (rd_L1 l0_1 x30_2) (l0_0.length:Int) true _ ?side1 ?side2 A13.out).mono ?_);(case side1=>exact zcc ((Kd.C_below HR143_0.out HB.out)));(case side2=>exact HC143_0.out);rintro e w' ⟨rfl,⟨nd,rfl⟩⟩;refine⟨_,rfl,?_⟩))
        go_roundg k2
        case measure=>have:=HK1.out;have:=HK2.out;omega
        case rel=>exact⟨(wrap64 (x30_2+1)),zrs,H',⟨by have:=HK1.out;have:=HK2.out;omega⟩,⟨by(with_reducible repeat(first|refine blk_drewN ?_ _|refine blk_drew ?_ |refine blk_alloc ?_ _));exact BK140.out⟩,⟨by exact zk2 HB GE140.out⟩⟩
       ·replace c14:=Bool.eq_false_iff.mpr c14
        subst c14
        have H1:(some false)=some r:=by rw [if_neg (show ¬ (false=true) by decide)] at H;exact H
        clear H
        have H:=H1
        clear H1
        obtain rfl:=Option.some.inj H
        have p143: 0≤ (x30_2:Int):=of_decide_eq_true zq1
        have q143:x30_2< (l0_1.length:Int):=of_decide_eq_true zq1
        obtain⟨ad143,A143_0,c143_0,e143,hx143_0,hl143_0,hi143_0⟩:=at_L1 HR0_1.out x30_2 p143 q143
        cases e143
        replace hx143_0:=zhx HB hx143_0
        have HR143_0:=Aside0.mk hi143_0
        have HC143_0:=Aside0.mk hl143_0
        clear hi143_0 hl143_0
        replace p143:=eq_true p143
        replace q143:=eq_true q143
        go_wp2_with (first|((with_reducible refine gate_callee (f:=48) rfl ?_);refine goesL_ (some 36) rfl rfl Try.func48 (by kernel_rfl) rfl #[.slice A143_0 (rd_L1 l0_1 x30_2).length c143_0,.int .i64 (l0_0.length:Int)] rfl zq2 ?_;(with_reducible refine(spec_l12All.calls k2 _ _ (rd_L1 l0_1 x30_2) (l0_0.length:Int) false _ ?side1 ?side2 A13.out).mono ?_);(case side1=>exact zcc ((Kd.C_below HR143_0.out HB.out)));(case side2=>exact HC143_0.out);rintro e w' ⟨rfl,⟨nd,rfl⟩⟩;refine⟨_,rfl,?_⟩))
        go_ret
        exact⟨zer,by exact zk2 HB GE140.out⟩
      ·rw [if_neg c10] at H
       have c10b0:decide (x30_2< (l0_1.length:Int))=false:=decide_eq_false c10
       clear c10
       replace H:=Option.bind_eq_some_iff.mp H
       obtain⟨t145,A150,H⟩:=H
       replace H:(if t145=true then((spec_l1In.f (l0_1.length:Int) 1 8).bind fun t146=>(if t146=true then(if (l0_2.length:Int)= (l0_1.length:Int) then((spec_l1All.f k2 l0_2 0 8).bind fun t147=>(some t147)) else(some false)) else(some false))) else(some false))=some r:=H
       have A15:=Aside0.mk A150
       clear A150
       by_cases c16:t145=true
       ·subst c16
        have H1:((spec_l1In.f (l0_1.length:Int) 1 8).bind fun t146=>(if t146=true then(if (l0_2.length:Int)= (l0_1.length:Int) then((spec_l1All.f k2 l0_2 0 8).bind fun t147=>(some t147)) else(some false)) else(some false)))=some r:=by rw [if_pos rfl] at H;exact H
        clear H
        have H:=H1
        clear H1
        replace H:=Option.bind_eq_some_iff.mp H
        obtain⟨t146,A170,H⟩:=H
        replace H:(if t146=true then(if (l0_2.length:Int)= (l0_1.length:Int) then((spec_l1All.f k2 l0_2 0 8).bind fun t147=>(some t147)) else(some false)) else(some false))=some r:=H
        have A17:=Aside0.mk A170
        clear A170
        by_cases c18:t146=true
        ·subst c18
         have H1:(if (l0_2.length:Int)= (l0_1.length:Int) then((spec_l1All.f k2 l0_2 0 8).bind fun t147=>(some t147)) else(some false))=some r:=by rw [if_pos rfl] at H;exact H
         clear H
         have H:=H1
         clear H1
         by_cases c19:(l0_2.length:Int)= (l0_1.length:Int)
         ·rw [if_pos c19] at H
          have c19b0:((l0_2.length:Int)== (l0_1.length:Int))=true:=beq_iff_eq.mpr c19
          have c19b1:((l0_2.length:Int) != (l0_1.length:Int))=false:=bne_eq_false_iff_eq.mpr c19
          have c19b2:(l0_2.length==l0_1.length)=true:=by first|simpa using c19|(simp at c19 ⊢;omega)
          clear c19
          replace H:=Option.bind_eq_some_iff.mp H
          obtain⟨t147,A200,H⟩:=H
          replace H:(some t147)=some r:=H
          have A20:=Aside0.mk A200
          clear A200
          obtain rfl:=Option.some.inj H
          go_wp2_with (first|((with_reducible refine gate_callee (f:=49) rfl ?_);refine goesL_ (some 40) rfl rfl Try.func49 (by kernel_rfl) rfl #[.int .i64 (l0_0.length:Int),.int .i64 1,.int .i64 8] rfl zq2 ?_;(with_reducible refine(spec_l1In.calls (l0_0.length:Int) 1 8 true _ A15.out).mono ?_);rintro e w' ⟨rfl,⟨nd,rfl⟩⟩;refine⟨_,rfl,?_⟩)|(go_at_call 49;(with_reducible refine(spec_l1In.calls (l0_1.length:Int) 1 8 true _ A17.out).mono ?_);rintro e w' ⟨rfl,⟨nd,rfl⟩⟩;have hcz21_0:wr.cell? ⟨gb140,0,none⟩=some (.slice A0_0 l0_0.length c0_0):=(blk_cell BK140.out 0).trans rfl;have hcz21_1:wr.cell? ⟨gb140,1,none⟩=some (.slice A0_1 l0_1.length c0_1):=(blk_cell BK140.out 1).trans rfl;have hcz21_2:wr.cell? ⟨gb140,2,none⟩=some (.slice A0_2 l0_2.length c0_2):=(blk_cell BK140.out 2).trans rfl;have hfz21_0:=blk_frozen BK140.out 0;have hfz21_1:=blk_frozen BK140.out 1;have hfz21_2:=blk_frozen BK140.out 2)|(go_at_call 50;(with_reducible refine(spec_l1All.calls k2 _ _ l0_2 0 8 t147 _ ?side1 ?side2 A20.out).mono ?_);(case side1=>repeat(first|exact(Kd.C_below HR0_2.out (by exact zk2 HB GE140.out))|(with_reducible refine Kd.C_alloc ?_ _)|(with_reducible refine Kd.C_drewN ?_ _)|(with_reducible refine Kd.C_drew ?_)));(case side2=>exact HC0_2.out);rintro e w' ⟨rfl,⟨nd,rfl⟩⟩))
          go_ret
          exact⟨zer,by exact zk2 HB GE140.out⟩
         ·rw [if_neg c19] at H
          have c19b0:((l0_2.length:Int)== (l0_1.length:Int))=false:=beq_eq_false_iff_ne.mpr c19
          have c19b1:((l0_2.length:Int) != (l0_1.length:Int))=true:=bne_iff_ne.mpr c19
          have c19b2:(l0_2.length==l0_1.length)=false:=by first|simpa using c19|(simp at c19 ⊢;omega)
          obtain rfl:=Option.some.inj H
          go_wp2_with (first|((with_reducible refine gate_callee (f:=49) rfl ?_);refine goesL_ (some 40) rfl rfl Try.func49 (by kernel_rfl) rfl #[.int .i64 (l0_0.length:Int),.int .i64 1,.int .i64 8] rfl zq2 ?_;(with_reducible refine(spec_l1In.calls (l0_0.length:Int) 1 8 true _ A15.out).mono ?_);rintro e w' ⟨rfl,⟨nd,rfl⟩⟩;refine⟨_,rfl,?_⟩)|(go_at_call 49;(with_reducible refine(spec_l1In.calls (l0_1.length:Int) 1 8 true _ A17.out).mono ?_);rintro e w' ⟨rfl,⟨nd,rfl⟩⟩;have hcz22_0:wr.cell? ⟨gb140,0,none⟩=some (.slice A0_0 l0_0.length c0_0):=(blk_cell BK140.out 0).trans rfl;have hcz22_1:wr.cell? ⟨gb140,1,none⟩=some (.slice A0_1 l0_1.length c0_1):=(blk_cell BK140.out 1).trans rfl;have hcz22_2:wr.cell? ⟨gb140,2,none⟩=some (.slice A0_2 l0_2.length c0_2):=(blk_cell BK140.out 2).trans rfl;have hfz22_0:=blk_frozen BK140.out 0;have hfz22_1:=blk_frozen BK140.out 1;have hfz22_2:=blk_frozen BK140.out 2))
          go_ret
          exact⟨zer,by exact zk2 HB GE140.out⟩
        ·replace c18:=Bool.eq_false_iff.mpr c18
         subst c18
         have H1:(some false)=some r:=by rw [if_neg (show ¬ (false=true) by decide)] at H;exact H
         clear H
         have H:=H1
         clear H1
         obtain rfl:=Option.some.inj H
         go_wp2_with (first|((with_reducible refine gate_callee (f:=49) rfl ?_);refine goesL_ (some 40) rfl rfl Try.func49 (by kernel_rfl) rfl #[.int .i64 (l0_0.length:Int),.int .i64 1,.int .i64 8] rfl zq2 ?_;(with_reducible refine(spec_l1In.calls (l0_0.length:Int) 1 8 true _ A15.out).mono ?_);rintro e w' ⟨rfl,⟨nd,rfl⟩⟩;refine⟨_,rfl,?_⟩)|(go_at_call 49;(with_reducible refine(spec_l1In.calls (l0_1.length:Int) 1 8 false _ A17.out).mono ?_);rintro e w' ⟨rfl,⟨nd,rfl⟩⟩))
         go_ret
         exact⟨zer,by exact zk2 HB GE140.out⟩
       ·replace c16:=Bool.eq_false_iff.mpr c16
        subst c16
        have H1:(some false)=some r:=by rw [if_neg (show ¬ (false=true) by decide)] at H;exact H
        clear H
        have H:=H1
        clear H1
        obtain rfl:=Option.some.inj H
        go_wp2_with (first|((with_reducible refine gate_callee (f:=49) rfl ?_);refine goesL_ (some 40) rfl rfl Try.func49 (by kernel_rfl) rfl #[.int .i64 (l0_0.length:Int),.int .i64 1,.int .i64 8] rfl zq2 ?_;(with_reducible refine(spec_l1In.calls (l0_0.length:Int) 1 8 false _ A15.out).mono ?_);rintro e w' ⟨rfl,⟨nd,rfl⟩⟩;refine⟨_,rfl,?_⟩))
        go_ret
        exact⟨zer,by exact zk2 HB GE140.out⟩
def impl_in.f (a0:Int) (a1:Int) (a2:Int):Option (Bool):=if a0≥a1 then(some (decide (a0≤a2))) else(some false)
set_option maxHeartbeats 8000000 in
set_option maxRecDepth 100000 in
theorem impl_in.calls (a0:Int) (a1:Int) (a2:Int) (r:Bool) (w:World) (h:impl_in.f a0 a1 a2=some r):
  Calls Try.prog 70 #[.int .i64 a0,.int .i64 a1,.int .i64 a2] w fun e w'=>e= .returned (.bool r)∧Drawn0 w w':=by
 have H:(if a0≥a1 then(some (decide (a0≤a2))) else(some false))=some r:=h
 clear h
 by_cases c4:a0≥a1
 ·rw [if_pos c4] at H
  have c4b0:decide (a1≤a0)=true:=decide_eq_true c4
  clear c4
  obtain rfl:=Option.some.inj H
  go_enter Try.func70,Try.ntmps70
  go_wp2
  go_ret
  exact⟨by first|rfl|(simp;done)|(simp [*];done),by repeat(first|exact Drawn0.refl _|apply Drawn0.step)⟩
 ·rw [if_neg c4] at H
  have c4b0:decide (a1≤a0)=false:=decide_eq_false c4
  clear c4
  obtain rfl:=Option.some.inj H
  go_enter Try.func70,Try.ntmps70
  go_wp2
  go_ret
  exact⟨by first|rfl|(simp;done)|(simp [*];done),by repeat(first|exact Drawn0.refl _|apply Drawn0.step)⟩
def impl_allIn.l0:Nat→Int→Int→List Int→Int→Int→Option (Bool)
 | 0,_,_,_,_,_=>none
 |k+1,x1,x2,x9,x10,x11=>if x11<x10 then(if 0≤x11 then(if x11< (x9.length:Int) then((impl_in.f (rd x9 x11) x1 x2).bind fun t169=>(if t169=true then(impl_allIn.l0 k x1 x2 x9 x10 (wrap64 (x11+1))) else(some false))) else(none)) else(none)) else(some true)
def impl_allIn.f (k:Nat) (l0:List Int) (a1:Int) (a2:Int):Option (Bool):=impl_allIn.l0 k a1 a2 l0 (l0.length:Int) 0
set_option maxHeartbeats 8000000 in
set_option maxRecDepth 100000 in
theorem impl_allIn.calls (k:Nat) (A0:Option Addr) (c0:Nat) (l0:List Int) (a1:Int) (a2:Int) (r:Bool) (w:World) (hr0:Kd.C (Kd.int .i64) w A0 l0.length l0) (hc0:l0.length≤c0) (h:impl_allIn.f k l0 a1 a2=some r):
  Calls Try.prog 53 #[.slice A0 l0.length c0,.int .i64 a1,.int .i64 a2] w fun e w'=>e= .returned (.bool r)∧Drawn0 w w':=by
 have HR0:=Aside0.mk hr0
 have HC0:=Aside0.mk hc0
 clear hr0 hc0
 have H:(impl_allIn.l0 k a1 a2 l0 (l0.length:Int) 0)=some r:=h
 clear h
 have H':=Aside0.mk H
 clear H
 go_enter Try.func53,Try.ntmps53
 go_wp2
 go_loopg [11] k (fun kq v11 w'=> ∃ (x11_1:Int),v11= .int .i64 x11_1∧Aside0 (impl_allIn.l0 kq a1 a2 l0 (l0.length:Int) x11_1=some r)∧Aside0 (kq≤k)∧Drawn0 w w')
 case atStart=>exact⟨(0),zrs,H',⟨Nat.le_refl _⟩,by repeat(first|exact Drawn0.refl _|apply Drawn0.step)⟩
 case round=>
  clear H'
  try clear p2
  obtain⟨x11_1,rfl,HA,HK1,⟨m1,rfl⟩⟩:=hrel
  cases gk with
  |zero=>exact absurd HA.out (by simp [impl_allIn.l0])
  |succ k1=>
   have H:=HA.out
   clear HA
   simp only [impl_allIn.l0] at H
   by_cases c4:x11_1< (l0.length:Int)
   ·rw [if_pos c4] at H
    have c4b0:decide (x11_1< (l0.length:Int))=true:=decide_eq_true c4
    clear c4
    by_cases c5: 0≤x11_1
    case neg=>exact znn c5 H
    rw [if_pos c5] at H
    have c5b0:decide (0≤x11_1)=true:=decide_eq_true c5
    clear c5
    by_cases c6:x11_1< (l0.length:Int)
    case neg=>exact znn c6 H
    rw [if_pos c6] at H
    have c6b0:decide (x11_1< (l0.length:Int))=true:=decide_eq_true c6
    clear c6
    replace H:=Option.bind_eq_some_iff.mp H
    obtain⟨t169,A70,H⟩:=H
    replace H:(if t169=true then(impl_allIn.l0 k1 a1 a2 l0 (l0.length:Int) (wrap64 (x11_1+1))) else(some false))=some r:=H
    have A7:=Aside0.mk A70
    clear A70
    by_cases c8:t169=true
    ·subst c8
     have H1:(impl_allIn.l0 k1 a1 a2 l0 (l0.length:Int) (wrap64 (x11_1+1)))=some r:=by rw [if_pos rfl] at H;exact H
     clear H
     have H:=H1
     clear H1
     have H':=Aside0.mk H
     clear H
     have p168: 0≤ (x11_1:Int):=of_decide_eq_true zq1
     have q168:x11_1< (l0.length:Int):=of_decide_eq_true zq1
     obtain⟨ad168,e168,hx168_0⟩:=Kd.at_int HR0.out x11_1 p168 q168
     cases e168
     replace p168:=eq_true p168
     replace q168:=eq_true q168
     go_wp2_with (first|((with_reducible refine gate_callee (f:=70) rfl ?_);refine goesL_ (some 18) rfl rfl Try.func70 (by kernel_rfl) rfl #[.int .i64 (rd l0 x11_1),.int .i64 a1,.int .i64 a2] rfl zq2 ?_;(with_reducible refine(impl_in.calls (rd l0 x11_1) a1 a2 true _ A7.out).mono ?_);rintro e w' ⟨rfl,⟨nd,rfl⟩⟩;refine⟨_,rfl,?_⟩))
     go_roundg k1
     case measure=>have:=HK1.out;omega
     case rel=>exact⟨(wrap64 (x11_1+1)),zrs,H',⟨by have:=HK1.out;omega⟩,by repeat(first|exact Drawn0.refl _|apply Drawn0.step)⟩
    ·replace c8:=Bool.eq_false_iff.mpr c8
     subst c8
     have H1:(some false)=some r:=by rw [if_neg (show ¬ (false=true) by decide)] at H;exact H
     clear H
     have H:=H1
     clear H1
     obtain rfl:=Option.some.inj H
     have p168: 0≤ (x11_1:Int):=of_decide_eq_true zq1
     have q168:x11_1< (l0.length:Int):=of_decide_eq_true zq1
     obtain⟨ad168,e168,hx168_0⟩:=Kd.at_int HR0.out x11_1 p168 q168
     cases e168
     replace p168:=eq_true p168
     replace q168:=eq_true q168
     go_wp2_with (first|((with_reducible refine gate_callee (f:=70) rfl ?_);refine goesL_ (some 18) rfl rfl Try.func70 (by kernel_rfl) rfl #[.int .i64 (rd l0 x11_1),.int .i64 a1,.int .i64 a2] rfl zq2 ?_;(with_reducible refine(impl_in.calls (rd l0 x11_1) a1 a2 false _ A7.out).mono ?_);rintro e w' ⟨rfl,⟨nd,rfl⟩⟩;refine⟨_,rfl,?_⟩))
     go_ret
     exact⟨by first|rfl|(simp;done)|(simp [*];done),by repeat(first|exact Drawn0.refl _|apply Drawn0.step)⟩
   ·rw [if_neg c4] at H
    have c4b0:decide (x11_1< (l0.length:Int))=false:=decide_eq_false c4
    clear c4
    obtain rfl:=Option.some.inj H
    go_wp2
    go_ret
    exact⟨by first|rfl|(simp;done)|(simp [*];done),by repeat(first|exact Drawn0.refl _|apply Drawn0.step)⟩
def slices_Contains_int.f (k:Nat) (l0:List Int) (a1:Int):Option (Bool):=(slices_Index_int.f k l0 a1).bind fun t170=>(some (decide (t170≥0)))
set_option maxHeartbeats 8000000 in
set_option maxRecDepth 100000 in
theorem slices_Contains_int.calls (k:Nat) (A0:Option Addr) (c0:Nat) (l0:List Int) (a1:Int) (r:Bool) (w:World) (hr0:Kd.C (Kd.int .i64) w A0 l0.length l0) (hc0:l0.length≤c0) (h:slices_Contains_int.f k l0 a1=some r):
  Calls Try.prog 69 #[.slice A0 l0.length c0,.int .i64 a1] w fun e w'=>e= .returned (.bool r)∧Drawn0 w w':=by
 have HR0:=Aside0.mk hr0
 have HC0:=Aside0.mk hc0
 clear hr0 hc0
 have H:((slices_Index_int.f k l0 a1).bind fun t170=>(some (decide (t170≥0))))=some r:=h
 clear h
 replace H:=Option.bind_eq_some_iff.mp H
 obtain⟨t170,A30,H⟩:=H
 replace H:(some (decide (t170≥0)))=some r:=H
 have A3:=Aside0.mk A30
 clear A30
 obtain rfl:=Option.some.inj H
 go_enter Try.func69,Try.ntmps69
 go_wp2_with (first|((with_reducible refine gate_callee (f:=45) rfl ?_);refine goesL_ (some 7) rfl rfl Try.func45 (by kernel_rfl) rfl #[.slice A0 l0.length c0,.int .i64 a1] rfl zq2 ?_;(with_reducible refine(slices_Index_int.calls k _ _ l0 a1 t170 _ ?side1 ?side2 A3.out).mono ?_);(case side1=>exact zcc (HR0.out));(case side2=>exact HC0.out);rintro e w' ⟨rfl,⟨nd,rfl⟩⟩;refine⟨_,rfl,?_⟩))
 go_ret
 exact⟨by first|rfl|(simp;done)|(simp [*];done),by repeat(first|exact Drawn0.refl _|apply Drawn0.step)⟩
mutual
def impl_orders.l0:Nat→List (List Int)→Int→List (List Int)→Int→Int→Option (Bool)
 | 0,_,_,_,_,_=>none
 |k+1,x0,x1,x9,x10,x11=>if x11<x10 then(if 0≤x11 then(if x11< (x9.length:Int) then(if ((rd_L1 x9 x11).length:Int)=x1 then((impl_allIn.f k (rd_L1 x9 x11) 0 (wrap64 (x1 - 1))).bind fun t173=>(impl_orders.j1 k x0 x1 (rd_L1 x9 x11) x9 x10 x11 (!t173))) else(impl_orders.j1 k x0 x1 (rd_L1 x9 x11) x9 x10 x11 true)) else(none)) else(none)) else((impl_in.f (x0.length:Int) 1 8).bind fun t171=>(some t171))
def impl_orders.j1:Nat→List (List Int)→Int→List Int→List (List Int)→Int→Int→Bool→Option (Bool)
 | 0,_,_,_,_,_,_,_=>none
 |k+1,x0,x1,x6,x9,x10,x11,x25=>if x25=true then(some false) else(impl_orders.l1 k x0 x1 x6 x9 x10 x11 x6 (x6.length:Int) 0)
def impl_orders.l1:Nat→List (List Int)→Int→List Int→List (List Int)→Int→Int→List Int→Int→Int→Option (Bool)
 | 0,_,_,_,_,_,_,_,_,_=>none
 |k+1,x0,x1,x6,x9,x10,x11,x26,x27,x28=>if x28<x27 then(if 0≤x28 then(if x28< (x26.length:Int) then(if x28≤ (x6.length:Int) then((slices_Contains_int.f k (x6.take (x28:Int).toNat) (rd x26 x28)).bind fun t176=>(if t176=true then(some false) else(impl_orders.l1 k x0 x1 x6 x9 x10 x11 x26 x27 (wrap64 (x28+1))))) else(none)) else(none)) else(none)) else(impl_orders.l0 k x0 x1 x9 x10 (wrap64 (x11+1)))
end
def impl_orders.f (k:Nat) (l0:List (List Int)) (a1:Int):Option (Bool):=impl_orders.l0 k l0 a1 l0 (l0.length:Int) 0
set_option maxHeartbeats 8000000 in
set_option maxRecDepth 100000 in
theorem impl_orders.calls (k:Nat) (A0:Option Addr) (c0:Nat) (l0:List (List Int)) (a1:Int) (r:Bool) (w:World) (hr0:Kd.C (Kd.slice 3 (Kd.int .i64)) w A0 l0.length l0) (hc0:l0.length≤c0) (h:impl_orders.f k l0 a1=some r):
  Calls Try.prog 52 #[.slice A0 l0.length c0,.int .i64 a1] w fun e w'=>e= .returned (.bool r)∧Drawn0 w w':=by
 have HR0:=Aside0.mk hr0
 have HC0:=Aside0.mk hc0
 clear hr0 hc0
 have H:(impl_orders.l0 k l0 a1 l0 (l0.length:Int) 0)=some r:=h
 clear h
 have H':=Aside0.mk H
 clear H
 go_enter Try.func52,Try.ntmps52
 go_wp2
 go_loopg [11] k (fun kq v11 w'=> ∃ (x11_1:Int),v11= .int .i64 x11_1∧Aside0 (impl_orders.l0 kq l0 a1 l0 (l0.length:Int) x11_1=some r)∧Aside0 (kq≤k)∧Drawn0 w w')
 case atStart=>exact⟨(0),zrs,H',⟨Nat.le_refl _⟩,by repeat(first|exact Drawn0.refl _|apply Drawn0.step)⟩
 case round=>
  clear H'
  try clear p2
  obtain⟨x11_1,rfl,HA,HK1,⟨m1,rfl⟩⟩:=hrel
  cases gk with
  |zero=>exact absurd HA.out (by simp [impl_orders.l0])
  |succ k1=>
   have H:=HA.out
   clear HA
   simp only [impl_orders.l0] at H
   by_cases c3:x11_1< (l0.length:Int)
   ·rw [if_pos c3] at H
    have c3b0:decide (x11_1< (l0.length:Int))=true:=decide_eq_true c3
    clear c3
    by_cases c4: 0≤x11_1
    case neg=>exact znn c4 H
    rw [if_pos c4] at H
    have c4b0:decide (0≤x11_1)=true:=decide_eq_true c4
    clear c4
    by_cases c5:x11_1< (l0.length:Int)
    case neg=>exact znn c5 H
    rw [if_pos c5] at H
    have c5b0:decide (x11_1< (l0.length:Int))=true:=decide_eq_true c5
    clear c5
    have HC6:=Aside0.mk H
    clear H
    have p172: 0≤ (x11_1:Int):=of_decide_eq_true zq1
    have q172:x11_1< (l0.length:Int):=of_decide_eq_true zq1
    obtain⟨ad172,A172_0,c172_0,e172,hx172_0,hl172_0,hi172_0⟩:=at_L1 HR0.out x11_1 p172 q172
    cases e172
    have HR172_0:=Aside0.mk hi172_0
    have HC172_0:=Aside0.mk hl172_0
    clear hi172_0 hl172_0
    replace p172:=eq_true p172
    replace q172:=eq_true q172
    go_upto_region 4 with (fail)
    go_cut [25] (fun v25 wc=> ∃ (kq:Nat) (x25_5:Bool),v25= .bool x25_5∧Aside0 (impl_orders.j1 kq l0 a1 (rd_L1 l0 x11_1) l0 (l0.length:Int) x11_1 x25_5=some r)∧Aside0 (kq≤k1)∧Drawn0 w wc)
    case first=>
     have H:=HC6.out
     clear HC6
     by_cases c7:((rd_L1 l0 x11_1).length:Int)=a1
     ·rw [if_pos c7] at H
      have c7b0:(((rd_L1 l0 x11_1).length:Int)==a1)=true:=beq_iff_eq.mpr c7
      have c7b1:(((rd_L1 l0 x11_1).length:Int) !=a1)=false:=bne_eq_false_iff_eq.mpr c7
      clear c7
      (first|rw [c7b0]|(simp only [i64_w,i32_w];rw [c7b0])|skip)
      replace H:=Option.bind_eq_some_iff.mp H
      obtain⟨t173,A80,H⟩:=H
      replace H:(impl_orders.j1 k1 l0 a1 (rd_L1 l0 x11_1) l0 (l0.length:Int) x11_1 (!t173))=some r:=H
      have A8:=Aside0.mk A80
      clear A80
      have H':=Aside0.mk H
      clear H
      go_wp2_with (first|(go_at_call 53;(with_reducible refine(impl_allIn.calls k1 _ _ (rd_L1 l0 x11_1) 0 (wrap64 (a1 - 1)) t173 _ ?side1 ?side2 A8.out).mono ?_);(case side1=>exact zcc (HR172_0.out));(case side2=>exact HC172_0.out);rintro e w' ⟨rfl,⟨nd,rfl⟩⟩))
      go_meet
      case rel=>exact⟨_,(!t173),zrs,H',⟨by have:=HK1.out;first|omega|exact Nat.le_refl _⟩,by repeat(first|exact Drawn0.refl _|apply Drawn0.step)⟩
     ·rw [if_neg c7] at H
      have c7b0:(((rd_L1 l0 x11_1).length:Int)==a1)=false:=beq_eq_false_iff_ne.mpr c7
      have c7b1:(((rd_L1 l0 x11_1).length:Int) !=a1)=true:=bne_iff_ne.mpr c7
      (first|rw [c7b0]|(simp only [i64_w,i32_w];rw [c7b0])|skip)
      have H':=Aside0.mk H
      clear H
      go_wp2
      go_meet
      case rel=>exact⟨_,(true),zrs,H',⟨by have:=HK1.out;first|omega|exact Nat.le_refl _⟩,by repeat(first|exact Drawn0.refl _|apply Drawn0.step)⟩
    case rest=>
     clear HC6
     try clear c1
     try clear p1
     try clear q1
     try clear hx1
     try clear p2
     try clear c3
     try clear c3b0
     try clear c4
     try clear c4b0
     try clear c5
     try clear c5b0
     try clear p6
     try clear c7
     try clear c7b0
     try clear c7b1
     try clear hx172_0
     try clear p172
     try clear p2
     try clear q172
     obtain⟨kq,x25_5,rfl,HA,HJ5,⟨mc5,rfl⟩⟩:=hcut
     cases kq with
     |zero=>exact absurd HA.out (by simp [impl_orders.j1])
     |succ kj5=>
      have H:=HA.out
      clear HA
      simp only [impl_orders.j1] at H
      by_cases c9:x25_5=true
      ·subst c9
       have H1:(some false)=some r:=by rw [if_pos rfl] at H;exact H
       clear H
       have H:=H1
       clear H1
       obtain rfl:=Option.some.inj H
       go_wp2
       go_ret
       exact⟨by first|rfl|(simp;done)|(simp [*];done),by repeat(first|exact Drawn0.refl _|apply Drawn0.step)⟩
      ·replace c9:=Bool.eq_false_iff.mpr c9
       subst c9
       have H1:(impl_orders.l1 kj5 l0 a1 (rd_L1 l0 x11_1) l0 (l0.length:Int) x11_1 (rd_L1 l0 x11_1) ((rd_L1 l0 x11_1).length:Int) 0)=some r:=by rw [if_neg (show ¬ (false=true) by decide)] at H;exact H
       clear H
       have H:=H1
       clear H1
       have H':=Aside0.mk H
       clear H
       go_wp2
       go_loopg [28] kj5 (fun kq v28 w'=> ∃ (x28_3:Int),v28= .int .i64 x28_3∧Aside0 (impl_orders.l1 kq l0 a1 (rd_L1 l0 x11_1) l0 (l0.length:Int) x11_1 (rd_L1 l0 x11_1) ((rd_L1 l0 x11_1).length:Int) x28_3=some r)∧Aside0 (kq≤kj5)∧Drawn0 w w')
       case atStart=>exact⟨(0),zrs,H',⟨Nat.le_refl _⟩,by repeat(first|exact Drawn0.refl _|apply Drawn0.step)⟩
       case round=>
        clear H'
        try clear c1
        try clear p1
        try clear q1
        try clear hx1
        try clear p2
        try clear c3
        try clear c3b0
        try clear c4
        try clear c4b0
        try clear c5
        try clear c5b0
        try clear p6
        try clear c7
        try clear c7b0
        try clear c7b1
        try clear c9
        try clear hx172_0
        try clear p1
        try clear p172
        try clear p2
        try clear p6
        try clear q1
        try clear q172
        obtain⟨x28_3,rfl,HA,HK3,⟨m3,rfl⟩⟩:=hrel
        cases gk with
        |zero=>exact absurd HA.out (by simp [impl_orders.l1])
        |succ k3=>
         have H:=HA.out
         clear HA
         simp only [impl_orders.l1] at H
         by_cases c10:x28_3< ((rd_L1 l0 x11_1).length:Int)
         ·rw [if_pos c10] at H
          have c10b0:decide (x28_3< ((rd_L1 l0 x11_1).length:Int))=true:=decide_eq_true c10
          clear c10
          by_cases c11: 0≤x28_3
          case neg=>exact znn c11 H
          rw [if_pos c11] at H
          have c11b0:decide (0≤x28_3)=true:=decide_eq_true c11
          clear c11
          by_cases c12:x28_3< ((rd_L1 l0 x11_1).length:Int)
          case neg=>exact znn c12 H
          rw [if_pos c12] at H
          have c12b0:decide (x28_3< ((rd_L1 l0 x11_1).length:Int))=true:=decide_eq_true c12
          clear c12
          have c13b0:=eq_true (of_decide_eq_true zq1: 0≤x28_3)
          by_cases c14:x28_3≤ ((rd_L1 l0 x11_1).length:Int)
          case neg=>exact znn c14 H
          rw [if_pos c14] at H
          have c14b0:=eq_true c14
          have c14b1:decide (x28_3≤ ((rd_L1 l0 x11_1).length:Int))=true:=decide_eq_true c14
          clear c14
          replace H:=Option.bind_eq_some_iff.mp H
          obtain⟨t176,A150,H⟩:=H
          replace H:(if t176=true then(some false) else(impl_orders.l1 k3 l0 a1 (rd_L1 l0 x11_1) l0 (l0.length:Int) x11_1 (rd_L1 l0 x11_1) ((rd_L1 l0 x11_1).length:Int) (wrap64 (x28_3+1))))=some r:=H
          have A15:=Aside0.mk A150
          clear A150
          by_cases c16:t176=true
          ·subst c16
           have H1:(some false)=some r:=by rw [if_pos rfl] at H;exact H
           clear H
           have H:=H1
           clear H1
           obtain rfl:=Option.some.inj H
           have p174: 0≤ (x28_3:Int):=of_decide_eq_true zq1
           have q174:x28_3< ((rd_L1 l0 x11_1).length:Int):=of_decide_eq_true zq1
           obtain⟨ad174,e174,hx174_0⟩:=Kd.at_int HR172_0.out x28_3 p174 q174
           cases e174
           replace p174:=eq_true p174
           replace q174:=eq_true q174
           obtain⟨i017,hi017,_,hsz17,_⟩:=info_parts info3
           obtain⟨hcut17,hA17,hC17⟩:=print_take_of (P:=Try.prog) (Value.int .i64) 0 22 3 .i64 Try.underlying22 hi017 hsz17 (some ad174) c172_0 (rd_L1 l0 x11_1) x28_3 (of_decide_eq_true zq1) (of_decide_eq_true zq1) HC172_0.out
           have HR175:=Aside0.mk (Kd.C_of_reads (h1:=fun _=>rfl) (hA17 _ (Kd.reads_of_C HR172_0.out)))
           have HC175:=Aside0.mk hC17
           clear hA17 hC17 hi017 hsz17
           go_wp2_with (first|((with_reducible refine gate_callee (f:=69) rfl ?_);refine goesL_ (some 37) rfl rfl Try.func69 (by kernel_rfl) rfl #[.slice (some ad174) ((rd_L1 l0 x11_1).take (x28_3:Int).toNat).length c172_0,.int .i64 (rd (rd_L1 l0 x11_1) x28_3)] rfl (by(try simp only [List.map_toArray,List.map_cons,List.map_nil]);first|done|(rw [show ((rd_L1 l0 x11_1).take (x28_3:Int).toNat).length=x28_3.toNat from (by rw [List.length_take];have h_:(x28_3:Int)≤ ((rd_L1 l0 x11_1).length:Int):=of_decide_eq_true zq1;omega)]<;>rfl)|rfl|(simp only [List.length_drop,List.length_take];rfl)) ?_;(with_reducible refine(slices_Contains_int.calls k3 _ _ ((rd_L1 l0 x11_1).take (x28_3:Int).toNat) (rd (rd_L1 l0 x11_1) x28_3) true _ ?side1 ?side2 A15.out).mono ?_);(case side1=>exact zcc (HR175.out));(case side2=>exact HC175.out);rintro e w' ⟨rfl,⟨nd,rfl⟩⟩;refine⟨_,rfl,?_⟩))
           go_ret
           exact⟨by first|rfl|(simp;done)|(simp [*];done),by repeat(first|exact Drawn0.refl _|apply Drawn0.step)⟩
          ·replace c16:=Bool.eq_false_iff.mpr c16
           subst c16
           have H1:(impl_orders.l1 k3 l0 a1 (rd_L1 l0 x11_1) l0 (l0.length:Int) x11_1 (rd_L1 l0 x11_1) ((rd_L1 l0 x11_1).length:Int) (wrap64 (x28_3+1)))=some r:=by rw [if_neg (show ¬ (false=true) by decide)] at H;exact H
           clear H
           have H:=H1
           clear H1
           have H':=Aside0.mk H
           clear H
           have p174: 0≤ (x28_3:Int):=of_decide_eq_true zq1
           have q174:x28_3< ((rd_L1 l0 x11_1).length:Int):=of_decide_eq_true zq1
           obtain⟨ad174,e174,hx174_0⟩:=Kd.at_int HR172_0.out x28_3 p174 q174
           cases e174
           replace p174:=eq_true p174
           replace q174:=eq_true q174
           obtain⟨i018,hi018,_,hsz18,_⟩:=info_parts info3
           obtain⟨hcut18,hA18,hC18⟩:=print_take_of (P:=Try.prog) (Value.int .i64) 0 22 3 .i64 Try.underlying22 hi018 hsz18 (some ad174) c172_0 (rd_L1 l0 x11_1) x28_3 (of_decide_eq_true zq1) (of_decide_eq_true zq1) HC172_0.out
           have HR175:=Aside0.mk (Kd.C_of_reads (h1:=fun _=>rfl) (hA18 _ (Kd.reads_of_C HR172_0.out)))
           have HC175:=Aside0.mk hC18
           clear hA18 hC18 hi018 hsz18
           go_wp2_with (first|((with_reducible refine gate_callee (f:=69) rfl ?_);refine goesL_ (some 37) rfl rfl Try.func69 (by kernel_rfl) rfl #[.slice (some ad174) ((rd_L1 l0 x11_1).take (x28_3:Int).toNat).length c172_0,.int .i64 (rd (rd_L1 l0 x11_1) x28_3)] rfl (by(try simp only [List.map_toArray,List.map_cons,List.map_nil]);first|done|(rw [show ((rd_L1 l0 x11_1).take (x28_3:Int).toNat).length=x28_3.toNat from (by rw [List.length_take];have h_:(x28_3:Int)≤ ((rd_L1 l0 x11_1).length:Int):=of_decide_eq_true zq1;omega)]<;>rfl)|rfl|(simp only [List.length_drop,List.length_take];rfl)) ?_;(with_reducible refine(slices_Contains_int.calls k3 _ _ ((rd_L1 l0 x11_1).take (x28_3:Int).toNat) (rd (rd_L1 l0 x11_1) x28_3) false _ ?side1 ?side2 A15.out).mono ?_);(case side1=>exact zcc (HR175.out));(case side2=>exact HC175.out);rintro e w' ⟨rfl,⟨nd,rfl⟩⟩;refine⟨_,rfl,?_⟩))
           go_roundg k3
           case measure=>have:=HK1.out;have:=HJ5.out;have:=HK3.out;omega
           case rel=>exact⟨(wrap64 (x28_3+1)),zrs,H',⟨by have:=HK1.out;have:=HJ5.out;have:=HK3.out;omega⟩,by repeat(first|exact Drawn0.refl _|apply Drawn0.step)⟩
         ·rw [if_neg c10] at H
          have c10b0:decide (x28_3< ((rd_L1 l0 x11_1).length:Int))=false:=decide_eq_false c10
          clear c10
          have H':=Aside0.mk H
          clear H
          go_wp2
          go_roundg k3
          case measure=>have:=HK1.out;have:=HJ5.out;have:=HK3.out;omega
          case rel=>exact⟨(wrap64 (x11_1+1)),zrs,H',⟨by have:=HK1.out;have:=HJ5.out;have:=HK3.out;omega⟩,by repeat(first|exact Drawn0.refl _|apply Drawn0.step)⟩
   ·rw [if_neg c3] at H
    have c3b0:decide (x11_1< (l0.length:Int))=false:=decide_eq_false c3
    clear c3
    replace H:=Option.bind_eq_some_iff.mp H
    obtain⟨t171,A190,H⟩:=H
    replace H:(some t171)=some r:=H
    have A19:=Aside0.mk A190
    clear A190
    obtain rfl:=Option.some.inj H
    go_wp2_with (first|((with_reducible refine gate_callee (f:=70) rfl ?_);refine goesL_ (some 42) rfl rfl Try.func70 (by kernel_rfl) rfl #[.int .i64 (l0.length:Int),.int .i64 1,.int .i64 8] rfl zq2 ?_;(with_reducible refine(impl_in.calls (l0.length:Int) 1 8 t171 _ A19.out).mono ?_);rintro e w' ⟨rfl,⟨nd,rfl⟩⟩;refine⟨_,rfl,?_⟩))
    go_ret
    exact⟨by first|rfl|(simp;done)|(simp [*];done),by repeat(first|exact Drawn0.refl _|apply Drawn0.step)⟩
def impl_GoodWishes.f (k:Nat) (l0_0:List (List Int)) (l0_1:List (List Int)) (l0_2:List Int):Option (Bool):=(impl_orders.f k l0_0 (l0_1.length:Int)).bind fun t178=>(if t178=true then((impl_orders.f k l0_1 (l0_0.length:Int)).bind fun t179=>(if t179=true then(if (l0_2.length:Int)= (l0_1.length:Int) then((impl_allIn.f k l0_2 0 8).bind fun t180=>(some t180)) else(some false)) else(some false))) else(some false))
set_option maxHeartbeats 8000000 in
set_option maxRecDepth 100000 in
theorem impl_GoodWishes.calls (k:Nat) (A0_0:Option Addr) (c0_0:Nat) (l0_0:List (List Int)) (A0_1:Option Addr) (c0_1:Nat) (l0_1:List (List Int)) (A0_2:Option Addr) (c0_2:Nat) (l0_2:List Int) (r:Bool) (w:World) (hr0_0:Kd.C (Kd.slice 3 (Kd.int .i64)) w A0_0 l0_0.length l0_0) (hc0_0:l0_0.length≤c0_0) (hr0_1:Kd.C (Kd.slice 3 (Kd.int .i64)) w A0_1 l0_1.length l0_1) (hc0_1:l0_1.length≤c0_1) (hr0_2:Kd.C (Kd.int .i64) w A0_2 l0_2.length l0_2) (hc0_2:l0_2.length≤c0_2) (h:impl_GoodWishes.f k l0_0 l0_1 l0_2=some r):
  Calls Try.prog 20 #[.agg #[.slice A0_0 l0_0.length c0_0,.slice A0_1 l0_1.length c0_1,.slice A0_2 l0_2.length c0_2]] w fun e w'=>e= .returned (.bool r)∧Below w.heap.size w w':=by
 have hu33:=Try.underlying33
 have HR0_0:=Aside0.mk hr0_0
 have HC0_0:=Aside0.mk hc0_0
 clear hr0_0 hc0_0
 have HR0_1:=Aside0.mk hr0_1
 have HC0_1:=Aside0.mk hc0_1
 clear hr0_1 hc0_1
 have HR0_2:=Aside0.mk hr0_2
 have HC0_2:=Aside0.mk hc0_2
 clear hr0_2 hc0_2
 have HB:=Aside0.mk (Below.refl w.heap.size w)
 have H:((impl_orders.f k l0_0 (l0_1.length:Int)).bind fun t178=>(if t178=true then((impl_orders.f k l0_1 (l0_0.length:Int)).bind fun t179=>(if t179=true then(if (l0_2.length:Int)= (l0_1.length:Int) then((impl_allIn.f k l0_2 0 8).bind fun t180=>(some t180)) else(some false)) else(some false))) else(some false)))=some r:=h
 clear h
 replace H:=Option.bind_eq_some_iff.mp H
 obtain⟨t178,A20,H⟩:=H
 replace H:(if t178=true then((impl_orders.f k l0_1 (l0_0.length:Int)).bind fun t179=>(if t179=true then(if (l0_2.length:Int)= (l0_1.length:Int) then((impl_allIn.f k l0_2 0 8).bind fun t180=>(some t180)) else(some false)) else(some false))) else(some false))=some r:=H
 have A2:=Aside0.mk A20
 clear A20
 by_cases c3:t178=true
 ·subst c3
  have H1:((impl_orders.f k l0_1 (l0_0.length:Int)).bind fun t179=>(if t179=true then(if (l0_2.length:Int)= (l0_1.length:Int) then((impl_allIn.f k l0_2 0 8).bind fun t180=>(some t180)) else(some false)) else(some false)))=some r:=by rw [if_pos rfl] at H;exact H
  clear H
  have H:=H1
  clear H1
  replace H:=Option.bind_eq_some_iff.mp H
  obtain⟨t179,A40,H⟩:=H
  replace H:(if t179=true then(if (l0_2.length:Int)= (l0_1.length:Int) then((impl_allIn.f k l0_2 0 8).bind fun t180=>(some t180)) else(some false)) else(some false))=some r:=H
  have A4:=Aside0.mk A40
  clear A40
  by_cases c5:t179=true
  ·subst c5
   have H1:(if (l0_2.length:Int)= (l0_1.length:Int) then((impl_allIn.f k l0_2 0 8).bind fun t180=>(some t180)) else(some false))=some r:=by rw [if_pos rfl] at H;exact H
   clear H
   have H:=H1
   clear H1
   by_cases c6:(l0_2.length:Int)= (l0_1.length:Int)
   ·rw [if_pos c6] at H
    have c6b0:((l0_2.length:Int)== (l0_1.length:Int))=true:=beq_iff_eq.mpr c6
    have c6b1:((l0_2.length:Int) != (l0_1.length:Int))=false:=bne_eq_false_iff_eq.mpr c6
    have c6b2:(l0_2.length==l0_1.length)=true:=by first|simpa using c6|(simp at c6 ⊢;omega)
    clear c6
    replace H:=Option.bind_eq_some_iff.mp H
    obtain⟨t180,A70,H⟩:=H
    replace H:(some t180)=some r:=H
    have A7:=Aside0.mk A70
    clear A70
    obtain rfl:=Option.some.inj H
    go_enter Try.func20,Try.ntmps20
    go_wp2_with (first|((with_reducible refine gate_dst (N:=1) rfl ?_);(try(refine gate_guard (by rfl) ?_;dsimp only));refine box_event ?hg (N:=1) ?hd (cs:= #[.slice A0_0 l0_0.length c0_0,.slice A0_1 l0_1.length c0_1,.slice A0_2 l0_2.length c0_2]) (t:=33) ?hr ?_;(case hd=>rfl);(case hg=>rfl);(case hr=>first|(go_simp;done)|(go_simp;rfl));intro gb177 hg w8 hbox hb;have BK177:=Aside0.mk (hbox);have GW177:=Aside0.mk ((by rw [hg];exact(below_size (by exact zk1 HB)):w.heap.size≤gb177));have GE177:=GW177;replace HB:=Aside0.mk (below_step (by exact zk1 HB) hb);clear hb hbox hg;have hcz9_0:=zcz BK177 0 (.slice A0_0 l0_0.length c0_0);have hcz9_1:=zcz BK177 1 (.slice A0_1 l0_1.length c0_1);have hcz9_2:=zcz BK177 2 (.slice A0_2 l0_2.length c0_2);have hfz9_0:=blk_frozen BK177.out 0;have hfz9_1:=blk_frozen BK177.out 1;have hfz9_2:=blk_frozen BK177.out 2)|((with_reducible refine gate_callee (f:=52) rfl ?_);refine goesL_ (some 8) rfl rfl Try.func52 (by kernel_rfl) rfl #[.slice A0_0 l0_0.length c0_0,.int .i64 (l0_1.length:Int)] rfl zq2 ?_;(with_reducible refine(impl_orders.calls k _ _ l0_0 (l0_1.length:Int) true _ ?side1 ?side2 A2.out).mono ?_);(case side1=>exact zcc ((Kd.C_below HR0_0.out HB.out)));(case side2=>exact HC0_0.out);rintro e w' ⟨rfl,⟨nd,rfl⟩⟩;refine⟨_,rfl,?_⟩)|(go_at_call 52;(with_reducible refine(impl_orders.calls k _ _ l0_1 (l0_0.length:Int) true _ ?side1 ?side2 A4.out).mono ?_);(case side1=>repeat(first|exact(Kd.C_below HR0_1.out (by exact zk2 HB GE177.out))|(with_reducible refine Kd.C_alloc ?_ _)|(with_reducible refine Kd.C_drewN ?_ _)|(with_reducible refine Kd.C_drew ?_)));(case side2=>exact HC0_1.out);rintro e w' ⟨rfl,⟨nd,rfl⟩⟩)|(go_at_call 53;(with_reducible refine(impl_allIn.calls k _ _ l0_2 0 8 t180 _ ?side1 ?side2 A7.out).mono ?_);(case side1=>repeat(first|exact(Kd.C_below HR0_2.out (by exact zk2 HB GE177.out))|(with_reducible refine Kd.C_alloc ?_ _)|(with_reducible refine Kd.C_drewN ?_ _)|(with_reducible refine Kd.C_drew ?_)));(case side2=>exact HC0_2.out);rintro e w' ⟨rfl,⟨nd,rfl⟩⟩))
    go_ret
    exact⟨zer,by exact zk2 HB GE177.out⟩
   ·rw [if_neg c6] at H
    have c6b0:((l0_2.length:Int)== (l0_1.length:Int))=false:=beq_eq_false_iff_ne.mpr c6
    have c6b1:((l0_2.length:Int) != (l0_1.length:Int))=true:=bne_iff_ne.mpr c6
    have c6b2:(l0_2.length==l0_1.length)=false:=by first|simpa using c6|(simp at c6 ⊢;omega)
    obtain rfl:=Option.some.inj H
    go_enter Try.func20,Try.ntmps20
    go_wp2_with (first|((with_reducible refine gate_dst (N:=1) rfl ?_);(try(refine gate_guard (by rfl) ?_;dsimp only));refine box_event ?hg (N:=1) ?hd (cs:= #[.slice A0_0 l0_0.length c0_0,.slice A0_1 l0_1.length c0_1,.slice A0_2 l0_2.length c0_2]) (t:=33) ?hr ?_;(case hd=>rfl);(case hg=>rfl);(case hr=>first|(go_simp;done)|(go_simp;rfl));intro gb177 hg w10 hbox hb;have BK177:=Aside0.mk (hbox);have GW177:=Aside0.mk ((by rw [hg];exact(below_size (by exact zk1 HB)):w.heap.size≤gb177));have GE177:=GW177;replace HB:=Aside0.mk (below_step (by exact zk1 HB) hb);clear hb hbox hg;have hcz11_0:=zcz BK177 0 (.slice A0_0 l0_0.length c0_0);have hcz11_1:=zcz BK177 1 (.slice A0_1 l0_1.length c0_1);have hcz11_2:=zcz BK177 2 (.slice A0_2 l0_2.length c0_2);have hfz11_0:=blk_frozen BK177.out 0;have hfz11_1:=blk_frozen BK177.out 1;have hfz11_2:=blk_frozen BK177.out 2)|((with_reducible refine gate_callee (f:=52) rfl ?_);refine goesL_ (some 8) rfl rfl Try.func52 (by kernel_rfl) rfl #[.slice A0_0 l0_0.length c0_0,.int .i64 (l0_1.length:Int)] rfl zq2 ?_;(with_reducible refine(impl_orders.calls k _ _ l0_0 (l0_1.length:Int) true _ ?side1 ?side2 A2.out).mono ?_);(case side1=>exact zcc ((Kd.C_below HR0_0.out HB.out)));(case side2=>exact HC0_0.out);rintro e w' ⟨rfl,⟨nd,rfl⟩⟩;refine⟨_,rfl,?_⟩)|(go_at_call 52;(with_reducible refine(impl_orders.calls k _ _ l0_1 (l0_0.length:Int) true _ ?side1 ?side2 A4.out).mono ?_);(case side1=>repeat(first|exact(Kd.C_below HR0_1.out (by exact zk2 HB GE177.out))|(with_reducible refine Kd.C_alloc ?_ _)|(with_reducible refine Kd.C_drewN ?_ _)|(with_reducible refine Kd.C_drew ?_)));(case side2=>exact HC0_1.out);rintro e w' ⟨rfl,⟨nd,rfl⟩⟩))
    go_ret
    exact⟨zer,by exact zk2 HB GE177.out⟩
  ·replace c5:=Bool.eq_false_iff.mpr c5
   subst c5
   have H1:(some false)=some r:=by rw [if_neg (show ¬ (false=true) by decide)] at H;exact H
   clear H
   have H:=H1
   clear H1
   obtain rfl:=Option.some.inj H
   go_enter Try.func20,Try.ntmps20
   go_wp2_with (first|((with_reducible refine gate_dst (N:=1) rfl ?_);(try(refine gate_guard (by rfl) ?_;dsimp only));refine box_event ?hg (N:=1) ?hd (cs:= #[.slice A0_0 l0_0.length c0_0,.slice A0_1 l0_1.length c0_1,.slice A0_2 l0_2.length c0_2]) (t:=33) ?hr ?_;(case hd=>rfl);(case hg=>rfl);(case hr=>first|(go_simp;done)|(go_simp;rfl));intro gb177 hg w12 hbox hb;have BK177:=Aside0.mk (hbox);have GW177:=Aside0.mk ((by rw [hg];exact(below_size (by exact zk1 HB)):w.heap.size≤gb177));have GE177:=GW177;replace HB:=Aside0.mk (below_step (by exact zk1 HB) hb);clear hb hbox hg;have hcz13_0:=zcz BK177 0 (.slice A0_0 l0_0.length c0_0);have hcz13_1:=zcz BK177 1 (.slice A0_1 l0_1.length c0_1);have hcz13_2:=zcz BK177 2 (.slice A0_2 l0_2.length c0_2);have hfz13_0:=blk_frozen BK177.out 0;have hfz13_1:=blk_frozen BK177.out 1;have hfz13_2:=blk_frozen BK177.out 2)|((with_reducible refine gate_callee (f:=52) rfl ?_);refine goesL_ (some 8) rfl rfl Try.func52 (by kernel_rfl) rfl #[.slice A0_0 l0_0.length c0_0,.int .i64 (l0_1.length:Int)] rfl zq2 ?_;(with_reducible refine(impl_orders.calls k _ _ l0_0 (l0_1.length:Int) true _ ?side1 ?side2 A2.out).mono ?_);(case side1=>exact zcc ((Kd.C_below HR0_0.out HB.out)));(case side2=>exact HC0_0.out);rintro e w' ⟨rfl,⟨nd,rfl⟩⟩;refine⟨_,rfl,?_⟩)|(go_at_call 52;(with_reducible refine(impl_orders.calls k _ _ l0_1 (l0_0.length:Int) false _ ?side1 ?side2 A4.out).mono ?_);(case side1=>repeat(first|exact(Kd.C_below HR0_1.out (by exact zk2 HB GE177.out))|(with_reducible refine Kd.C_alloc ?_ _)|(with_reducible refine Kd.C_drewN ?_ _)|(with_reducible refine Kd.C_drew ?_)));(case side2=>exact HC0_1.out);rintro e w' ⟨rfl,⟨nd,rfl⟩⟩))
   go_ret
   exact⟨zer,by exact zk2 HB GE177.out⟩
 ·replace c3:=Bool.eq_false_iff.mpr c3
  subst c3
  have H1:(some false)=some r:=by rw [if_neg (show ¬ (false=true) by decide)] at H;exact H
  clear H
  have H:=H1
  clear H1
  obtain rfl:=Option.some.inj H
  go_enter Try.func20,Try.ntmps20
  go_wp2_with (first|((with_reducible refine gate_dst (N:=1) rfl ?_);(try(refine gate_guard (by rfl) ?_;dsimp only));refine box_event ?hg (N:=1) ?hd (cs:= #[.slice A0_0 l0_0.length c0_0,.slice A0_1 l0_1.length c0_1,.slice A0_2 l0_2.length c0_2]) (t:=33) ?hr ?_;(case hd=>rfl);(case hg=>rfl);(case hr=>first|(go_simp;done)|(go_simp;rfl));intro gb177 hg w14 hbox hb;have BK177:=Aside0.mk (hbox);have GW177:=Aside0.mk ((by rw [hg];exact(below_size (by exact zk1 HB)):w.heap.size≤gb177));have GE177:=GW177;replace HB:=Aside0.mk (below_step (by exact zk1 HB) hb);clear hb hbox hg;have hcz15_0:=zcz BK177 0 (.slice A0_0 l0_0.length c0_0);have hcz15_1:=zcz BK177 1 (.slice A0_1 l0_1.length c0_1);have hcz15_2:=zcz BK177 2 (.slice A0_2 l0_2.length c0_2);have hfz15_0:=blk_frozen BK177.out 0;have hfz15_1:=blk_frozen BK177.out 1;have hfz15_2:=blk_frozen BK177.out 2)|((with_reducible refine gate_callee (f:=52) rfl ?_);refine goesL_ (some 8) rfl rfl Try.func52 (by kernel_rfl) rfl #[.slice A0_0 l0_0.length c0_0,.int .i64 (l0_1.length:Int)] rfl zq2 ?_;(with_reducible refine(impl_orders.calls k _ _ l0_0 (l0_1.length:Int) false _ ?side1 ?side2 A2.out).mono ?_);(case side1=>exact zcc ((Kd.C_below HR0_0.out HB.out)));(case side2=>exact HC0_0.out);rintro e w' ⟨rfl,⟨nd,rfl⟩⟩;refine⟨_,rfl,?_⟩))
  go_ret
  exact⟨zer,by exact zk2 HB GE177.out⟩
def impl_loads.l0:Nat→List Int→List Int→Int→Int→Option (List Int)
 | 0,_,_,_,_=>none
 |k+1,x5,x12,x13,x14=>if x14<x13 then(if 0≤x14 then(if x14< (x12.length:Int) then(if (rd x12 x14)≥0 then(if 0≤ (rd x12 x14) then(if (rd x12 x14)< (x5.length:Int) then(impl_loads.l0 k (x5.set ((rd x12 x14):Int).toNat (wrap64 ((rd x5 (rd x12 x14))+1))) x12 x13 (wrap64 (x14+1))) else(none)) else(none)) else(impl_loads.l0 k x5 x12 x13 (wrap64 (x14+1)))) else(none)) else(none)) else(some x5)
def impl_loads.f (k:Nat) (l0_0:List (List Int)) (l0_1:List (List Int)) (l0_2:List Int) (l1:List Int):Option (List Int):=if 0≤ (l0_1.length:Int) then(if ((l0_1.length:Int):Int).toNat≤35184372088832 then(impl_loads.l0 k (List.replicate ((l0_1.length:Int):Int).toNat 0) l1 (l1.length:Int) 0) else(none)) else(none)
theorem zdr {q p:Prop} (b:Aside0 q) (h:q→p:=by intro z;(with_reducible repeat(first|apply Kd.R_alloc|apply Kd.R_drewN|apply Kd.R_drew));exact z):p:=h b.out
theorem zfh {r q p:Prop} (a:r) (b:q) (h:r→q→p:=by intro z H;first|(rw [z];with_reducible exact H)|(have H2_:=(Option.bind_some _ _).symm.trans H;rw [z];with_reducible exact H2_)|(have H2_:=(Option.bind_some _ _).symm.trans H;with_reducible exact H2_)|with_reducible exact H|(rw [z];exact H)|exact H):p:=h a b
theorem zq3 {q p:Prop} (b:Aside0 q) (h:q→p:=by intro z;(with_reducible repeat(first|refine blk_drewN ?_ _|refine blk_drew ?_ |refine blk_alloc ?_ _));exact z):p:=h b.out
set_option maxHeartbeats 8000000 in
set_option maxRecDepth 100000 in
theorem impl_loads.calls (k:Nat) (A0_0:Option Addr) (c0_0:Nat) (l0_0:List (List Int)) (A0_1:Option Addr) (c0_1:Nat) (l0_1:List (List Int)) (A0_2:Option Addr) (c0_2:Nat) (l0_2:List Int) (A1:Option Addr) (c1:Nat) (l1:List Int) (r:List Int) (w:World) (hr0_0:Kd.C (Kd.slice 3 (Kd.int .i64)) w A0_0 l0_0.length l0_0) (hc0_0:l0_0.length≤c0_0) (hr0_1:Kd.C (Kd.slice 3 (Kd.int .i64)) w A0_1 l0_1.length l0_1) (hc0_1:l0_1.length≤c0_1) (hr0_2:Kd.C (Kd.int .i64) w A0_2 l0_2.length l0_2) (hc0_2:l0_2.length≤c0_2) (hr1:Kd.C (Kd.int .i64) w A1 l1.length l1) (hc1:l1.length≤c1) (h:impl_loads.f k l0_0 l0_1 l0_2 l1=some r):
  Calls Try.prog 56 #[.agg #[.slice A0_0 l0_0.length c0_0,.slice A0_1 l0_1.length c0_1,.slice A0_2 l0_2.length c0_2],.slice A1 l1.length c1] w fun e w'=> ∃ v0_:Value,e= .returned (v0_)∧Kd.R (Kd.int .i64) 3 w' w.heap.size (fun _=>True) v0_ r∧Below w.heap.size w w':=by
 have hu33:=Try.underlying33
 have HR0_0:=Aside0.mk hr0_0
 have HC0_0:=Aside0.mk hc0_0
 clear hr0_0 hc0_0
 have HR0_1:=Aside0.mk hr0_1
 have HC0_1:=Aside0.mk hc0_1
 clear hr0_1 hc0_1
 have HR0_2:=Aside0.mk hr0_2
 have HC0_2:=Aside0.mk hc0_2
 clear hr0_2 hc0_2
 have HR1:=Aside0.mk hr1
 have HC1:=Aside0.mk hc1
 clear hr1 hc1
 have HB:=Aside0.mk (Below.refl w.heap.size w)
 have H:(if 0≤ (l0_1.length:Int) then(if ((l0_1.length:Int):Int).toNat≤35184372088832 then(impl_loads.l0 k (List.replicate ((l0_1.length:Int):Int).toNat 0) l1 (l1.length:Int) 0) else(none)) else(none))=some r:=h
 clear h
 by_cases c3: 0≤ (l0_1.length:Int)
 case neg=>exact znn c3 H
 rw [if_pos c3] at H
 have c3b0:=eq_true c3
 have c3b1:decide (0≤ (l0_1.length:Int))=true:=decide_eq_true c3
 clear c3
 by_cases c4:((l0_1.length:Int):Int).toNat≤35184372088832
 case neg=>exact znn c4 H
 rw [if_pos c4] at H
 have c4b0:=eq_true c4
 have c4b1:decide (((l0_1.length:Int):Int).toNat≤35184372088832)=true:=decide_eq_true c4
 clear c4
 obtain⟨y234,hy234⟩ :∃ y_:List Int,y_= (List.replicate ((l0_1.length:Int):Int).toNat 0):=⟨_,rfl⟩
 replace H:(impl_loads.l0 k y234 l1 (l1.length:Int) 0)=some r:=zfh hy234 H
 have Ny234:=Aside0.mk hy234
 clear hy234
 have H':=Aside0.mk H
 clear H
 go_enter Try.func56,Try.ntmps56
 go_wp2_with (first|((with_reducible refine gate_dst (N:=2) rfl ?_);refine box_event ?hg (N:=2) ?hd (cs:= #[.slice A0_0 l0_0.length c0_0,.slice A0_1 l0_1.length c0_1,.slice A0_2 l0_2.length c0_2]) (t:=33) ?hr ?_;(case hd=>rfl);(case hg=>rfl);(case hr=>first|(go_simp;done)|(go_simp;rfl));intro gb233 hg w5 hbox hb;have BK233:=Aside0.mk (hbox);have GW233:=Aside0.mk ((by rw [hg];exact(below_size (by exact zk1 HB)):w.heap.size≤gb233));have GE233:=GW233;replace HB:=Aside0.mk (below_step (by exact zk1 HB) hb);clear hb hbox hg;have hcz6_0:=zcz BK233 0 (.slice A0_0 l0_0.length c0_0);have hcz6_1:=zcz BK233 1 (.slice A0_1 l0_1.length c0_1);have hcz6_2:=zcz BK233 2 (.slice A0_2 l0_2.length c0_2);have hfz6_0:=blk_frozen BK233.out 0;have hfz6_1:=blk_frozen BK233.out 1;have hfz6_2:=blk_frozen BK233.out 2)|((with_reducible refine gate_dst (N:=11) rfl ?_);refine Kd.R_make (Kd.int .i64) _ 3 rfl (N:=11) rfl 22 _ _ rfl (l0_1.length:Int) rfl rfl Try.underlying22 (.int .i64 0) 8 info3 rfl (by decide) (by omega) 0 (ok:=fun _=>True) (okp:=fun _=>True) rfl (fun _ hk=>hk) trivial (of_decide_eq_true zq1) (Nat.le_trans (Nat.mul_le_mul_right _ (of_decide_eq_true zq1:(l0_1.length:Int).toNat≤35184372088832)) (by omega)) (Below.refl _ _) (Nat.le_refl _) ?_;intro v235 w7 ho8 hb hg_ hnew_;clear hg_ hnew_;(first|rw [← Ny234.out] at ho8|(simp only [Int.reduceToNat] at ho8;rw [← Ny234.out] at ho8));have HO236:=Aside0.mk (Kd.R_lower ho8 (below_size (by exact zk2 HB GE233.out)));replace BK233:=Aside0.mk (blk_below (g:=gb233) (o:= .cells #[.slice A0_0 l0_0.length c0_0,.slice A0_1 l0_1.length c0_1,.slice A0_2 l0_2.length c0_2] 33 (0,0)) (zq3 BK233) hb);replace HB:=Aside0.mk (below_step (by exact zk2 HB GE233.out) hb);clear hb ho8))
 go_loopg [14] k (fun kq v14 w'=> ∃ (x5_1:List Int) (x14_1:Int),v14= .int .i64 x14_1∧Aside0 (impl_loads.l0 kq x5_1 l1 (l1.length:Int) x14_1=some r)∧Aside0 (kq≤k)∧Aside0 (Kd.R (Kd.int .i64) 3 w' w.heap.size (fun _=>True) v235 x5_1)∧Aside0 (w'.heap[gb233]?=some (.cells #[(.slice A0_0 l0_0.length c0_0),(.slice A0_1 l0_1.length c0_1),(.slice A0_2 l0_2.length c0_2)] 33 (0,0)))∧Aside0 (Below w.heap.size w w'))
 case atStart=>exact⟨(y234),(0),zrs,H',⟨Nat.le_refl _⟩,⟨zdr HO236⟩,⟨by(with_reducible repeat(first|refine blk_drewN ?_ _|refine blk_drew ?_ |refine blk_alloc ?_ _));exact BK233.out⟩,⟨by exact zk2 HB GE233.out⟩⟩
 case round=>
  clear H'
  try clear c1
  try clear p2
  try clear c3
  try clear c3b0
  try clear c3b1
  try clear c4
  try clear c4b0
  try clear c4b1
  try clear c5
  try clear hcz6_0
  try clear hcz6_1
  try clear hcz6_2
  try clear hfz6_0
  try clear hfz6_1
  try clear hfz6_2
  obtain⟨x5_1,x14_1,rfl,HA,HK1,HO_5,BK233,HB⟩:=hrel
  cases gk with
  |zero=>exact absurd HA.out (by simp [impl_loads.l0])
  |succ k1=>
   have H:=HA.out
   clear HA
   simp only [impl_loads.l0] at H
   by_cases c9:x14_1< (l1.length:Int)
   ·rw [if_pos c9] at H
    have c9b0:decide (x14_1< (l1.length:Int))=true:=decide_eq_true c9
    clear c9
    by_cases c10: 0≤x14_1
    case neg=>exact znn c10 H
    rw [if_pos c10] at H
    have c10b0:decide (0≤x14_1)=true:=decide_eq_true c10
    clear c10
    by_cases c11:x14_1< (l1.length:Int)
    case neg=>exact znn c11 H
    rw [if_pos c11] at H
    have c11b0:decide (x14_1< (l1.length:Int))=true:=decide_eq_true c11
    clear c11
    by_cases c12:(rd l1 x14_1)≥0
    ·rw [if_pos c12] at H
     have c12b0:decide (0≤ (rd l1 x14_1))=true:=decide_eq_true c12
     clear c12
     by_cases c13: 0≤ (rd l1 x14_1)
     case neg=>exact znn c13 H
     rw [if_pos c13] at H
     have c13b0:decide (0≤ (rd l1 x14_1))=true:=decide_eq_true c13
     clear c13
     by_cases c14:(rd l1 x14_1)< (x5_1.length:Int)
     case neg=>exact znn c14 H
     rw [if_pos c14] at H
     have c14b0:decide ((rd l1 x14_1)< (x5_1.length:Int))=true:=decide_eq_true c14
     clear c14
     obtain⟨y239,hy239⟩ :∃ y_:List Int,y_= (x5_1.set ((rd l1 x14_1):Int).toNat (wrap64 ((rd x5_1 (rd l1 x14_1))+1))):=⟨_,rfl⟩
     replace H:(impl_loads.l0 k1 y239 l1 (l1.length:Int) (wrap64 (x14_1+1)))=some r:=zfh hy239 H
     have Ny239:=Aside0.mk hy239
     clear hy239
     have H':=Aside0.mk H
     clear H
     have p237: 0≤ (x14_1:Int):=of_decide_eq_true zq1
     have q237:x14_1< (l1.length:Int):=of_decide_eq_true zq1
     obtain⟨ad237,e237,hx237_0⟩:=Kd.at_int HR1.out x14_1 p237 q237
     cases e237
     replace hx237_0:=zhx HB hx237_0
     replace p237:=eq_true p237
     replace q237:=eq_true q237
     obtain⟨Ao16,co16,eo16⟩:=Kd.R_slice HO_5.out
     subst eo16
     have p238: 0≤ ((rd l1 x14_1):Int):=of_decide_eq_true zq1
     have q238:(rd l1 x14_1)< (x5_1.length:Int):=of_decide_eq_true zq1
     obtain⟨ad238,e238,hx238_0⟩:=Kd.at_int (Kd.R_reads' HO_5.out).2.2 (rd l1 x14_1) p238 q238
     cases e238
     replace p238:=eq_true p238
     replace q238:=eq_true q238
     have p15: 0≤ ((rd l1 x14_1):Int):=of_decide_eq_true zq1
     have q15:((rd l1 x14_1):Int)< ((x5_1.length:Int):Int):=of_decide_eq_true zq1
     obtain⟨go15,co15,eo15,gb15,gl15,cl15,HG15⟩:=Kd.R_form HO_5.out (by omega)
     (first|cases eo15|(injection eo15 with ea_ en_ ec_;(first|subst ea_|(injection ea_ with ea_;subst ea_));subst ec_;clear en_))
     have GB15:=Aside0.mk gb15
     have GG15:=Aside0.mk HG15
     clear gb15 gl15 HG15
     (first|simp only [add_plain] at hx238_0|skip)
     obtain⟨hx15_0,hf15_0⟩:=Kd.R_celln 0 HO_5.out ((rd l1 x14_1):Int) p15 q15
     replace p15:=eq_true p15
     replace q15:=eq_true q15
     have HP17:=Kd.R_putg HO_5.out ((rd l1 x14_1):Int) (wrap64 ((rd x5_1 (rd l1 x14_1))+1))
     go_wp2_with (first|((with_reducible refine gate_store (t:=3) (p:=25) rfl ?_);refine store_event (t:=3) (p:=25) (v:=?vo_w18) (w1:=(wr.setCell ⟨go15,((rd l1 x14_1):Int).toNat,none⟩ (.int .i64 (wrap64 ((rd x5_1 (rd l1 x14_1))+1))))) ?hg ?ho ?hn ?hr ?_;(case ho=>rfl);(case hg=>rfl);(case hn=>rfl);(case hr=>first|(go_simp;done)|(go_simp;rfl));intro w18 hw;have hg:wr.grownBy w18 (some go15):=(by rw [hw];exact HP17.2);have hp_:Kd.R (Kd.int .i64) 3 w18 w.heap.size (fun _=>True) (.slice (some ⟨go15,0,none⟩) x5_1.length co16) y239:=(by rw [hw,Ny239.out];exact HP17.1);clear HP17;replace BK233:=Aside0.mk (blk_grown (g:=gb233) (o:= .cells #[.slice A0_0 l0_0.length c0_0,.slice A0_1 l0_1.length c0_1,.slice A0_2 l0_2.length c0_2] 33 (0,0)) (zq3 BK233) hg (Kd.R_ne HO_5.out BK233.out (by decide)));replace HO_5:=Aside0.mk (hp_);replace HB:=Aside0.mk ((by rw [hw];exact below_set (HB.out) GB15.out:Below w.heap.size w w18));clear hg hw hp_))
     go_roundg k1
     case measure=>have:=HK1.out;omega
     case rel=>exact⟨(y239),(wrap64 (x14_1+1)),zrs,H',⟨by have:=HK1.out;omega⟩,⟨zdr HO_5⟩,⟨by(with_reducible repeat(first|refine blk_drewN ?_ _|refine blk_drew ?_ |refine blk_alloc ?_ _));exact BK233.out⟩,⟨by exact zk2 HB GE233.out⟩⟩
    ·rw [if_neg c12] at H
     have c12b0:decide (0≤ (rd l1 x14_1))=false:=decide_eq_false c12
     clear c12
     have H':=Aside0.mk H
     clear H
     have p237: 0≤ (x14_1:Int):=of_decide_eq_true zq1
     have q237:x14_1< (l1.length:Int):=of_decide_eq_true zq1
     obtain⟨ad237,e237,hx237_0⟩:=Kd.at_int HR1.out x14_1 p237 q237
     cases e237
     replace hx237_0:=zhx HB hx237_0
     replace p237:=eq_true p237
     replace q237:=eq_true q237
     go_wp2
     go_roundg k1
     case measure=>have:=HK1.out;omega
     case rel=>exact⟨(x5_1),(wrap64 (x14_1+1)),zrs,H',⟨by have:=HK1.out;omega⟩,⟨zdr HO_5⟩,⟨by(with_reducible repeat(first|refine blk_drewN ?_ _|refine blk_drew ?_ |refine blk_alloc ?_ _));exact BK233.out⟩,⟨by exact zk2 HB GE233.out⟩⟩
   ·rw [if_neg c9] at H
    have c9b0:decide (x14_1< (l1.length:Int))=false:=decide_eq_false c9
    clear c9
    obtain rfl:=Option.some.inj H
    go_wp2
    go_ret
    exact⟨_,zer,zdr HO_5,by exact zk2 HB GE233.out⟩
mutual
def impl_GoodMatch.j0:Nat→List Int→Bool→List (List Int)→List (List Int)→List Int→Option (Bool)
 | 0,_,_,_,_,_=>none
 |k+1,x1,x26,x241000,x241001,x241002=>if x26=true then(some false) else((impl_loads.f k x241000 x241001 x241002 x1).bind fun t243=>(impl_GoodMatch.l0 k t243 (t243.length:Int) 0 x241000 x241001 x241002))
def impl_GoodMatch.l0:Nat→List Int→Int→Int→List (List Int)→List (List Int)→List Int→Option (Bool)
 | 0,_,_,_,_,_,_=>none
 |k+1,x29,x30,x31,x241000,x241001,x241002=>if x31<x30 then(if 0≤x31 then(if x31< (x29.length:Int) then(if x31< (x241002.length:Int) then(if (rd x29 x31) > (rd x241002 x31) then(some false) else(impl_GoodMatch.l0 k x29 x30 (wrap64 (x31+1)) x241000 x241001 x241002)) else(none)) else(none)) else(none)) else(some true)
end
def impl_GoodMatch.f (k:Nat) (l0_0:List (List Int)) (l0_1:List (List Int)) (l0_2:List Int) (l1:List Int):Option (Bool):=(impl_GoodWishes.f k l0_0 l0_1 l0_2).bind fun t241=>(if t241=true then(if (l1.length:Int)= (l0_0.length:Int) then((impl_allIn.f k l1 (-1) (wrap64 ((l0_1.length:Int) - 1))).bind fun t242=>(impl_GoodMatch.j0 k l1 (!t242) l0_0 l0_1 l0_2)) else(impl_GoodMatch.j0 k l1 true l0_0 l0_1 l0_2)) else(impl_GoodMatch.j0 k l1 true l0_0 l0_1 l0_2))
set_option maxHeartbeats 8000000 in
set_option maxRecDepth 100000 in
theorem impl_GoodMatch.calls (k:Nat) (A0_0:Option Addr) (c0_0:Nat) (l0_0:List (List Int)) (A0_1:Option Addr) (c0_1:Nat) (l0_1:List (List Int)) (A0_2:Option Addr) (c0_2:Nat) (l0_2:List Int) (A1:Option Addr) (c1:Nat) (l1:List Int) (r:Bool) (w:World) (hr0_0:Kd.C (Kd.slice 3 (Kd.int .i64)) w A0_0 l0_0.length l0_0) (hc0_0:l0_0.length≤c0_0) (hr0_1:Kd.C (Kd.slice 3 (Kd.int .i64)) w A0_1 l0_1.length l0_1) (hc0_1:l0_1.length≤c0_1) (hr0_2:Kd.C (Kd.int .i64) w A0_2 l0_2.length l0_2) (hc0_2:l0_2.length≤c0_2) (hr1:Kd.C (Kd.int .i64) w A1 l1.length l1) (hc1:l1.length≤c1) (h:impl_GoodMatch.f k l0_0 l0_1 l0_2 l1=some r):
  Calls Try.prog 23 #[.agg #[.slice A0_0 l0_0.length c0_0,.slice A0_1 l0_1.length c0_1,.slice A0_2 l0_2.length c0_2],.slice A1 l1.length c1] w fun e w'=>e= .returned (.bool r)∧Below w.heap.size w w':=by
 have hu33:=Try.underlying33
 have HR0_0:=Aside0.mk hr0_0
 have HC0_0:=Aside0.mk hc0_0
 clear hr0_0 hc0_0
 have HR0_1:=Aside0.mk hr0_1
 have HC0_1:=Aside0.mk hc0_1
 clear hr0_1 hc0_1
 have HR0_2:=Aside0.mk hr0_2
 have HC0_2:=Aside0.mk hc0_2
 clear hr0_2 hc0_2
 have HR1:=Aside0.mk hr1
 have HC1:=Aside0.mk hc1
 clear hr1 hc1
 have HB:=Aside0.mk (Below.refl w.heap.size w)
 have H:((impl_GoodWishes.f k l0_0 l0_1 l0_2).bind fun t241=>(if t241=true then(if (l1.length:Int)= (l0_0.length:Int) then((impl_allIn.f k l1 (-1) (wrap64 ((l0_1.length:Int) - 1))).bind fun t242=>(impl_GoodMatch.j0 k l1 (!t242) l0_0 l0_1 l0_2)) else(impl_GoodMatch.j0 k l1 true l0_0 l0_1 l0_2)) else(impl_GoodMatch.j0 k l1 true l0_0 l0_1 l0_2)))=some r:=h
 clear h
 have HC3:=Aside0.mk H
 clear H
 go_enter Try.func23,Try.ntmps23
 go_upto_region 1 with (first|((with_reducible refine gate_dst (N:=2) rfl ?_);(try(refine gate_guard (by rfl) ?_;dsimp only));refine box_event ?hg (N:=2) ?hd (cs:= #[.slice A0_0 l0_0.length c0_0,.slice A0_1 l0_1.length c0_1,.slice A0_2 l0_2.length c0_2]) (t:=33) ?hr ?_;(case hd=>rfl);(case hg=>rfl);(case hr=>first|(go_simp;done)|(go_simp;rfl));intro gb240 hg w4 hbox hb;have BK240:=Aside0.mk (hbox);have GW240:=Aside0.mk ((by rw [hg];exact(below_size (by exact zk1 HB)):w.heap.size≤gb240));have GE240:=GW240;replace HB:=Aside0.mk (below_step (by exact zk1 HB) hb);clear hb hbox hg))
 (try simp only [Act.put,List.setIfInBounds_toArray,List.set_cons_zero,List.set_cons_succ])
 go_cut [26] (fun v26 wc=> ∃ (kq:Nat) (x26_2:Bool),v26= .bool x26_2∧Aside0 (impl_GoodMatch.j0 kq l1 x26_2 l0_0 l0_1 l0_2=some r)∧Aside0 (kq≤k)∧Aside0 (wc.heap[gb240]?=some (.cells #[(.slice A0_0 l0_0.length c0_0),(.slice A0_1 l0_1.length c0_1),(.slice A0_2 l0_2.length c0_2)] 33 (0,0)))∧Aside0 (Below w.heap.size w wc))
 case first=>
  have H:=HC3.out
  clear HC3
  replace H:=Option.bind_eq_some_iff.mp H
  obtain⟨t241,A50,H⟩:=H
  replace H:(if t241=true then(if (l1.length:Int)= (l0_0.length:Int) then((impl_allIn.f k l1 (-1) (wrap64 ((l0_1.length:Int) - 1))).bind fun t242=>(impl_GoodMatch.j0 k l1 (!t242) l0_0 l0_1 l0_2)) else(impl_GoodMatch.j0 k l1 true l0_0 l0_1 l0_2)) else(impl_GoodMatch.j0 k l1 true l0_0 l0_1 l0_2))=some r:=H
  have A5:=Aside0.mk A50
  clear A50
  by_cases c6:t241=true
  ·subst c6
   have H1:(if (l1.length:Int)= (l0_0.length:Int) then((impl_allIn.f k l1 (-1) (wrap64 ((l0_1.length:Int) - 1))).bind fun t242=>(impl_GoodMatch.j0 k l1 (!t242) l0_0 l0_1 l0_2)) else(impl_GoodMatch.j0 k l1 true l0_0 l0_1 l0_2))=some r:=by rw [if_pos rfl] at H;exact H
   clear H
   have H:=H1
   clear H1
   by_cases c7:(l1.length:Int)= (l0_0.length:Int)
   ·rw [if_pos c7] at H
    have c7b0:((l1.length:Int)== (l0_0.length:Int))=true:=beq_iff_eq.mpr c7
    have c7b1:((l1.length:Int) != (l0_0.length:Int))=false:=bne_eq_false_iff_eq.mpr c7
    have c7b2:(l1.length==l0_0.length)=true:=by first|simpa using c7|(simp at c7 ⊢;omega)
    clear c7
    (first|rw [c7b0]|(simp only [i64_w,i32_w];rw [c7b0])|skip)
    replace H:=Option.bind_eq_some_iff.mp H
    obtain⟨t242,A80,H⟩:=H
    replace H:(impl_GoodMatch.j0 k l1 (!t242) l0_0 l0_1 l0_2)=some r:=H
    have A8:=Aside0.mk A80
    clear A80
    have H':=Aside0.mk H
    clear H
    have hcz9_0:=zcz BK240 0 (.slice A0_0 l0_0.length c0_0)
    have hcz9_1:=zcz BK240 1 (.slice A0_1 l0_1.length c0_1)
    have hcz9_2:=zcz BK240 2 (.slice A0_2 l0_2.length c0_2)
    have hfz9_0:=blk_frozen BK240.out 0
    have hfz9_1:=blk_frozen BK240.out 1
    have hfz9_2:=blk_frozen BK240.out 2
    go_wp2_with (first|((with_reducible refine gate_callee (f:=20) rfl ?_);refine goesL_ (some 8) rfl rfl Try.func20 (by kernel_rfl) rfl #[.agg #[.slice A0_0 l0_0.length c0_0,.slice A0_1 l0_1.length c0_1,.slice A0_2 l0_2.length c0_2]] rfl zq2 ?_;(with_reducible refine(impl_GoodWishes.calls k _ _ l0_0 _ _ l0_1 _ _ l0_2 true _ ?side1 ?side2 ?side3 ?side4 ?side5 ?side6 A5.out).mono ?_);(case side1=>exact zcc ((Kd.C_below HR0_0.out HB.out)));(case side2=>exact HC0_0.out);(case side3=>exact zcc ((Kd.C_below HR0_1.out HB.out)));(case side4=>exact HC0_1.out);(case side5=>exact zcc ((Kd.C_below HR0_2.out HB.out)));(case side6=>exact HC0_2.out);rintro e w10 ⟨rfl,hb⟩;refine⟨_,rfl,?_⟩;replace BK240:=Aside0.mk (blk_below (g:=gb240) (o:= .cells #[.slice A0_0 l0_0.length c0_0,.slice A0_1 l0_1.length c0_1,.slice A0_2 l0_2.length c0_2] 33 (0,0)) (zq3 BK240) hb);replace HB:=Aside0.mk (below_step (by exact zk2 HB GE240.out) hb);(try clear hb);(try clear hb2);(try clear hk);(try clear hi);have hcz11_0:=zcz BK240 0 (.slice A0_0 l0_0.length c0_0);have hcz11_1:=zcz BK240 1 (.slice A0_1 l0_1.length c0_1);have hcz11_2:=zcz BK240 2 (.slice A0_2 l0_2.length c0_2);have hfz11_0:=blk_frozen BK240.out 0;have hfz11_1:=blk_frozen BK240.out 1;have hfz11_2:=blk_frozen BK240.out 2)|(go_at_call 53;(with_reducible refine(impl_allIn.calls k _ _ l1 (-1) (wrap64 ((l0_1.length:Int) - 1)) t242 _ ?side1 ?side2 A8.out).mono ?_);(case side1=>exact zcc ((Kd.C_below HR1.out HB.out)));(case side2=>exact HC1.out);rintro e w' ⟨rfl,⟨nd,rfl⟩⟩))
    go_meet
    case rel=>exact⟨_,(!t242),zrs,H',⟨by first|omega|exact Nat.le_refl _⟩,⟨by(with_reducible repeat(first|refine blk_drewN ?_ _|refine blk_drew ?_ |refine blk_alloc ?_ _));exact BK240.out⟩,⟨by exact zk2 HB GE240.out⟩⟩
   ·rw [if_neg c7] at H
    have c7b0:((l1.length:Int)== (l0_0.length:Int))=false:=beq_eq_false_iff_ne.mpr c7
    have c7b1:((l1.length:Int) != (l0_0.length:Int))=true:=bne_iff_ne.mpr c7
    have c7b2:(l1.length==l0_0.length)=false:=by first|simpa using c7|(simp at c7 ⊢;omega)
    (first|rw [c7b0]|(simp only [i64_w,i32_w];rw [c7b0])|skip)
    have H':=Aside0.mk H
    clear H
    have hcz12_0:=zcz BK240 0 (.slice A0_0 l0_0.length c0_0)
    have hcz12_1:=zcz BK240 1 (.slice A0_1 l0_1.length c0_1)
    have hcz12_2:=zcz BK240 2 (.slice A0_2 l0_2.length c0_2)
    have hfz12_0:=blk_frozen BK240.out 0
    have hfz12_1:=blk_frozen BK240.out 1
    have hfz12_2:=blk_frozen BK240.out 2
    go_wp2_with (first|((with_reducible refine gate_callee (f:=20) rfl ?_);refine goesL_ (some 8) rfl rfl Try.func20 (by kernel_rfl) rfl #[.agg #[.slice A0_0 l0_0.length c0_0,.slice A0_1 l0_1.length c0_1,.slice A0_2 l0_2.length c0_2]] rfl zq2 ?_;(with_reducible refine(impl_GoodWishes.calls k _ _ l0_0 _ _ l0_1 _ _ l0_2 true _ ?side1 ?side2 ?side3 ?side4 ?side5 ?side6 A5.out).mono ?_);(case side1=>exact zcc ((Kd.C_below HR0_0.out HB.out)));(case side2=>exact HC0_0.out);(case side3=>exact zcc ((Kd.C_below HR0_1.out HB.out)));(case side4=>exact HC0_1.out);(case side5=>exact zcc ((Kd.C_below HR0_2.out HB.out)));(case side6=>exact HC0_2.out);rintro e w13 ⟨rfl,hb⟩;refine⟨_,rfl,?_⟩;replace BK240:=Aside0.mk (blk_below (g:=gb240) (o:= .cells #[.slice A0_0 l0_0.length c0_0,.slice A0_1 l0_1.length c0_1,.slice A0_2 l0_2.length c0_2] 33 (0,0)) (zq3 BK240) hb);replace HB:=Aside0.mk (below_step (by exact zk2 HB GE240.out) hb);(try clear hb);(try clear hb2);(try clear hk);(try clear hi);have hcz14_0:=zcz BK240 0 (.slice A0_0 l0_0.length c0_0);have hcz14_1:=zcz BK240 1 (.slice A0_1 l0_1.length c0_1);have hcz14_2:=zcz BK240 2 (.slice A0_2 l0_2.length c0_2);have hfz14_0:=blk_frozen BK240.out 0;have hfz14_1:=blk_frozen BK240.out 1;have hfz14_2:=blk_frozen BK240.out 2))
    go_meet
    case rel=>exact⟨_,(true),zrs,H',⟨by first|omega|exact Nat.le_refl _⟩,⟨by(with_reducible repeat(first|refine blk_drewN ?_ _|refine blk_drew ?_ |refine blk_alloc ?_ _));exact BK240.out⟩,⟨by exact zk2 HB GE240.out⟩⟩
  ·replace c6:=Bool.eq_false_iff.mpr c6
   subst c6
   have H1:(impl_GoodMatch.j0 k l1 true l0_0 l0_1 l0_2)=some r:=by rw [if_neg (show ¬ (false=true) by decide)] at H;exact H
   clear H
   have H:=H1
   clear H1
   have H':=Aside0.mk H
   clear H
   have hcz15_0:=zcz BK240 0 (.slice A0_0 l0_0.length c0_0)
   have hcz15_1:=zcz BK240 1 (.slice A0_1 l0_1.length c0_1)
   have hcz15_2:=zcz BK240 2 (.slice A0_2 l0_2.length c0_2)
   have hfz15_0:=blk_frozen BK240.out 0
   have hfz15_1:=blk_frozen BK240.out 1
   have hfz15_2:=blk_frozen BK240.out 2
   go_wp2_with (first|((with_reducible refine gate_callee (f:=20) rfl ?_);refine goesL_ (some 8) rfl rfl Try.func20 (by kernel_rfl) rfl #[.agg #[.slice A0_0 l0_0.length c0_0,.slice A0_1 l0_1.length c0_1,.slice A0_2 l0_2.length c0_2]] rfl zq2 ?_;(with_reducible refine(impl_GoodWishes.calls k _ _ l0_0 _ _ l0_1 _ _ l0_2 false _ ?side1 ?side2 ?side3 ?side4 ?side5 ?side6 A5.out).mono ?_);(case side1=>exact zcc ((Kd.C_below HR0_0.out HB.out)));(case side2=>exact HC0_0.out);(case side3=>exact zcc ((Kd.C_below HR0_1.out HB.out)));(case side4=>exact HC0_1.out);(case side5=>exact zcc ((Kd.C_below HR0_2.out HB.out)));(case side6=>exact HC0_2.out);rintro e w16 ⟨rfl,hb⟩;refine⟨_,rfl,?_⟩;replace BK240:=Aside0.mk (blk_below (g:=gb240) (o:= .cells #[.slice A0_0 l0_0.length c0_0,.slice A0_1 l0_1.length c0_1,.slice A0_2 l0_2.length c0_2] 33 (0,0)) (zq3 BK240) hb);replace HB:=Aside0.mk (below_step (by exact zk2 HB GE240.out) hb);(try clear hb);(try clear hb2);(try clear hk);(try clear hi)))
   go_meet
   case rel=>exact⟨_,(true),zrs,H',⟨by first|omega|exact Nat.le_refl _⟩,⟨by(with_reducible repeat(first|refine blk_drewN ?_ _|refine blk_drew ?_ |refine blk_alloc ?_ _));exact BK240.out⟩,⟨by exact zk2 HB GE240.out⟩⟩
 case rest=>
  clear HC3
  try clear c1
  try clear c2
  try clear p2
  try clear c6
  try clear p6
  try clear c7
  try clear c7b0
  try clear c7b1
  try clear c7b2
  try clear hcz11_0
  try clear hcz11_1
  try clear hcz11_2
  try clear hcz12_0
  try clear hcz12_1
  try clear hcz12_2
  try clear hcz14_0
  try clear hcz14_1
  try clear hcz14_2
  try clear hcz15_0
  try clear hcz15_1
  try clear hcz15_2
  try clear hcz9_0
  try clear hcz9_1
  try clear hcz9_2
  try clear hfz11_0
  try clear hfz11_1
  try clear hfz11_2
  try clear hfz12_0
  try clear hfz12_1
  try clear hfz12_2
  try clear hfz14_0
  try clear hfz14_1
  try clear hfz14_2
  try clear hfz15_0
  try clear hfz15_1
  try clear hfz15_2
  try clear hfz9_0
  try clear hfz9_1
  try clear hfz9_2
  obtain⟨kq,x26_2,rfl,HA,HJ2,BK240,HB⟩:=hcut
  cases kq with
  |zero=>exact absurd HA.out (by simp [impl_GoodMatch.j0])
  |succ kj2=>
   have H:=HA.out
   clear HA
   simp only [impl_GoodMatch.j0] at H
   by_cases c17:x26_2=true
   ·subst c17
    have H1:(some false)=some r:=by rw [if_pos rfl] at H;exact H
    clear H
    have H:=H1
    clear H1
    obtain rfl:=Option.some.inj H
    go_wp2
    go_ret
    exact⟨zer,by exact zk2 HB GE240.out⟩
   ·replace c17:=Bool.eq_false_iff.mpr c17
    subst c17
    have H1:((impl_loads.f kj2 l0_0 l0_1 l0_2 l1).bind fun t243=>(impl_GoodMatch.l0 kj2 t243 (t243.length:Int) 0 l0_0 l0_1 l0_2))=some r:=by rw [if_neg (show ¬ (false=true) by decide)] at H;exact H
    clear H
    have H:=H1
    clear H1
    replace H:=Option.bind_eq_some_iff.mp H
    obtain⟨t243,A180,H⟩:=H
    replace H:(impl_GoodMatch.l0 kj2 t243 (t243.length:Int) 0 l0_0 l0_1 l0_2)=some r:=H
    have A18:=Aside0.mk A180
    clear A180
    have H':=Aside0.mk H
    clear H
    have hcz19_0:wc.cell? ⟨gb240,0,none⟩=some (.slice A0_0 l0_0.length c0_0):=(blk_cell BK240.out 0).trans rfl
    have hcz19_1:wc.cell? ⟨gb240,1,none⟩=some (.slice A0_1 l0_1.length c0_1):=(blk_cell BK240.out 1).trans rfl
    have hcz19_2:wc.cell? ⟨gb240,2,none⟩=some (.slice A0_2 l0_2.length c0_2):=(blk_cell BK240.out 2).trans rfl
    have hfz19_0:=blk_frozen BK240.out 0
    have hfz19_1:=blk_frozen BK240.out 1
    have hfz19_2:=blk_frozen BK240.out 2
    go_wp2_with (first|((with_reducible refine gate_callee (f:=56) rfl ?_);refine goesL_ (some 29) rfl rfl Try.func56 (by kernel_rfl) rfl #[.agg #[.slice A0_0 l0_0.length c0_0,.slice A0_1 l0_1.length c0_1,.slice A0_2 l0_2.length c0_2],.slice A1 l1.length c1] rfl zq2 ?_;(with_reducible refine(impl_loads.calls kj2 _ _ l0_0 _ _ l0_1 _ _ l0_2 _ _ l1 t243 _ ?side1 ?side2 ?side3 ?side4 ?side5 ?side6 ?side7 ?side8 A18.out).mono ?_);(case side1=>exact zcc ((Kd.C_below HR0_0.out HB.out)));(case side2=>exact HC0_0.out);(case side3=>exact zcc ((Kd.C_below HR0_1.out HB.out)));(case side4=>exact HC0_1.out);(case side5=>exact zcc ((Kd.C_below HR0_2.out HB.out)));(case side6=>exact HC0_2.out);(case side7=>exact zcc ((Kd.C_below HR1.out HB.out)));(case side8=>exact HC1.out);rintro e w20 ⟨v244,rfl,ho0,hb⟩;refine⟨_,rfl,?_⟩;have HO245:=Aside0.mk (Kd.R_lower ho0 (below_size (by exact zk2 HB GE240.out)));replace BK240:=Aside0.mk (blk_below (g:=gb240) (o:= .cells #[.slice A0_0 l0_0.length c0_0,.slice A0_1 l0_1.length c0_1,.slice A0_2 l0_2.length c0_2] 33 (0,0)) (zq3 BK240) hb);replace HB:=Aside0.mk (below_step (by exact zk2 HB GE240.out) hb);(try clear hb);(try clear hb2);(try clear hk);(try clear hi);(try clear ho0);obtain⟨Ao21,co21,eo21⟩:=Kd.R_slice HO245.out;subst eo21))
    go_loopg [31] kj2 (fun kq v31 w'=> ∃ (x31_2:Int),v31= .int .i64 x31_2∧Aside0 (impl_GoodMatch.l0 kq t243 (t243.length:Int) x31_2 l0_0 l0_1 l0_2=some r)∧Aside0 (kq≤kj2)∧Aside0 (Kd.R (Kd.int .i64) 3 w' w.heap.size (fun _=>True) (.slice Ao21 t243.length co21) t243)∧Aside0 (w'.heap[gb240]?=some (.cells #[(.slice A0_0 l0_0.length c0_0),(.slice A0_1 l0_1.length c0_1),(.slice A0_2 l0_2.length c0_2)] 33 (0,0)))∧Aside0 (Below w.heap.size w w'))
    case atStart=>exact⟨(0),zrs,H',⟨Nat.le_refl _⟩,⟨zdr HO245⟩,⟨by(with_reducible repeat(first|refine blk_drewN ?_ _|refine blk_drew ?_ |refine blk_alloc ?_ _));exact BK240.out⟩,⟨by exact zk2 HB GE240.out⟩⟩
    case round=>
     clear H'
     try clear c1
     try clear c2
     try clear p2
     try clear c5
     try clear c6
     try clear p6
     try clear c7
     try clear c7b0
     try clear c7b1
     try clear c7b2
     try clear c17
     try clear c20
     try clear hcz11_0
     try clear hcz11_1
     try clear hcz11_2
     try clear hcz12_0
     try clear hcz12_1
     try clear hcz12_2
     try clear hcz14_0
     try clear hcz14_1
     try clear hcz14_2
     try clear hcz15_0
     try clear hcz15_1
     try clear hcz15_2
     try clear hcz19_0
     try clear hcz19_1
     try clear hcz19_2
     try clear hcz9_0
     try clear hcz9_1
     try clear hcz9_2
     try clear hfz11_0
     try clear hfz11_1
     try clear hfz11_2
     try clear hfz12_0
     try clear hfz12_1
     try clear hfz12_2
     try clear hfz14_0
     try clear hfz14_1
     try clear hfz14_2
     try clear hfz15_0
     try clear hfz15_1
     try clear hfz15_2
     try clear hfz19_0
     try clear hfz19_1
     try clear hfz19_2
     try clear hfz9_0
     try clear hfz9_1
     try clear hfz9_2
     try clear p2
     try clear p6
     obtain⟨x31_2,rfl,HA,HK2,HO_29,BK240,HB⟩:=hrel
     cases gk with
     |zero=>exact absurd HA.out (by simp [impl_GoodMatch.l0])
     |succ k2=>
      have H:=HA.out
      clear HA
      simp only [impl_GoodMatch.l0] at H
      by_cases c22:x31_2< (t243.length:Int)
      ·rw [if_pos c22] at H
       have c22b0:decide (x31_2< (t243.length:Int))=true:=decide_eq_true c22
       clear c22
       by_cases c23: 0≤x31_2
       case neg=>exact znn c23 H
       rw [if_pos c23] at H
       have c23b0:decide (0≤x31_2)=true:=decide_eq_true c23
       clear c23
       by_cases c24:x31_2< (t243.length:Int)
       case neg=>exact znn c24 H
       rw [if_pos c24] at H
       have c24b0:decide (x31_2< (t243.length:Int))=true:=decide_eq_true c24
       clear c24
       by_cases c25:x31_2< (l0_2.length:Int)
       case neg=>exact znn c25 H
       rw [if_pos c25] at H
       have c25b0:decide (x31_2< (l0_2.length:Int))=true:=decide_eq_true c25
       clear c25
       by_cases c26:(rd t243 x31_2) > (rd l0_2 x31_2)
       ·rw [if_pos c26] at H
        have c26b0:decide ((rd l0_2 x31_2)< (rd t243 x31_2))=true:=decide_eq_true c26
        clear c26
        obtain rfl:=Option.some.inj H
        have p246: 0≤ (x31_2:Int):=of_decide_eq_true zq1
        have q246:x31_2< (t243.length:Int):=of_decide_eq_true zq1
        obtain⟨ad246,e246,hx246_0⟩:=Kd.at_int (Kd.R_reads' HO_29.out).2.2 x31_2 p246 q246
        cases e246
        replace p246:=eq_true p246
        replace q246:=eq_true q246
        have hcz27_0:wr.cell? ⟨gb240,0,none⟩=some (.slice A0_0 l0_0.length c0_0):=(blk_cell BK240.out 0).trans rfl
        have hcz27_1:wr.cell? ⟨gb240,1,none⟩=some (.slice A0_1 l0_1.length c0_1):=(blk_cell BK240.out 1).trans rfl
        have hcz27_2:wr.cell? ⟨gb240,2,none⟩=some (.slice A0_2 l0_2.length c0_2):=(blk_cell BK240.out 2).trans rfl
        have hfz27_0:=blk_frozen BK240.out 0
        have hfz27_1:=blk_frozen BK240.out 1
        have hfz27_2:=blk_frozen BK240.out 2
        have p247: 0≤ (x31_2:Int):=of_decide_eq_true zq1
        have q247:x31_2< (l0_2.length:Int):=of_decide_eq_true zq1
        obtain⟨ad247,e247,hx247_0⟩:=Kd.at_int HR0_2.out x31_2 p247 q247
        cases e247
        replace hx247_0:=zhx HB hx247_0
        replace p247:=eq_true p247
        replace q247:=eq_true q247
        go_wp2
        go_ret
        exact⟨zer,by exact zk2 HB GE240.out⟩
       ·rw [if_neg c26] at H
        have c26b0:decide ((rd l0_2 x31_2)< (rd t243 x31_2))=false:=decide_eq_false c26
        clear c26
        have H':=Aside0.mk H
        clear H
        have p246: 0≤ (x31_2:Int):=of_decide_eq_true zq1
        have q246:x31_2< (t243.length:Int):=of_decide_eq_true zq1
        obtain⟨ad246,e246,hx246_0⟩:=Kd.at_int (Kd.R_reads' HO_29.out).2.2 x31_2 p246 q246
        cases e246
        replace p246:=eq_true p246
        replace q246:=eq_true q246
        have hcz28_0:wr.cell? ⟨gb240,0,none⟩=some (.slice A0_0 l0_0.length c0_0):=(blk_cell BK240.out 0).trans rfl
        have hcz28_1:wr.cell? ⟨gb240,1,none⟩=some (.slice A0_1 l0_1.length c0_1):=(blk_cell BK240.out 1).trans rfl
        have hcz28_2:wr.cell? ⟨gb240,2,none⟩=some (.slice A0_2 l0_2.length c0_2):=(blk_cell BK240.out 2).trans rfl
        have hfz28_0:=blk_frozen BK240.out 0
        have hfz28_1:=blk_frozen BK240.out 1
        have hfz28_2:=blk_frozen BK240.out 2
        have p247: 0≤ (x31_2:Int):=of_decide_eq_true zq1
        have q247:x31_2< (l0_2.length:Int):=of_decide_eq_true zq1
        obtain⟨ad247,e247,hx247_0⟩:=Kd.at_int HR0_2.out x31_2 p247 q247
        cases e247
        replace hx247_0:=zhx HB hx247_0
        replace p247:=eq_true p247
        replace q247:=eq_true q247
        go_wp2
        go_roundg k2
        case measure=>have:=HJ2.out;have:=HK2.out;omega
        case rel=>exact⟨(wrap64 (x31_2+1)),zrs,H',⟨by have:=HJ2.out;have:=HK2.out;omega⟩,⟨zdr HO_29⟩,⟨by(with_reducible repeat(first|refine blk_drewN ?_ _|refine blk_drew ?_ |refine blk_alloc ?_ _));exact BK240.out⟩,⟨by exact zk2 HB GE240.out⟩⟩
      ·rw [if_neg c22] at H
       have c22b0:decide (x31_2< (t243.length:Int))=false:=decide_eq_false c22
       clear c22
       obtain rfl:=Option.some.inj H
       go_wp2
       go_ret
       exact⟨zer,by exact zk2 HB GE240.out⟩
def spec_l12Has.l0:Nat→Int→List Int→List Int→Int→Int→Option (List Int)
 | 0,_,_,_,_,_=>none
 |k+1,x1,x5,x8,x9,x10=>if x10<x9 then(if 0≤x10 then(if x10< (x8.length:Int) then(if (rd x8 x10)=x1 then(if x5.length< 17592186044416 then(spec_l12Has.l0 k x1 (x5++ [x10]) x8 x9 (wrap64 (x10+1))) else(none)) else(spec_l12Has.l0 k x1 x5 x8 x9 (wrap64 (x10+1)))) else(none)) else(none)) else(some x5)
def spec_l12Has.f (k:Nat) (l0:List Int) (a1:Int):Option (List Int):=spec_l12Has.l0 k a1 ([] :List Int) l0 (l0.length:Int) 0
theorem zq4 {q p:Prop} (b:Aside0 q) (h:q→p:=by intro z;(with_reducible repeat(first|apply Kd.R_alloc|apply Kd.R_drewN|apply Kd.R_drew));exact z):p:=h b.out
set_option maxHeartbeats 8000000 in
set_option maxRecDepth 100000 in
theorem spec_l12Has.calls (k:Nat) (A0:Option Addr) (c0:Nat) (l0:List Int) (a1:Int) (r:List Int) (w:World) (hr0:Kd.C (Kd.int .i64) w A0 l0.length l0) (hc0:l0.length≤c0) (h:spec_l12Has.f k l0 a1=some r):
  Calls Try.prog 55 #[.slice A0 l0.length c0,.int .i64 a1] w fun e w'=> ∃ v0_:Value,e= .returned (v0_)∧Kd.R (Kd.int .i64) 3 w' w.heap.size (fun _=>True) v0_ r∧Below w.heap.size w w':=by
 have HR0:=Aside0.mk hr0
 have HC0:=Aside0.mk hc0
 clear hr0 hc0
 have HB:=Aside0.mk (Below.refl w.heap.size w)
 have H:(spec_l12Has.l0 k a1 ([] :List Int) l0 (l0.length:Int) 0)=some r:=h
 clear h
 have H':=Aside0.mk H
 clear H
 go_enter Try.func55,Try.ntmps55
 go_wp2
 go_loopg [5,10] k (fun kq v5 v10 w'=> ∃ (x5_1:List Int) (x10_1:Int),v10= .int .i64 x10_1∧Aside0 (spec_l12Has.l0 kq a1 x5_1 l0 (l0.length:Int) x10_1=some r)∧Aside0 (kq≤k)∧Aside0 (Kd.R (Kd.int .i64) 3 w' w.heap.size (fun _=>True) v5 x5_1)∧Aside0 (Below w.heap.size w w'))
 case atStart=>exact⟨(([] :List Int)),(0),zrs,H',⟨Nat.le_refl _⟩,⟨by first|exact Kd.R_nil _ _ _ _ _|exact Kd.N_nil _ _ _ _ _|exact Kd.V_nil _ _ _ _ _|exact Kd.Q_nil _ _ _ _ _|exact Kd.S_nil _ _ _ _ _⟩,⟨by exact zk1 HB⟩⟩
 case round=>
  clear H'
  try clear p2
  obtain⟨x5_1,x10_1,rfl,HA,HK1,HO_5,HB⟩:=hrel
  cases gk with
  |zero=>exact absurd HA.out (by simp [spec_l12Has.l0])
  |succ k1=>
   have H:=HA.out
   clear HA
   simp only [spec_l12Has.l0] at H
   by_cases c3:x10_1< (l0.length:Int)
   ·rw [if_pos c3] at H
    have c3b0:decide (x10_1< (l0.length:Int))=true:=decide_eq_true c3
    clear c3
    by_cases c4: 0≤x10_1
    case neg=>exact znn c4 H
    rw [if_pos c4] at H
    have c4b0:decide (0≤x10_1)=true:=decide_eq_true c4
    clear c4
    by_cases c5:x10_1< (l0.length:Int)
    case neg=>exact znn c5 H
    rw [if_pos c5] at H
    have c5b0:decide (x10_1< (l0.length:Int))=true:=decide_eq_true c5
    clear c5
    by_cases c6:(rd l0 x10_1)=a1
    ·rw [if_pos c6] at H
     have c6b0:((rd l0 x10_1)==a1)=true:=beq_iff_eq.mpr c6
     have c6b1:((rd l0 x10_1) !=a1)=false:=bne_eq_false_iff_eq.mpr c6
     clear c6
     by_cases c7:x5_1.length< 17592186044416
     case neg=>exact znn c7 H
     rw [if_pos c7] at H
     have LMc7:=Aside0.mk c7
     clear c7
     obtain⟨y223,hy223⟩ :∃ y_:List Int,y_= (x5_1++ [x10_1]):=⟨_,rfl⟩
     replace H:(spec_l12Has.l0 k1 a1 y223 l0 (l0.length:Int) (wrap64 (x10_1+1)))=some r:=zfh hy223 H
     have Ny223:=Aside0.mk hy223
     clear hy223
     have H':=Aside0.mk H
     clear H
     have p222: 0≤ (x10_1:Int):=of_decide_eq_true zq1
     have q222:x10_1< (l0.length:Int):=of_decide_eq_true zq1
     obtain⟨ad222,e222,hx222_0⟩:=Kd.at_int HR0.out x10_1 p222 q222
     cases e222
     replace hx222_0:=zhx HB hx222_0
     replace p222:=eq_true p222
     replace q222:=eq_true q222
     go_wp2_with (first|((with_reducible refine gate_builtin (b:= .append) (xs:= #[.tmp 18,.tmp 20]) rfl ?_);at_builtin;refine Kd.R_append (Kd.int .i64) (w0:=w) w.heap.size rfl (.tmp 18) (.tmp 20) 22 3 (.int .i64 0) 8 rfl Try.underlying22 info3 rfl (by decide) (by omega) u5 x5_1 x10_1 [.int .i64 x10_1] (fun _=>True) (fun _=>False) rfl rfl ?aP (fun _ hk=>hk.elim) ?aF ?aO ?aB ?aS ?aL ?_;(case aP=>exact rfl);(case aB=>exact(by exact zk1 HB));(case aF=>exact(fun _ _=>trivial));(case aO=>exact(zq4 HO_5));(case aS=>exact(below_size (by exact zk1 HB)));(case aL=>have:=LMc7.out;omega);intro v224 w8 ho hb hg hat;rw [← Ny223.out] at ho;have HO225:=Aside0.mk (ho);replace HB:=Aside0.mk (hb);clear HO_5;clear ho hb hg hat))
     go_roundg k1
     case measure=>have:=HK1.out;omega
     case rel=>exact⟨(y223),(wrap64 (x10_1+1)),zrs,H',⟨by have:=HK1.out;omega⟩,⟨zdr HO225⟩,⟨by exact zk1 HB⟩⟩
    ·rw [if_neg c6] at H
     have c6b0:((rd l0 x10_1)==a1)=false:=beq_eq_false_iff_ne.mpr c6
     have c6b1:((rd l0 x10_1) !=a1)=true:=bne_iff_ne.mpr c6
     have H':=Aside0.mk H
     clear H
     have p222: 0≤ (x10_1:Int):=of_decide_eq_true zq1
     have q222:x10_1< (l0.length:Int):=of_decide_eq_true zq1
     obtain⟨ad222,e222,hx222_0⟩:=Kd.at_int HR0.out x10_1 p222 q222
     cases e222
     replace hx222_0:=zhx HB hx222_0
     replace p222:=eq_true p222
     replace q222:=eq_true q222
     go_wp2
     go_roundg k1
     case measure=>have:=HK1.out;omega
     case rel=>exact⟨(x5_1),(wrap64 (x10_1+1)),zrs,H',⟨by have:=HK1.out;omega⟩,⟨zdr HO_5⟩,⟨by exact zk1 HB⟩⟩
   ·rw [if_neg c3] at H
    have c3b0:decide (x10_1< (l0.length:Int))=false:=decide_eq_false c3
    clear c3
    obtain rfl:=Option.some.inj H
    go_wp2
    go_ret
    exact⟨_,zer,zdr HO_5,by exact zk1 HB⟩
mutual
def spec_GoodMatch.j0:Nat→List Int→Bool→List (List Int)→List (List Int)→List Int→Option (Bool)
 | 0,_,_,_,_,_=>none
 |k+1,x1,x26,x227000,x227001,x227002=>if x26=true then(some false) else(spec_GoodMatch.l0 k x1 x227002 (x227002.length:Int) 0)
def spec_GoodMatch.l0:Nat→List Int→List Int→Int→Int→Option (Bool)
 | 0,_,_,_,_=>none
 |k+1,x1,x28,x29,x30=>if x30<x29 then(if 0≤x30 then(if x30< (x28.length:Int) then((spec_l12Has.f k x1 x30).bind fun t230=>(if (t230.length:Int) > (rd x28 x30) then(some false) else(spec_GoodMatch.l0 k x1 x28 x29 (wrap64 (x30+1))))) else(none)) else(none)) else(some true)
end
def spec_GoodMatch.f (k:Nat) (l0_0:List (List Int)) (l0_1:List (List Int)) (l0_2:List Int) (l1:List Int):Option (Bool):=(spec_GoodWishes.f k l0_0 l0_1 l0_2).bind fun t227=>(if t227=true then(if (l1.length:Int)= (l0_0.length:Int) then((spec_l1All.f k l1 (-1) (wrap64 ((l0_1.length:Int) - 1))).bind fun t228=>(spec_GoodMatch.j0 k l1 (!t228) l0_0 l0_1 l0_2)) else(spec_GoodMatch.j0 k l1 true l0_0 l0_1 l0_2)) else(spec_GoodMatch.j0 k l1 true l0_0 l0_1 l0_2))
set_option maxHeartbeats 8000000 in
set_option maxRecDepth 100000 in
theorem spec_GoodMatch.calls (k:Nat) (A0_0:Option Addr) (c0_0:Nat) (l0_0:List (List Int)) (A0_1:Option Addr) (c0_1:Nat) (l0_1:List (List Int)) (A0_2:Option Addr) (c0_2:Nat) (l0_2:List Int) (A1:Option Addr) (c1:Nat) (l1:List Int) (r:Bool) (w:World) (hr0_0:Kd.C (Kd.slice 3 (Kd.int .i64)) w A0_0 l0_0.length l0_0) (hc0_0:l0_0.length≤c0_0) (hr0_1:Kd.C (Kd.slice 3 (Kd.int .i64)) w A0_1 l0_1.length l0_1) (hc0_1:l0_1.length≤c0_1) (hr0_2:Kd.C (Kd.int .i64) w A0_2 l0_2.length l0_2) (hc0_2:l0_2.length≤c0_2) (hr1:Kd.C (Kd.int .i64) w A1 l1.length l1) (hc1:l1.length≤c1) (h:spec_GoodMatch.f k l0_0 l0_1 l0_2 l1=some r):
  Calls Try.prog 22 #[.agg #[.slice A0_0 l0_0.length c0_0,.slice A0_1 l0_1.length c0_1,.slice A0_2 l0_2.length c0_2],.slice A1 l1.length c1] w fun e w'=>e= .returned (.bool r)∧Below w.heap.size w w':=by
 have hu33:=Try.underlying33
 have HR0_0:=Aside0.mk hr0_0
 have HC0_0:=Aside0.mk hc0_0
 clear hr0_0 hc0_0
 have HR0_1:=Aside0.mk hr0_1
 have HC0_1:=Aside0.mk hc0_1
 clear hr0_1 hc0_1
 have HR0_2:=Aside0.mk hr0_2
 have HC0_2:=Aside0.mk hc0_2
 clear hr0_2 hc0_2
 have HR1:=Aside0.mk hr1
 have HC1:=Aside0.mk hc1
 clear hr1 hc1
 have HB:=Aside0.mk (Below.refl w.heap.size w)
 have H:((spec_GoodWishes.f k l0_0 l0_1 l0_2).bind fun t227=>(if t227=true then(if (l1.length:Int)= (l0_0.length:Int) then((spec_l1All.f k l1 (-1) (wrap64 ((l0_1.length:Int) - 1))).bind fun t228=>(spec_GoodMatch.j0 k l1 (!t228) l0_0 l0_1 l0_2)) else(spec_GoodMatch.j0 k l1 true l0_0 l0_1 l0_2)) else(spec_GoodMatch.j0 k l1 true l0_0 l0_1 l0_2)))=some r:=h
 clear h
 have HC3:=Aside0.mk H
 clear H
 go_enter Try.func22,Try.ntmps22
 go_upto_region 1 with (first|((with_reducible refine gate_dst (N:=2) rfl ?_);(try(refine gate_guard (by rfl) ?_;dsimp only));refine box_event ?hg (N:=2) ?hd (cs:= #[.slice A0_0 l0_0.length c0_0,.slice A0_1 l0_1.length c0_1,.slice A0_2 l0_2.length c0_2]) (t:=33) ?hr ?_;(case hd=>rfl);(case hg=>rfl);(case hr=>first|(go_simp;done)|(go_simp;rfl));intro gb226 hg w4 hbox hb;have BK226:=Aside0.mk (hbox);have GW226:=Aside0.mk ((by rw [hg];exact(below_size (by exact zk1 HB)):w.heap.size≤gb226));have GE226:=GW226;replace HB:=Aside0.mk (below_step (by exact zk1 HB) hb);clear hb hbox hg))
 (try simp only [Act.put,List.setIfInBounds_toArray,List.set_cons_zero,List.set_cons_succ])
 go_cut [26] (fun v26 wc=> ∃ (kq:Nat) (x26_2:Bool),v26= .bool x26_2∧Aside0 (spec_GoodMatch.j0 kq l1 x26_2 l0_0 l0_1 l0_2=some r)∧Aside0 (kq≤k)∧Aside0 (wc.heap[gb226]?=some (.cells #[(.slice A0_0 l0_0.length c0_0),(.slice A0_1 l0_1.length c0_1),(.slice A0_2 l0_2.length c0_2)] 33 (0,0)))∧Aside0 (Below w.heap.size w wc))
 case first=>
  have H:=HC3.out
  clear HC3
  replace H:=Option.bind_eq_some_iff.mp H
  obtain⟨t227,A50,H⟩:=H
  replace H:(if t227=true then(if (l1.length:Int)= (l0_0.length:Int) then((spec_l1All.f k l1 (-1) (wrap64 ((l0_1.length:Int) - 1))).bind fun t228=>(spec_GoodMatch.j0 k l1 (!t228) l0_0 l0_1 l0_2)) else(spec_GoodMatch.j0 k l1 true l0_0 l0_1 l0_2)) else(spec_GoodMatch.j0 k l1 true l0_0 l0_1 l0_2))=some r:=H
  have A5:=Aside0.mk A50
  clear A50
  by_cases c6:t227=true
  ·subst c6
   have H1:(if (l1.length:Int)= (l0_0.length:Int) then((spec_l1All.f k l1 (-1) (wrap64 ((l0_1.length:Int) - 1))).bind fun t228=>(spec_GoodMatch.j0 k l1 (!t228) l0_0 l0_1 l0_2)) else(spec_GoodMatch.j0 k l1 true l0_0 l0_1 l0_2))=some r:=by rw [if_pos rfl] at H;exact H
   clear H
   have H:=H1
   clear H1
   by_cases c7:(l1.length:Int)= (l0_0.length:Int)
   ·rw [if_pos c7] at H
    have c7b0:((l1.length:Int)== (l0_0.length:Int))=true:=beq_iff_eq.mpr c7
    have c7b1:((l1.length:Int) != (l0_0.length:Int))=false:=bne_eq_false_iff_eq.mpr c7
    have c7b2:(l1.length==l0_0.length)=true:=by first|simpa using c7|(simp at c7 ⊢;omega)
    clear c7
    (first|rw [c7b0]|(simp only [i64_w,i32_w];rw [c7b0])|skip)
    replace H:=Option.bind_eq_some_iff.mp H
    obtain⟨t228,A80,H⟩:=H
    replace H:(spec_GoodMatch.j0 k l1 (!t228) l0_0 l0_1 l0_2)=some r:=H
    have A8:=Aside0.mk A80
    clear A80
    have H':=Aside0.mk H
    clear H
    have hcz9_0:=zcz BK226 0 (.slice A0_0 l0_0.length c0_0)
    have hcz9_1:=zcz BK226 1 (.slice A0_1 l0_1.length c0_1)
    have hcz9_2:=zcz BK226 2 (.slice A0_2 l0_2.length c0_2)
    have hfz9_0:=blk_frozen BK226.out 0
    have hfz9_1:=blk_frozen BK226.out 1
    have hfz9_2:=blk_frozen BK226.out 2
    go_wp2_with (first|((with_reducible refine gate_callee (f:=18) rfl ?_);refine goesL_ (some 8) rfl rfl Try.func18 (by kernel_rfl) rfl #[.agg #[.slice A0_0 l0_0.length c0_0,.slice A0_1 l0_1.length c0_1,.slice A0_2 l0_2.length c0_2]] rfl zq2 ?_;(with_reducible refine(spec_GoodWishes.calls k _ _ l0_0 _ _ l0_1 _ _ l0_2 true _ ?side1 ?side2 ?side3 ?side4 ?side5 ?side6 A5.out).mono ?_);(case side1=>exact zcc ((Kd.C_below HR0_0.out HB.out)));(case side2=>exact HC0_0.out);(case side3=>exact zcc ((Kd.C_below HR0_1.out HB.out)));(case side4=>exact HC0_1.out);(case side5=>exact zcc ((Kd.C_below HR0_2.out HB.out)));(case side6=>exact HC0_2.out);rintro e w10 ⟨rfl,hb⟩;refine⟨_,rfl,?_⟩;replace BK226:=Aside0.mk (blk_below (g:=gb226) (o:= .cells #[.slice A0_0 l0_0.length c0_0,.slice A0_1 l0_1.length c0_1,.slice A0_2 l0_2.length c0_2] 33 (0,0)) (zq3 BK226) hb);replace HB:=Aside0.mk (below_step (by exact zk2 HB GE226.out) hb);(try clear hb);(try clear hb2);(try clear hk);(try clear hi);have hcz11_0:=zcz BK226 0 (.slice A0_0 l0_0.length c0_0);have hcz11_1:=zcz BK226 1 (.slice A0_1 l0_1.length c0_1);have hcz11_2:=zcz BK226 2 (.slice A0_2 l0_2.length c0_2);have hfz11_0:=blk_frozen BK226.out 0;have hfz11_1:=blk_frozen BK226.out 1;have hfz11_2:=blk_frozen BK226.out 2)|(go_at_call 50;(with_reducible refine(spec_l1All.calls k _ _ l1 (-1) (wrap64 ((l0_1.length:Int) - 1)) t228 _ ?side1 ?side2 A8.out).mono ?_);(case side1=>exact zcc ((Kd.C_below HR1.out HB.out)));(case side2=>exact HC1.out);rintro e w' ⟨rfl,⟨nd,rfl⟩⟩))
    go_meet
    case rel=>exact⟨_,(!t228),zrs,H',⟨by first|omega|exact Nat.le_refl _⟩,⟨by(with_reducible repeat(first|refine blk_drewN ?_ _|refine blk_drew ?_ |refine blk_alloc ?_ _));exact BK226.out⟩,⟨by exact zk2 HB GE226.out⟩⟩
   ·rw [if_neg c7] at H
    have c7b0:((l1.length:Int)== (l0_0.length:Int))=false:=beq_eq_false_iff_ne.mpr c7
    have c7b1:((l1.length:Int) != (l0_0.length:Int))=true:=bne_iff_ne.mpr c7
    have c7b2:(l1.length==l0_0.length)=false:=by first|simpa using c7|(simp at c7 ⊢;omega)
    (first|rw [c7b0]|(simp only [i64_w,i32_w];rw [c7b0])|skip)
    have H':=Aside0.mk H
    clear H
    have hcz12_0:=zcz BK226 0 (.slice A0_0 l0_0.length c0_0)
    have hcz12_1:=zcz BK226 1 (.slice A0_1 l0_1.length c0_1)
    have hcz12_2:=zcz BK226 2 (.slice A0_2 l0_2.length c0_2)
    have hfz12_0:=blk_frozen BK226.out 0
    have hfz12_1:=blk_frozen BK226.out 1
    have hfz12_2:=blk_frozen BK226.out 2
    go_wp2_with (first|((with_reducible refine gate_callee (f:=18) rfl ?_);refine goesL_ (some 8) rfl rfl Try.func18 (by kernel_rfl) rfl #[.agg #[.slice A0_0 l0_0.length c0_0,.slice A0_1 l0_1.length c0_1,.slice A0_2 l0_2.length c0_2]] rfl zq2 ?_;(with_reducible refine(spec_GoodWishes.calls k _ _ l0_0 _ _ l0_1 _ _ l0_2 true _ ?side1 ?side2 ?side3 ?side4 ?side5 ?side6 A5.out).mono ?_);(case side1=>exact zcc ((Kd.C_below HR0_0.out HB.out)));(case side2=>exact HC0_0.out);(case side3=>exact zcc ((Kd.C_below HR0_1.out HB.out)));(case side4=>exact HC0_1.out);(case side5=>exact zcc ((Kd.C_below HR0_2.out HB.out)));(case side6=>exact HC0_2.out);rintro e w13 ⟨rfl,hb⟩;refine⟨_,rfl,?_⟩;replace BK226:=Aside0.mk (blk_below (g:=gb226) (o:= .cells #[.slice A0_0 l0_0.length c0_0,.slice A0_1 l0_1.length c0_1,.slice A0_2 l0_2.length c0_2] 33 (0,0)) (zq3 BK226) hb);replace HB:=Aside0.mk (below_step (by exact zk2 HB GE226.out) hb);(try clear hb);(try clear hb2);(try clear hk);(try clear hi);have hcz14_0:=zcz BK226 0 (.slice A0_0 l0_0.length c0_0);have hcz14_1:=zcz BK226 1 (.slice A0_1 l0_1.length c0_1);have hcz14_2:=zcz BK226 2 (.slice A0_2 l0_2.length c0_2);have hfz14_0:=blk_frozen BK226.out 0;have hfz14_1:=blk_frozen BK226.out 1;have hfz14_2:=blk_frozen BK226.out 2))
    go_meet
    case rel=>exact⟨_,(true),zrs,H',⟨by first|omega|exact Nat.le_refl _⟩,⟨by(with_reducible repeat(first|refine blk_drewN ?_ _|refine blk_drew ?_ |refine blk_alloc ?_ _));exact BK226.out⟩,⟨by exact zk2 HB GE226.out⟩⟩
  ·replace c6:=Bool.eq_false_iff.mpr c6
   subst c6
   have H1:(spec_GoodMatch.j0 k l1 true l0_0 l0_1 l0_2)=some r:=by rw [if_neg (show ¬ (false=true) by decide)] at H;exact H
   clear H
   have H:=H1
   clear H1
   have H':=Aside0.mk H
   clear H
   have hcz15_0:=zcz BK226 0 (.slice A0_0 l0_0.length c0_0)
   have hcz15_1:=zcz BK226 1 (.slice A0_1 l0_1.length c0_1)
   have hcz15_2:=zcz BK226 2 (.slice A0_2 l0_2.length c0_2)
   have hfz15_0:=blk_frozen BK226.out 0
   have hfz15_1:=blk_frozen BK226.out 1
   have hfz15_2:=blk_frozen BK226.out 2
   go_wp2_with (first|((with_reducible refine gate_callee (f:=18) rfl ?_);refine goesL_ (some 8) rfl rfl Try.func18 (by kernel_rfl) rfl #[.agg #[.slice A0_0 l0_0.length c0_0,.slice A0_1 l0_1.length c0_1,.slice A0_2 l0_2.length c0_2]] rfl zq2 ?_;(with_reducible refine(spec_GoodWishes.calls k _ _ l0_0 _ _ l0_1 _ _ l0_2 false _ ?side1 ?side2 ?side3 ?side4 ?side5 ?side6 A5.out).mono ?_);(case side1=>exact zcc ((Kd.C_below HR0_0.out HB.out)));(case side2=>exact HC0_0.out);(case side3=>exact zcc ((Kd.C_below HR0_1.out HB.out)));(case side4=>exact HC0_1.out);(case side5=>exact zcc ((Kd.C_below HR0_2.out HB.out)));(case side6=>exact HC0_2.out);rintro e w16 ⟨rfl,hb⟩;refine⟨_,rfl,?_⟩;replace BK226:=Aside0.mk (blk_below (g:=gb226) (o:= .cells #[.slice A0_0 l0_0.length c0_0,.slice A0_1 l0_1.length c0_1,.slice A0_2 l0_2.length c0_2] 33 (0,0)) (zq3 BK226) hb);replace HB:=Aside0.mk (below_step (by exact zk2 HB GE226.out) hb);(try clear hb);(try clear hb2);(try clear hk);(try clear hi)))
   go_meet
   case rel=>exact⟨_,(true),zrs,H',⟨by first|omega|exact Nat.le_refl _⟩,⟨by(with_reducible repeat(first|refine blk_drewN ?_ _|refine blk_drew ?_ |refine blk_alloc ?_ _));exact BK226.out⟩,⟨by exact zk2 HB GE226.out⟩⟩
 case rest=>
  clear HC3
  try clear c1
  try clear c2
  try clear p2
  try clear c6
  try clear p6
  try clear c7
  try clear c7b0
  try clear c7b1
  try clear c7b2
  try clear hcz11_0
  try clear hcz11_1
  try clear hcz11_2
  try clear hcz12_0
  try clear hcz12_1
  try clear hcz12_2
  try clear hcz14_0
  try clear hcz14_1
  try clear hcz14_2
  try clear hcz15_0
  try clear hcz15_1
  try clear hcz15_2
  try clear hcz9_0
  try clear hcz9_1
  try clear hcz9_2
  try clear hfz11_0
  try clear hfz11_1
  try clear hfz11_2
  try clear hfz12_0
  try clear hfz12_1
  try clear hfz12_2
  try clear hfz14_0
  try clear hfz14_1
  try clear hfz14_2
  try clear hfz15_0
  try clear hfz15_1
  try clear hfz15_2
  try clear hfz9_0
  try clear hfz9_1
  try clear hfz9_2
  obtain⟨kq,x26_2,rfl,HA,HJ2,BK226,HB⟩:=hcut
  cases kq with
  |zero=>exact absurd HA.out (by simp [spec_GoodMatch.j0])
  |succ kj2=>
   have H:=HA.out
   clear HA
   simp only [spec_GoodMatch.j0] at H
   by_cases c17:x26_2=true
   ·subst c17
    have H1:(some false)=some r:=by rw [if_pos rfl] at H;exact H
    clear H
    have H:=H1
    clear H1
    obtain rfl:=Option.some.inj H
    go_wp2
    go_ret
    exact⟨zer,by exact zk2 HB GE226.out⟩
   ·replace c17:=Bool.eq_false_iff.mpr c17
    subst c17
    have H1:(spec_GoodMatch.l0 kj2 l1 l0_2 (l0_2.length:Int) 0)=some r:=by rw [if_neg (show ¬ (false=true) by decide)] at H;exact H
    clear H
    have H:=H1
    clear H1
    have H':=Aside0.mk H
    clear H
    have hcz18_0:wc.cell? ⟨gb226,0,none⟩=some (.slice A0_0 l0_0.length c0_0):=(blk_cell BK226.out 0).trans rfl
    have hcz18_1:wc.cell? ⟨gb226,1,none⟩=some (.slice A0_1 l0_1.length c0_1):=(blk_cell BK226.out 1).trans rfl
    have hcz18_2:wc.cell? ⟨gb226,2,none⟩=some (.slice A0_2 l0_2.length c0_2):=(blk_cell BK226.out 2).trans rfl
    have hfz18_0:=blk_frozen BK226.out 0
    have hfz18_1:=blk_frozen BK226.out 1
    have hfz18_2:=blk_frozen BK226.out 2
    go_wp2
    go_loopg [30] kj2 (fun kq v30 w'=> ∃ (x30_2:Int),v30= .int .i64 x30_2∧Aside0 (spec_GoodMatch.l0 kq l1 l0_2 (l0_2.length:Int) x30_2=some r)∧Aside0 (kq≤kj2)∧Aside0 (w'.heap[gb226]?=some (.cells #[(.slice A0_0 l0_0.length c0_0),(.slice A0_1 l0_1.length c0_1),(.slice A0_2 l0_2.length c0_2)] 33 (0,0)))∧Aside0 (Below w.heap.size w w'))
    case atStart=>exact⟨(0),zrs,H',⟨Nat.le_refl _⟩,⟨by(with_reducible repeat(first|refine blk_drewN ?_ _|refine blk_drew ?_ |refine blk_alloc ?_ _));exact BK226.out⟩,⟨by exact zk2 HB GE226.out⟩⟩
    case round=>
     clear H'
     try clear c1
     try clear c2
     try clear p2
     try clear c6
     try clear p6
     try clear c7
     try clear c7b0
     try clear c7b1
     try clear c7b2
     try clear c17
     try clear c18
     try clear hcz11_0
     try clear hcz11_1
     try clear hcz11_2
     try clear hcz12_0
     try clear hcz12_1
     try clear hcz12_2
     try clear hcz14_0
     try clear hcz14_1
     try clear hcz14_2
     try clear hcz15_0
     try clear hcz15_1
     try clear hcz15_2
     try clear hcz18_0
     try clear hcz18_1
     try clear hcz18_2
     try clear hcz9_0
     try clear hcz9_1
     try clear hcz9_2
     try clear hfz11_0
     try clear hfz11_1
     try clear hfz11_2
     try clear hfz12_0
     try clear hfz12_1
     try clear hfz12_2
     try clear hfz14_0
     try clear hfz14_1
     try clear hfz14_2
     try clear hfz15_0
     try clear hfz15_1
     try clear hfz15_2
     try clear hfz18_0
     try clear hfz18_1
     try clear hfz18_2
     try clear hfz9_0
     try clear hfz9_1
     try clear hfz9_2
     try clear p2
     try clear p6
     obtain⟨x30_2,rfl,HA,HK2,BK226,HB⟩:=hrel
     cases gk with
     |zero=>exact absurd HA.out (by simp [spec_GoodMatch.l0])
     |succ k2=>
      have H:=HA.out
      clear HA
      simp only [spec_GoodMatch.l0] at H
      by_cases c19:x30_2< (l0_2.length:Int)
      ·rw [if_pos c19] at H
       have c19b0:decide (x30_2< (l0_2.length:Int))=true:=decide_eq_true c19
       clear c19
       by_cases c20: 0≤x30_2
       case neg=>exact znn c20 H
       rw [if_pos c20] at H
       have c20b0:decide (0≤x30_2)=true:=decide_eq_true c20
       clear c20
       by_cases c21:x30_2< (l0_2.length:Int)
       case neg=>exact znn c21 H
       rw [if_pos c21] at H
       have c21b0:decide (x30_2< (l0_2.length:Int))=true:=decide_eq_true c21
       clear c21
       replace H:=Option.bind_eq_some_iff.mp H
       obtain⟨t230,A220,H⟩:=H
       replace H:(if (t230.length:Int) > (rd l0_2 x30_2) then(some false) else(spec_GoodMatch.l0 k2 l1 l0_2 (l0_2.length:Int) (wrap64 (x30_2+1))))=some r:=H
       have A22:=Aside0.mk A220
       clear A220
       by_cases c23:(t230.length:Int) > (rd l0_2 x30_2)
       ·rw [if_pos c23] at H
        have c23b0:decide ((rd l0_2 x30_2)< (t230.length:Int))=true:=decide_eq_true c23
        clear c23
        obtain rfl:=Option.some.inj H
        have p229: 0≤ (x30_2:Int):=of_decide_eq_true zq1
        have q229:x30_2< (l0_2.length:Int):=of_decide_eq_true zq1
        obtain⟨ad229,e229,hx229_0⟩:=Kd.at_int HR0_2.out x30_2 p229 q229
        cases e229
        replace hx229_0:=zhx HB hx229_0
        replace p229:=eq_true p229
        replace q229:=eq_true q229
        go_wp2_with (first|((with_reducible refine gate_callee (f:=55) rfl ?_);refine goesL_ (some 37) rfl rfl Try.func55 (by kernel_rfl) rfl #[.slice A1 l1.length c1,.int .i64 x30_2] rfl zq2 ?_;(with_reducible refine(spec_l12Has.calls k2 _ _ l1 x30_2 t230 _ ?side1 ?side2 A22.out).mono ?_);(case side1=>exact zcc ((Kd.C_below HR1.out HB.out)));(case side2=>exact HC1.out);rintro e w24 ⟨v231,rfl,ho0,hb⟩;refine⟨_,rfl,?_⟩;have HO232:=Aside0.mk (Kd.R_lower ho0 (below_size (by exact zk2 HB GE226.out)));replace BK226:=Aside0.mk (blk_below (g:=gb226) (o:= .cells #[.slice A0_0 l0_0.length c0_0,.slice A0_1 l0_1.length c0_1,.slice (some ad229) l0_2.length c0_2] 33 (0,0)) (zq3 BK226) hb);replace HB:=Aside0.mk (below_step (by exact zk2 HB GE226.out) hb);(try clear hb);(try clear hb2);(try clear hk);(try clear hi);(try clear ho0);obtain⟨Ao25,co25,eo25⟩:=Kd.R_slice HO232.out;subst eo25))
        go_ret
        exact⟨zer,by exact zk2 HB GE226.out⟩
       ·rw [if_neg c23] at H
        have c23b0:decide ((rd l0_2 x30_2)< (t230.length:Int))=false:=decide_eq_false c23
        clear c23
        have H':=Aside0.mk H
        clear H
        have p229: 0≤ (x30_2:Int):=of_decide_eq_true zq1
        have q229:x30_2< (l0_2.length:Int):=of_decide_eq_true zq1
        obtain⟨ad229,e229,hx229_0⟩:=Kd.at_int HR0_2.out x30_2 p229 q229
        cases e229
        replace hx229_0:=zhx HB hx229_0
        replace p229:=eq_true p229
        replace q229:=eq_true q229
        go_wp2_with (first|((with_reducible refine gate_callee (f:=55) rfl ?_);refine goesL_ (some 37) rfl rfl Try.func55 (by kernel_rfl) rfl #[.slice A1 l1.length c1,.int .i64 x30_2] rfl zq2 ?_;(with_reducible refine(spec_l12Has.calls k2 _ _ l1 x30_2 t230 _ ?side1 ?side2 A22.out).mono ?_);(case side1=>exact zcc ((Kd.C_below HR1.out HB.out)));(case side2=>exact HC1.out);rintro e w26 ⟨v231,rfl,ho0,hb⟩;refine⟨_,rfl,?_⟩;have HO232:=Aside0.mk (Kd.R_lower ho0 (below_size (by exact zk2 HB GE226.out)));replace BK226:=Aside0.mk (blk_below (g:=gb226) (o:= .cells #[.slice A0_0 l0_0.length c0_0,.slice A0_1 l0_1.length c0_1,.slice (some ad229) l0_2.length c0_2] 33 (0,0)) (zq3 BK226) hb);replace HB:=Aside0.mk (below_step (by exact zk2 HB GE226.out) hb);(try clear hb);(try clear hb2);(try clear hk);(try clear hi);(try clear ho0);obtain⟨Ao27,co27,eo27⟩:=Kd.R_slice HO232.out;subst eo27))
        go_roundg k2
        case measure=>have:=HJ2.out;have:=HK2.out;omega
        case rel=>exact⟨(wrap64 (x30_2+1)),zrs,H',⟨by have:=HJ2.out;have:=HK2.out;omega⟩,⟨by(with_reducible repeat(first|refine blk_drewN ?_ _|refine blk_drew ?_ |refine blk_alloc ?_ _));exact BK226.out⟩,⟨by exact zk2 HB GE226.out⟩⟩
      ·rw [if_neg c19] at H
       have c19b0:decide (x30_2< (l0_2.length:Int))=false:=decide_eq_false c19
       clear c19
       obtain rfl:=Option.some.inj H
       go_wp2
       go_ret
       exact⟨zer,by exact zk2 HB GE226.out⟩
def spec_LoadOf.l0:Nat→List Int→List Int→Int→Int→Option (List Int × Bool)
 | 0,_,_,_,_=>none
 |k+1,x1,x6,x14,x15=>if x15<x14 then((spec_l12Has.f k x1 x15).bind fun t293=>(if x6.length< 17592186044416 then(spec_LoadOf.l0 k x1 (x6++ [(t293.length:Int)]) x14 (wrap64 (x15+1))) else(none))) else(some (x6,true))
def spec_LoadOf.f (k:Nat) (l0_0:List (List Int)) (l0_1:List (List Int)) (l0_2:List Int) (l1:List Int):Option (List Int × Bool):=(spec_GoodMatch.f k l0_0 l0_1 l0_2 l1).bind fun t292=>(if t292=true then(spec_LoadOf.l0 k l1 ([] :List Int) (l0_1.length:Int) 0) else(some (([] :List Int),false)))
set_option maxHeartbeats 8000000 in
set_option maxRecDepth 100000 in
theorem spec_LoadOf.calls (k:Nat) (A0_0:Option Addr) (c0_0:Nat) (l0_0:List (List Int)) (A0_1:Option Addr) (c0_1:Nat) (l0_1:List (List Int)) (A0_2:Option Addr) (c0_2:Nat) (l0_2:List Int) (A1:Option Addr) (c1:Nat) (l1:List Int) (r1:List Int) (r2:Bool) (w:World) (hr0_0:Kd.C (Kd.slice 3 (Kd.int .i64)) w A0_0 l0_0.length l0_0) (hc0_0:l0_0.length≤c0_0) (hr0_1:Kd.C (Kd.slice 3 (Kd.int .i64)) w A0_1 l0_1.length l0_1) (hc0_1:l0_1.length≤c0_1) (hr0_2:Kd.C (Kd.int .i64) w A0_2 l0_2.length l0_2) (hc0_2:l0_2.length≤c0_2) (hr1:Kd.C (Kd.int .i64) w A1 l1.length l1) (hc1:l1.length≤c1) (h:spec_LoadOf.f k l0_0 l0_1 l0_2 l1=some (r1,r2)):
  Calls Try.prog 24 #[.agg #[.slice A0_0 l0_0.length c0_0,.slice A0_1 l0_1.length c0_1,.slice A0_2 l0_2.length c0_2],.slice A1 l1.length c1] w fun e w'=> ∃ v0_:Value,e= .returned (.tuple #[v0_,.bool r2])∧Kd.R (Kd.int .i64) 3 w' w.heap.size (fun _=>True) v0_ r1∧Below w.heap.size w w':=by
 have hu33:=Try.underlying33
 have HR0_0:=Aside0.mk hr0_0
 have HC0_0:=Aside0.mk hc0_0
 clear hr0_0 hc0_0
 have HR0_1:=Aside0.mk hr0_1
 have HC0_1:=Aside0.mk hc0_1
 clear hr0_1 hc0_1
 have HR0_2:=Aside0.mk hr0_2
 have HC0_2:=Aside0.mk hc0_2
 clear hr0_2 hc0_2
 have HR1:=Aside0.mk hr1
 have HC1:=Aside0.mk hc1
 clear hr1 hc1
 have HB:=Aside0.mk (Below.refl w.heap.size w)
 have H:((spec_GoodMatch.f k l0_0 l0_1 l0_2 l1).bind fun t292=>(if t292=true then(spec_LoadOf.l0 k l1 ([] :List Int) (l0_1.length:Int) 0) else(some (([] :List Int),false))))=some (r1,r2):=h
 clear h
 replace H:=Option.bind_eq_some_iff.mp H
 obtain⟨t292,A30,H⟩:=H
 replace H:(if t292=true then(spec_LoadOf.l0 k l1 ([] :List Int) (l0_1.length:Int) 0) else(some (([] :List Int),false)))=some (r1,r2):=H
 have A3:=Aside0.mk A30
 clear A30
 by_cases c4:t292=true
 ·subst c4
  have H1:(spec_LoadOf.l0 k l1 ([] :List Int) (l0_1.length:Int) 0)=some (r1,r2):=by rw [if_pos rfl] at H;exact H
  clear H
  have H:=H1
  clear H1
  have H':=Aside0.mk H
  clear H
  go_enter Try.func24,Try.ntmps24
  go_wp2_with (first|((with_reducible refine gate_dst (N:=2) rfl ?_);refine box_event ?hg (N:=2) ?hd (cs:= #[.slice A0_0 l0_0.length c0_0,.slice A0_1 l0_1.length c0_1,.slice A0_2 l0_2.length c0_2]) (t:=33) ?hr ?_;(case hd=>rfl);(case hg=>rfl);(case hr=>first|(go_simp;done)|(go_simp;rfl));intro gb291 hg w5 hbox hb;have BK291:=Aside0.mk (hbox);have GW291:=Aside0.mk ((by rw [hg];exact(below_size (by exact zk1 HB)):w.heap.size≤gb291));have GE291:=GW291;replace HB:=Aside0.mk (below_step (by exact zk1 HB) hb);clear hb hbox hg;have hcz6_0:=zcz BK291 0 (.slice A0_0 l0_0.length c0_0);have hcz6_1:=zcz BK291 1 (.slice A0_1 l0_1.length c0_1);have hcz6_2:=zcz BK291 2 (.slice A0_2 l0_2.length c0_2);have hfz6_0:=blk_frozen BK291.out 0;have hfz6_1:=blk_frozen BK291.out 1;have hfz6_2:=blk_frozen BK291.out 2)|((with_reducible refine gate_callee (f:=22) rfl ?_);refine goesL_ (some 10) rfl rfl Try.func22 (by kernel_rfl) rfl #[.agg #[.slice A0_0 l0_0.length c0_0,.slice A0_1 l0_1.length c0_1,.slice A0_2 l0_2.length c0_2],.slice A1 l1.length c1] rfl zq2 ?_;(with_reducible refine(spec_GoodMatch.calls k _ _ l0_0 _ _ l0_1 _ _ l0_2 _ _ l1 true _ ?side1 ?side2 ?side3 ?side4 ?side5 ?side6 ?side7 ?side8 A3.out).mono ?_);(case side1=>exact zcc ((Kd.C_below HR0_0.out HB.out)));(case side2=>exact HC0_0.out);(case side3=>exact zcc ((Kd.C_below HR0_1.out HB.out)));(case side4=>exact HC0_1.out);(case side5=>exact zcc ((Kd.C_below HR0_2.out HB.out)));(case side6=>exact HC0_2.out);(case side7=>exact zcc ((Kd.C_below HR1.out HB.out)));(case side8=>exact HC1.out);rintro e w7 ⟨rfl,hb⟩;refine⟨_,rfl,?_⟩;replace BK291:=Aside0.mk (blk_below (g:=gb291) (o:= .cells #[.slice A0_0 l0_0.length c0_0,.slice A0_1 l0_1.length c0_1,.slice A0_2 l0_2.length c0_2] 33 (0,0)) (zq3 BK291) hb);replace HB:=Aside0.mk (below_step (by exact zk2 HB GE291.out) hb);(try clear hb);(try clear hb2);(try clear hk);(try clear hi);have hcz8_0:=zcz BK291 0 (.slice A0_0 l0_0.length c0_0);have hcz8_1:=zcz BK291 1 (.slice A0_1 l0_1.length c0_1);have hcz8_2:=zcz BK291 2 (.slice A0_2 l0_2.length c0_2);have hfz8_0:=blk_frozen BK291.out 0;have hfz8_1:=blk_frozen BK291.out 1;have hfz8_2:=blk_frozen BK291.out 2))
  go_loopg [6,15] k (fun kq v6 v15 w'=> ∃ (x6_1:List Int) (x15_1:Int),v15= .int .i64 x15_1∧Aside0 (spec_LoadOf.l0 kq l1 x6_1 (l0_1.length:Int) x15_1=some (r1,r2))∧Aside0 (kq≤k)∧Aside0 (Kd.R (Kd.int .i64) 3 w' w.heap.size (fun _=>True) v6 x6_1)∧Aside0 (w'.heap[gb291]?=some (.cells #[(.slice A0_0 l0_0.length c0_0),(.slice A0_1 l0_1.length c0_1),(.slice A0_2 l0_2.length c0_2)] 33 (0,0)))∧Aside0 (Below w.heap.size w w'))
  case atStart=>exact⟨(([] :List Int)),(0),zrs,H',⟨Nat.le_refl _⟩,⟨by first|exact Kd.R_nil _ _ _ _ _|exact Kd.N_nil _ _ _ _ _|exact Kd.V_nil _ _ _ _ _|exact Kd.Q_nil _ _ _ _ _|exact Kd.S_nil _ _ _ _ _⟩,⟨by(with_reducible repeat(first|refine blk_drewN ?_ _|refine blk_drew ?_ |refine blk_alloc ?_ _));exact BK291.out⟩,⟨by exact zk2 HB GE291.out⟩⟩
  case round=>
   clear H'
   try clear c1
   try clear c2
   try clear p2
   try clear c4
   try clear hcz6_0
   try clear hcz6_1
   try clear hcz6_2
   try clear hcz8_0
   try clear hcz8_1
   try clear hcz8_2
   try clear hfz6_0
   try clear hfz6_1
   try clear hfz6_2
   try clear hfz8_0
   try clear hfz8_1
   try clear hfz8_2
   obtain⟨x6_1,x15_1,rfl,HA,HK1,HO_6,BK291,HB⟩:=hrel
   cases gk with
   |zero=>exact absurd HA.out (by simp [spec_LoadOf.l0])
   |succ k1=>
    have H:=HA.out
    clear HA
    simp only [spec_LoadOf.l0] at H
    by_cases c9:x15_1< (l0_1.length:Int)
    ·rw [if_pos c9] at H
     have c9b0:decide (x15_1< (l0_1.length:Int))=true:=decide_eq_true c9
     clear c9
     replace H:=Option.bind_eq_some_iff.mp H
     obtain⟨t293,A100,H⟩:=H
     replace H:(if x6_1.length< 17592186044416 then(spec_LoadOf.l0 k1 l1 (x6_1++ [(t293.length:Int)]) (l0_1.length:Int) (wrap64 (x15_1+1))) else(none))=some (r1,r2):=H
     have A10:=Aside0.mk A100
     clear A100
     by_cases c11:x6_1.length< 17592186044416
     case neg=>exact znn c11 H
     rw [if_pos c11] at H
     have LMc11:=Aside0.mk c11
     clear c11
     obtain⟨y296,hy296⟩ :∃ y_:List Int,y_= (x6_1++ [(t293.length:Int)]):=⟨_,rfl⟩
     replace H:(spec_LoadOf.l0 k1 l1 y296 (l0_1.length:Int) (wrap64 (x15_1+1)))=some (r1,r2):=zfh hy296 H
     have Ny296:=Aside0.mk hy296
     clear hy296
     have H':=Aside0.mk H
     clear H
     go_wp2_with (first|((with_reducible refine gate_callee (f:=55) rfl ?_);refine goesL_ (some 21) rfl rfl Try.func55 (by kernel_rfl) rfl #[.slice A1 l1.length c1,.int .i64 x15_1] rfl zq2 ?_;(with_reducible refine(spec_l12Has.calls k1 _ _ l1 x15_1 t293 _ ?side1 ?side2 A10.out).mono ?_);(case side1=>exact zcc ((Kd.C_below HR1.out HB.out)));(case side2=>exact HC1.out);rintro e w12 ⟨v294,rfl,ho0,hb⟩;refine⟨_,rfl,?_⟩;have HO295:=Aside0.mk (Kd.R_lower (Kd.R_new' ho0 (Kd.R_lt (zq4 HO_6))) (below_size (by exact zk2 HB GE291.out)));replace HO_6:=Aside0.mk (Kd.R_elder' (zq4 HO_6) (Kd.R_base ho0) hb);replace BK291:=Aside0.mk (blk_below (g:=gb291) (o:= .cells #[.slice A0_0 l0_0.length c0_0,.slice A0_1 l0_1.length c0_1,.slice A0_2 l0_2.length c0_2] 33 (0,0)) (zq3 BK291) hb);replace HB:=Aside0.mk (below_step (by exact zk2 HB GE291.out) hb);(try clear hb);(try clear hb2);(try clear hk);(try clear hi);(try clear ho0);obtain⟨Ao13,co13,eo13⟩:=Kd.R_slice HO295.out;subst eo13)|((with_reducible refine gate_builtin (b:= .append) (xs:= #[.tmp 18,.tmp 23]) rfl ?_);at_builtin;refine Kd.R_append (Kd.int .i64) (w0:=w) w.heap.size rfl (.tmp 18) (.tmp 23) 22 3 (.int .i64 0) 8 rfl Try.underlying22 info3 rfl (by decide) (by omega) u6 x6_1 (t293.length:Int) [.int .i64 (t293.length:Int)] (fun k_=>some k_≠ (.slice Ao13 t293.length co13:Value).ownBlock) (fun _=>False) rfl rfl ?aP (fun _ hk=>hk.elim) ?aF ?aO ?aB ?aS ?aL ?_;(case aP=>exact rfl);(case aB=>exact(by exact zk2 HB GE291.out));(case aF=>exact(fun k_ hk=>Kd.fresh' (Kd.R_lt (zq4 HO295)) k_ hk));(case aO=>exact(by(with_reducible repeat(first|apply Kd.R_alloc|apply Kd.R_drewN|apply Kd.R_drew));exact Kd.R_mono HO_6.out (fun _ hk=>hk.2)));(case aS=>exact(below_size (by exact zk2 HB GE291.out)));(case aL=>have:=LMc11.out;omega);intro v297 w14 ho hb hg hat;rw [← Ny296.out] at ho;have HO298:=Aside0.mk (ho);replace BK291:=Aside0.mk (blk_grown (g:=gb291) (o:= .cells #[.slice A0_0 l0_0.length c0_0,.slice A0_1 l0_1.length c0_1,.slice A0_2 l0_2.length c0_2] 33 (0,0)) (zq3 BK291) hg (Kd.R_ne HO_6.out BK291.out (by decide)));replace HO295:=Aside0.mk (Kd.R_after (ok:=(fun _=>True)) (zq4 HO295) hg hat);replace HB:=Aside0.mk (hb);clear HO_6;clear ho hb hg hat))
     go_roundg k1
     case measure=>have:=HK1.out;omega
     case rel=>exact⟨(y296),(wrap64 (x15_1+1)),zrs,H',⟨by have:=HK1.out;omega⟩,⟨by(with_reducible repeat(first|apply Kd.R_alloc|apply Kd.R_drewN|apply Kd.R_drew));exact Kd.R_mono HO298.out (fun _ hk=>trivial)⟩,⟨by(with_reducible repeat(first|refine blk_drewN ?_ _|refine blk_drew ?_ |refine blk_alloc ?_ _));exact BK291.out⟩,⟨by exact zk2 HB GE291.out⟩⟩
    ·rw [if_neg c9] at H
     have c9b0:decide (x15_1< (l0_1.length:Int))=false:=decide_eq_false c9
     clear c9
     simp only [Option.some.injEq,Prod.mk.injEq] at H
     obtain⟨rfl,rfl⟩:=H
     go_wp2
     go_ret2
     exact⟨_,zer,zdr HO_6,by exact zk2 HB GE291.out⟩
 ·replace c4:=Bool.eq_false_iff.mpr c4
  subst c4
  have H1:(some (([] :List Int),false))=some (r1,r2):=by rw [if_neg (show ¬ (false=true) by decide)] at H;exact H
  clear H
  have H:=H1
  clear H1
  simp only [Option.some.injEq,Prod.mk.injEq] at H
  obtain⟨rfl,rfl⟩:=H
  go_enter Try.func24,Try.ntmps24
  go_wp2_with (first|((with_reducible refine gate_dst (N:=2) rfl ?_);refine box_event ?hg (N:=2) ?hd (cs:= #[.slice A0_0 l0_0.length c0_0,.slice A0_1 l0_1.length c0_1,.slice A0_2 l0_2.length c0_2]) (t:=33) ?hr ?_;(case hd=>rfl);(case hg=>rfl);(case hr=>first|(go_simp;done)|(go_simp;rfl));intro gb291 hg w15 hbox hb;have BK291:=Aside0.mk (hbox);have GW291:=Aside0.mk ((by rw [hg];exact(below_size (by exact zk1 HB)):w.heap.size≤gb291));have GE291:=GW291;replace HB:=Aside0.mk (below_step (by exact zk1 HB) hb);clear hb hbox hg;have hcz16_0:=zcz BK291 0 (.slice A0_0 l0_0.length c0_0);have hcz16_1:=zcz BK291 1 (.slice A0_1 l0_1.length c0_1);have hcz16_2:=zcz BK291 2 (.slice A0_2 l0_2.length c0_2);have hfz16_0:=blk_frozen BK291.out 0;have hfz16_1:=blk_frozen BK291.out 1;have hfz16_2:=blk_frozen BK291.out 2)|((with_reducible refine gate_callee (f:=22) rfl ?_);refine goesL_ (some 10) rfl rfl Try.func22 (by kernel_rfl) rfl #[.agg #[.slice A0_0 l0_0.length c0_0,.slice A0_1 l0_1.length c0_1,.slice A0_2 l0_2.length c0_2],.slice A1 l1.length c1] rfl zq2 ?_;(with_reducible refine(spec_GoodMatch.calls k _ _ l0_0 _ _ l0_1 _ _ l0_2 _ _ l1 false _ ?side1 ?side2 ?side3 ?side4 ?side5 ?side6 ?side7 ?side8 A3.out).mono ?_);(case side1=>exact zcc ((Kd.C_below HR0_0.out HB.out)));(case side2=>exact HC0_0.out);(case side3=>exact zcc ((Kd.C_below HR0_1.out HB.out)));(case side4=>exact HC0_1.out);(case side5=>exact zcc ((Kd.C_below HR0_2.out HB.out)));(case side6=>exact HC0_2.out);(case side7=>exact zcc ((Kd.C_below HR1.out HB.out)));(case side8=>exact HC1.out);rintro e w17 ⟨rfl,hb⟩;refine⟨_,rfl,?_⟩;replace BK291:=Aside0.mk (blk_below (g:=gb291) (o:= .cells #[.slice A0_0 l0_0.length c0_0,.slice A0_1 l0_1.length c0_1,.slice A0_2 l0_2.length c0_2] 33 (0,0)) (zq3 BK291) hb);replace HB:=Aside0.mk (below_step (by exact zk2 HB GE291.out) hb);(try clear hb);(try clear hb2);(try clear hk);(try clear hi)))
  go_ret2
  exact⟨_,zer,by first|exact Kd.R_nil _ _ _ _ _|exact Kd.N_nil _ _ _ _ _|exact Kd.V_nil _ _ _ _ _|exact Kd.Q_nil _ _ _ _ _|exact Kd.S_nil _ _ _ _ _,by exact zk2 HB GE291.out⟩
def impl_LoadOf.f (k:Nat) (l0_0:List (List Int)) (l0_1:List (List Int)) (l0_2:List Int) (l1:List Int):Option (List Int × Bool):=(impl_GoodMatch.f k l0_0 l0_1 l0_2 l1).bind fun t300=>(if t300=true then((impl_loads.f k l0_0 l0_1 l0_2 l1).bind fun t301=>(some (t301,true))) else(some (([] :List Int),false)))
set_option maxHeartbeats 8000000 in
set_option maxRecDepth 100000 in
theorem impl_LoadOf.calls (k:Nat) (A0_0:Option Addr) (c0_0:Nat) (l0_0:List (List Int)) (A0_1:Option Addr) (c0_1:Nat) (l0_1:List (List Int)) (A0_2:Option Addr) (c0_2:Nat) (l0_2:List Int) (A1:Option Addr) (c1:Nat) (l1:List Int) (r1:List Int) (r2:Bool) (w:World) (hr0_0:Kd.C (Kd.slice 3 (Kd.int .i64)) w A0_0 l0_0.length l0_0) (hc0_0:l0_0.length≤c0_0) (hr0_1:Kd.C (Kd.slice 3 (Kd.int .i64)) w A0_1 l0_1.length l0_1) (hc0_1:l0_1.length≤c0_1) (hr0_2:Kd.C (Kd.int .i64) w A0_2 l0_2.length l0_2) (hc0_2:l0_2.length≤c0_2) (hr1:Kd.C (Kd.int .i64) w A1 l1.length l1) (hc1:l1.length≤c1) (h:impl_LoadOf.f k l0_0 l0_1 l0_2 l1=some (r1,r2)):
  Calls Try.prog 25 #[.agg #[.slice A0_0 l0_0.length c0_0,.slice A0_1 l0_1.length c0_1,.slice A0_2 l0_2.length c0_2],.slice A1 l1.length c1] w fun e w'=> ∃ v0_:Value,e= .returned (.tuple #[v0_,.bool r2])∧Kd.R (Kd.int .i64) 3 w' w.heap.size (fun _=>True) v0_ r1∧Below w.heap.size w w':=by
 have hu33:=Try.underlying33
 have HR0_0:=Aside0.mk hr0_0
 have HC0_0:=Aside0.mk hc0_0
 clear hr0_0 hc0_0
 have HR0_1:=Aside0.mk hr0_1
 have HC0_1:=Aside0.mk hc0_1
 clear hr0_1 hc0_1
 have HR0_2:=Aside0.mk hr0_2
 have HC0_2:=Aside0.mk hc0_2
 clear hr0_2 hc0_2
 have HR1:=Aside0.mk hr1
 have HC1:=Aside0.mk hc1
 clear hr1 hc1
 have HB:=Aside0.mk (Below.refl w.heap.size w)
 have H:((impl_GoodMatch.f k l0_0 l0_1 l0_2 l1).bind fun t300=>(if t300=true then((impl_loads.f k l0_0 l0_1 l0_2 l1).bind fun t301=>(some (t301,true))) else(some (([] :List Int),false))))=some (r1,r2):=h
 clear h
 replace H:=Option.bind_eq_some_iff.mp H
 obtain⟨t300,A30,H⟩:=H
 replace H:(if t300=true then((impl_loads.f k l0_0 l0_1 l0_2 l1).bind fun t301=>(some (t301,true))) else(some (([] :List Int),false)))=some (r1,r2):=H
 have A3:=Aside0.mk A30
 clear A30
 by_cases c4:t300=true
 ·subst c4
  have H1:((impl_loads.f k l0_0 l0_1 l0_2 l1).bind fun t301=>(some (t301,true)))=some (r1,r2):=by rw [if_pos rfl] at H;exact H
  clear H
  have H:=H1
  clear H1
  replace H:=Option.bind_eq_some_iff.mp H
  obtain⟨t301,A50,H⟩:=H
  replace H:(some (t301,true))=some (r1,r2):=H
  have A5:=Aside0.mk A50
  clear A50
  simp only [Option.some.injEq,Prod.mk.injEq] at H
  obtain⟨rfl,rfl⟩:=H
  go_enter Try.func25,Try.ntmps25
  go_wp2_with (first|((with_reducible refine gate_dst (N:=2) rfl ?_);refine box_event ?hg (N:=2) ?hd (cs:= #[.slice A0_0 l0_0.length c0_0,.slice A0_1 l0_1.length c0_1,.slice A0_2 l0_2.length c0_2]) (t:=33) ?hr ?_;(case hd=>rfl);(case hg=>rfl);(case hr=>first|(go_simp;done)|(go_simp;rfl));intro gb299 hg w6 hbox hb;have BK299:=Aside0.mk (hbox);have GW299:=Aside0.mk ((by rw [hg];exact(below_size (by exact zk1 HB)):w.heap.size≤gb299));have GE299:=GW299;replace HB:=Aside0.mk (below_step (by exact zk1 HB) hb);clear hb hbox hg;have hcz7_0:=zcz BK299 0 (.slice A0_0 l0_0.length c0_0);have hcz7_1:=zcz BK299 1 (.slice A0_1 l0_1.length c0_1);have hcz7_2:=zcz BK299 2 (.slice A0_2 l0_2.length c0_2);have hfz7_0:=blk_frozen BK299.out 0;have hfz7_1:=blk_frozen BK299.out 1;have hfz7_2:=blk_frozen BK299.out 2)|((with_reducible refine gate_callee (f:=23) rfl ?_);refine goesL_ (some 8) rfl rfl Try.func23 (by kernel_rfl) rfl #[.agg #[.slice A0_0 l0_0.length c0_0,.slice A0_1 l0_1.length c0_1,.slice A0_2 l0_2.length c0_2],.slice A1 l1.length c1] rfl zq2 ?_;(with_reducible refine(impl_GoodMatch.calls k _ _ l0_0 _ _ l0_1 _ _ l0_2 _ _ l1 true _ ?side1 ?side2 ?side3 ?side4 ?side5 ?side6 ?side7 ?side8 A3.out).mono ?_);(case side1=>exact zcc ((Kd.C_below HR0_0.out HB.out)));(case side2=>exact HC0_0.out);(case side3=>exact zcc ((Kd.C_below HR0_1.out HB.out)));(case side4=>exact HC0_1.out);(case side5=>exact zcc ((Kd.C_below HR0_2.out HB.out)));(case side6=>exact HC0_2.out);(case side7=>exact zcc ((Kd.C_below HR1.out HB.out)));(case side8=>exact HC1.out);rintro e w8 ⟨rfl,hb⟩;refine⟨_,rfl,?_⟩;replace BK299:=Aside0.mk (blk_below (g:=gb299) (o:= .cells #[.slice A0_0 l0_0.length c0_0,.slice A0_1 l0_1.length c0_1,.slice A0_2 l0_2.length c0_2] 33 (0,0)) (zq3 BK299) hb);replace HB:=Aside0.mk (below_step (by exact zk2 HB GE299.out) hb);(try clear hb);(try clear hb2);(try clear hk);(try clear hi);have hcz9_0:=zcz BK299 0 (.slice A0_0 l0_0.length c0_0);have hcz9_1:=zcz BK299 1 (.slice A0_1 l0_1.length c0_1);have hcz9_2:=zcz BK299 2 (.slice A0_2 l0_2.length c0_2);have hfz9_0:=blk_frozen BK299.out 0;have hfz9_1:=blk_frozen BK299.out 1;have hfz9_2:=blk_frozen BK299.out 2)|((with_reducible refine gate_callee (f:=56) rfl ?_);refine goesL_ (some 12) rfl rfl Try.func56 (by kernel_rfl) rfl #[.agg #[.slice A0_0 l0_0.length c0_0,.slice A0_1 l0_1.length c0_1,.slice A0_2 l0_2.length c0_2],.slice A1 l1.length c1] rfl zq2 ?_;(with_reducible refine(impl_loads.calls k _ _ l0_0 _ _ l0_1 _ _ l0_2 _ _ l1 t301 _ ?side1 ?side2 ?side3 ?side4 ?side5 ?side6 ?side7 ?side8 A5.out).mono ?_);(case side1=>exact zcc ((Kd.C_below HR0_0.out HB.out)));(case side2=>exact HC0_0.out);(case side3=>exact zcc ((Kd.C_below HR0_1.out HB.out)));(case side4=>exact HC0_1.out);(case side5=>exact zcc ((Kd.C_below HR0_2.out HB.out)));(case side6=>exact HC0_2.out);(case side7=>exact zcc ((Kd.C_below HR1.out HB.out)));(case side8=>exact HC1.out);rintro e w10 ⟨v302,rfl,ho0,hb⟩;refine⟨_,rfl,?_⟩;have HO303:=Aside0.mk (Kd.R_lower ho0 (below_size (by exact zk2 HB GE299.out)));replace BK299:=Aside0.mk (blk_below (g:=gb299) (o:= .cells #[.slice A0_0 l0_0.length c0_0,.slice A0_1 l0_1.length c0_1,.slice A0_2 l0_2.length c0_2] 33 (0,0)) (zq3 BK299) hb);replace HB:=Aside0.mk (below_step (by exact zk2 HB GE299.out) hb);(try clear hb);(try clear hb2);(try clear hk);(try clear hi);(try clear ho0)))
  go_ret2
  exact⟨_,zer,zdr HO303,by exact zk2 HB GE299.out⟩
 ·replace c4:=Bool.eq_false_iff.mpr c4
  subst c4
  have H1:(some (([] :List Int),false))=some (r1,r2):=by rw [if_neg (show ¬ (false=true) by decide)] at H;exact H
  clear H
  have H:=H1
  clear H1
  simp only [Option.some.injEq,Prod.mk.injEq] at H
  obtain⟨rfl,rfl⟩:=H
  go_enter Try.func25,Try.ntmps25
  go_wp2_with (first|((with_reducible refine gate_dst (N:=2) rfl ?_);refine box_event ?hg (N:=2) ?hd (cs:= #[.slice A0_0 l0_0.length c0_0,.slice A0_1 l0_1.length c0_1,.slice A0_2 l0_2.length c0_2]) (t:=33) ?hr ?_;(case hd=>rfl);(case hg=>rfl);(case hr=>first|(go_simp;done)|(go_simp;rfl));intro gb299 hg w11 hbox hb;have BK299:=Aside0.mk (hbox);have GW299:=Aside0.mk ((by rw [hg];exact(below_size (by exact zk1 HB)):w.heap.size≤gb299));have GE299:=GW299;replace HB:=Aside0.mk (below_step (by exact zk1 HB) hb);clear hb hbox hg;have hcz12_0:=zcz BK299 0 (.slice A0_0 l0_0.length c0_0);have hcz12_1:=zcz BK299 1 (.slice A0_1 l0_1.length c0_1);have hcz12_2:=zcz BK299 2 (.slice A0_2 l0_2.length c0_2);have hfz12_0:=blk_frozen BK299.out 0;have hfz12_1:=blk_frozen BK299.out 1;have hfz12_2:=blk_frozen BK299.out 2)|((with_reducible refine gate_callee (f:=23) rfl ?_);refine goesL_ (some 8) rfl rfl Try.func23 (by kernel_rfl) rfl #[.agg #[.slice A0_0 l0_0.length c0_0,.slice A0_1 l0_1.length c0_1,.slice A0_2 l0_2.length c0_2],.slice A1 l1.length c1] rfl zq2 ?_;(with_reducible refine(impl_GoodMatch.calls k _ _ l0_0 _ _ l0_1 _ _ l0_2 _ _ l1 false _ ?side1 ?side2 ?side3 ?side4 ?side5 ?side6 ?side7 ?side8 A3.out).mono ?_);(case side1=>exact zcc ((Kd.C_below HR0_0.out HB.out)));(case side2=>exact HC0_0.out);(case side3=>exact zcc ((Kd.C_below HR0_1.out HB.out)));(case side4=>exact HC0_1.out);(case side5=>exact zcc ((Kd.C_below HR0_2.out HB.out)));(case side6=>exact HC0_2.out);(case side7=>exact zcc ((Kd.C_below HR1.out HB.out)));(case side8=>exact HC1.out);rintro e w13 ⟨rfl,hb⟩;refine⟨_,rfl,?_⟩;replace BK299:=Aside0.mk (blk_below (g:=gb299) (o:= .cells #[.slice A0_0 l0_0.length c0_0,.slice A0_1 l0_1.length c0_1,.slice A0_2 l0_2.length c0_2] 33 (0,0)) (zq3 BK299) hb);replace HB:=Aside0.mk (below_step (by exact zk2 HB GE299.out) hb);(try clear hb);(try clear hb2);(try clear hk);(try clear hi)))
  go_ret2
  exact⟨_,zer,by first|exact Kd.R_nil _ _ _ _ _|exact Kd.N_nil _ _ _ _ _|exact Kd.V_nil _ _ _ _ _|exact Kd.Q_nil _ _ _ _ _|exact Kd.S_nil _ _ _ _ _,by exact zk2 HB GE299.out⟩
end Go.Proofs.Ytoipbblhmcpneaa.P
