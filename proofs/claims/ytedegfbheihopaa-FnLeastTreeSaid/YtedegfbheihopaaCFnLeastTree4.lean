/- Functions, walks and plain lemmas that the law FnLeastTree reaches, part 4. -/
import Derived.Test.YtedegfbheihopaaCFnLeastTree3
import Derived.Below
import Derived.Deep.Draws
import Derived.Deep.AppendLies
import Derived.Maps.AppendAt
import Derived.OwnWalk
import Derived.Laws.BytesArg
import Derived.Laws.MakeOwn
import Derived.Laws.OwnMore
import Derived.Deep.OwnRows
import Derived.Tactics
import Derived.Lib.ConvBytes
import Derived.Laws.Slices
import Derived.WalkKit
import Derived.KernelRfl
import Derived.RowKit3
import Derived.Deep.LoopGhost
import Derived.Deep.QuietTactic
import Derived.BigQuiet
import Derived.WideLaws
import Derived.Deep.DeepCutAuto
import Derived.Deep.CutBlock
import Derived.Deep.RegionHeld3
import Derived.Laws.Rows
import Derived.Lib.AppendStr
import Derived.ArgAppend
import Derived.Laws.IdiomCopy
import Derived.OrdersHeld
import Derived.Laws.BitsLemmas
import Derived.RowKit
import Derived.WalkSpells
import Derived.Lib.SliceRun
import Derived.Shelf.Abstract
import Derived.Maps.OwnSet
import Derived.Maps.OwnOps
import Derived.ProofKit
import Derived.OpenShut
import Derived.ShutString
import Derived.ChangeOld
import Derived.SizedLaws
namespace Go.Proofs.Ytedegfbheihopaa.P
open Go.RowKit Go.Proofs.YtedegfbheihopaaW.PrintWords Go.Proofs.YtedegfbheihopaaW.PrintLast Go.Proofs.YtedegfbheihopaaW.PrintMore
attribute [local go_sem] max2_int min2_int max_two min_two max_three min_three max_four min_four   -- for this text's walks alone
set_option linter.unusedVariables false
set_option linter.unusedSimpArgs false
mutual
def spec_l10At.l0:Nat→Int→List (S79)→Int→List Int→List Int→Int→Option (List Int)
 | 0,_,_,_,_,_,_=>none
 |k+1,x0,x1,x2,x7,x8,x9=>if x9<x0 then((spec_l8Near.f k x1 x9).bind fun t512=>(spec_l10At.l1 k x0 x1 x2 x7 x8 x9 (-1) t512 (t512.length:Int) 0)) else(some x8)
def spec_l10At.l1:Nat→Int→List (S79)→Int→List Int→List Int→Int→Int→List Int→Int→Int→Option (List Int)
 | 0,_,_,_,_,_,_,_,_,_,_=>none
 |k+1,x0,x1,x2,x7,x8,x9,x10,x24,x25,x26=>if x26<x25 then(if 0≤x26 then(if x26< (x24.length:Int) then(if x10< 0 then(if x9=x2 then(spec_l10At.l1 k x0 x1 x2 x7 x8 x9 x10 x24 x25 (wrap64 (x26+1))) else(if 0≤x9 then(if x9< (x7.length:Int) then(if (rd x7 x9)< 100000 then(if 0≤ (rd x24 x26) then(if (rd x24 x26)< (x7.length:Int) then((spec_l9Edge.f k x1 (rd x24 x26) x9).bind fun t518=>(if (wrap64 ((rd x7 (rd x24 x26))+t518))= (rd x7 x9) then(spec_l10At.l1 k x0 x1 x2 x7 x8 x9 (rd x24 x26) x24 x25 (wrap64 (x26+1))) else(spec_l10At.l1 k x0 x1 x2 x7 x8 x9 x10 x24 x25 (wrap64 (x26+1))))) else(none)) else(none)) else(spec_l10At.l1 k x0 x1 x2 x7 x8 x9 x10 x24 x25 (wrap64 (x26+1)))) else(none)) else(none))) else(spec_l10At.l1 k x0 x1 x2 x7 x8 x9 x10 x24 x25 (wrap64 (x26+1)))) else(none)) else(none)) else(if x8.length< 17592186044416 then(spec_l10At.l0 k x0 x1 x2 x7 (x8++ [x10]) (wrap64 (x9+1))) else(none))
end
def spec_l10At.f (k:Nat) (a0:Int) (l1:List (S79)) (a2:Int):Option (List Int):=(spec_l9Fars.f k a0 l1 a2).bind fun t509=>(spec_l10At.l0 k a0 l1 a2 t509 ([] :List Int) 0)
def spec_l10At.T10:Bool × List (List Nat × List Nat):=(true,[([],[]),([0],[0]),([1],[1]),([2],[2]),([2],[2]),([3,4,2],[2,3,4]),([2,5],[2,5]),([6,2],[6]),([7],[7]),([7],[7]),([8,9,7],[7,8,9]),([10,7],[7,10]),([11,7],[7,11]),([7,12],[7,12]),([13,7],[13]),([14],[14]),([14],[14]),([15,16,14],[14,15,16]),([17,14],[14,17]),([14],[14]),([14],[14]),([14],[14]),([19,20,21,14,14],[14,19,20,21]),([18,22,14],[14,18,22]),([14],[14]),([14],[14]),([24,25,14],[14,24,25]),([26,14],[14,26]),([23,27,14],[14,23,27]),([14,28],[14,28])])
def spec_l10At.B10:List Nat:= [0,1,3,7,7,31,63,127,255,255,1023,2047,4095,8191,16383,32767,32767,131071,262143,32767,32767,32767,3702783,8388607,32767,32767,50364415,117473279,268435455,536870911]
theorem spec_l10At.tab10:rtab .any (opsOf Try.f75 10)=spec_l10At.T10:=by kernel_rfl
theorem spec_l10At.bits10:waitsOk spec_l10At.T10.2 spec_l10At.B10=true:=by kernel_rfl
set_option maxHeartbeats 8000000 in
set_option maxRecDepth 100000 in
theorem spec_l10At.calls (k:Nat) (a0:Int) (A1:Option Addr) (c1:Nat) (l1:List (S79)) (a2:Int) (r:List Int) (w:World) (hr1:Kd.C k79 w A1 l1.length l1) (hc1:l1.length≤c1) (h:spec_l10At.f k a0 l1 a2=some r):
  Calls Try.prog 75 #[.int .i64 a0,.slice A1 l1.length c1,.int .i64 a2] w fun e w'=> ∃ v0_:Value,e= .returned (v0_)∧Kd.R (Kd.int .i64) 3 w' w.heap.size (fun _=>True) v0_ r∧Below w.heap.size w w':=by
 have HR1:=Aside0.mk hr1
 have HC1:=Aside0.mk hc1
 clear hr1 hc1
 have HB:=Aside0.mk (Below.refl w.heap.size w)
 have H:((spec_l9Fars.f k a0 l1 a2).bind fun t509=>(spec_l10At.l0 k a0 l1 a2 t509 ([] :List Int) 0))=some r:=h
 clear h
 replace H:=Option.bind_eq_some_iff.mp H
 obtain⟨t509,A40,H⟩:=H
 replace H:(spec_l10At.l0 k a0 l1 a2 t509 ([] :List Int) 0)=some r:=H
 have A4:=Aside0.mk A40
 clear A40
 have H':=Aside0.mk H
 clear H
 go_enter Try.func75,Try.ntmps75
 go_wp2_with (first|((with_reducible refine gate_callee (f:=96) rfl ?_);refine goesL_ (some 16) rfl rfl Try.func96 (by kernel_rfl) rfl #[.int .i64 a0,.slice A1 l1.length c1,.int .i64 a2] rfl zq2 ?_;(with_reducible refine(spec_l9Fars.calls k a0 _ _ l1 a2 t509 _ ?side1 ?side2 A4.out).mono ?_);(case side1=>exact zcc (HR1.out));(case side2=>exact HC1.out);rintro e w5 ⟨v510,rfl,ho0,hb⟩;refine⟨_,rfl,?_⟩;have HO511:=Aside0.mk (Kd.R_lower ho0 (below_size (by exact zk1 HB)));replace HB:=Aside0.mk (below_step (by exact zk1 HB) hb);(try clear hb);(try clear hb2);(try clear hk);(try clear hi);(try clear ho0)))
 go_loopg [8,9] k (fun kq v8 v9 w'=> ∃ (x8_1:List Int) (x9_1:Int),v9= .int .i64 x9_1∧Aside0 (spec_l10At.l0 kq a0 l1 a2 t509 x8_1 x9_1=some r)∧Aside0 (kq≤k)∧Aside0 (Kd.R (Kd.int .i64) 3 w' w.heap.size (fun k_=>some k_≠ (v8:Value).ownBlock) v510 t509)∧Aside0 (Kd.R (Kd.int .i64) 3 w' w.heap.size (fun k_=>some k_≠ (v510:Value).ownBlock) v8 x8_1)∧Aside0 (Below w.heap.size w w'))
 case atStart=>exact⟨(([] :List Int)),(0),zrs,H',⟨Nat.le_refl _⟩,⟨by(with_reducible repeat(first|apply Kd.R_alloc|apply Kd.R_drewN|apply Kd.R_drew));exact Kd.R_mono HO511.out (fun _ hk=>(by simp [Value.ownBlock]))⟩,⟨by first|exact Kd.R_nil _ _ _ _ _|exact Kd.N_nil _ _ _ _ _|exact Kd.V_nil _ _ _ _ _|exact Kd.Q_nil _ _ _ _ _|exact Kd.S_nil _ _ _ _ _⟩,⟨by exact zk1 HB⟩⟩
 case round=>
  clear H'
  try clear c1
  try clear p2
  obtain⟨x8_1,x9_1,rfl,HA,HK1,HO_7,HO_8,HB⟩:=hrel
  cases gk with
  |zero=>exact absurd HA.out (by simp [spec_l10At.l0])
  |succ k1=>
   have H:=HA.out
   clear HA
   simp only [spec_l10At.l0] at H
   by_cases c6:x9_1<a0
   ·rw [if_pos c6] at H
    have c6b0:decide (x9_1<a0)=true:=decide_eq_true c6
    clear c6
    replace H:=Option.bind_eq_some_iff.mp H
    obtain⟨t512,A70,H⟩:=H
    replace H:(spec_l10At.l1 k1 a0 l1 a2 t509 x8_1 x9_1 (-1) t512 (t512.length:Int) 0)=some r:=H
    have A7:=Aside0.mk A70
    clear A70
    have H':=Aside0.mk H
    clear H
    go_wp2_with (first|((with_reducible refine gate_callee (f:=97) rfl ?_);refine goesL_ (some 24) rfl rfl Try.func97 (by kernel_rfl) rfl #[.slice A1 l1.length c1,.int .i64 x9_1] rfl zq2 ?_;(with_reducible refine(spec_l8Near.calls k1 _ _ l1 x9_1 t512 _ ?side1 ?side2 A7.out).mono ?_);(case side1=>exact zcc ((Kd.C_below HR1.out HB.out)));(case side2=>exact HC1.out);rintro e w8 ⟨v513,rfl,ho0,hb⟩;refine⟨_,rfl,?_⟩;have HO514:=Aside0.mk (Kd.R_lower (Kd.R_new' (Kd.R_new' ho0 (Kd.R_lt (zq4 HO_7))) (Kd.R_lt (zq4 HO_8))) (below_size (by exact zk1 HB)));replace HO_7:=Aside0.mk (Kd.R_elder' (zq4 HO_7) (Kd.R_base ho0) hb);replace HO_8:=Aside0.mk (Kd.R_elder' (zq4 HO_8) (Kd.R_base ho0) hb);replace HB:=Aside0.mk (below_step (by exact zk1 HB) hb);(try clear hb);(try clear hb2);(try clear hk);(try clear hi);(try clear ho0);obtain⟨Ao9,co9,eo9⟩:=Kd.R_slice HO514.out;subst eo9))
    go_loopg [10,26] k1 (fun kq v10 v26 w'=> ∃ (x10_2:Int) (x26_2:Int),v10= .int .i64 x10_2∧v26= .int .i64 x26_2∧Aside0 (spec_l10At.l1 kq a0 l1 a2 t509 x8_1 x9_1 x10_2 t512 (t512.length:Int) x26_2=some r)∧Aside0 (kq≤k1)∧Aside0 (Kd.R (Kd.int .i64) 3 w' w.heap.size (fun k_=>some k_≠ (u8:Value).ownBlock∧some k_≠ ((.slice Ao9 t512.length co9):Value).ownBlock) v510 t509)∧Aside0 (Kd.R (Kd.int .i64) 3 w' w.heap.size (fun k_=>some k_≠ (v510:Value).ownBlock∧some k_≠ ((.slice Ao9 t512.length co9):Value).ownBlock) u8 x8_1)∧Aside0 (Kd.R (Kd.int .i64) 3 w' w.heap.size (fun k_=>some k_≠ (v510:Value).ownBlock∧some k_≠ (u8:Value).ownBlock) (.slice Ao9 t512.length co9) t512)∧Aside0 (Below w.heap.size w w'))
    case atStart=>exact⟨((-1)),(0),zrs,zrs,H',⟨Nat.le_refl _⟩,⟨zdr HO_7⟩,⟨zdr HO_8⟩,⟨by(with_reducible repeat(first|apply Kd.R_alloc|apply Kd.R_drewN|apply Kd.R_drew));exact Kd.R_mono HO514.out (fun _ hk=>⟨hk.1.2,hk.2⟩)⟩,⟨by exact zk1 HB⟩⟩
    case round=>
     clear H'
     try clear c1
     try clear p2
     try clear c6
     try clear c6b0
     try clear c7
     try clear c9
     try clear p2
     obtain⟨x10_2,x26_2,rfl,rfl,HA,HK2,HO_7,HO_8,HO_24,HB⟩:=hrel
     cases gk with
     |zero=>exact absurd HA.out (by simp [spec_l10At.l1])
     |succ k2=>
      have H:=HA.out
      clear HA
      simp only [spec_l10At.l1] at H
      by_cases c10:x26_2< (t512.length:Int)
      ·rw [if_pos c10] at H
       have c10b0:decide (x26_2< (t512.length:Int))=true:=decide_eq_true c10
       clear c10
       by_cases c11: 0≤x26_2
       case neg=>exact znn c11 H
       rw [if_pos c11] at H
       have c11b0:decide (0≤x26_2)=true:=decide_eq_true c11
       clear c11
       by_cases c12:x26_2< (t512.length:Int)
       case neg=>exact znn c12 H
       rw [if_pos c12] at H
       have c12b0:decide (x26_2< (t512.length:Int))=true:=decide_eq_true c12
       clear c12
       by_cases c13:x10_2< 0
       ·rw [if_pos c13] at H
        have c13b0:decide (x10_2< 0)=true:=decide_eq_true c13
        clear c13
        by_cases c14:x9_1=a2
        ·rw [if_pos c14] at H
         have c14b0:(x9_1==a2)=true:=beq_iff_eq.mpr c14
         have c14b1:(x9_1 !=a2)=false:=bne_eq_false_iff_eq.mpr c14
         clear c14
         have H':=Aside0.mk H
         clear H
         have p515: 0≤ (x26_2:Int):=of_decide_eq_true zq1
         have q515:x26_2< (t512.length:Int):=of_decide_eq_true zq1
         obtain⟨ad515,e515,hx515_0⟩:=Kd.at_int (Kd.R_reads' HO_24.out).2.2 x26_2 p515 q515
         cases e515
         replace p515:=eq_true p515
         replace q515:=eq_true q515
         try go_wp2
         replace HO_7:=Aside0.mk (Kd.R_drew HO_7.out)
         replace HO_8:=Aside0.mk (Kd.R_drew HO_8.out)
         replace HO_24:=Aside0.mk (Kd.R_drew HO_24.out)
         replace HB:=Aside0.mk (below_drew1 HB.out)
         refine start_ (n:=30) (S:=fun w'=>True) (ds:= []) (mb' 30 0) (by kernel_rfl) rfl rfl trivial (fun hHeld=>?_);refine with_tabW spec_l10At.tab10 spec_l10At.bits10 (fun HT_ HW_=>?_)
         generalize wr.drew=w15 at HO_7 HO_8 HO_24 HB hHeld ⊢
         refine zp1 HT_ 0 30 (mb' 30 1) rfl ?_
         refine zp1 HT_ 1 31 (mb' 30 3) rfl ?_
         refine zp1 HT_ 2 32 (mb' 30 7) rfl ?_
         refine zp1 HT_ 3 33 (mb' 30 15) rfl ?_
         refine zp1 HT_ 4 34 (mb' 30 31) rfl ?_
         refine zp1 HT_ 5 35 (mb' 30 63) rfl ?_
         refine zp1 HT_ 6 36 (mb' 30 127) rfl ?_
         refine zp1 HT_ 7 37 (mb' 30 255) rfl ?_
         refine zp2 HT_ 8 38 (mb' 30 511) rfl ?_
         refine zp2 HT_ 9 39 (mb' 30 1023) rfl ?_
         refine zp2 HT_ 10 40 (mb' 30 2047) rfl ?_
         refine zp2 HT_ 11 41 (mb' 30 4095) rfl ?_
         refine zp2 HT_ 12 42 (mb' 30 8191) rfl ?_
         refine zp1 HT_ 13 43 (mb' 30 16383) rfl ?_
         refine zp1 HT_ 14 44 (mb' 30 32767) rfl ?_
         refine zp2 HT_ 15 45 (mb' 30 65535) rfl ?_
         refine zp2 HT_ 16 46 (mb' 30 131071) rfl ?_
         refine zp2 HT_ 17 47 (mb' 30 262143) rfl ?_
         refine zp2 HT_ 18 48 (mb' 30 524287) rfl ?_
         refine zp2 HT_ 19 49 (mb' 30 1048575) rfl ?_
         refine zp2 HT_ 20 50 (mb' 30 2097151) rfl ?_
         refine zp2 HT_ 21 51 (mb' 30 4194303) rfl ?_
         refine zp2 HT_ 22 52 (mb' 30 8388607) rfl ?_
         refine zp2 HT_ 23 53 (mb' 30 16777215) rfl ?_
         refine zp2 HT_ 24 54 (mb' 30 33554431) rfl ?_
         refine zp2 HT_ 25 55 (mb' 30 67108863) rfl ?_
         refine zp2 HT_ 26 56 (mb' 30 134217727) rfl ?_
         refine zp2 HT_ 27 57 (mb' 30 268435455) rfl ?_
         refine zp2 HT_ 28 58 (mb' 30 536870911) rfl ?_
         refine zp1 HT_ 29 59 (mb' 30 1073741823) rfl ?_
         refine done_ (done_of HT_.out (by kernel_rfl)) ?_
         try go_wp2
         go_roundg k2
         case measure=>have:=HK1.out;have:=HK2.out;omega
         case rel=>exact⟨(x10_2),(wrap64 (x26_2+1)),zrs,zrs,H',⟨by have:=HK1.out;have:=HK2.out;omega⟩,⟨zdr HO_7⟩,⟨zdr HO_8⟩,⟨zdr HO_24⟩,⟨by exact zk1 HB⟩⟩
        ·rw [if_neg c14] at H
         have c14b0:(x9_1==a2)=false:=beq_eq_false_iff_ne.mpr c14
         have c14b1:(x9_1 !=a2)=true:=bne_iff_ne.mpr c14
         by_cases c16: 0≤x9_1
         case neg=>exact znn c16 H
         rw [if_pos c16] at H
         have c16b0:decide (0≤x9_1)=true:=decide_eq_true c16
         clear c16
         by_cases c17:x9_1< (t509.length:Int)
         case neg=>exact znn c17 H
         rw [if_pos c17] at H
         have c17b0:decide (x9_1< (t509.length:Int))=true:=decide_eq_true c17
         clear c17
         by_cases c18:(rd t509 x9_1)< 100000
         ·rw [if_pos c18] at H
          have c18b0:decide ((rd t509 x9_1)< 100000)=true:=decide_eq_true c18
          clear c18
          by_cases c19: 0≤ (rd t512 x26_2)
          case neg=>exact znn c19 H
          rw [if_pos c19] at H
          have c19b0:decide (0≤ (rd t512 x26_2))=true:=decide_eq_true c19
          clear c19
          by_cases c20:(rd t512 x26_2)< (t509.length:Int)
          case neg=>exact znn c20 H
          rw [if_pos c20] at H
          have c20b0:decide ((rd t512 x26_2)< (t509.length:Int))=true:=decide_eq_true c20
          clear c20
          replace H:=Option.bind_eq_some_iff.mp H
          obtain⟨t518,A210,H⟩:=H
          replace H:(if (wrap64 ((rd t509 (rd t512 x26_2))+t518))= (rd t509 x9_1) then(spec_l10At.l1 k2 a0 l1 a2 t509 x8_1 x9_1 (rd t512 x26_2) t512 (t512.length:Int) (wrap64 (x26_2+1))) else(spec_l10At.l1 k2 a0 l1 a2 t509 x8_1 x9_1 x10_2 t512 (t512.length:Int) (wrap64 (x26_2+1))))=some r:=H
          have A21:=Aside0.mk A210
          clear A210
          by_cases c22:(wrap64 ((rd t509 (rd t512 x26_2))+t518))= (rd t509 x9_1)
          ·rw [if_pos c22] at H
           have c22b0:((wrap64 ((rd t509 (rd t512 x26_2))+t518))== (rd t509 x9_1))=true:=beq_iff_eq.mpr c22
           have c22b1:((wrap64 ((rd t509 (rd t512 x26_2))+t518)) != (rd t509 x9_1))=false:=bne_eq_false_iff_eq.mpr c22
           clear c22
           have H':=Aside0.mk H
           clear H
           have p515: 0≤ (x26_2:Int):=of_decide_eq_true zq1
           have q515:x26_2< (t512.length:Int):=of_decide_eq_true zq1
           obtain⟨ad515,e515,hx515_0⟩:=Kd.at_int (Kd.R_reads' HO_24.out).2.2 x26_2 p515 q515
           cases e515
           replace p515:=eq_true p515
           replace q515:=eq_true q515
           try go_wp2
           replace HO_7:=Aside0.mk (Kd.R_drew HO_7.out)
           replace HO_8:=Aside0.mk (Kd.R_drew HO_8.out)
           replace HO_24:=Aside0.mk (Kd.R_drew HO_24.out)
           replace HB:=Aside0.mk (below_drew1 HB.out)
           obtain⟨Ao24,co24,eo24⟩:=Kd.R_slice HO_7.out
           (first|subst eo24|(injection eo24 with f1_ f2_ f3_;have f4_:=f1_.symm;have f5_:=f3_.symm;clear f1_ f2_ f3_;subst f4_;subst f5_))
           have p516: 0≤ (x9_1:Int):=of_decide_eq_true zq1
           have q516:x9_1< (t509.length:Int):=of_decide_eq_true zq1
           obtain⟨ad516,e516,hx516_0⟩:=Kd.at_int (Kd.R_reads' HO_7.out).2.2 x9_1 p516 q516
           cases e516
           replace p516:=eq_true p516
           replace q516:=eq_true q516
           have p517: 0≤ ((rd t512 x26_2):Int):=of_decide_eq_true zq1
           have q517:(rd t512 x26_2)< (t509.length:Int):=of_decide_eq_true zq1
           obtain⟨ad517,e517,hx517_0⟩:=Kd.at_int (Kd.R_reads' HO_7.out).2.2 (rd t512 x26_2) p517 q517
           obtain rfl:ad516=ad517:=(by injection e517)
           replace p517:=eq_true p517
           replace q517:=eq_true q517
           have p519: 0≤ (x9_1:Int):=of_decide_eq_true zq1
           have q519:x9_1< (t509.length:Int):=of_decide_eq_true zq1
           obtain⟨ad519,e519,hx519_0⟩:=Kd.at_int (Kd.R_reads' HO_7.out).2.2 x9_1 p519 q519
           obtain rfl:ad516=ad519:=(by injection e519)
           replace p519:=eq_true p519
           replace q519:=eq_true q519
           refine start_ (n:=30) (S:=fun w'=>w'.cell? (ad516.add (x9_1).toNat)=some (.int .i64 (rd t509 x9_1))∧w'.cell? (ad516.add ((rd t512 x26_2)).toNat)=some (.int .i64 (rd t509 (rd t512 x26_2)))∧w'.cell? (ad516.add (x9_1).toNat)=some (.int .i64 (rd t509 x9_1))) (ds:= []) (mb' 30 0) (by kernel_rfl) rfl rfl ⟨hx516_0,hx517_0,hx519_0⟩ (fun hHeld=>?_);refine with_tabW spec_l10At.tab10 spec_l10At.bits10 (fun HT_ HW_=>?_)
           generalize wr.drew=w23 at HO_7 HO_8 HO_24 HB hx516_0 hx517_0 hx519_0 hHeld ⊢
           refine zp1 HT_ 0 30 (mb' 30 1) rfl ?_
           refine zp1 HT_ 1 31 (mb' 30 3) rfl ?_
           refine zp1 HT_ 2 32 (mb' 30 7) rfl ?_
           refine zp1 HT_ 3 33 (mb' 30 15) rfl ?_
           refine zp1 HT_ 4 34 (mb' 30 31) rfl ?_
           refine zp1 HT_ 5 35 (mb' 30 63) rfl ?_
           refine zp1 HT_ 6 36 (mb' 30 127) rfl ?_
           refine zp1 HT_ 7 37 (mb' 30 255) rfl ?_
           refine zp1 HT_ 8 38 (mb' 30 511) rfl ?_
           refine zp1 HT_ 9 39 (mb' 30 1023) rfl ?_
           refine zp1 HT_ 10 40 (mb' 30 2047) rfl ?_
           refine zt1 HT_ HW_ (v:=?_) (a':=?_) 11 41 (mb' 30 4095) rfl ?_ hHeld ?_ ?_;rotate_left;(rintro w' ⟨s0,s1,s2⟩;go_simp;with_reducible rfl);rotate_left;exact zpa
           refine zp1 HT_ 12 42 (mb' 30 8191) rfl ?_
           refine zp1 HT_ 13 43 (mb' 30 16383) rfl ?_
           refine zp1 HT_ 14 44 (mb' 30 32767) rfl ?_
           refine zp1 HT_ 15 45 (mb' 30 65535) rfl ?_
           refine zp1 HT_ 16 46 (mb' 30 131071) rfl ?_
           refine zp1 HT_ 17 47 (mb' 30 262143) rfl ?_
           refine zp1 HT_ 19 49 (mb' 30 786431) rfl ?_
           refine zp1 HT_ 20 50 (mb' 30 1835007) rfl ?_
           refine zp1 HT_ 21 51 (mb' 30 3932159) rfl ?_
           refine zp1 HT_ 24 54 (mb' 30 20709375) rfl ?_
           refine zp1 HT_ 25 55 (mb' 30 54263807) rfl ?_
           refine zp1 HT_ 26 56 (mb' 30 121372671) rfl ?_
           refine zt1 HT_ HW_ (v:=?_) (a':=?_) 18 48 (mb' 30 121634815) rfl ?_ hHeld ?_ ?_;rotate_left;(rintro w' ⟨s0,s1,s2⟩;go_simp;with_reducible rfl);rotate_left;exact zpa
           refine zt1 HT_ HW_ (v:=?_) (a':=?_) 27 57 (mb' 30 255852543) rfl ?_ hHeld ?_ ?_;rotate_left;(rintro w' ⟨s0,s1,s2⟩;go_simp;with_reducible rfl);rotate_left;exact zpa
           refine one_ (i:=22) (N:=some 52) (mb' 30 260046847) rfl rfl (one_of HT_.out (by kernel_rfl)) (by decide) (fun K hK=>?_)
           refine goes_ Try.func67 (by kernel_rfl) rfl #[.slice A1 l1.length c1,.int .i64 (rd t512 x26_2),.int .i64 x9_1] (by rfl) rfl rfl zq2 ?_
           with_reducible refine(spec_l9Edge.calls k2 _ _ l1 (rd t512 x26_2) x9_1 t518 _ ?side1 ?side2 A21.out).mono ?_
           (case side1=>exact zcc ((Kd.C_below HR1.out HB.out)))
           (case side2=>exact HC1.out)
           rintro e w25 ⟨rfl,hb⟩
           have HS0_:=(hb.cell (World.block_lt_of_cell? _ _ (hHeld.1))).trans (hHeld.1)
           have HS1_:=(hb.cell (World.block_lt_of_cell? _ _ (hHeld.2.1))).trans (hHeld.2.1)
           have HS2_:=(hb.cell (World.block_lt_of_cell? _ _ (hHeld.2.2))).trans (hHeld.2.2)
           refine⟨_,rfl,?_⟩
           replace HO_7:=Aside0.mk (Kd.R_below (zq4 HO_7) hb)
           replace HO_8:=Aside0.mk (Kd.R_below (zq4 HO_8) hb)
           replace HO_24:=Aside0.mk (Kd.R_below (zq4 HO_24) hb)
           replace HB:=Aside0.mk (below_step (by exact zk1 HB) hb)
           (try clear hb)
           (try clear hb2)
           (try clear hk)
           (try clear hi)
           refine hK.out _ _ ⟨HS0_,HS1_,HS2_⟩ (fun hHeld=>?_)
           clear hK K
           refine norm_ (a':=?_) ?_ ?_
           rotate_left
           ·show Act.put _ (some 52) _=_
            simp only [Act.put,List.setIfInBounds_toArray,List.set_cons_zero,List.set_cons_succ,i64_w,i32_w]
            rfl
           refine zp1 HT_ 23 53 (mb' 30 268435455) rfl ?_
           refine zp1 HT_ 28 58 (mb' 30 536870911) rfl ?_
           refine zp1 HT_ 29 59 (mb' 30 1073741823) rfl ?_
           refine done_ (done_of HT_.out (by kernel_rfl)) ?_
           try go_wp2
           go_roundg k2
           case measure=>have:=HK1.out;have:=HK2.out;omega
           case rel=>exact⟨(rd t512 x26_2),(wrap64 (x26_2+1)),zrs,zrs,H',⟨by have:=HK1.out;have:=HK2.out;omega⟩,⟨zdr HO_7⟩,⟨zdr HO_8⟩,⟨zdr HO_24⟩,⟨by exact zk1 HB⟩⟩
          ·rw [if_neg c22] at H
           have c22b0:((wrap64 ((rd t509 (rd t512 x26_2))+t518))== (rd t509 x9_1))=false:=beq_eq_false_iff_ne.mpr c22
           have c22b1:((wrap64 ((rd t509 (rd t512 x26_2))+t518)) != (rd t509 x9_1))=true:=bne_iff_ne.mpr c22
           have H':=Aside0.mk H
           clear H
           have p515: 0≤ (x26_2:Int):=of_decide_eq_true zq1
           have q515:x26_2< (t512.length:Int):=of_decide_eq_true zq1
           obtain⟨ad515,e515,hx515_0⟩:=Kd.at_int (Kd.R_reads' HO_24.out).2.2 x26_2 p515 q515
           cases e515
           replace p515:=eq_true p515
           replace q515:=eq_true q515
           try go_wp2
           replace HO_7:=Aside0.mk (Kd.R_drew HO_7.out)
           replace HO_8:=Aside0.mk (Kd.R_drew HO_8.out)
           replace HO_24:=Aside0.mk (Kd.R_drew HO_24.out)
           replace HB:=Aside0.mk (below_drew1 HB.out)
           obtain⟨Ao27,co27,eo27⟩:=Kd.R_slice HO_7.out
           (first|subst eo27|(injection eo27 with f1_ f2_ f3_;have f4_:=f1_.symm;have f5_:=f3_.symm;clear f1_ f2_ f3_;subst f4_;subst f5_))
           have p516: 0≤ (x9_1:Int):=of_decide_eq_true zq1
           have q516:x9_1< (t509.length:Int):=of_decide_eq_true zq1
           obtain⟨ad516,e516,hx516_0⟩:=Kd.at_int (Kd.R_reads' HO_7.out).2.2 x9_1 p516 q516
           cases e516
           replace p516:=eq_true p516
           replace q516:=eq_true q516
           have p517: 0≤ ((rd t512 x26_2):Int):=of_decide_eq_true zq1
           have q517:(rd t512 x26_2)< (t509.length:Int):=of_decide_eq_true zq1
           obtain⟨ad517,e517,hx517_0⟩:=Kd.at_int (Kd.R_reads' HO_7.out).2.2 (rd t512 x26_2) p517 q517
           obtain rfl:ad516=ad517:=(by injection e517)
           replace p517:=eq_true p517
           replace q517:=eq_true q517
           have p519: 0≤ (x9_1:Int):=of_decide_eq_true zq1
           have q519:x9_1< (t509.length:Int):=of_decide_eq_true zq1
           obtain⟨ad519,e519,hx519_0⟩:=Kd.at_int (Kd.R_reads' HO_7.out).2.2 x9_1 p519 q519
           obtain rfl:ad516=ad519:=(by injection e519)
           replace p519:=eq_true p519
           replace q519:=eq_true q519
           refine start_ (n:=30) (S:=fun w'=>w'.cell? (ad516.add (x9_1).toNat)=some (.int .i64 (rd t509 x9_1))∧w'.cell? (ad516.add ((rd t512 x26_2)).toNat)=some (.int .i64 (rd t509 (rd t512 x26_2)))∧w'.cell? (ad516.add (x9_1).toNat)=some (.int .i64 (rd t509 x9_1))) (ds:= []) (mb' 30 0) (by kernel_rfl) rfl rfl ⟨hx516_0,hx517_0,hx519_0⟩ (fun hHeld=>?_);refine with_tabW spec_l10At.tab10 spec_l10At.bits10 (fun HT_ HW_=>?_)
           generalize wr.drew=w26 at HO_7 HO_8 HO_24 HB hx516_0 hx517_0 hx519_0 hHeld ⊢
           refine zp1 HT_ 0 30 (mb' 30 1) rfl ?_
           refine zp1 HT_ 1 31 (mb' 30 3) rfl ?_
           refine zp1 HT_ 2 32 (mb' 30 7) rfl ?_
           refine zp1 HT_ 3 33 (mb' 30 15) rfl ?_
           refine zp1 HT_ 4 34 (mb' 30 31) rfl ?_
           refine zp1 HT_ 5 35 (mb' 30 63) rfl ?_
           refine zp1 HT_ 6 36 (mb' 30 127) rfl ?_
           refine zp1 HT_ 7 37 (mb' 30 255) rfl ?_
           refine zp1 HT_ 8 38 (mb' 30 511) rfl ?_
           refine zp1 HT_ 9 39 (mb' 30 1023) rfl ?_
           refine zp1 HT_ 10 40 (mb' 30 2047) rfl ?_
           refine zt1 HT_ HW_ (v:=?_) (a':=?_) 11 41 (mb' 30 4095) rfl ?_ hHeld ?_ ?_;rotate_left;(rintro w' ⟨s0,s1,s2⟩;go_simp;with_reducible rfl);rotate_left;exact zpa
           refine zp1 HT_ 12 42 (mb' 30 8191) rfl ?_
           refine zp1 HT_ 13 43 (mb' 30 16383) rfl ?_
           refine zp1 HT_ 14 44 (mb' 30 32767) rfl ?_
           refine zp1 HT_ 15 45 (mb' 30 65535) rfl ?_
           refine zp1 HT_ 16 46 (mb' 30 131071) rfl ?_
           refine zp1 HT_ 17 47 (mb' 30 262143) rfl ?_
           refine zp1 HT_ 19 49 (mb' 30 786431) rfl ?_
           refine zp1 HT_ 20 50 (mb' 30 1835007) rfl ?_
           refine zp1 HT_ 21 51 (mb' 30 3932159) rfl ?_
           refine zp1 HT_ 24 54 (mb' 30 20709375) rfl ?_
           refine zp1 HT_ 25 55 (mb' 30 54263807) rfl ?_
           refine zp1 HT_ 26 56 (mb' 30 121372671) rfl ?_
           refine zt1 HT_ HW_ (v:=?_) (a':=?_) 18 48 (mb' 30 121634815) rfl ?_ hHeld ?_ ?_;rotate_left;(rintro w' ⟨s0,s1,s2⟩;go_simp;with_reducible rfl);rotate_left;exact zpa
           refine zt1 HT_ HW_ (v:=?_) (a':=?_) 27 57 (mb' 30 255852543) rfl ?_ hHeld ?_ ?_;rotate_left;(rintro w' ⟨s0,s1,s2⟩;go_simp;with_reducible rfl);rotate_left;exact zpa
           refine one_ (i:=22) (N:=some 52) (mb' 30 260046847) rfl rfl (one_of HT_.out (by kernel_rfl)) (by decide) (fun K hK=>?_)
           refine goes_ Try.func67 (by kernel_rfl) rfl #[.slice A1 l1.length c1,.int .i64 (rd t512 x26_2),.int .i64 x9_1] (by rfl) rfl rfl zq2 ?_
           with_reducible refine(spec_l9Edge.calls k2 _ _ l1 (rd t512 x26_2) x9_1 t518 _ ?side1 ?side2 A21.out).mono ?_
           (case side1=>exact zcc ((Kd.C_below HR1.out HB.out)))
           (case side2=>exact HC1.out)
           rintro e w28 ⟨rfl,hb⟩
           have HS0_:=(hb.cell (World.block_lt_of_cell? _ _ (hHeld.1))).trans (hHeld.1)
           have HS1_:=(hb.cell (World.block_lt_of_cell? _ _ (hHeld.2.1))).trans (hHeld.2.1)
           have HS2_:=(hb.cell (World.block_lt_of_cell? _ _ (hHeld.2.2))).trans (hHeld.2.2)
           refine⟨_,rfl,?_⟩
           replace HO_7:=Aside0.mk (Kd.R_below (zq4 HO_7) hb)
           replace HO_8:=Aside0.mk (Kd.R_below (zq4 HO_8) hb)
           replace HO_24:=Aside0.mk (Kd.R_below (zq4 HO_24) hb)
           replace HB:=Aside0.mk (below_step (by exact zk1 HB) hb)
           (try clear hb)
           (try clear hb2)
           (try clear hk)
           (try clear hi)
           refine hK.out _ _ ⟨HS0_,HS1_,HS2_⟩ (fun hHeld=>?_)
           clear hK K
           refine norm_ (a':=?_) ?_ ?_
           rotate_left
           ·show Act.put _ (some 52) _=_
            simp only [Act.put,List.setIfInBounds_toArray,List.set_cons_zero,List.set_cons_succ,i64_w,i32_w]
            rfl
           refine zp1 HT_ 23 53 (mb' 30 268435455) rfl ?_
           refine zp1 HT_ 28 58 (mb' 30 536870911) rfl ?_
           refine zp1 HT_ 29 59 (mb' 30 1073741823) rfl ?_
           refine done_ (done_of HT_.out (by kernel_rfl)) ?_
           try go_wp2
           go_roundg k2
           case measure=>have:=HK1.out;have:=HK2.out;omega
           case rel=>exact⟨(x10_2),(wrap64 (x26_2+1)),zrs,zrs,H',⟨by have:=HK1.out;have:=HK2.out;omega⟩,⟨zdr HO_7⟩,⟨zdr HO_8⟩,⟨zdr HO_24⟩,⟨by exact zk1 HB⟩⟩
         ·rw [if_neg c18] at H
          have c18b0:decide ((rd t509 x9_1)< 100000)=false:=decide_eq_false c18
          clear c18
          have H':=Aside0.mk H
          clear H
          have p515: 0≤ (x26_2:Int):=of_decide_eq_true zq1
          have q515:x26_2< (t512.length:Int):=of_decide_eq_true zq1
          obtain⟨ad515,e515,hx515_0⟩:=Kd.at_int (Kd.R_reads' HO_24.out).2.2 x26_2 p515 q515
          cases e515
          replace p515:=eq_true p515
          replace q515:=eq_true q515
          try go_wp2
          replace HO_7:=Aside0.mk (Kd.R_drew HO_7.out)
          replace HO_8:=Aside0.mk (Kd.R_drew HO_8.out)
          replace HO_24:=Aside0.mk (Kd.R_drew HO_24.out)
          replace HB:=Aside0.mk (below_drew1 HB.out)
          obtain⟨Ao30,co30,eo30⟩:=Kd.R_slice HO_7.out
          (first|subst eo30|(injection eo30 with f1_ f2_ f3_;have f4_:=f1_.symm;have f5_:=f3_.symm;clear f1_ f2_ f3_;subst f4_;subst f5_))
          have p516: 0≤ (x9_1:Int):=of_decide_eq_true zq1
          have q516:x9_1< (t509.length:Int):=of_decide_eq_true zq1
          obtain⟨ad516,e516,hx516_0⟩:=Kd.at_int (Kd.R_reads' HO_7.out).2.2 x9_1 p516 q516
          cases e516
          replace p516:=eq_true p516
          replace q516:=eq_true q516
          refine start_ (n:=30) (S:=fun w'=>w'.cell? (ad516.add (x9_1).toNat)=some (.int .i64 (rd t509 x9_1))) (ds:= []) (mb' 30 0) (by kernel_rfl) rfl rfl (hx516_0) (fun hHeld=>?_);refine with_tabW spec_l10At.tab10 spec_l10At.bits10 (fun HT_ HW_=>?_)
          generalize wr.drew=w29 at HO_7 HO_8 HO_24 HB hx516_0 hHeld ⊢
          refine zp1 HT_ 0 30 (mb' 30 1) rfl ?_
          refine zp1 HT_ 1 31 (mb' 30 3) rfl ?_
          refine zp1 HT_ 2 32 (mb' 30 7) rfl ?_
          refine zp1 HT_ 3 33 (mb' 30 15) rfl ?_
          refine zp1 HT_ 4 34 (mb' 30 31) rfl ?_
          refine zp1 HT_ 5 35 (mb' 30 63) rfl ?_
          refine zp1 HT_ 6 36 (mb' 30 127) rfl ?_
          refine zp1 HT_ 7 37 (mb' 30 255) rfl ?_
          refine zp1 HT_ 8 38 (mb' 30 511) rfl ?_
          refine zp1 HT_ 9 39 (mb' 30 1023) rfl ?_
          refine zp1 HT_ 10 40 (mb' 30 2047) rfl ?_
          refine zt1 HT_ HW_ (v:=?_) (a':=?_) 11 41 (mb' 30 4095) rfl ?_ hHeld ?_ ?_;rotate_left;(intro w' s0;go_simp;with_reducible rfl);rotate_left;exact zpa
          refine zp1 HT_ 12 42 (mb' 30 8191) rfl ?_
          refine zp1 HT_ 13 43 (mb' 30 16383) rfl ?_
          refine zp1 HT_ 14 44 (mb' 30 32767) rfl ?_
          refine zp2 HT_ 15 45 (mb' 30 65535) rfl ?_
          refine zp2 HT_ 16 46 (mb' 30 131071) rfl ?_
          refine zp2 HT_ 17 47 (mb' 30 262143) rfl ?_
          refine zp2 HT_ 18 48 (mb' 30 524287) rfl ?_
          refine zp2 HT_ 19 49 (mb' 30 1048575) rfl ?_
          refine zp2 HT_ 20 50 (mb' 30 2097151) rfl ?_
          refine zp2 HT_ 21 51 (mb' 30 4194303) rfl ?_
          refine zp2 HT_ 22 52 (mb' 30 8388607) rfl ?_
          refine zp2 HT_ 23 53 (mb' 30 16777215) rfl ?_
          refine zp2 HT_ 24 54 (mb' 30 33554431) rfl ?_
          refine zp2 HT_ 25 55 (mb' 30 67108863) rfl ?_
          refine zp2 HT_ 26 56 (mb' 30 134217727) rfl ?_
          refine zp2 HT_ 27 57 (mb' 30 268435455) rfl ?_
          refine zp2 HT_ 28 58 (mb' 30 536870911) rfl ?_
          refine zp1 HT_ 29 59 (mb' 30 1073741823) rfl ?_
          refine done_ (done_of HT_.out (by kernel_rfl)) ?_
          try go_wp2
          go_roundg k2
          case measure=>have:=HK1.out;have:=HK2.out;omega
          case rel=>exact⟨(x10_2),(wrap64 (x26_2+1)),zrs,zrs,H',⟨by have:=HK1.out;have:=HK2.out;omega⟩,⟨zdr HO_7⟩,⟨zdr HO_8⟩,⟨zdr HO_24⟩,⟨by exact zk1 HB⟩⟩
       ·rw [if_neg c13] at H
        have c13b0:decide (x10_2< 0)=false:=decide_eq_false c13
        clear c13
        have H':=Aside0.mk H
        clear H
        have p515: 0≤ (x26_2:Int):=of_decide_eq_true zq1
        have q515:x26_2< (t512.length:Int):=of_decide_eq_true zq1
        obtain⟨ad515,e515,hx515_0⟩:=Kd.at_int (Kd.R_reads' HO_24.out).2.2 x26_2 p515 q515
        cases e515
        replace p515:=eq_true p515
        replace q515:=eq_true q515
        try go_wp2
        replace HO_7:=Aside0.mk (Kd.R_drew HO_7.out)
        replace HO_8:=Aside0.mk (Kd.R_drew HO_8.out)
        replace HO_24:=Aside0.mk (Kd.R_drew HO_24.out)
        replace HB:=Aside0.mk (below_drew1 HB.out)
        refine start_ (n:=30) (S:=fun w'=>True) (ds:= []) (mb' 30 0) (by kernel_rfl) rfl rfl trivial (fun hHeld=>?_);refine with_tabW spec_l10At.tab10 spec_l10At.bits10 (fun HT_ HW_=>?_)
        generalize wr.drew=w31 at HO_7 HO_8 HO_24 HB hHeld ⊢
        refine zp1 HT_ 0 30 (mb' 30 1) rfl ?_
        refine zp1 HT_ 1 31 (mb' 30 3) rfl ?_
        refine zp1 HT_ 2 32 (mb' 30 7) rfl ?_
        refine zp2 HT_ 3 33 (mb' 30 15) rfl ?_
        refine zp2 HT_ 4 34 (mb' 30 31) rfl ?_
        refine zp2 HT_ 5 35 (mb' 30 63) rfl ?_
        refine zp1 HT_ 6 36 (mb' 30 127) rfl ?_
        refine zp1 HT_ 7 37 (mb' 30 255) rfl ?_
        refine zp2 HT_ 8 38 (mb' 30 511) rfl ?_
        refine zp2 HT_ 9 39 (mb' 30 1023) rfl ?_
        refine zp2 HT_ 10 40 (mb' 30 2047) rfl ?_
        refine zp2 HT_ 11 41 (mb' 30 4095) rfl ?_
        refine zp2 HT_ 12 42 (mb' 30 8191) rfl ?_
        refine zp1 HT_ 13 43 (mb' 30 16383) rfl ?_
        refine zp1 HT_ 14 44 (mb' 30 32767) rfl ?_
        refine zp2 HT_ 15 45 (mb' 30 65535) rfl ?_
        refine zp2 HT_ 16 46 (mb' 30 131071) rfl ?_
        refine zp2 HT_ 17 47 (mb' 30 262143) rfl ?_
        refine zp2 HT_ 18 48 (mb' 30 524287) rfl ?_
        refine zp2 HT_ 19 49 (mb' 30 1048575) rfl ?_
        refine zp2 HT_ 20 50 (mb' 30 2097151) rfl ?_
        refine zp2 HT_ 21 51 (mb' 30 4194303) rfl ?_
        refine zp2 HT_ 22 52 (mb' 30 8388607) rfl ?_
        refine zp2 HT_ 23 53 (mb' 30 16777215) rfl ?_
        refine zp2 HT_ 24 54 (mb' 30 33554431) rfl ?_
        refine zp2 HT_ 25 55 (mb' 30 67108863) rfl ?_
        refine zp2 HT_ 26 56 (mb' 30 134217727) rfl ?_
        refine zp2 HT_ 27 57 (mb' 30 268435455) rfl ?_
        refine zp2 HT_ 28 58 (mb' 30 536870911) rfl ?_
        refine zp1 HT_ 29 59 (mb' 30 1073741823) rfl ?_
        refine done_ (done_of HT_.out (by kernel_rfl)) ?_
        try go_wp2
        go_roundg k2
        case measure=>have:=HK1.out;have:=HK2.out;omega
        case rel=>exact⟨(x10_2),(wrap64 (x26_2+1)),zrs,zrs,H',⟨by have:=HK1.out;have:=HK2.out;omega⟩,⟨zdr HO_7⟩,⟨zdr HO_8⟩,⟨zdr HO_24⟩,⟨by exact zk1 HB⟩⟩
      ·rw [if_neg c10] at H
       have c10b0:decide (x26_2< (t512.length:Int))=false:=decide_eq_false c10
       clear c10
       by_cases c32:x8_1.length< 17592186044416
       case neg=>exact znn c32 H
       rw [if_pos c32] at H
       have LMc32:=Aside0.mk c32
       clear c32
       obtain⟨y520,hy520⟩ :∃ y_:List Int,y_= (x8_1++ [x10_2]):=⟨_,rfl⟩
       replace H:(spec_l10At.l0 k2 a0 l1 a2 t509 y520 (wrap64 (x9_1+1)))=some r:=zfh hy520 H
       have Ny520:=Aside0.mk hy520
       clear hy520
       have H':=Aside0.mk H
       clear H
       go_wp2_with (first|((with_reducible refine gate_builtin (b:= .append) (xs:= #[.tmp 62,.tmp 64]) rfl ?_);at_builtin;refine Kd.R_append (Kd.int .i64) (w0:=w) w.heap.size rfl (.tmp 62) (.tmp 64) 22 3 (.int .i64 0) 8 rfl Try.underlying22 info3 rfl (by decide) (by omega) u8 x8_1 x10_2 [.int .i64 x10_2] (fun k_=>some k_≠ (v510:Value).ownBlock∧some k_≠ (.slice Ao9 t512.length co9:Value).ownBlock) (fun _=>False) rfl rfl ?aP (fun _ hk=>hk.elim) ?aF ?aO ?aB ?aS ?aL ?_;(case aP=>exact rfl);(case aB=>exact(by exact zk1 HB));(case aF=>exact(fun k_ hk=>⟨Kd.fresh' (Kd.R_lt (zq4 HO_7)) k_ hk,Kd.fresh' (Kd.R_lt (zq4 HO_24)) k_ hk⟩));(case aO=>exact(zq4 HO_8));(case aS=>exact(below_size (by exact zk1 HB)));(case aL=>have:=LMc32.out;omega);intro v521 w33 ho hb hg hat;rw [← Ny520.out] at ho;have HO522:=Aside0.mk (ho);replace HO_7:=Aside0.mk (Kd.R_after (ok:=(fun k_=>some k_≠ (.slice Ao9 t512.length co9:Value).ownBlock)) (by(with_reducible repeat(first|apply Kd.R_alloc|apply Kd.R_drewN|apply Kd.R_drew));exact Kd.R_mono HO_7.out (fun _ hk=>⟨hk.2,hk.1⟩)) hg hat);replace HO_24:=Aside0.mk (Kd.R_after (ok:=(fun k_=>some k_≠ (v510:Value).ownBlock)) (zq4 HO_24) hg hat);replace HB:=Aside0.mk (hb);clear HO_8;clear ho hb hg hat))
       go_roundg k2
       case measure=>have:=HK1.out;have:=HK2.out;omega
       case rel=>exact⟨(y520),(wrap64 (x9_1+1)),zrs,H',⟨by have:=HK1.out;have:=HK2.out;omega⟩,⟨by(with_reducible repeat(first|apply Kd.R_alloc|apply Kd.R_drewN|apply Kd.R_drew));exact Kd.R_mono HO_7.out (fun _ hk=>hk.2)⟩,⟨by(with_reducible repeat(first|apply Kd.R_alloc|apply Kd.R_drewN|apply Kd.R_drew));exact Kd.R_mono HO522.out (fun _ hk=>hk.1)⟩,⟨by exact zk1 HB⟩⟩
   ·rw [if_neg c6] at H
    have c6b0:decide (x9_1<a0)=false:=decide_eq_false c6
    clear c6
    obtain rfl:=Option.some.inj H
    go_wp2
    go_ret
    exact⟨_,zer,by(with_reducible repeat(first|apply Kd.R_alloc|apply Kd.R_drewN|apply Kd.R_drew));exact Kd.R_mono HO_8.out (fun _ hk=>trivial),by exact zk1 HB⟩
def spec_TreeAt.f (k:Nat) (a0:Int) (l1:List (S79)) (a2:Int):Option (List Int × Bool):=(spec_GoodEdges.f k a0 l1).bind fun t523=>(if t523=true then((spec_l1In.f a2 0 (wrap64 (a0 - 1))).bind fun t524=>(if t524=true then((spec_l10At.f k a0 l1 a2).bind fun t525=>(some (t525,true))) else(some (([] :List Int),false)))) else(some (([] :List Int),false)))
set_option maxHeartbeats 8000000 in
set_option maxRecDepth 100000 in
theorem spec_TreeAt.calls (k:Nat) (a0:Int) (A1:Option Addr) (c1:Nat) (l1:List (S79)) (a2:Int) (r1:List Int) (r2:Bool) (w:World) (hr1:Kd.C k79 w A1 l1.length l1) (hc1:l1.length≤c1) (h:spec_TreeAt.f k a0 l1 a2=some (r1,r2)):
  Calls Try.prog 33 #[.int .i64 a0,.slice A1 l1.length c1,.int .i64 a2] w fun e w'=> ∃ v0_:Value,e= .returned (.tuple #[v0_,.bool r2])∧Kd.R (Kd.int .i64) 3 w' w.heap.size (fun _=>True) v0_ r1∧Below w.heap.size w w':=by
 have HR1:=Aside0.mk hr1
 have HC1:=Aside0.mk hc1
 clear hr1 hc1
 have HB:=Aside0.mk (Below.refl w.heap.size w)
 have H:((spec_GoodEdges.f k a0 l1).bind fun t523=>(if t523=true then((spec_l1In.f a2 0 (wrap64 (a0 - 1))).bind fun t524=>(if t524=true then((spec_l10At.f k a0 l1 a2).bind fun t525=>(some (t525,true))) else(some (([] :List Int),false)))) else(some (([] :List Int),false))))=some (r1,r2):=h
 clear h
 replace H:=Option.bind_eq_some_iff.mp H
 obtain⟨t523,A40,H⟩:=H
 replace H:(if t523=true then((spec_l1In.f a2 0 (wrap64 (a0 - 1))).bind fun t524=>(if t524=true then((spec_l10At.f k a0 l1 a2).bind fun t525=>(some (t525,true))) else(some (([] :List Int),false)))) else(some (([] :List Int),false)))=some (r1,r2):=H
 have A4:=Aside0.mk A40
 clear A40
 by_cases c5:t523=true
 ·subst c5
  have H1:((spec_l1In.f a2 0 (wrap64 (a0 - 1))).bind fun t524=>(if t524=true then((spec_l10At.f k a0 l1 a2).bind fun t525=>(some (t525,true))) else(some (([] :List Int),false))))=some (r1,r2):=by rw [if_pos rfl] at H;exact H
  clear H
  have H:=H1
  clear H1
  replace H:=Option.bind_eq_some_iff.mp H
  obtain⟨t524,A60,H⟩:=H
  replace H:(if t524=true then((spec_l10At.f k a0 l1 a2).bind fun t525=>(some (t525,true))) else(some (([] :List Int),false)))=some (r1,r2):=H
  have A6:=Aside0.mk A60
  clear A60
  by_cases c7:t524=true
  ·subst c7
   have H1:((spec_l10At.f k a0 l1 a2).bind fun t525=>(some (t525,true)))=some (r1,r2):=by rw [if_pos rfl] at H;exact H
   clear H
   have H:=H1
   clear H1
   replace H:=Option.bind_eq_some_iff.mp H
   obtain⟨t525,A80,H⟩:=H
   replace H:(some (t525,true))=some (r1,r2):=H
   have A8:=Aside0.mk A80
   clear A80
   simp only [Option.some.injEq,Prod.mk.injEq] at H
   obtain⟨rfl,rfl⟩:=H
   go_enter Try.func33,Try.ntmps33
   go_wp2_with (first|((with_reducible refine gate_callee (f:=66) rfl ?_);refine goesL_ (some 10) rfl rfl Try.func66 (by kernel_rfl) rfl #[.int .i64 a0,.slice A1 l1.length c1] rfl zq2 ?_;(with_reducible refine(spec_GoodEdges.calls k a0 _ _ l1 true _ ?side1 ?side2 A4.out).mono ?_);(case side1=>exact zcc (HR1.out));(case side2=>exact HC1.out);rintro e w9 ⟨rfl,hb⟩;refine⟨_,rfl,?_⟩;replace HB:=Aside0.mk (below_step (by exact zk1 HB) hb);(try clear hb);(try clear hb2);(try clear hk);(try clear hi))|(go_at_call 59;(with_reducible refine(spec_l1In.calls a2 0 (wrap64 (a0 - 1)) true _ A6.out).mono ?_);rintro e w' ⟨rfl,⟨nd,rfl⟩⟩)|((with_reducible refine gate_callee (f:=75) rfl ?_);refine goesL_ (some 22) rfl rfl Try.func75 (by kernel_rfl) rfl #[.int .i64 a0,.slice A1 l1.length c1,.int .i64 a2] rfl zq2 ?_;(with_reducible refine(spec_l10At.calls k a0 _ _ l1 a2 t525 _ ?side1 ?side2 A8.out).mono ?_);(case side1=>repeat(first|exact(Kd.C_below HR1.out (by exact zk1 HB))|(with_reducible refine Kd.C_alloc ?_ _)|(with_reducible refine Kd.C_drewN ?_ _)|(with_reducible refine Kd.C_drew ?_)));(case side2=>exact HC1.out);rintro e w10 ⟨v526,rfl,ho0,hb⟩;refine⟨_,rfl,?_⟩;have HO527:=Aside0.mk (Kd.R_lower ho0 (below_size (by exact zk1 HB)));replace HB:=Aside0.mk (below_step (by exact zk1 HB) hb);(try clear hb);(try clear hb2);(try clear hk);(try clear hi);(try clear ho0)))
   go_ret2
   exact⟨_,zer,zdr HO527,by exact zk1 HB⟩
  ·replace c7:=Bool.eq_false_iff.mpr c7
   subst c7
   have H1:(some (([] :List Int),false))=some (r1,r2):=by rw [if_neg (show ¬ (false=true) by decide)] at H;exact H
   clear H
   have H:=H1
   clear H1
   simp only [Option.some.injEq,Prod.mk.injEq] at H
   obtain⟨rfl,rfl⟩:=H
   go_enter Try.func33,Try.ntmps33
   go_wp2_with (first|((with_reducible refine gate_callee (f:=66) rfl ?_);refine goesL_ (some 10) rfl rfl Try.func66 (by kernel_rfl) rfl #[.int .i64 a0,.slice A1 l1.length c1] rfl zq2 ?_;(with_reducible refine(spec_GoodEdges.calls k a0 _ _ l1 true _ ?side1 ?side2 A4.out).mono ?_);(case side1=>exact zcc (HR1.out));(case side2=>exact HC1.out);rintro e w11 ⟨rfl,hb⟩;refine⟨_,rfl,?_⟩;replace HB:=Aside0.mk (below_step (by exact zk1 HB) hb);(try clear hb);(try clear hb2);(try clear hk);(try clear hi))|(go_at_call 59;(with_reducible refine(spec_l1In.calls a2 0 (wrap64 (a0 - 1)) false _ A6.out).mono ?_);rintro e w' ⟨rfl,⟨nd,rfl⟩⟩))
   go_ret2
   exact⟨_,zer,by first|exact Kd.R_nil _ _ _ _ _|exact Kd.N_nil _ _ _ _ _|exact Kd.V_nil _ _ _ _ _|exact Kd.Q_nil _ _ _ _ _|exact Kd.S_nil _ _ _ _ _,by exact zk1 HB⟩
 ·replace c5:=Bool.eq_false_iff.mpr c5
  subst c5
  have H1:(some (([] :List Int),false))=some (r1,r2):=by rw [if_neg (show ¬ (false=true) by decide)] at H;exact H
  clear H
  have H:=H1
  clear H1
  simp only [Option.some.injEq,Prod.mk.injEq] at H
  obtain⟨rfl,rfl⟩:=H
  go_enter Try.func33,Try.ntmps33
  go_wp2_with (first|((with_reducible refine gate_callee (f:=66) rfl ?_);refine goesL_ (some 10) rfl rfl Try.func66 (by kernel_rfl) rfl #[.int .i64 a0,.slice A1 l1.length c1] rfl zq2 ?_;(with_reducible refine(spec_GoodEdges.calls k a0 _ _ l1 false _ ?side1 ?side2 A4.out).mono ?_);(case side1=>exact zcc (HR1.out));(case side2=>exact HC1.out);rintro e w12 ⟨rfl,hb⟩;refine⟨_,rfl,?_⟩;replace HB:=Aside0.mk (below_step (by exact zk1 HB) hb);(try clear hb);(try clear hb2);(try clear hk);(try clear hi)))
  go_ret2
  exact⟨_,zer,by first|exact Kd.R_nil _ _ _ _ _|exact Kd.N_nil _ _ _ _ _|exact Kd.V_nil _ _ _ _ _|exact Kd.Q_nil _ _ _ _ _|exact Kd.S_nil _ _ _ _ _,by exact zk1 HB⟩
def impl_relaxed.l0:Nat→List Int→List Int→List (S79)→Int→Int→Option (List Int)
 | 0,_,_,_,_,_=>none
 |k+1,x1,x5,x11,x12,x13=>if x13<x12 then(if 0≤x13 then(if x13< (x11.length:Int) then(if 0≤ ((rd_T79 x11 x13).f0) then(if ((rd_T79 x11 x13).f0)< (x5.length:Int) then(if 0≤ ((rd_T79 x11 x13).f1) then(if ((rd_T79 x11 x13).f1)< (x1.length:Int) then((some (x5.set (((rd_T79 x11 x13).f0):Int).toNat (mn (rd x5 ((rd_T79 x11 x13).f0)) (wrap64 ((rd x1 ((rd_T79 x11 x13).f1))+ ((rd_T79 x11 x13).f2)))):List Int)).bind fun y540=>(if ((rd_T79 x11 x13).f1)< (x5.length:Int) then(if ((rd_T79 x11 x13).f0)< (x1.length:Int) then(impl_relaxed.l0 k x1 (y540.set (((rd_T79 x11 x13).f1):Int).toNat (mn (rd y540 ((rd_T79 x11 x13).f1)) (wrap64 ((rd x1 ((rd_T79 x11 x13).f0))+ ((rd_T79 x11 x13).f2))))) x11 x12 (wrap64 (x13+1))) else(none)) else(none))) else(none)) else(none)) else(none)) else(none)) else(none)) else(none)) else(some x5)
def impl_relaxed.f (k:Nat) (l0:List (S79)) (l1:List Int):Option (List Int):=(some (([] :List Int):List Int)).bind fun y530=>(if y530.length+l1.length< 17592186044416 then(impl_relaxed.l0 k l1 (y530++l1) l0 (l0.length:Int) 0) else(none))
def impl_relaxed.T5:Bool × List (List Nat × List Nat):=(true,[([],[]),([],[]),([1],[1]),([],[]),([],[]),([4],[4]),([3,5],[3,5]),([6],[6]),([],[]),([],[]),([9],[9]),([8,10],[8,10]),([11],[11]),([],[]),([13],[13]),([12,14],[12,14]),([7,15],[7,15]),([0,2,0,1,2,3,4,5,6,7,8,9,10,11,12,13,14,15,16],[0,2]),([17,16,0,1,2,3,4,5,6,7,8,9,10,11,12,13,14,15,16],[16,17])])
def impl_relaxed.B5:List Nat:= [0,0,2,0,0,16,56,120,0,0,512,1792,3840,0,8192,32512,65528,131071,262143]
theorem impl_relaxed.tab5:rtab .any (opsOf Try.f102 5)=impl_relaxed.T5:=by kernel_rfl
theorem impl_relaxed.bits5:waitsOk impl_relaxed.T5.2 impl_relaxed.B5=true:=by kernel_rfl
def impl_relaxed.T6:Bool × List (List Nat × List Nat):=(true,[([],[]),([],[]),([1],[1]),([],[]),([],[]),([4],[4]),([3,5],[3,5]),([6],[6]),([],[]),([],[]),([9],[9]),([8,10],[8,10]),([11],[11]),([],[]),([13],[13]),([12,14],[12,14]),([7,15],[7,15]),([0,2,0,1,2,3,4,5,6,7,8,9,10,11,12,13,14,15,16],[0,2]),([17,16,0,1,2,3,4,5,6,7,8,9,10,11,12,13,14,15,16],[16,17])])
def impl_relaxed.B6:List Nat:= [0,0,2,0,0,16,56,120,0,0,512,1792,3840,0,8192,32512,65528,131071,262143]
theorem impl_relaxed.tab6:rtab .any (opsOf Try.f102 6)=impl_relaxed.T6:=by kernel_rfl
theorem impl_relaxed.bits6:waitsOk impl_relaxed.T6.2 impl_relaxed.B6=true:=by kernel_rfl
set_option maxHeartbeats 8000000 in
set_option maxRecDepth 100000 in
theorem impl_relaxed.calls (k:Nat) (A0:Option Addr) (c0:Nat) (l0:List (S79)) (A1:Option Addr) (c1:Nat) (l1:List Int) (r:List Int) (w:World) (hr0:Kd.C k79 w A0 l0.length l0) (hc0:l0.length≤c0) (hr1:Kd.C (Kd.int .i64) w A1 l1.length l1) (hc1:l1.length≤c1) (h:impl_relaxed.f k l0 l1=some r):
  Calls Try.prog 102 #[.slice A0 l0.length c0,.slice A1 l1.length c1] w fun e w'=> ∃ v0_:Value,e= .returned (v0_)∧Kd.R (Kd.int .i64) 3 w' w.heap.size (fun _=>True) v0_ r∧Below w.heap.size w w':=by
 have hu79:=Try.underlying79
 have HR0:=Aside0.mk hr0
 have HC0:=Aside0.mk hc0
 clear hr0 hc0
 have HR1:=Aside0.mk hr1
 have HC1:=Aside0.mk hc1
 clear hr1 hc1
 have HB:=Aside0.mk (Below.refl w.heap.size w)
 have H:((some (([] :List Int):List Int)).bind fun y530=>(if y530.length+l1.length< 17592186044416 then(impl_relaxed.l0 k l1 (y530++l1) l0 (l0.length:Int) 0) else(none)))=some r:=h
 clear h
 obtain⟨y530,hy530⟩ :∃ y_:List Int,y_= (([] :List Int)):=⟨_,rfl⟩
 replace H:(if y530.length+l1.length< 17592186044416 then(impl_relaxed.l0 k l1 (y530++l1) l0 (l0.length:Int) 0) else(none))=some r:=zfh hy530 H
 have Ny530:=Aside0.mk hy530
 clear hy530
 by_cases c3:y530.length+l1.length< 17592186044416
 case neg=>exact znn c3 H
 rw [if_pos c3] at H
 have LMc3:=Aside0.mk c3
 clear c3
 obtain⟨y533,hy533⟩ :∃ y_:List Int,y_= (y530++l1):=⟨_,rfl⟩
 replace H:(impl_relaxed.l0 k l1 y533 l0 (l0.length:Int) 0)=some r:=zfh hy533 H
 have Ny533:=Aside0.mk hy533
 clear hy533
 have H':=Aside0.mk H
 clear H
 go_enter Try.func102,Try.ntmps102
 go_wp2_with (first|((with_reducible refine gate_dst (N:=8) rfl ?_);refine Kd.R_lit (Kd.int .i64) _ 3 ?hg (N:=8) ?hd (xs:=([] :List Int)) (inner:= []) (ok:=fun _=>True) (okp:=fun _=>True) ?hr ?hp (fun _ hk=>hk) trivial (Below.refl _ _) (Nat.le_refl _) (by simp) ?_;(case hd=>rfl);(case hg=>rfl);(case hr=>first|(go_simp;done)|(go_simp;rfl));(case hp=>exact(Reps.none _ _));intro v531 w4 ho5 hb hg_ hnew_;clear hg_ hnew_;(first|rw [← Ny530.out] at ho5|(simp only [Int.reduceToNat] at ho5;rw [← Ny530.out] at ho5));have HO532:=Aside0.mk (Kd.R_lower ho5 (below_size (by exact zk1 HB)));replace HB:=Aside0.mk (below_step (by exact zk1 HB) hb);clear hb ho5)|((with_reducible refine gate_builtin (b:= .append) (xs:= #[.tmp 8,.tmp 9]) rfl ?_);at_builtin;refine Kd.R_append_rows (Kd.int .i64) (w0:=w) w.heap.size rfl (.tmp 8) (.tmp 9) 22 3 (.int .i64 0) 8 rfl Try.underlying22 info3 rfl (by decide) (by omega) v531 y530 l1 _ _ _ (fun _=>True) (fun _=>False) rfl rfl ?aO ?aR (fun _ _ h=>h) (fun _ h=>h.elim) ?aF ?aB ?aS ?aL ?_;(case aR=>exact zcc ((Kd.C_below HR1.out HB.out)));(case aB=>exact(by exact zk1 HB));(case aF=>exact(fun _ _=>trivial));(case aO=>exact(zq4 HO532));(case aS=>exact(below_size (by exact zk1 HB)));(case aL=>have:=LMc3.out;omega);intro v534 w6 ho hb hg hat;rw [← Ny533.out] at ho;have HO535:=Aside0.mk (ho);replace HB:=Aside0.mk (hb);clear HO532;clear ho hb hg hat))
 go_loopg [13] k (fun kq v13 w'=> ∃ (x5_1:List Int) (x13_1:Int),v13= .int .i64 x13_1∧Aside0 (impl_relaxed.l0 kq l1 x5_1 l0 (l0.length:Int) x13_1=some r)∧Aside0 (kq≤k)∧Aside0 (Kd.R (Kd.int .i64) 3 w' w.heap.size (fun _=>True) v534 x5_1)∧Aside0 (Below w.heap.size w w'))
 case atStart=>exact⟨(y533),(0),zrs,H',⟨Nat.le_refl _⟩,⟨zdr HO535⟩,⟨by exact zk1 HB⟩⟩
 case round=>
  clear H'
  try clear c1
  try clear p2
  try clear c3
  obtain⟨x5_1,x13_1,rfl,HA,HK1,HO_5,HB⟩:=hrel
  cases gk with
  |zero=>exact absurd HA.out (by simp [impl_relaxed.l0])
  |succ k1=>
   have H:=HA.out
   clear HA
   simp only [impl_relaxed.l0] at H
   by_cases c7:x13_1< (l0.length:Int)
   ·rw [if_pos c7] at H
    have c7b0:decide (x13_1< (l0.length:Int))=true:=decide_eq_true c7
    clear c7
    by_cases c8: 0≤x13_1
    case neg=>exact znn c8 H
    rw [if_pos c8] at H
    have c8b0:decide (0≤x13_1)=true:=decide_eq_true c8
    clear c8
    by_cases c9:x13_1< (l0.length:Int)
    case neg=>exact znn c9 H
    rw [if_pos c9] at H
    have c9b0:decide (x13_1< (l0.length:Int))=true:=decide_eq_true c9
    clear c9
    by_cases c10: 0≤ ((rd_T79 l0 x13_1).f0)
    case neg=>exact znn c10 H
    rw [if_pos c10] at H
    have c10b0:decide (0≤ ((rd_T79 l0 x13_1).f0))=true:=decide_eq_true c10
    clear c10
    by_cases c11:((rd_T79 l0 x13_1).f0)< (x5_1.length:Int)
    case neg=>exact znn c11 H
    rw [if_pos c11] at H
    have c11b0:decide (((rd_T79 l0 x13_1).f0)< (x5_1.length:Int))=true:=decide_eq_true c11
    clear c11
    by_cases c12: 0≤ ((rd_T79 l0 x13_1).f1)
    case neg=>exact znn c12 H
    rw [if_pos c12] at H
    have c12b0:decide (0≤ ((rd_T79 l0 x13_1).f1))=true:=decide_eq_true c12
    clear c12
    by_cases c13:((rd_T79 l0 x13_1).f1)< (l1.length:Int)
    case neg=>exact znn c13 H
    rw [if_pos c13] at H
    have c13b0:decide (((rd_T79 l0 x13_1).f1)< (l1.length:Int))=true:=decide_eq_true c13
    clear c13
    obtain⟨ji14,hji14⟩ :∃ j_:Int,(mn (rd x5_1 ((rd_T79 l0 x13_1).f0)) (wrap64 ((rd l1 ((rd_T79 l0 x13_1).f1))+ ((rd_T79 l0 x13_1).f2))))=j_:=⟨_,rfl⟩
    replace H:((some (x5_1.set (((rd_T79 l0 x13_1).f0):Int).toNat (ji14):List Int)).bind fun y540=>(if ((rd_T79 l0 x13_1).f1)< (x5_1.length:Int) then(if ((rd_T79 l0 x13_1).f0)< (l1.length:Int) then(impl_relaxed.l0 k1 l1 (y540.set (((rd_T79 l0 x13_1).f1):Int).toNat (mn (rd y540 ((rd_T79 l0 x13_1).f1)) (wrap64 ((rd l1 ((rd_T79 l0 x13_1).f0))+ ((rd_T79 l0 x13_1).f2))))) l0 (l0.length:Int) (wrap64 (x13_1+1))) else(none)) else(none)))=some r:=by first|(rw [hji14] at H;exact H)|(simp only [hji14] at H ⊢;exact H)
    have hji14_:(if (wrap64 ((rd l1 ((rd_T79 l0 x13_1).f1))+ ((rd_T79 l0 x13_1).f2)))< (rd x5_1 ((rd_T79 l0 x13_1).f0)) then(wrap64 ((rd l1 ((rd_T79 l0 x13_1).f1))+ ((rd_T79 l0 x13_1).f2))) else(rd x5_1 ((rd_T79 l0 x13_1).f0)))=ji14:=hji14
    obtain⟨y540,hy540⟩ :∃ y_:List Int,y_= (x5_1.set (((rd_T79 l0 x13_1).f0):Int).toNat (ji14)):=⟨_,rfl⟩
    replace H:(if ((rd_T79 l0 x13_1).f1)< (x5_1.length:Int) then(if ((rd_T79 l0 x13_1).f0)< (l1.length:Int) then(impl_relaxed.l0 k1 l1 (y540.set (((rd_T79 l0 x13_1).f1):Int).toNat (mn (rd y540 ((rd_T79 l0 x13_1).f1)) (wrap64 ((rd l1 ((rd_T79 l0 x13_1).f0))+ ((rd_T79 l0 x13_1).f2))))) l0 (l0.length:Int) (wrap64 (x13_1+1))) else(none)) else(none))=some r:=zfh hy540 H
    have Ny540:=Aside0.mk hy540
    clear hy540
    by_cases c16:((rd_T79 l0 x13_1).f1)< (x5_1.length:Int)
    case neg=>exact znn c16 H
    rw [if_pos c16] at H
    have c16b0:decide (((rd_T79 l0 x13_1).f1)< (x5_1.length:Int))=true:=decide_eq_true c16
    clear c16
    by_cases c17:((rd_T79 l0 x13_1).f0)< (l1.length:Int)
    case neg=>exact znn c17 H
    rw [if_pos c17] at H
    have c17b0:decide (((rd_T79 l0 x13_1).f0)< (l1.length:Int))=true:=decide_eq_true c17
    clear c17
    obtain⟨ji18,hji18⟩ :∃ j_:Int,(mn (rd y540 ((rd_T79 l0 x13_1).f1)) (wrap64 ((rd l1 ((rd_T79 l0 x13_1).f0))+ ((rd_T79 l0 x13_1).f2))))=j_:=⟨_,rfl⟩
    replace H:(impl_relaxed.l0 k1 l1 (y540.set (((rd_T79 l0 x13_1).f1):Int).toNat (ji18)) l0 (l0.length:Int) (wrap64 (x13_1+1)))=some r:=by first|(rw [hji18] at H;exact H)|(simp only [hji18] at H ⊢;exact H)
    have hji18_:(if (wrap64 ((rd l1 ((rd_T79 l0 x13_1).f0))+ ((rd_T79 l0 x13_1).f2)))< (rd y540 ((rd_T79 l0 x13_1).f1)) then(wrap64 ((rd l1 ((rd_T79 l0 x13_1).f0))+ ((rd_T79 l0 x13_1).f2))) else(rd y540 ((rd_T79 l0 x13_1).f1)))=ji18:=hji18
    obtain⟨y543,hy543⟩ :∃ y_:List Int,y_= (y540.set (((rd_T79 l0 x13_1).f1):Int).toNat (ji18)):=⟨_,rfl⟩
    replace H:(impl_relaxed.l0 k1 l1 y543 l0 (l0.length:Int) (wrap64 (x13_1+1)))=some r:=zfh hy543 H
    have Ny543:=Aside0.mk hy543
    clear hy543
    have H':=Aside0.mk H
    clear H
    have p536: 0≤ (x13_1:Int):=of_decide_eq_true zq1
    have q536:x13_1< (l0.length:Int):=of_decide_eq_true zq1
    obtain⟨ad536,e536,hx536_0,hx536_1,hx536_2⟩:=at_T79 HR0.out x13_1 p536 q536
    cases e536
    replace hx536_0:=zhx HB hx536_0
    replace hx536_1:=zhx HB hx536_1
    replace hx536_2:=zhx HB hx536_2
    replace p536:=eq_true p536
    replace q536:=eq_true q536
    try go_wp2_with (first|((with_reducible refine gate_dst (N:=7) rfl ?_);refine box_event ?hg (N:=7) ?hd (cs:= #[.int .i64 0,.int .i64 0,.int .i64 0]) (t:=79) ?hr ?_;(case hd=>rfl);(case hg=>rfl);(case hr=>first|(go_simp;done)|(go_simp;rfl));intro gb537 hg w20 hbox hb;have BK537:=Aside0.mk (hbox);have GW537:=Aside0.mk ((by rw [hg];exact(below_size (by exact zk1 HB)):w.heap.size≤gb537));have GE537:=GW537;replace HO_5:=Aside0.mk (Kd.R_below (zq4 HO_5) hb);replace HB:=Aside0.mk (below_step (by exact zk1 HB) hb);clear hb hbox hg;have hcz21_0:=zcz BK537 0 (.int .i64 0);have hcz21_1:=zcz BK537 1 (.int .i64 0);have hcz21_2:=zcz BK537 2 (.int .i64 0);have hfz21_0:=blk_frozen BK537.out 0;have hfz21_1:=blk_frozen BK537.out 1;have hfz21_2:=blk_frozen BK537.out 2))
    have n0_:Aside0 (Kd.R (Kd.int .i64) 3 (((w20.setCell ⟨gb537,0,none⟩ (.int .i64 ((rd_T79 l0 x13_1).f0))).setCell ⟨gb537,1,none⟩ (.int .i64 ((rd_T79 l0 x13_1).f1))).setCell ⟨gb537,2,none⟩ (.int .i64 ((rd_T79 l0 x13_1).f2))) w.heap.size (fun _=>True) v534 x5_1):=⟨by(with_reducible repeat(first|apply Kd.R_alloc|apply Kd.R_drewN|apply Kd.R_drew));exact Kd.R_mono (Kd.R_far (p:=⟨gb537,2,none⟩) (Kd.R_far (p:=⟨gb537,1,none⟩) (Kd.R_far (p:=⟨gb537,0,none⟩) (Kd.R_types HO_5.out BK537.out (by decide)) (fun _ hk=>hk.2) (.int .i64 ((rd_T79 l0 x13_1).f0))) (fun _ hk=>hk.2) (.int .i64 ((rd_T79 l0 x13_1).f1))) (fun _ hk=>hk.2) (.int .i64 ((rd_T79 l0 x13_1).f2))) (fun _ hk=>trivial)⟩
    have n1_:Aside0 ((((w20.setCell ⟨gb537,0,none⟩ (.int .i64 ((rd_T79 l0 x13_1).f0))).setCell ⟨gb537,1,none⟩ (.int .i64 ((rd_T79 l0 x13_1).f1))).setCell ⟨gb537,2,none⟩ (.int .i64 ((rd_T79 l0 x13_1).f2))).heap[gb537]?=some (.cells #[.int .i64 ((rd_T79 l0 x13_1).f0),.int .i64 ((rd_T79 l0 x13_1).f1),.int .i64 ((rd_T79 l0 x13_1).f2)] 79 (0,0))):=⟨by(with_reducible repeat(first|refine blk_drewN ?_ _|refine blk_drew ?_ |refine blk_alloc ?_ _));refine blk_put (cs:= #[.int .i64 ((rd_T79 l0 x13_1).f0),.int .i64 ((rd_T79 l0 x13_1).f1),.int .i64 0]) ?_ 2 _ rfl;(with_reducible repeat(first|refine blk_drewN ?_ _|refine blk_drew ?_ |refine blk_alloc ?_ _));refine blk_put (cs:= #[.int .i64 ((rd_T79 l0 x13_1).f0),.int .i64 0,.int .i64 0]) ?_ 1 _ rfl;(with_reducible repeat(first|refine blk_drewN ?_ _|refine blk_drew ?_ |refine blk_alloc ?_ _));refine blk_put (cs:= #[.int .i64 0,.int .i64 0,.int .i64 0]) ?_ 0 _ rfl;(with_reducible repeat(first|refine blk_drewN ?_ _|refine blk_drew ?_ |refine blk_alloc ?_ _));exact BK537.out⟩
    have n2_:Aside0 (Below w.heap.size w (((w20.setCell ⟨gb537,0,none⟩ (.int .i64 ((rd_T79 l0 x13_1).f0))).setCell ⟨gb537,1,none⟩ (.int .i64 ((rd_T79 l0 x13_1).f1))).setCell ⟨gb537,2,none⟩ (.int .i64 ((rd_T79 l0 x13_1).f2)))):=⟨by exact zk2 HB GE537.out⟩
    (try clear HO_5)
    (try clear BK537)
    (try clear HB)
    (try simp only [show ∀ (W_:World) (n_:Nat) (a_:Addr) (v_:Value),(World.drewN W_ n_).setCell a_ v_= (World.setCell W_ a_ v_).drewN n_ from fun _ _ _ _=>rfl])
    generalize (((w20.setCell ⟨gb537,0,none⟩ (.int .i64 ((rd_T79 l0 x13_1).f0))).setCell ⟨gb537,1,none⟩ (.int .i64 ((rd_T79 l0 x13_1).f1))).setCell ⟨gb537,2,none⟩ (.int .i64 ((rd_T79 l0 x13_1).f2)))=w22 at n0_ n1_ n2_ ⊢
    have HO_5:=n0_
    have BK537:=n1_
    have HB:=n2_
    clear n0_ n1_ n2_
    replace HO_5:=Aside0.mk (Kd.R_drew HO_5.out)
    replace BK537:=Aside0.mk (blk_drew BK537.out)
    replace HB:=Aside0.mk (below_drew1 HB.out)
    obtain⟨Ao24,co24,eo24⟩:=Kd.R_slice HO_5.out
    (first|subst eo24|(injection eo24 with f1_ f2_ f3_;have f4_:=f1_.symm;have f5_:=f3_.symm;clear f1_ f2_ f3_;subst f4_;subst f5_))
    have p538: 0≤ (((rd_T79 l0 x13_1).f0):Int):=of_decide_eq_true zq1
    have q538:((rd_T79 l0 x13_1).f0)< (x5_1.length:Int):=of_decide_eq_true zq1
    obtain⟨ad538,e538,hx538_0⟩:=Kd.at_int (Kd.R_reads' HO_5.out).2.2 ((rd_T79 l0 x13_1).f0) p538 q538
    cases e538
    replace p538:=eq_true p538
    replace q538:=eq_true q538
    have p539: 0≤ (((rd_T79 l0 x13_1).f1):Int):=of_decide_eq_true zq1
    have q539:((rd_T79 l0 x13_1).f1)< (l1.length:Int):=of_decide_eq_true zq1
    obtain⟨ad539,e539,hx539_0⟩:=Kd.at_int HR1.out ((rd_T79 l0 x13_1).f1) p539 q539
    have hw539_0:=hx539_0
    cases e539
    replace hx539_0:=zhx HB hx539_0
    replace p539:=eq_true p539
    replace q539:=eq_true q539
    have p15: 0≤ (((rd_T79 l0 x13_1).f0):Int):=of_decide_eq_true zq1
    have q15:(((rd_T79 l0 x13_1).f0):Int)< ((x5_1.length:Int):Int):=of_decide_eq_true zq1
    obtain⟨go15,co15,eo15,gb15,gl15,cl15,HG15⟩:=Kd.R_form HO_5.out (by omega)
    (first|cases eo15|(injection eo15 with ea_ en_ ec_;(first|subst ea_|(injection ea_ with ea_;subst ea_));subst ec_;clear en_))
    have GB15:=Aside0.mk gb15
    have GG15:=Aside0.mk HG15
    clear gb15 gl15 HG15
    (first|simp only [add_plain] at hx538_0|skip)
    obtain⟨hx15_0,hf15_0⟩:=Kd.R_celln 0 HO_5.out (((rd_T79 l0 x13_1).f0):Int) p15 q15
    replace p15:=eq_true p15
    replace q15:=eq_true q15
    have HP25:=Kd.R_putn HO_5.out (((rd_T79 l0 x13_1).f0):Int) ji14
    rw [← Ny540.out] at HP25
    have HQ25:=Aside0.mk HP25
    clear HP25
    refine start_ (n:=19) (S:=fun w'=>w'.cell? ⟨gb537,0,none⟩=some (.int .i64 ((rd_T79 l0 x13_1).f0))∧w'.cell? ⟨gb537,1,none⟩=some (.int .i64 ((rd_T79 l0 x13_1).f1))∧w'.cell? ⟨gb537,2,none⟩=some (.int .i64 ((rd_T79 l0 x13_1).f2))∧w'.cell? ⟨go15,(((rd_T79 l0 x13_1).f0)).toNat,none⟩=some (.int .i64 (rd x5_1 ((rd_T79 l0 x13_1).f0)))∧w'.cell? (ad539.add (((rd_T79 l0 x13_1).f1)).toNat)=some (.int .i64 (rd l1 ((rd_T79 l0 x13_1).f1)))) (ds:= [18]) (mb' 19 0) (by kernel_rfl) rfl rfl ⟨(blk_cell BK537.out 0).trans rfl,(blk_cell BK537.out 1).trans rfl,(blk_cell BK537.out 2).trans rfl,hx538_0,((zhx HB hw539_0).trans rfl)⟩ (fun hHeld=>?_);refine with_tabW impl_relaxed.tab5 impl_relaxed.bits5 (fun HT_ HW_=>?_)
    generalize w22.drew=w23 at HO_5 BK537 HB GG15 HQ25 hf15_0 hx15_0 hx538_0 hx539_0 hHeld ⊢
    refine zp1 HT_ 0 17 (mb' 19 1) rfl ?_
    refine zp1 HT_ 1 18 (mb' 19 3) rfl ?_
    refine zp1 HT_ 3 20 (mb' 19 11) rfl ?_
    refine zp1 HT_ 4 21 (mb' 19 27) rfl ?_
    refine zp1 HT_ 8 25 (mb' 19 283) rfl ?_
    refine zp1 HT_ 9 26 (mb' 19 795) rfl ?_
    refine zp1 HT_ 13 30 (mb' 19 8987) rfl ?_
    refine zt1 HT_ HW_ (v:=?_) (a':=?_) 2 19 (mb' 19 8991) rfl ?_ hHeld ?_ ?_;rotate_left;(rintro w' ⟨s0,s1,s2,s3,s4⟩;go_simp;with_reducible rfl);rotate_left;exact zpa
    refine zt1 HT_ HW_ (v:=?_) (a':=?_) 5 22 (mb' 19 9023) rfl ?_ hHeld ?_ ?_;rotate_left;(rintro w' ⟨s0,s1,s2,s3,s4⟩;go_simp;with_reducible rfl);rotate_left;exact zpa
    refine zp1 HT_ 6 23 (mb' 19 9087) rfl ?_
    refine zt1 HT_ HW_ (v:=?_) (a':=?_) 7 24 (mb' 19 9215) rfl ?_ hHeld ?_ ?_;rotate_left;(rintro w' ⟨s0,s1,s2,s3,s4⟩;go_simp;with_reducible rfl);rotate_left;exact zpa
    refine zt1 HT_ HW_ (v:=?_) (a':=?_) 10 27 (mb' 19 10239) rfl ?_ hHeld ?_ ?_;rotate_left;(rintro w' ⟨s0,s1,s2,s3,s4⟩;go_simp;with_reducible rfl);rotate_left;exact zpa
    refine zp1 HT_ 11 28 (mb' 19 12287) rfl ?_
    refine zt1 HT_ HW_ (v:=?_) (a':=?_) 12 29 (mb' 19 16383) rfl ?_ hHeld ?_ ?_;rotate_left;(rintro w' ⟨s0,s1,s2,s3,s4⟩;go_simp;with_reducible rfl);rotate_left;exact zpa
    refine zt1 HT_ HW_ (v:=?_) (a':=?_) 14 31 (mb' 19 32767) rfl ?_ hHeld ?_ ?_;rotate_left;(rintro w' ⟨s0,s1,s2,s3,s4⟩;go_simp;with_reducible rfl);rotate_left;exact zpa
    refine zp1 HT_ 15 32 (mb' 19 65535) rfl ?_
    refine zp1 HT_ 16 33 (mb' 19 131071) rfl ?_
    refine zp1 HT_ 17 34 (mb' 19 262143) rfl ?_
    refine last_ (i:=18) (N:=none) (mb' 19 524287) rfl rfl (one_of HT_.out (by kernel_rfl)) (by decide) (fun K hK=>?_)
    refine skip_ (w1:=?_) (by rfl) rfl ?_ ?_
    rotate_left
    ·go_simp
     rfl
    refine hK.out _ _ ?_
    clear hK K
    refine done_ (done_of HT_.out (by kernel_rfl)) ?_
    try go_wp2
    have n0_:Aside0 (Kd.R (Kd.int .i64) 3 (w23.setCell ⟨go15,(((rd_T79 l0 x13_1).f0):Int).toNat,none⟩ (.int .i64 ji14)) w.heap.size (fun _=>True) (.slice (some ⟨go15,0,none⟩) x5_1.length co24) y540):=⟨zdr HQ25⟩
    have n1_:Aside0 ((w23.setCell ⟨go15,(((rd_T79 l0 x13_1).f0):Int).toNat,none⟩ (.int .i64 ji14)).heap[gb537]?=some (.cells #[.int .i64 ((rd_T79 l0 x13_1).f0),.int .i64 ((rd_T79 l0 x13_1).f1),.int .i64 ((rd_T79 l0 x13_1).f2)] 79 (0,0))):=⟨by(with_reducible repeat(first|refine blk_drewN ?_ _|refine blk_drew ?_ |refine blk_alloc ?_ _));refine blk_far ?_ (by have h_:=Kd.R_ne HO_5.out BK537.out (by decide);intro e_;exact h_ (by rw [e_];rfl)) _;(with_reducible repeat(first|refine blk_drewN ?_ _|refine blk_drew ?_ |refine blk_alloc ?_ _));exact BK537.out⟩
    have n2_:Aside0 (Below w.heap.size w (w23.setCell ⟨go15,(((rd_T79 l0 x13_1).f0):Int).toNat,none⟩ (.int .i64 ji14))):=⟨by exact zk3 HB GB15.out GE537.out⟩
    (try clear HO_5)
    (try clear BK537)
    (try clear HB)
    (try simp only [show ∀ (W_:World) (n_:Nat) (a_:Addr) (v_:Value),(World.drewN W_ n_).setCell a_ v_= (World.setCell W_ a_ v_).drewN n_ from fun _ _ _ _=>rfl])
    generalize (w23.setCell ⟨go15,(((rd_T79 l0 x13_1).f0):Int).toNat,none⟩ (.int .i64 ji14))=w26 at n0_ n1_ n2_ ⊢
    have HO_5:=n0_
    have BK537:=n1_
    have HB:=n2_
    clear n0_ n1_ n2_
    replace HO_5:=Aside0.mk (Kd.R_drew HO_5.out)
    replace BK537:=Aside0.mk (blk_drew BK537.out)
    replace HB:=Aside0.mk (below_drew1 HB.out)
    have p541: 0≤ (((rd_T79 l0 x13_1).f1):Int):=of_decide_eq_true zq1
    have q541:((rd_T79 l0 x13_1).f1)< (y540.length:Int):=(by have h_:(((rd_T79 l0 x13_1).f1):Int)< ((x5_1.length:Int):Int):=of_decide_eq_true zq1;first|(have e_:=(Kd.R_reads' HO_5.out).1;omega)|simpa only [Ny540.out,List.length_set] using h_)
    have ql541:((((rd_T79 l0 x13_1).f1):Int)< ((x5_1.length:Int):Int))=True:=eq_true (of_decide_eq_true zq1)
    obtain⟨ad541,e541,hx541_0⟩:=Kd.at_int (Kd.R_reads' HO_5.out).2.2 ((rd_T79 l0 x13_1).f1) p541 q541
    obtain rfl:(⟨go15,0,none⟩ :Addr)=ad541:=(by injection e541)
    (first|simp only [add_plain] at hx541_0|simp only [add_at] at hx541_0|simp only [Addr.add,Nat.zero_add] at hx541_0|skip)
    replace p541:=eq_true p541
    replace q541:=eq_true q541
    have p542: 0≤ (((rd_T79 l0 x13_1).f0):Int):=of_decide_eq_true zq1
    have q542:((rd_T79 l0 x13_1).f0)< (l1.length:Int):=of_decide_eq_true zq1
    obtain⟨ad542,e542,hx542_0⟩:=Kd.at_int HR1.out ((rd_T79 l0 x13_1).f0) p542 q542
    have hw542_0:=hx542_0
    obtain rfl:ad539=ad542:=(by injection e542)
    replace hx542_0:=zhx HB hx542_0
    replace p542:=eq_true p542
    replace q542:=eq_true q542
    have p19: 0≤ (((rd_T79 l0 x13_1).f1):Int):=of_decide_eq_true zq1
    have q19:(((rd_T79 l0 x13_1).f1):Int)< ((x5_1.length:Int):Int):=of_decide_eq_true zq1
    obtain⟨hx19_0,hf19_0⟩:=Kd.R_celln 0 HO_5.out (((rd_T79 l0 x13_1).f1):Int) p19 q19
    replace p19:=eq_true p19
    replace q19:=eq_true q19
    have HP28:=Kd.R_putn HO_5.out (((rd_T79 l0 x13_1).f1):Int) ji18
    rw [← Ny543.out] at HP28
    have HQ28:=Aside0.mk HP28
    clear HP28
    refine start_ (n:=19) (S:=fun w'=>w'.cell? ⟨gb537,0,none⟩=some (.int .i64 ((rd_T79 l0 x13_1).f0))∧w'.cell? ⟨gb537,1,none⟩=some (.int .i64 ((rd_T79 l0 x13_1).f1))∧w'.cell? ⟨gb537,2,none⟩=some (.int .i64 ((rd_T79 l0 x13_1).f2))∧w'.cell? ⟨go15,(((rd_T79 l0 x13_1).f1)).toNat,none⟩=some (.int .i64 (rd y540 ((rd_T79 l0 x13_1).f1)))∧w'.cell? (ad539.add (((rd_T79 l0 x13_1).f0)).toNat)=some (.int .i64 (rd l1 ((rd_T79 l0 x13_1).f0)))) (ds:= [18]) (mb' 19 0) (by kernel_rfl) rfl rfl ⟨(blk_cell BK537.out 0).trans rfl,(blk_cell BK537.out 1).trans rfl,(blk_cell BK537.out 2).trans rfl,hx541_0,((zhx HB hw542_0).trans rfl)⟩ (fun hHeld=>?_);refine with_tabW impl_relaxed.tab6 impl_relaxed.bits6 (fun HT_ HW_=>?_)
    generalize w26.drew=w27 at HO_5 BK537 HB HQ25 HQ28 hf19_0 hx19_0 hx541_0 hx542_0 hHeld ⊢
    refine zp1 HT_ 0 35 (mb' 19 1) rfl ?_
    refine zp1 HT_ 1 36 (mb' 19 3) rfl ?_
    refine zp1 HT_ 3 38 (mb' 19 11) rfl ?_
    refine zp1 HT_ 4 39 (mb' 19 27) rfl ?_
    refine zp1 HT_ 8 43 (mb' 19 283) rfl ?_
    refine zp1 HT_ 9 44 (mb' 19 795) rfl ?_
    refine zp1 HT_ 13 48 (mb' 19 8987) rfl ?_
    refine zt1 HT_ HW_ (v:=?_) (a':=?_) 2 37 (mb' 19 8991) rfl ?_ hHeld ?_ ?_;rotate_left;(rintro w' ⟨s0,s1,s2,s3,s4⟩;go_simp;with_reducible rfl);rotate_left;exact zpa
    refine zt1 HT_ HW_ (v:=?_) (a':=?_) 5 40 (mb' 19 9023) rfl ?_ hHeld ?_ ?_;rotate_left;(rintro w' ⟨s0,s1,s2,s3,s4⟩;go_simp;with_reducible rfl);rotate_left;exact zpa
    refine zp1 HT_ 6 41 (mb' 19 9087) rfl ?_
    refine zt1 HT_ HW_ (v:=?_) (a':=?_) 7 42 (mb' 19 9215) rfl ?_ hHeld ?_ ?_;rotate_left;(rintro w' ⟨s0,s1,s2,s3,s4⟩;go_simp;with_reducible rfl);rotate_left;exact zpa
    refine zt1 HT_ HW_ (v:=?_) (a':=?_) 10 45 (mb' 19 10239) rfl ?_ hHeld ?_ ?_;rotate_left;(rintro w' ⟨s0,s1,s2,s3,s4⟩;go_simp;with_reducible rfl);rotate_left;exact zpa
    refine zp1 HT_ 11 46 (mb' 19 12287) rfl ?_
    refine zt1 HT_ HW_ (v:=?_) (a':=?_) 12 47 (mb' 19 16383) rfl ?_ hHeld ?_ ?_;rotate_left;(rintro w' ⟨s0,s1,s2,s3,s4⟩;go_simp;with_reducible rfl);rotate_left;exact zpa
    refine zt1 HT_ HW_ (v:=?_) (a':=?_) 14 49 (mb' 19 32767) rfl ?_ hHeld ?_ ?_;rotate_left;(rintro w' ⟨s0,s1,s2,s3,s4⟩;go_simp;with_reducible rfl);rotate_left;exact zpa
    refine zp1 HT_ 15 50 (mb' 19 65535) rfl ?_
    refine zp1 HT_ 16 51 (mb' 19 131071) rfl ?_
    refine zp1 HT_ 17 52 (mb' 19 262143) rfl ?_
    refine last_ (i:=18) (N:=none) (mb' 19 524287) rfl rfl (one_of HT_.out (by kernel_rfl)) (by decide) (fun K hK=>?_)
    refine skip_ (w1:=?_) (by rfl) rfl ?_ ?_
    rotate_left
    ·go_simp
     rfl
    refine hK.out _ _ ?_
    clear hK K
    refine done_ (done_of HT_.out (by kernel_rfl)) ?_
    try go_wp2
    go_roundg k1
    case measure=>have:=HK1.out;omega
    case rel=>exact⟨(y543),(wrap64 (x13_1+1)),zrs,H',⟨by have:=HK1.out;omega⟩,⟨zdr HQ28⟩,⟨by exact zk3 HB GB15.out GE537.out⟩⟩
   ·rw [if_neg c7] at H
    have c7b0:decide (x13_1< (l0.length:Int))=false:=decide_eq_false c7
    clear c7
    obtain rfl:=Option.some.inj H
    go_wp2
    go_ret
    exact⟨_,zer,zdr HO_5,by exact zk1 HB⟩
mutual
def impl_fars.l0:Nat→Int→List (S79)→Int→List Int→Int→Int→Option (List Int)
 | 0,_,_,_,_,_,_=>none
 |k+1,x0,x1,x2,x7,x12,x13=>if x13<x12 then(if 0≤x13 then(if x13< (x7.length:Int) then(impl_fars.l0 k x0 x1 x2 (x7.set (x13:Int).toNat 100000) x12 (wrap64 (x13+1))) else(none)) else(none)) else(if 0≤x2 then(if x2< (x7.length:Int) then(impl_fars.l1 k x1 (x7.set (x2:Int).toNat 0) x0 0) else(none)) else(none))
def impl_fars.l1:Nat→List (S79)→List Int→Int→Int→Option (List Int)
 | 0,_,_,_,_=>none
 |k+1,x1,x7,x23,x24=>if x24<x23 then((impl_relaxed.f k x1 x7).bind fun t549=>(impl_fars.l1 k x1 t549 x23 (wrap64 (x24+1)))) else(some x7)
end
def impl_fars.f (k:Nat) (a0:Int) (l1:List (S79)) (a2:Int):Option (List Int):=if 0≤a0 then(if (a0:Int).toNat≤35184372088832 then((some (List.replicate (a0:Int).toNat 0:List Int)).bind fun y544=>(impl_fars.l0 k a0 l1 a2 y544 (y544.length:Int) 0)) else(none)) else(none)
set_option maxHeartbeats 8000000 in
set_option maxRecDepth 100000 in
theorem impl_fars.calls (k:Nat) (a0:Int) (A1:Option Addr) (c1:Nat) (l1:List (S79)) (a2:Int) (r:List Int) (w:World) (hr1:Kd.C k79 w A1 l1.length l1) (hc1:l1.length≤c1) (h:impl_fars.f k a0 l1 a2=some r):
  Calls Try.prog 85 #[.int .i64 a0,.slice A1 l1.length c1,.int .i64 a2] w fun e w'=> ∃ v0_:Value,e= .returned (v0_)∧Kd.R (Kd.int .i64) 3 w' w.heap.size (fun _=>True) v0_ r∧Below w.heap.size w w':=by
 have HR1:=Aside0.mk hr1
 have HC1:=Aside0.mk hc1
 clear hr1 hc1
 have HB:=Aside0.mk (Below.refl w.heap.size w)
 have H:(if 0≤a0 then(if (a0:Int).toNat≤35184372088832 then((some (List.replicate (a0:Int).toNat 0:List Int)).bind fun y544=>(impl_fars.l0 k a0 l1 a2 y544 (y544.length:Int) 0)) else(none)) else(none))=some r:=h
 clear h
 by_cases c4: 0≤a0
 case neg=>exact znn c4 H
 rw [if_pos c4] at H
 have c4b0:=eq_true c4
 have c4b1:decide (0≤a0)=true:=decide_eq_true c4
 clear c4
 by_cases c5:(a0:Int).toNat≤35184372088832
 case neg=>exact znn c5 H
 rw [if_pos c5] at H
 have c5b0:=eq_true c5
 have c5b1:decide ((a0:Int).toNat≤35184372088832)=true:=decide_eq_true c5
 clear c5
 obtain⟨y544,hy544⟩ :∃ y_:List Int,y_= (List.replicate (a0:Int).toNat 0):=⟨_,rfl⟩
 replace H:(impl_fars.l0 k a0 l1 a2 y544 (y544.length:Int) 0)=some r:=zfh hy544 H
 have Ny544:=Aside0.mk hy544
 clear hy544
 have H':=Aside0.mk H
 clear H
 go_enter Try.func85,Try.ntmps85
 go_wp2_with (first|((with_reducible refine gate_dst (N:=10) rfl ?_);refine Kd.R_make (Kd.int .i64) _ 3 rfl (N:=10) rfl 22 _ _ rfl a0 rfl rfl Try.underlying22 (.int .i64 0) 8 info3 rfl (by decide) (by omega) 0 (ok:=fun _=>True) (okp:=fun _=>True) rfl (fun _ hk=>hk) trivial (of_decide_eq_true zq1) (Nat.le_trans (Nat.mul_le_mul_right _ (of_decide_eq_true zq1:a0.toNat≤35184372088832)) (by omega)) (Below.refl _ _) (Nat.le_refl _) ?_;intro v545 w6 ho7 hb hg_ hnew_;clear hg_ hnew_;(first|rw [← Ny544.out] at ho7|(simp only [Int.reduceToNat] at ho7;rw [← Ny544.out] at ho7));have HO546:=Aside0.mk (Kd.R_lower ho7 (below_size (by exact zk1 HB)));replace HB:=Aside0.mk (below_step (by exact zk1 HB) hb);clear hb ho7;obtain⟨Ao8,co8,eo8⟩:=Kd.R_slice HO546.out;subst eo8))
 go_loopg [13] k (fun kq v13 w'=> ∃ (x7_1:List Int) (x13_1:Int),v13= .int .i64 x13_1∧Aside0 (impl_fars.l0 kq a0 l1 a2 x7_1 (y544.length:Int) x13_1=some r)∧Aside0 (kq≤k)∧Aside0 (Kd.R (Kd.int .i64) 3 w' w.heap.size (fun _=>True) (.slice Ao8 y544.length co8) x7_1)∧Aside0 (Below w.heap.size w w'))
 case atStart=>exact⟨(y544),(0),zrs,H',⟨Nat.le_refl _⟩,⟨zdr HO546⟩,⟨by exact zk1 HB⟩⟩
 case round=>
  clear H'
  try clear c1
  try clear p2
  try clear c4
  try clear c4b0
  try clear c4b1
  try clear c5
  try clear c5b0
  try clear c5b1
  try clear c8
  obtain⟨x7_1,x13_1,rfl,HA,HK1,HO_7,HB⟩:=hrel
  have hl7_1:=(Kd.R_reads' HO_7.out).1
  rw [hl7_1] at HO_7
  (try simp only [hl7_1])
  cases gk with
  |zero=>exact absurd HA.out (by simp [impl_fars.l0])
  |succ k1=>
   have H:=HA.out
   clear HA
   simp only [impl_fars.l0] at H
   by_cases c9:x13_1< (y544.length:Int)
   ·rw [if_pos c9] at H
    have c9b0:decide (x13_1< (y544.length:Int))=true:=decide_eq_true c9
    (try(have c9b0L:=c9b0;simp only [hl7_1] at c9b0L))
    clear c9
    by_cases c10: 0≤x13_1
    case neg=>exact znn c10 H
    rw [if_pos c10] at H
    have c10b0:decide (0≤x13_1)=true:=decide_eq_true c10
    clear c10
    by_cases c11:x13_1< (x7_1.length:Int)
    case neg=>exact znn c11 H
    rw [if_pos c11] at H
    have c11b0:decide (x13_1< (x7_1.length:Int))=true:=decide_eq_true c11
    (try(have c11b0L:=c11b0;simp only [hl7_1] at c11b0L))
    clear c11
    obtain⟨y547,hy547⟩ :∃ y_:List Int,y_= (x7_1.set (x13_1:Int).toNat 100000):=⟨_,rfl⟩
    replace H:(impl_fars.l0 k1 a0 l1 a2 y547 (y544.length:Int) (wrap64 (x13_1+1)))=some r:=zfh hy547 H
    have Ny547:=Aside0.mk hy547
    clear hy547
    have H':=Aside0.mk H
    clear H
    have p12: 0≤ (x13_1:Int):=of_decide_eq_true zq1
    have q12:(x13_1:Int)< ((x7_1.length:Int):Int):=of_decide_eq_true zq1
    obtain⟨go12,co12,eo12,gb12,gl12,cl12,HG12⟩:=Kd.R_form HO_7.out (by omega)
    (first|cases eo12|(injection eo12 with ea_ en_ ec_;(first|subst ea_|(injection ea_ with ea_;subst ea_));subst ec_;clear en_))
    have GB12:=Aside0.mk gb12
    have GG12:=Aside0.mk HG12
    clear gb12 gl12 HG12
    obtain⟨hx12_0,hf12_0⟩:=Kd.R_celln 0 HO_7.out (x13_1:Int) p12 q12
    replace p12:=eq_true p12
    replace q12:=eq_true q12
    have HP13:=Kd.R_putg HO_7.out (x13_1:Int) 100000
    go_wp2_with (first|((with_reducible refine gate_store (t:=3) (p:=18) rfl ?_);refine store_event (t:=3) (p:=18) (v:=?vo_w14) (w1:=(wr.setCell ⟨go12,(x13_1:Int).toNat,none⟩ (.int .i64 100000))) ?hg ?ho ?hn ?hr ?_;(case ho=>rfl);(case hg=>rfl);(case hn=>rfl);(case hr=>first|(go_simp;done)|(go_simp;rfl));intro w14 hw;have hg:wr.grownBy w14 (some go12):=(by rw [hw];exact HP13.2);have hp_:Kd.R (Kd.int .i64) 3 w14 w.heap.size (fun _=>True) (.slice (some ⟨go12,0,none⟩) x7_1.length co8) y547:=(by rw [hw,Ny547.out];exact HP13.1);clear HP13;replace HO_7:=Aside0.mk (hp_);replace HB:=Aside0.mk ((by rw [hw];exact below_set (HB.out) GB12.out:Below w.heap.size w w14));clear hg hw hp_))
    (try simp only [← hl7_1])
    go_roundg k1
    case measure=>have:=HK1.out;omega
    case rel=>exact⟨(y547),(wrap64 (x13_1+1)),zrs,H',⟨by have:=HK1.out;omega⟩,⟨by(try simp only [hl7_1]);(with_reducible repeat(first|apply Kd.R_alloc|apply Kd.R_drewN|apply Kd.R_drew));exact HO_7.out⟩,⟨by exact zk1 HB⟩⟩
   ·rw [if_neg c9] at H
    have c9b0:decide (x13_1< (y544.length:Int))=false:=decide_eq_false c9
    (try(have c9b0L:=c9b0;simp only [hl7_1] at c9b0L))
    clear c9
    by_cases c15: 0≤a2
    case neg=>exact znn c15 H
    rw [if_pos c15] at H
    have c15b0:decide (0≤a2)=true:=decide_eq_true c15
    clear c15
    by_cases c16:a2< (x7_1.length:Int)
    case neg=>exact znn c16 H
    rw [if_pos c16] at H
    have c16b0:decide (a2< (x7_1.length:Int))=true:=decide_eq_true c16
    (try(have c16b0L:=c16b0;simp only [hl7_1] at c16b0L))
    clear c16
    obtain⟨y548,hy548⟩ :∃ y_:List Int,y_= (x7_1.set (a2:Int).toNat 0):=⟨_,rfl⟩
    replace H:(impl_fars.l1 k1 l1 y548 a0 0)=some r:=zfh hy548 H
    have Ny548:=Aside0.mk hy548
    clear hy548
    have H':=Aside0.mk H
    clear H
    have p17: 0≤ (a2:Int):=of_decide_eq_true zq1
    have q17:(a2:Int)< ((x7_1.length:Int):Int):=of_decide_eq_true zq1
    obtain⟨go17,co17,eo17,gb17,gl17,cl17,HG17⟩:=Kd.R_form HO_7.out (by omega)
    (first|cases eo17|(injection eo17 with ea_ en_ ec_;(first|subst ea_|(injection ea_ with ea_;subst ea_));subst ec_;clear en_))
    have GB17:=Aside0.mk gb17
    have GG17:=Aside0.mk HG17
    clear gb17 gl17 HG17
    obtain⟨hx17_0,hf17_0⟩:=Kd.R_celln 0 HO_7.out (a2:Int) p17 q17
    replace p17:=eq_true p17
    replace q17:=eq_true q17
    have HP18:=Kd.R_putg HO_7.out (a2:Int) 0
    go_wp2_with (first|((with_reducible refine gate_store (t:=3) (p:=22) rfl ?_);refine store_event (t:=3) (p:=22) (v:=?vo_w19) (w1:=(wr.setCell ⟨go17,(a2:Int).toNat,none⟩ (.int .i64 0))) ?hg ?ho ?hn ?hr ?_;(case ho=>rfl);(case hg=>rfl);(case hn=>rfl);(case hr=>first|(go_simp;done)|(go_simp;rfl));intro w19 hw;have hg:wr.grownBy w19 (some go17):=(by rw [hw];exact HP18.2);have hp_:Kd.R (Kd.int .i64) 3 w19 w.heap.size (fun _=>True) (.slice (some ⟨go17,0,none⟩) x7_1.length co8) y548:=(by rw [hw,Ny548.out];exact HP18.1);clear HP18;replace HO_7:=Aside0.mk (hp_);replace HB:=Aside0.mk ((by rw [hw];exact below_set (HB.out) GB17.out:Below w.heap.size w w19));clear hg hw hp_))
    go_loopg [7,24] k1 (fun kq v7 v24 w'=> ∃ (x7_2:List Int) (x24_2:Int),v24= .int .i64 x24_2∧Aside0 (impl_fars.l1 kq l1 x7_2 a0 x24_2=some r)∧Aside0 (kq≤k1)∧Aside0 (Kd.R (Kd.int .i64) 3 w' w.heap.size (fun _=>True) v7 x7_2)∧Aside0 (Below w.heap.size w w'))
    case atStart=>exact⟨(y548),(0),zrs,H',⟨Nat.le_refl _⟩,⟨by(try simp only [hl7_1]);(with_reducible repeat(first|apply Kd.R_alloc|apply Kd.R_drewN|apply Kd.R_drew));exact HO_7.out⟩,⟨by exact zk1 HB⟩⟩
    case round=>
     clear H'
     try clear c1
     try clear p1
     try clear q1
     try clear hx1
     try clear p2
     try clear c4
     try clear c4b0
     try clear c4b1
     try clear c5
     try clear c5b0
     try clear c5b1
     try clear p6
     try clear c8
     try clear c9
     try clear c9b0
     try clear c10
     try clear c10b0
     try clear c11
     try clear c11b0
     try clear p12
     try clear q12
     try clear hx12
     try clear hf12
     try clear c15
     try clear c15b0
     try clear c16
     try clear c16b0
     try clear p17
     try clear q17
     try clear hx17
     try clear hf17
     try clear hx12_0
     try clear hx17_0
     try clear p12
     try clear p17
     try clear p2
     try clear q12
     try clear q17
     obtain⟨x7_2,x24_2,rfl,HA,HK2,HO_7,HB⟩:=hrel
     cases gk with
     |zero=>exact absurd HA.out (by simp [impl_fars.l1])
     |succ k2=>
      have H:=HA.out
      clear HA
      simp only [impl_fars.l1] at H
      by_cases c20:x24_2<a0
      ·rw [if_pos c20] at H
       have c20b0:decide (x24_2<a0)=true:=decide_eq_true c20
       clear c20
       replace H:=Option.bind_eq_some_iff.mp H
       obtain⟨t549,A210,H⟩:=H
       replace H:(impl_fars.l1 k2 l1 t549 a0 (wrap64 (x24_2+1)))=some r:=H
       have A21:=Aside0.mk A210
       clear A210
       have H':=Aside0.mk H
       clear H
       obtain⟨Ao22,co22,eo22⟩:=Kd.R_slice HO_7.out
       subst eo22
       go_wp2_with (first|((with_reducible refine gate_callee (f:=102) rfl ?_);refine goesL_ (some 28) rfl rfl Try.func102 (by kernel_rfl) rfl #[.slice A1 l1.length c1,.slice Ao22 x7_2.length co22] rfl zq2 ?_;(with_reducible refine(impl_relaxed.calls k2 _ _ l1 _ _ x7_2 t549 _ ?side1 ?side2 ?side3 ?side4 A21.out).mono ?_);(case side1=>exact zcc ((Kd.C_below HR1.out HB.out)));(case side2=>exact HC1.out);(case side3=>exact zcc ((Kd.R_reads' HO_7.out).2.2));(case side4=>exact(Kd.R_reads' HO_7.out).2.1);rintro e w23 ⟨v550,rfl,ho0,hb⟩;refine⟨_,rfl,?_⟩;have HO551:=Aside0.mk (Kd.R_lower (Kd.R_new' ho0 (Kd.R_lt (zq4 HO_7))) (below_size (by exact zk1 HB)));replace HO_7:=Aside0.mk (Kd.R_elder' (zq4 HO_7) (Kd.R_base ho0) hb);replace HB:=Aside0.mk (below_step (by exact zk1 HB) hb);(try clear hb);(try clear hb2);(try clear hk);(try clear hi);(try clear ho0)))
       go_roundg k2
       case measure=>have:=HK1.out;have:=HK2.out;omega
       case rel=>exact⟨(t549),(wrap64 (x24_2+1)),zrs,H',⟨by have:=HK1.out;have:=HK2.out;omega⟩,⟨by(try simp only [hl7_1]);(with_reducible repeat(first|apply Kd.R_alloc|apply Kd.R_drewN|apply Kd.R_drew));exact Kd.R_mono HO551.out (fun _ hk=>trivial)⟩,⟨by exact zk1 HB⟩⟩
      ·rw [if_neg c20] at H
       have c20b0:decide (x24_2<a0)=false:=decide_eq_false c20
       clear c20
       obtain rfl:=Option.some.inj H
       go_wp2
       go_ret
       exact⟨_,zer,zdr HO_7,by exact zk1 HB⟩
def impl_near.l0:Nat→List (S79)→Int→List Int→Int→Int→Option (List Int)
 | 0,_,_,_,_,_=>none
 |k+1,x1,x2,x7,x9,x10=>if x10<x9 then((impl_cost.f k x1 x2 x10).bind fun t552=>(if t552 > 0 then(if x7.length< 17592186044416 then(impl_near.l0 k x1 x2 (x7++ [x10]) x9 (wrap64 (x10+1))) else(none)) else(impl_near.l0 k x1 x2 x7 x9 (wrap64 (x10+1))))) else(some x7)
def impl_near.f (k:Nat) (a0:Int) (l1:List (S79)) (a2:Int):Option (List Int):=impl_near.l0 k l1 a2 ([] :List Int) a0 0
set_option maxHeartbeats 8000000 in
set_option maxRecDepth 100000 in
theorem impl_near.calls (k:Nat) (a0:Int) (A1:Option Addr) (c1:Nat) (l1:List (S79)) (a2:Int) (r:List Int) (w:World) (hr1:Kd.C k79 w A1 l1.length l1) (hc1:l1.length≤c1) (h:impl_near.f k a0 l1 a2=some r):
  Calls Try.prog 107 #[.int .i64 a0,.slice A1 l1.length c1,.int .i64 a2] w fun e w'=> ∃ v0_:Value,e= .returned (v0_)∧Kd.R (Kd.int .i64) 3 w' w.heap.size (fun _=>True) v0_ r∧Below w.heap.size w w':=by
 have HR1:=Aside0.mk hr1
 have HC1:=Aside0.mk hc1
 clear hr1 hc1
 have HB:=Aside0.mk (Below.refl w.heap.size w)
 have H:(impl_near.l0 k l1 a2 ([] :List Int) a0 0)=some r:=h
 clear h
 have H':=Aside0.mk H
 clear H
 go_enter Try.func107,Try.ntmps107
 go_wp2
 go_loopg [7,10] k (fun kq v7 v10 w'=> ∃ (x7_1:List Int) (x10_1:Int),v10= .int .i64 x10_1∧Aside0 (impl_near.l0 kq l1 a2 x7_1 a0 x10_1=some r)∧Aside0 (kq≤k)∧Aside0 (Kd.R (Kd.int .i64) 3 w' w.heap.size (fun _=>True) v7 x7_1)∧Aside0 (Below w.heap.size w w'))
 case atStart=>exact⟨(([] :List Int)),(0),zrs,H',⟨Nat.le_refl _⟩,⟨by first|exact Kd.R_nil _ _ _ _ _|exact Kd.N_nil _ _ _ _ _|exact Kd.V_nil _ _ _ _ _|exact Kd.Q_nil _ _ _ _ _|exact Kd.S_nil _ _ _ _ _⟩,⟨by exact zk1 HB⟩⟩
 case round=>
  clear H'
  try clear c1
  try clear p2
  obtain⟨x7_1,x10_1,rfl,HA,HK1,HO_7,HB⟩:=hrel
  cases gk with
  |zero=>exact absurd HA.out (by simp [impl_near.l0])
  |succ k1=>
   have H:=HA.out
   clear HA
   simp only [impl_near.l0] at H
   by_cases c4:x10_1<a0
   ·rw [if_pos c4] at H
    have c4b0:decide (x10_1<a0)=true:=decide_eq_true c4
    clear c4
    replace H:=Option.bind_eq_some_iff.mp H
    obtain⟨t552,A50,H⟩:=H
    replace H:(if t552 > 0 then(if x7_1.length< 17592186044416 then(impl_near.l0 k1 l1 a2 (x7_1++ [x10_1]) a0 (wrap64 (x10_1+1))) else(none)) else(impl_near.l0 k1 l1 a2 x7_1 a0 (wrap64 (x10_1+1))))=some r:=H
    have A5:=Aside0.mk A50
    clear A50
    by_cases c6:t552 > 0
    ·rw [if_pos c6] at H
     have c6b0:decide (0<t552)=true:=decide_eq_true c6
     clear c6
     by_cases c7:x7_1.length< 17592186044416
     case neg=>exact znn c7 H
     rw [if_pos c7] at H
     have LMc7:=Aside0.mk c7
     clear c7
     obtain⟨y553,hy553⟩ :∃ y_:List Int,y_= (x7_1++ [x10_1]):=⟨_,rfl⟩
     replace H:(impl_near.l0 k1 l1 a2 y553 a0 (wrap64 (x10_1+1)))=some r:=zfh hy553 H
     have Ny553:=Aside0.mk hy553
     clear hy553
     have H':=Aside0.mk H
     clear H
     go_wp2_with (first|((with_reducible refine gate_callee (f:=70) rfl ?_);refine goesL_ (some 16) rfl rfl Try.func70 (by kernel_rfl) rfl #[.slice A1 l1.length c1,.int .i64 a2,.int .i64 x10_1] rfl zq2 ?_;(with_reducible refine(impl_cost.calls k1 _ _ l1 a2 x10_1 t552 _ ?side1 ?side2 A5.out).mono ?_);(case side1=>exact zcc ((Kd.C_below HR1.out HB.out)));(case side2=>exact HC1.out);rintro e w8 ⟨rfl,hb⟩;refine⟨_,rfl,?_⟩;replace HO_7:=Aside0.mk (Kd.R_below (zq4 HO_7) hb);replace HB:=Aside0.mk (below_step (by exact zk1 HB) hb);(try clear hb);(try clear hb2);(try clear hk);(try clear hi))|((with_reducible refine gate_builtin (b:= .append) (xs:= #[.tmp 18,.tmp 20]) rfl ?_);at_builtin;refine Kd.R_append (Kd.int .i64) (w0:=w) w.heap.size rfl (.tmp 18) (.tmp 20) 22 3 (.int .i64 0) 8 rfl Try.underlying22 info3 rfl (by decide) (by omega) u7 x7_1 x10_1 [.int .i64 x10_1] (fun _=>True) (fun _=>False) rfl rfl ?aP (fun _ hk=>hk.elim) ?aF ?aO ?aB ?aS ?aL ?_;(case aP=>exact rfl);(case aB=>exact(by exact zk1 HB));(case aF=>exact(fun _ _=>trivial));(case aO=>exact(zq4 HO_7));(case aS=>exact(below_size (by exact zk1 HB)));(case aL=>have:=LMc7.out;omega);intro v554 w9 ho hb hg hat;rw [← Ny553.out] at ho;have HO555:=Aside0.mk (ho);replace HB:=Aside0.mk (hb);clear HO_7;clear ho hb hg hat))
     go_roundg k1
     case measure=>have:=HK1.out;omega
     case rel=>exact⟨(y553),(wrap64 (x10_1+1)),zrs,H',⟨by have:=HK1.out;omega⟩,⟨zdr HO555⟩,⟨by exact zk1 HB⟩⟩
    ·rw [if_neg c6] at H
     have c6b0:decide (0<t552)=false:=decide_eq_false c6
     clear c6
     have H':=Aside0.mk H
     clear H
     go_wp2_with (first|((with_reducible refine gate_callee (f:=70) rfl ?_);refine goesL_ (some 16) rfl rfl Try.func70 (by kernel_rfl) rfl #[.slice A1 l1.length c1,.int .i64 a2,.int .i64 x10_1] rfl zq2 ?_;(with_reducible refine(impl_cost.calls k1 _ _ l1 a2 x10_1 t552 _ ?side1 ?side2 A5.out).mono ?_);(case side1=>exact zcc ((Kd.C_below HR1.out HB.out)));(case side2=>exact HC1.out);rintro e w10 ⟨rfl,hb⟩;refine⟨_,rfl,?_⟩;replace HO_7:=Aside0.mk (Kd.R_below (zq4 HO_7) hb);replace HB:=Aside0.mk (below_step (by exact zk1 HB) hb);(try clear hb);(try clear hb2);(try clear hk);(try clear hi)))
     go_roundg k1
     case measure=>have:=HK1.out;omega
     case rel=>exact⟨(x7_1),(wrap64 (x10_1+1)),zrs,H',⟨by have:=HK1.out;omega⟩,⟨zdr HO_7⟩,⟨by exact zk1 HB⟩⟩
   ·rw [if_neg c4] at H
    have c4b0:decide (x10_1<a0)=false:=decide_eq_false c4
    clear c4
    obtain rfl:=Option.some.inj H
    go_wp2
    go_ret
    exact⟨_,zer,zdr HO_7,by exact zk1 HB⟩
end Go.Proofs.Ytedegfbheihopaa.P
