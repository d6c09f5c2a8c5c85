/- Functions, walks and plain lemmas that the law FnExactBothWays reaches, part 2. -/
import Derived.Test.YtpbnpepikkocmaaCFnExactBothWays1
import Derived.WalkKit
import Derived.ProofKit
import Derived.OpenShut
import Derived.ChangeOld
import Derived.Below
import Derived.SizedLaws
import Derived.ChangeArms
import Derived.DataElems
import Derived.Deep.Draws
import Derived.Deep.AppendLies
import Derived.Maps.AppendAt
import Derived.OwnWalk
import Derived.Laws.BytesArg
import Derived.Laws.MakeOwn
import Derived.Laws.OwnMore
import Derived.Deep.OwnRows
import Derived.Tactics
import Derived.Lib.ConvBytes
import Derived.Laws.Slices
import Derived.KernelRfl
import Derived.RowKit3
import Derived.Deep.LoopGhost
import Derived.Deep.QuietTactic
import Derived.BigQuiet
import Derived.WideLaws
import Derived.Deep.DeepCutAuto
import Derived.Deep.CutBlock
import Derived.Deep.RegionHeld3
import Derived.Laws.Rows
import Derived.Lib.AppendStr
import Derived.ArgAppend
import Derived.Laws.IdiomCopy
import Derived.OrdersHeld
import Derived.Laws.BitsLemmas
import Derived.RowKit
import Derived.WalkSpells
import Derived.Lib.SliceRun
import Derived.Shelf.Abstract
import Derived.ShutString
namespace Go.Proofs.Ytpbnpepikkocmaa.P
open Go.RowKit Go.Proofs.YtpbnpepikkocmaaW.PrintWords Go.Proofs.YtpbnpepikkocmaaW.PrintLast Go.Proofs.YtpbnpepikkocmaaW.PrintMore
attribute [local go_sem] max2_int min2_int max_two min_two max_three min_three max_four min_four   -- for this text's walks alone
set_option linter.unusedVariables false
set_option linter.unusedSimpArgs false
theorem addB (g n:Nat):(⟨g,0,none⟩ :Addr).add n= ⟨g,n,none⟩:=by
 unfold Addr.add
 by_cases h:n=0
 ·simp [h]
 ·simp [h]
def idxB (a b:Int):Int:=if 0≤a∧a< 12∧0≤b∧b< 12 then a * 12+b else -1
theorem idxB_ok (a b:Int) (h: 0≤idxB a b): 0≤a∧a< 12∧0≤b∧b< 12∧ (idxB a b).toNat=a.toNat * 12+b.toNat:=by
 unfold idxB at h ⊢
 split at h
 ·next hc=>rw [if_pos hc];omega
 ·omega
theorem boxRow {W:World} {base g:Nat} (hg:base≤g) (hb:W.heap[g]?=some (.cells (List.replicate 144 (Value.int .i64 0)).toArray 73 (0,0))):
  Kd.R (Kd.int .i64) 73 W base (fun _=>True) (.slice (some ⟨g,0,none⟩) 144 144) (List.replicate 144 0):=by
 refine Kd.R_of_own (enc:=Value.int .i64) (h1:=fun _=>rfl) (xs:=List.replicate 144 (0:Int)) ⟨by simp [encs],.inr ⟨g,144,_,rfl,hg,hb,Nat.le_refl _,by simp [maxLen],by simp,by simp [encs]⟩⟩ (fun _ _=>trivial)
mutual
def impl_BothWays.j0:Nat→Int→List (S57)→Bool→Option ((List (S52)) × Bool)
 | 0,_,_,_=>none
 |k+1,x0,x1,x19=>if x19=true then(some (([] :List (S52)),false)) else(if 144≤35184372088832 then(impl_BothWays.l0 k x0 (List.replicate 144 0) x1 (x1.length:Int) 0) else(none))
def impl_BothWays.l0:Nat→Int→List Int→List (S57)→Int→Int→Option ((List (S52)) × Bool)
 | 0,_,_,_,_,_=>none
 |k+1,x0,x6,x20,x21,x22=>if x22<x21 then(if 0≤x22 then(if x22< (x20.length:Int) then((impl_in.f ((rd_T57 x20 x22).f0) 0 (wrap64 (x0 - 1))).bind fun t296=>(if t296=true then((impl_in.f ((rd_T57 x20 x22).f1) 0 (wrap64 (x0 - 1))).bind fun t297=>(if t297=true then(if ((rd_T57 x20 x22).f0)= ((rd_T57 x20 x22).f1) then(some (([] :List (S52)),false)) else((impl_in.f ((rd_T57 x20 x22).f2) 1 100).bind fun t298=>(if t298=true then(if 0≤ (idxB ((rd_T57 x20 x22).f0) ((rd_T57 x20 x22).f1)) then(if (idxB ((rd_T57 x20 x22).f0) ((rd_T57 x20 x22).f1))< (x6.length:Int) then(impl_BothWays.l0 k x0 (x6.set ((idxB ((rd_T57 x20 x22).f0) ((rd_T57 x20 x22).f1)):Int).toNat ((rd_T57 x20 x22).f2)) x20 x21 (wrap64 (x22+1))) else(none)) else(none)) else(some (([] :List (S52)),false))))) else(some (([] :List (S52)),false)))) else(some (([] :List (S52)),false)))) else(none)) else(none)) else(impl_BothWays.l1 k x0 x6 ([] :List (S52)) x0 0)
def impl_BothWays.l1:Nat→Int→List Int→List (S52)→Int→Int→Option ((List (S52)) × Bool)
 | 0,_,_,_,_,_=>none
 |k+1,x0,x6,x9,x62,x63=>if x63<x62 then(impl_BothWays.l2 k x0 x6 x9 x63 (wrap64 (x63+1)) x62 x63) else(if (x9.length:Int) > 40 then(some (([] :List (S52)),false)) else(some (x9,true)))
def impl_BothWays.l2:Nat→Int→List Int→List (S52)→Int→Int→Int→Int→Option ((List (S52)) × Bool)
 | 0,_,_,_,_,_,_,_=>none
 |k+1,x0,x6,x9,x10,x11,x62,x63=>if x11<x0 then(if 0≤ (idxB x10 x11) then(if (idxB x10 x11)< (x6.length:Int) then(if (rd x6 (idxB x10 x11)) > 0 then(if 0≤ (idxB x11 x10) then(if (idxB x11 x10)< (x6.length:Int) then(if (rd x6 (idxB x11 x10)) > 0 then(if x9.length< 5864062014805 then(impl_BothWays.l2 k x0 x6 (x9++ [(⟨x10,x11,mx (rd x6 (idxB x10 x11)) (rd x6 (idxB x11 x10))⟩ :S52)]) x10 (wrap64 (x11+1)) x62 x63) else(none)) else(impl_BothWays.l2 k x0 x6 x9 x10 (wrap64 (x11+1)) x62 x63)) else(none)) else(none)) else(impl_BothWays.l2 k x0 x6 x9 x10 (wrap64 (x11+1)) x62 x63)) else(none)) else(none)) else(impl_BothWays.l1 k x0 x6 x9 x62 (wrap64 (x63+1)))
end
def impl_BothWays.f (k:Nat) (a0:Int) (l1:List (S57)):Option ((List (S52)) × Bool):=(impl_isSpots.f a0).bind fun t290=>(if t290=true then(impl_BothWays.j0 k a0 l1 (decide ((l1.length:Int) > 80))) else(impl_BothWays.j0 k a0 l1 true))
def impl_BothWays.T9:Bool × List (List Nat × List Nat):=(true,[([],[]),([0],[0]),([],[]),([2],[2]),([],[]),([4],[4]),([1],[1]),([6,3,0,1,2,3,4,5],[3,6]),([7,5,0,1,2,3,4,5],[5,7])])
def impl_BothWays.B9:List Nat:= [0,1,0,4,0,16,3,127,255]
theorem impl_BothWays.tab9:rtab .any (opsOf Try.f24 9)=impl_BothWays.T9:=by kernel_rfl
theorem impl_BothWays.bits9:waitsOk impl_BothWays.T9.2 impl_BothWays.B9=true:=by kernel_rfl
def impl_BothWays.T19:Bool × List (List Nat × List Nat):=(true,[([],[]),([],[]),([],[]),([],[]),([],[]),([3],[3]),([5,4],[4,5]),([6],[6]),([],[]),([],[]),([8],[8]),([10,9],[9,10]),([11],[11]),([7,12],[7,12]),([1,2,13],[1,2,13]),([14],[14]),([0,15],[0,15]),([16,16,0,1,2,3,4,5,6,7,8,9,10,11,12,13,14,15,16],[0,16])])
def impl_BothWays.B19:List Nat:= [0,0,0,0,0,8,56,120,0,0,256,1792,3840,8184,16382,32766,65535,131071]
theorem impl_BothWays.tab19:rtab .any (opsOf Try.f24 19)=impl_BothWays.T19:=by kernel_rfl
theorem impl_BothWays.bits19:waitsOk impl_BothWays.T19.2 impl_BothWays.B19=true:=by kernel_rfl
set_option maxHeartbeats 8000000 in
set_option maxRecDepth 100000 in
theorem impl_BothWays.calls (k:Nat) (a0:Int) (A1:Option Addr) (c1:Nat) (l1:List (S57)) (r1:List (S52)) (r2:Bool) (w:World) (hr1:Kd.C k57 w A1 l1.length l1) (hc1:l1.length≤c1) (h:impl_BothWays.f k a0 l1=some (r1,r2)):
  Calls Try.prog 24 #[.int .i64 a0,.slice A1 l1.length c1] w fun e w'=> ∃ v0_:Value,e= .returned (.tuple #[v0_,.bool r2])∧Kd.R k52 52 w' w.heap.size (fun _=>True) v0_ r1∧Below w.heap.size w w':=by
 have hu57:=Try.underlying57
 have hu52:=Try.underlying52
 have hu72:=Try.underlying72
 have hu73:=Try.underlying73
 have HR1:=Aside0.mk hr1
 have HC1:=Aside0.mk hc1
 clear hr1 hc1
 have HB:=Aside0.mk (Below.refl w.heap.size w)
 have H:((impl_isSpots.f a0).bind fun t290=>(if t290=true then(impl_BothWays.j0 k a0 l1 (decide ((l1.length:Int) > 80))) else(impl_BothWays.j0 k a0 l1 true)))=some (r1,r2):=h
 clear h
 have HC3:=Aside0.mk H
 clear H
 go_enter Try.func24,Try.ntmps24
 go_upto_region 1 with (fail)
 go_cut [19] (fun v19 wc=> ∃ (kq:Nat) (x19_2:Bool),v19= .bool x19_2∧Aside0 (impl_BothWays.j0 kq a0 l1 x19_2=some (r1,r2))∧Aside0 (kq≤k)∧Aside0 (Below w.heap.size w wc))
 case first=>
  have H:=HC3.out
  clear HC3
  replace H:=Option.bind_eq_some_iff.mp H
  obtain⟨t290,A40,H⟩:=H
  replace H:(if t290=true then(impl_BothWays.j0 k a0 l1 (decide ((l1.length:Int) > 80))) else(impl_BothWays.j0 k a0 l1 true))=some (r1,r2):=H
  have A4:=Aside0.mk A40
  clear A40
  by_cases c5:t290=true
  ·subst c5
   have H1:(impl_BothWays.j0 k a0 l1 (decide ((l1.length:Int) > 80)))=some (r1,r2):=by rw [if_pos rfl] at H;exact H
   clear H
   have H:=H1
   clear H1
   have H':=Aside0.mk H
   clear H
   go_wp2_with (first|((with_reducible refine gate_callee (f:=53) rfl ?_);refine goesL_ (some 13) rfl rfl Try.func53 (by kernel_rfl) rfl #[.int .i64 a0] rfl zq2 ?_;(with_reducible refine(impl_isSpots.calls a0 true _ A4.out).mono ?_);rintro e w' ⟨rfl,⟨nd,rfl⟩⟩;refine⟨_,rfl,?_⟩))
   go_meet
   case rel=>exact⟨_,(decide ((l1.length:Int) > 80)),zrs,H',⟨by first|omega|exact Nat.le_refl _⟩,⟨by exact zk1 HB⟩⟩
  ·replace c5:=Bool.eq_false_iff.mpr c5
   subst c5
   have H1:(impl_BothWays.j0 k a0 l1 true)=some (r1,r2):=by rw [if_neg (show ¬ (false=true) by decide)] at H;exact H
   clear H
   have H:=H1
   clear H1
   have H':=Aside0.mk H
   clear H
   go_wp2_with (first|((with_reducible refine gate_callee (f:=53) rfl ?_);refine goesL_ (some 13) rfl rfl Try.func53 (by kernel_rfl) rfl #[.int .i64 a0] rfl zq2 ?_;(with_reducible refine(impl_isSpots.calls a0 false _ A4.out).mono ?_);rintro e w' ⟨rfl,⟨nd,rfl⟩⟩;refine⟨_,rfl,?_⟩))
   go_meet
   case rel=>exact⟨_,(true),zrs,H',⟨by first|omega|exact Nat.le_refl _⟩,⟨by exact zk1 HB⟩⟩
 case rest=>
  clear HC3
  try clear c1
  try clear c2
  try clear p2
  try clear c5
  obtain⟨kq,x19_2,rfl,HA,HJ2,HB⟩:=hcut
  cases kq with
  |zero=>exact absurd HA.out (by simp [impl_BothWays.j0])
  |succ kj2=>
   have H:=HA.out
   clear HA
   simp only [impl_BothWays.j0] at H
   by_cases c6:x19_2=true
   ·subst c6
    have H1:(some (([] :List (S52)),false))=some (r1,r2):=by rw [if_pos rfl] at H;exact H
    clear H
    have H:=H1
    clear H1
    simp only [Option.some.injEq,Prod.mk.injEq] at H
    obtain⟨rfl,rfl⟩:=H
    go_wp2
    go_ret2
    exact⟨_,zer,by first|exact Kd.R_nil _ _ _ _ _|exact Kd.N_nil _ _ _ _ _|exact Kd.V_nil _ _ _ _ _|exact Kd.Q_nil _ _ _ _ _|exact Kd.S_nil _ _ _ _ _,by exact zk1 HB⟩
   ·replace c6:=Bool.eq_false_iff.mpr c6
    subst c6
    have H1:(if 144≤35184372088832 then(impl_BothWays.l0 kj2 a0 (List.replicate 144 0) l1 (l1.length:Int) 0) else(none))=some (r1,r2):=by rw [if_neg (show ¬ (false=true) by decide)] at H;exact H
    clear H
    have H:=H1
    clear H1
    by_cases c7: 144≤35184372088832
    case neg=>exact znn c7 H
    rw [if_pos c7] at H
    have c7b0:=eq_true c7
    have c7b1:decide (144≤35184372088832)=true:=decide_eq_true c7
    clear c7
    obtain⟨y291,hy291⟩ :∃ y_:List Int,y_= (List.replicate 144 0):=⟨_,rfl⟩
    replace H:(impl_BothWays.l0 kj2 a0 y291 l1 (l1.length:Int) 0)=some (r1,r2):=zfh hy291 H
    have Ny291:=Aside0.mk hy291
    clear hy291
    have H':=Aside0.mk H
    clear H
    go_wp2_with (first|((with_reducible refine gate_dst (N:=6) rfl ?_);(try(refine gate_guard (by rfl) ?_;dsimp only));refine box_event ?hg (N:=6) ?hd (cs:=(List.replicate 144 (Value.int .i64 0)).toArray) (t:=73) ?hr ?_;(case hd=>rfl);(case hg=>rfl);(case hr=>first|(go_simp;done)|(go_simp;rfl));intro gb6 hg w8 hbox hb;have hg6:w.heap.size≤gb6:=(by rw [hg];exact(below_size (by exact zk1 HB)));have HO293:=Aside0.mk (by rw [Ny291.out];exact boxRow hg6 hbox:Kd.R (Kd.int .i64) 73 w8 w.heap.size (fun _=>True) (.slice (some ⟨gb6,0,none⟩) 144 144) y291);replace HB:=Aside0.mk (below_step (by exact zk1 HB) hb);clear hb hbox hg hg6))
    go_loopg [22] kj2 (fun kq v22 w'=> ∃ (x6_2:List Int) (x22_2:Int),v22= .int .i64 x22_2∧Aside0 (impl_BothWays.l0 kq a0 x6_2 l1 (l1.length:Int) x22_2=some (r1,r2))∧Aside0 (kq≤kj2)∧Aside0 (Kd.R (Kd.int .i64) 73 w' w.heap.size (fun _=>True) (.slice (some ⟨gb6,0,none⟩) 144 144) x6_2)∧Aside0 (Below w.heap.size w w'))
    case atStart=>exact⟨(y291),(0),zrs,H',⟨Nat.le_refl _⟩,⟨zdr HO293⟩,⟨by exact zk1 HB⟩⟩
    case round=>
     clear H'
     try clear c1
     try clear c2
     try clear p2
     try clear c5
     try clear c6
     try clear c7
     try clear c7b0
     try clear c7b1
     try clear p2
     obtain⟨x6_2,x22_2,rfl,HA,HK2,HO_6,HB⟩:=hrel
     cases gk with
     |zero=>exact absurd HA.out (by simp [impl_BothWays.l0])
     |succ k2=>
      have H:=HA.out
      clear HA
      simp only [impl_BothWays.l0] at H
      by_cases c10:x22_2< (l1.length:Int)
      ·rw [if_pos c10] at H
       have c10b0:decide (x22_2< (l1.length:Int))=true:=decide_eq_true c10
       clear c10
       by_cases c11: 0≤x22_2
       case neg=>exact znn c11 H
       rw [if_pos c11] at H
       have c11b0:decide (0≤x22_2)=true:=decide_eq_true c11
       clear c11
       by_cases c12:x22_2< (l1.length:Int)
       case neg=>exact znn c12 H
       rw [if_pos c12] at H
       have c12b0:decide (x22_2< (l1.length:Int))=true:=decide_eq_true c12
       clear c12
       replace H:=Option.bind_eq_some_iff.mp H
       obtain⟨t296,A130,H⟩:=H
       replace H:(if t296=true then((impl_in.f ((rd_T57 l1 x22_2).f1) 0 (wrap64 (a0 - 1))).bind fun t297=>(if t297=true then(if ((rd_T57 l1 x22_2).f0)= ((rd_T57 l1 x22_2).f1) then(some (([] :List (S52)),false)) else((impl_in.f ((rd_T57 l1 x22_2).f2) 1 100).bind fun t298=>(if t298=true then(if 0≤ (idxB ((rd_T57 l1 x22_2).f0) ((rd_T57 l1 x22_2).f1)) then(if (idxB ((rd_T57 l1 x22_2).f0) ((rd_T57 l1 x22_2).f1))< (x6_2.length:Int) then(impl_BothWays.l0 k2 a0 (x6_2.set ((idxB ((rd_T57 l1 x22_2).f0) ((rd_T57 l1 x22_2).f1)):Int).toNat ((rd_T57 l1 x22_2).f2)) l1 (l1.length:Int) (wrap64 (x22_2+1))) else(none)) else(none)) else(some (([] :List (S52)),false))))) else(some (([] :List (S52)),false)))) else(some (([] :List (S52)),false)))=some (r1,r2):=H
       have A13:=Aside0.mk A130
       clear A130
       by_cases c14:t296=true
       ·subst c14
        have H1:((impl_in.f ((rd_T57 l1 x22_2).f1) 0 (wrap64 (a0 - 1))).bind fun t297=>(if t297=true then(if ((rd_T57 l1 x22_2).f0)= ((rd_T57 l1 x22_2).f1) then(some (([] :List (S52)),false)) else((impl_in.f ((rd_T57 l1 x22_2).f2) 1 100).bind fun t298=>(if t298=true then(if 0≤ (idxB ((rd_T57 l1 x22_2).f0) ((rd_T57 l1 x22_2).f1)) then(if (idxB ((rd_T57 l1 x22_2).f0) ((rd_T57 l1 x22_2).f1))< (x6_2.length:Int) then(impl_BothWays.l0 k2 a0 (x6_2.set ((idxB ((rd_T57 l1 x22_2).f0) ((rd_T57 l1 x22_2).f1)):Int).toNat ((rd_T57 l1 x22_2).f2)) l1 (l1.length:Int) (wrap64 (x22_2+1))) else(none)) else(none)) else(some (([] :List (S52)),false))))) else(some (([] :List (S52)),false))))=some (r1,r2):=by rw [if_pos rfl] at H;exact H
        clear H
        have H:=H1
        clear H1
        replace H:=Option.bind_eq_some_iff.mp H
        obtain⟨t297,A150,H⟩:=H
        replace H:(if t297=true then(if ((rd_T57 l1 x22_2).f0)= ((rd_T57 l1 x22_2).f1) then(some (([] :List (S52)),false)) else((impl_in.f ((rd_T57 l1 x22_2).f2) 1 100).bind fun t298=>(if t298=true then(if 0≤ (idxB ((rd_T57 l1 x22_2).f0) ((rd_T57 l1 x22_2).f1)) then(if (idxB ((rd_T57 l1 x22_2).f0) ((rd_T57 l1 x22_2).f1))< (x6_2.length:Int) then(impl_BothWays.l0 k2 a0 (x6_2.set ((idxB ((rd_T57 l1 x22_2).f0) ((rd_T57 l1 x22_2).f1)):Int).toNat ((rd_T57 l1 x22_2).f2)) l1 (l1.length:Int) (wrap64 (x22_2+1))) else(none)) else(none)) else(some (([] :List (S52)),false))))) else(some (([] :List (S52)),false)))=some (r1,r2):=H
        have A15:=Aside0.mk A150
        clear A150
        by_cases c16:t297=true
        ·subst c16
         have H1:(if ((rd_T57 l1 x22_2).f0)= ((rd_T57 l1 x22_2).f1) then(some (([] :List (S52)),false)) else((impl_in.f ((rd_T57 l1 x22_2).f2) 1 100).bind fun t298=>(if t298=true then(if 0≤ (idxB ((rd_T57 l1 x22_2).f0) ((rd_T57 l1 x22_2).f1)) then(if (idxB ((rd_T57 l1 x22_2).f0) ((rd_T57 l1 x22_2).f1))< (x6_2.length:Int) then(impl_BothWays.l0 k2 a0 (x6_2.set ((idxB ((rd_T57 l1 x22_2).f0) ((rd_T57 l1 x22_2).f1)):Int).toNat ((rd_T57 l1 x22_2).f2)) l1 (l1.length:Int) (wrap64 (x22_2+1))) else(none)) else(none)) else(some (([] :List (S52)),false)))))=some (r1,r2):=by rw [if_pos rfl] at H;exact H
         clear H
         have H:=H1
         clear H1
         by_cases c17:((rd_T57 l1 x22_2).f0)= ((rd_T57 l1 x22_2).f1)
         ·rw [if_pos c17] at H
          have c17b0:(((rd_T57 l1 x22_2).f0)== ((rd_T57 l1 x22_2).f1))=true:=beq_iff_eq.mpr c17
          have c17b1:(((rd_T57 l1 x22_2).f0) != ((rd_T57 l1 x22_2).f1))=false:=bne_eq_false_iff_eq.mpr c17
          clear c17
          simp only [Option.some.injEq,Prod.mk.injEq] at H
          obtain⟨rfl,rfl⟩:=H
          have p294: 0≤ (x22_2:Int):=of_decide_eq_true zq1
          have q294:x22_2< (l1.length:Int):=of_decide_eq_true zq1
          obtain⟨ad294,e294,hx294_0,hx294_1,hx294_2⟩:=at_T57 HR1.out x22_2 p294 q294
          cases e294
          replace hx294_0:=zhx HB hx294_0
          replace hx294_1:=zhx HB hx294_1
          replace hx294_2:=zhx HB hx294_2
          replace p294:=eq_true p294
          replace q294:=eq_true q294
          go_wp2_with (first|((with_reducible refine gate_dst (N:=8) rfl ?_);(try(refine gate_guard (by rfl) ?_;dsimp only));refine box_event ?hg (N:=8) ?hd (cs:= #[.int .i64 0,.int .i64 0,.int .i64 0]) (t:=57) ?hr ?_;(case hd=>rfl);(case hg=>rfl);(case hr=>first|(go_simp;done)|(go_simp;rfl));intro gb295 hg w18 hbox hb;have BK295:=Aside0.mk (hbox);have GW295:=Aside0.mk ((by rw [hg];exact(below_size (by exact zk1 HB)):w.heap.size≤gb295));have GE295:=GW295;replace HO_6:=Aside0.mk (Kd.R_below (zq4 HO_6) hb);replace HB:=Aside0.mk (below_step (by exact zk1 HB) hb);clear hb hbox hg;have hcz19_0:=zcz BK295 0 (.int .i64 0);have hcz19_1:=zcz BK295 1 (.int .i64 0);have hcz19_2:=zcz BK295 2 (.int .i64 0);have hfz19_0:=blk_frozen BK295.out 0;have hfz19_1:=blk_frozen BK295.out 1;have hfz19_2:=blk_frozen BK295.out 2)|((with_reducible refine gate_callee (f:=54) rfl ?_);refine goesL_ (some 30) rfl rfl Try.func54 (by kernel_rfl) rfl #[.int .i64 ((rd_T57 l1 x22_2).f0),.int .i64 0,.int .i64 (wrap64 (a0 - 1))] rfl zq2 ?_;(with_reducible refine(impl_in.calls ((rd_T57 l1 x22_2).f0) 0 (wrap64 (a0 - 1)) true _ A13.out).mono ?_);rintro e w' ⟨rfl,⟨nd,rfl⟩⟩;refine⟨_,rfl,?_⟩)|(go_at_call 54;(with_reducible refine(impl_in.calls ((rd_T57 l1 x22_2).f1) 0 (wrap64 (a0 - 1)) true _ A15.out).mono ?_);rintro e w' ⟨rfl,⟨nd,rfl⟩⟩))
          go_ret2
          exact⟨_,zer,by first|exact Kd.R_nil _ _ _ _ _|exact Kd.N_nil _ _ _ _ _|exact Kd.V_nil _ _ _ _ _|exact Kd.Q_nil _ _ _ _ _|exact Kd.S_nil _ _ _ _ _,by exact zk2 HB GE295.out⟩
         ·rw [if_neg c17] at H
          have c17b0:(((rd_T57 l1 x22_2).f0)== ((rd_T57 l1 x22_2).f1))=false:=beq_eq_false_iff_ne.mpr c17
          have c17b1:(((rd_T57 l1 x22_2).f0) != ((rd_T57 l1 x22_2).f1))=true:=bne_iff_ne.mpr c17
          replace H:=Option.bind_eq_some_iff.mp H
          obtain⟨t298,A200,H⟩:=H
          replace H:(if t298=true then(if 0≤ (idxB ((rd_T57 l1 x22_2).f0) ((rd_T57 l1 x22_2).f1)) then(if (idxB ((rd_T57 l1 x22_2).f0) ((rd_T57 l1 x22_2).f1))< (x6_2.length:Int) then(impl_BothWays.l0 k2 a0 (x6_2.set ((idxB ((rd_T57 l1 x22_2).f0) ((rd_T57 l1 x22_2).f1)):Int).toNat ((rd_T57 l1 x22_2).f2)) l1 (l1.length:Int) (wrap64 (x22_2+1))) else(none)) else(none)) else(some (([] :List (S52)),false)))=some (r1,r2):=H
          have A20:=Aside0.mk A200
          clear A200
          by_cases c21:t298=true
          ·subst c21
           have H1:(if 0≤ (idxB ((rd_T57 l1 x22_2).f0) ((rd_T57 l1 x22_2).f1)) then(if (idxB ((rd_T57 l1 x22_2).f0) ((rd_T57 l1 x22_2).f1))< (x6_2.length:Int) then(impl_BothWays.l0 k2 a0 (x6_2.set ((idxB ((rd_T57 l1 x22_2).f0) ((rd_T57 l1 x22_2).f1)):Int).toNat ((rd_T57 l1 x22_2).f2)) l1 (l1.length:Int) (wrap64 (x22_2+1))) else(none)) else(none))=some (r1,r2):=by rw [if_pos rfl] at H;exact H
           clear H
           have H:=H1
           clear H1
           obtain⟨ji22,hji22⟩ :∃ j_:Int,(idxB ((rd_T57 l1 x22_2).f0) ((rd_T57 l1 x22_2).f1))=j_:=⟨_,rfl⟩
           replace H:(if 0≤ (ji22) then(if (ji22)< (x6_2.length:Int) then(impl_BothWays.l0 k2 a0 (x6_2.set ((ji22):Int).toNat ((rd_T57 l1 x22_2).f2)) l1 (l1.length:Int) (wrap64 (x22_2+1))) else(none)) else(none))=some (r1,r2):=by first|(rw [hji22] at H;exact H)|(simp only [hji22] at H ⊢;exact H)
           (try rw [hji22] at A13)
           (try rw [hji22] at A15)
           (try rw [hji22] at A20)
           by_cases c23: 0≤ (ji22)
           case neg=>exact znn c23 H
           rw [if_pos c23] at H
           have c23b0:decide (0≤ (ji22))=true:=decide_eq_true c23
           obtain⟨ba22,bb22,bc22,bd22,be22⟩:=idxB_ok ((rd_T57 l1 x22_2).f0) ((rd_T57 l1 x22_2).f1) (by rw [hji22];exact c23)
           rw [hji22] at be22
           replace ba22:=eq_true ba22
           replace bb22:=eq_true bb22
           replace bc22:=eq_true bc22
           replace bd22:=eq_true bd22
           clear c23
           by_cases c24:(ji22)< (x6_2.length:Int)
           case neg=>exact znn c24 H
           rw [if_pos c24] at H
           have c24b0:decide ((ji22)< (x6_2.length:Int))=true:=decide_eq_true c24
           clear c24
           obtain⟨y299,hy299⟩ :∃ y_:List Int,y_= (x6_2.set ((ji22):Int).toNat ((rd_T57 l1 x22_2).f2)):=⟨_,rfl⟩
           replace H:(impl_BothWays.l0 k2 a0 y299 l1 (l1.length:Int) (wrap64 (x22_2+1)))=some (r1,r2):=zfh hy299 H
           have Ny299:=Aside0.mk hy299
           clear hy299
           have H':=Aside0.mk H
           clear H
           have p294: 0≤ (x22_2:Int):=of_decide_eq_true zq1
           have q294:x22_2< (l1.length:Int):=of_decide_eq_true zq1
           obtain⟨ad294,e294,hx294_0,hx294_1,hx294_2⟩:=at_T57 HR1.out x22_2 p294 q294
           cases e294
           replace hx294_0:=zhx HB hx294_0
           replace hx294_1:=zhx HB hx294_1
           replace hx294_2:=zhx HB hx294_2
           replace p294:=eq_true p294
           replace q294:=eq_true q294
           try go_wp2_with (first|((with_reducible refine gate_dst (N:=8) rfl ?_);(try(refine gate_guard (by rfl) ?_;dsimp only));refine box_event ?hg (N:=8) ?hd (cs:= #[.int .i64 0,.int .i64 0,.int .i64 0]) (t:=57) ?hr ?_;(case hd=>rfl);(case hg=>rfl);(case hr=>first|(go_simp;done)|(go_simp;rfl));intro gb295 hg w26 hbox hb;have BK295:=Aside0.mk (hbox);have GW295:=Aside0.mk ((by rw [hg];exact(below_size (by exact zk1 HB)):w.heap.size≤gb295));have GE295:=GW295;replace HO_6:=Aside0.mk (Kd.R_below (zq4 HO_6) hb);replace HB:=Aside0.mk (below_step (by exact zk1 HB) hb);clear hb hbox hg;have hcz27_0:=zcz BK295 0 (.int .i64 0);have hcz27_1:=zcz BK295 1 (.int .i64 0);have hcz27_2:=zcz BK295 2 (.int .i64 0);have hfz27_0:=blk_frozen BK295.out 0;have hfz27_1:=blk_frozen BK295.out 1;have hfz27_2:=blk_frozen BK295.out 2)|((with_reducible refine gate_callee (f:=54) rfl ?_);refine goesL_ (some 30) rfl rfl Try.func54 (by kernel_rfl) rfl #[.int .i64 ((rd_T57 l1 x22_2).f0),.int .i64 0,.int .i64 (wrap64 (a0 - 1))] rfl zq2 ?_;(with_reducible refine(impl_in.calls ((rd_T57 l1 x22_2).f0) 0 (wrap64 (a0 - 1)) true _ A13.out).mono ?_);rintro e w' ⟨rfl,⟨nd,rfl⟩⟩;refine⟨_,rfl,?_⟩)|(go_at_call 54;(with_reducible refine(impl_in.calls ((rd_T57 l1 x22_2).f1) 0 (wrap64 (a0 - 1)) true _ A15.out).mono ?_);rintro e w' ⟨rfl,⟨nd,rfl⟩⟩)|(go_at_call 54;(with_reducible refine(impl_in.calls ((rd_T57 l1 x22_2).f2) 1 100 true _ A20.out).mono ?_);rintro e w' ⟨rfl,⟨nd,rfl⟩⟩))
           have n0_:Aside0 (Kd.R (Kd.int .i64) 73 (((w26.setCell ⟨gb295,0,none⟩ (.int .i64 ((rd_T57 l1 x22_2).f0))).setCell ⟨gb295,1,none⟩ (.int .i64 ((rd_T57 l1 x22_2).f1))).setCell ⟨gb295,2,none⟩ (.int .i64 ((rd_T57 l1 x22_2).f2))) w.heap.size (fun _=>True) (.slice (some ⟨gb6,0,none⟩) 144 144) x6_2):=⟨by(with_reducible repeat(first|apply Kd.R_alloc|apply Kd.R_drewN|apply Kd.R_drew));exact Kd.R_mono (Kd.R_far (p:=⟨gb295,2,none⟩) (Kd.R_far (p:=⟨gb295,1,none⟩) (Kd.R_far (p:=⟨gb295,0,none⟩) (Kd.R_types HO_6.out BK295.out (by decide)) (fun _ hk=>hk.2) (.int .i64 ((rd_T57 l1 x22_2).f0))) (fun _ hk=>hk.2) (.int .i64 ((rd_T57 l1 x22_2).f1))) (fun _ hk=>hk.2) (.int .i64 ((rd_T57 l1 x22_2).f2))) (fun _ hk=>trivial)⟩
           have n1_:Aside0 ((((w26.setCell ⟨gb295,0,none⟩ (.int .i64 ((rd_T57 l1 x22_2).f0))).setCell ⟨gb295,1,none⟩ (.int .i64 ((rd_T57 l1 x22_2).f1))).setCell ⟨gb295,2,none⟩ (.int .i64 ((rd_T57 l1 x22_2).f2))).heap[gb295]?=some (.cells #[.int .i64 ((rd_T57 l1 x22_2).f0),.int .i64 ((rd_T57 l1 x22_2).f1),.int .i64 ((rd_T57 l1 x22_2).f2)] 57 (0,0))):=⟨by(with_reducible repeat(first|refine blk_drewN ?_ _|refine blk_drew ?_ |refine blk_alloc ?_ _));refine blk_put (cs:= #[.int .i64 ((rd_T57 l1 x22_2).f0),.int .i64 ((rd_T57 l1 x22_2).f1),.int .i64 0]) ?_ 2 _ rfl;(with_reducible repeat(first|refine blk_drewN ?_ _|refine blk_drew ?_ |refine blk_alloc ?_ _));refine blk_put (cs:= #[.int .i64 ((rd_T57 l1 x22_2).f0),.int .i64 0,.int .i64 0]) ?_ 1 _ rfl;(with_reducible repeat(first|refine blk_drewN ?_ _|refine blk_drew ?_ |refine blk_alloc ?_ _));refine blk_put (cs:= #[.int .i64 0,.int .i64 0,.int .i64 0]) ?_ 0 _ rfl;(with_reducible repeat(first|refine blk_drewN ?_ _|refine blk_drew ?_ |refine blk_alloc ?_ _));exact BK295.out⟩
           have n2_:Aside0 (Below w.heap.size w (((w26.setCell ⟨gb295,0,none⟩ (.int .i64 ((rd_T57 l1 x22_2).f0))).setCell ⟨gb295,1,none⟩ (.int .i64 ((rd_T57 l1 x22_2).f1))).setCell ⟨gb295,2,none⟩ (.int .i64 ((rd_T57 l1 x22_2).f2)))):=⟨by exact zk2 HB GE295.out⟩
           (try clear HO_6)
           (try clear BK295)
           (try clear HB)
           (try simp only [show ∀ (W_:World) (n_:Nat) (a_:Addr) (v_:Value),(World.drewN W_ n_).setCell a_ v_= (World.setCell W_ a_ v_).drewN n_ from fun _ _ _ _=>rfl])
           generalize (((w26.setCell ⟨gb295,0,none⟩ (.int .i64 ((rd_T57 l1 x22_2).f0))).setCell ⟨gb295,1,none⟩ (.int .i64 ((rd_T57 l1 x22_2).f1))).setCell ⟨gb295,2,none⟩ (.int .i64 ((rd_T57 l1 x22_2).f2)))=w28 at n0_ n1_ n2_ ⊢
           have HO_6:=n0_
           have BK295:=n1_
           have HB:=n2_
           clear n0_ n1_ n2_
           (try(rw [drewN_self w28];generalize hq_:World.drewN w28 _=w28;have n0_:Aside0 (Kd.R (Kd.int .i64) 73 w28 w.heap.size (fun _=>True) (.slice (some ⟨gb6,0,none⟩) 144 144) x6_2):=⟨by rw [← hq_];exact(zq4 HO_6)⟩;have n1_:Aside0 (w28.heap[gb295]?=some (.cells #[.int .i64 ((rd_T57 l1 x22_2).f0),.int .i64 ((rd_T57 l1 x22_2).f1),.int .i64 ((rd_T57 l1 x22_2).f2)] 57 (0,0))):=⟨by rw [← hq_];exact(zq3 BK295)⟩;have n2_:Aside0 (Below w.heap.size w w28):=⟨by rw [← hq_];exact(by exact zk2 HB GE295.out)⟩;clear HO_6 BK295 HB hq_;have HO_6:=n0_;have BK295:=n1_;have HB:=n2_;clear n0_ n1_ n2_))
           replace HO_6:=Aside0.mk (Kd.R_drew HO_6.out)
           replace BK295:=Aside0.mk (blk_drew BK295.out)
           replace HB:=Aside0.mk (below_drew1 HB.out)
           have p25: 0≤ ((ji22):Int):=of_decide_eq_true zq1
           have q25:((ji22):Int)< ((x6_2.length:Int):Int):=of_decide_eq_true zq1
           obtain⟨go25,co25,eo25,gb25,gl25,cl25,HG25⟩:=Kd.R_form HO_6.out (by omega)
           injection eo25 with ea_ en_ ec_;injection ea_ with ea_;injection ea_ with ea_;subst ea_
           have GB25:=Aside0.mk gb25
           have GG25:=Aside0.mk HG25
           clear gb25 gl25 HG25
           obtain⟨hx25_0,hf25_0⟩:=Kd.R_celln 0 HO_6.out ((ji22):Int) p25 (by omega)
           rw [be22] at hx25_0 hf25_0
           replace p25:=eq_true p25
           replace q25:=eq_true q25
           have HP30:=Kd.R_putn HO_6.out ((ji22):Int) ((rd_T57 l1 x22_2).f2)
           rw [← Ny299.out] at HP30
           rw [be22] at HP30
           have HQ30:=Aside0.mk HP30
           clear HP30
           refine start_ (n:=9) (S:=fun w'=>w'.cell? ⟨gb295,0,none⟩=some (.int .i64 ((rd_T57 l1 x22_2).f0))∧w'.cell? ⟨gb295,1,none⟩=some (.int .i64 ((rd_T57 l1 x22_2).f1))∧w'.cell? ⟨gb295,2,none⟩=some (.int .i64 ((rd_T57 l1 x22_2).f2))) (ds:= [8]) (mb' 9 0) (by kernel_rfl) rfl rfl ⟨(blk_cell BK295.out 0).trans rfl,(blk_cell BK295.out 1).trans rfl,(blk_cell BK295.out 2).trans rfl⟩ (fun hHeld=>?_);refine with_tabW impl_BothWays.tab9 impl_BothWays.bits9 (fun HT_ HW_=>?_)
           generalize w28.drew=w29 at HO_6 BK295 HB GG25 HQ30 hf25_0 hx25_0 hHeld ⊢
           refine zp1 HT_ 0 53 (mb' 9 1) rfl ?_
           refine zp1 HT_ 2 55 (mb' 9 5) rfl ?_
           refine zp1 HT_ 4 57 (mb' 9 21) rfl ?_
           refine zt1 HT_ HW_ (v:=?_) (a':=?_) 1 54 (mb' 9 23) rfl ?_ hHeld ?_ ?_;rotate_left;(rintro w' ⟨s0,s1,s2⟩;go_simp;with_reducible rfl);rotate_left;exact zpa
           refine zp1 HT_ 6 59 (mb' 9 87) rfl ?_
           refine zt1 HT_ HW_ (v:=?_) (a':=?_) 3 56 (mb' 9 95) rfl ?_ hHeld ?_ ?_;rotate_left;(rintro w' ⟨s0,s1,s2⟩;go_simp;with_reducible rfl);rotate_left;exact zpa
           refine zt1 HT_ HW_ (v:=?_) (a':=?_) 5 58 (mb' 9 127) rfl ?_ hHeld ?_ ?_;rotate_left;(rintro w' ⟨s0,s1,s2⟩;go_simp;with_reducible rfl);rotate_left;exact zpa
           refine zp1 HT_ 7 60 (mb' 9 255) rfl ?_
           refine last_ (i:=8) (N:=none) (mb' 9 511) rfl rfl (one_of HT_.out (by kernel_rfl)) (by decide) (fun K hK=>?_)
           refine skip_ (w1:=?_) (by rfl) rfl ?_ ?_
           rotate_left
           ·go_simp
            rfl
           refine hK.out _ _ ?_
           clear hK K
           refine done_ (done_of HT_.out (by kernel_rfl)) ?_
           try go_wp2
           go_roundg k2
           case measure=>have:=HJ2.out;have:=HK2.out;omega
           case rel=>exact⟨(y299),(wrap64 (x22_2+1)),zrs,H',⟨by have:=HJ2.out;have:=HK2.out;omega⟩,⟨zdr HQ30⟩,⟨by exact zk3 HB GB25.out GE295.out⟩⟩
          ·replace c21:=Bool.eq_false_iff.mpr c21
           subst c21
           have H1:(some (([] :List (S52)),false))=some (r1,r2):=by rw [if_neg (show ¬ (false=true) by decide)] at H;exact H
           clear H
           have H:=H1
           clear H1
           simp only [Option.some.injEq,Prod.mk.injEq] at H
           obtain⟨rfl,rfl⟩:=H
           have p294: 0≤ (x22_2:Int):=of_decide_eq_true zq1
           have q294:x22_2< (l1.length:Int):=of_decide_eq_true zq1
           obtain⟨ad294,e294,hx294_0,hx294_1,hx294_2⟩:=at_T57 HR1.out x22_2 p294 q294
           cases e294
           replace hx294_0:=zhx HB hx294_0
           replace hx294_1:=zhx HB hx294_1
           replace hx294_2:=zhx HB hx294_2
           replace p294:=eq_true p294
           replace q294:=eq_true q294
           go_wp2_with (first|((with_reducible refine gate_dst (N:=8) rfl ?_);(try(refine gate_guard (by rfl) ?_;dsimp only));refine box_event ?hg (N:=8) ?hd (cs:= #[.int .i64 0,.int .i64 0,.int .i64 0]) (t:=57) ?hr ?_;(case hd=>rfl);(case hg=>rfl);(case hr=>first|(go_simp;done)|(go_simp;rfl));intro gb295 hg w31 hbox hb;have BK295:=Aside0.mk (hbox);have GW295:=Aside0.mk ((by rw [hg];exact(below_size (by exact zk1 HB)):w.heap.size≤gb295));have GE295:=GW295;replace HO_6:=Aside0.mk (Kd.R_below (zq4 HO_6) hb);replace HB:=Aside0.mk (below_step (by exact zk1 HB) hb);clear hb hbox hg;have hcz32_0:=zcz BK295 0 (.int .i64 0);have hcz32_1:=zcz BK295 1 (.int .i64 0);have hcz32_2:=zcz BK295 2 (.int .i64 0);have hfz32_0:=blk_frozen BK295.out 0;have hfz32_1:=blk_frozen BK295.out 1;have hfz32_2:=blk_frozen BK295.out 2)|((with_reducible refine gate_callee (f:=54) rfl ?_);refine goesL_ (some 30) rfl rfl Try.func54 (by kernel_rfl) rfl #[.int .i64 ((rd_T57 l1 x22_2).f0),.int .i64 0,.int .i64 (wrap64 (a0 - 1))] rfl zq2 ?_;(with_reducible refine(impl_in.calls ((rd_T57 l1 x22_2).f0) 0 (wrap64 (a0 - 1)) true _ A13.out).mono ?_);rintro e w' ⟨rfl,⟨nd,rfl⟩⟩;refine⟨_,rfl,?_⟩)|(go_at_call 54;(with_reducible refine(impl_in.calls ((rd_T57 l1 x22_2).f1) 0 (wrap64 (a0 - 1)) true _ A15.out).mono ?_);rintro e w' ⟨rfl,⟨nd,rfl⟩⟩)|(go_at_call 54;(with_reducible refine(impl_in.calls ((rd_T57 l1 x22_2).f2) 1 100 false _ A20.out).mono ?_);rintro e w' ⟨rfl,⟨nd,rfl⟩⟩))
           go_ret2
           exact⟨_,zer,by first|exact Kd.R_nil _ _ _ _ _|exact Kd.N_nil _ _ _ _ _|exact Kd.V_nil _ _ _ _ _|exact Kd.Q_nil _ _ _ _ _|exact Kd.S_nil _ _ _ _ _,by exact zk2 HB GE295.out⟩
        ·replace c16:=Bool.eq_false_iff.mpr c16
         subst c16
         have H1:(some (([] :List (S52)),false))=some (r1,r2):=by rw [if_neg (show ¬ (false=true) by decide)] at H;exact H
         clear H
         have H:=H1
         clear H1
         simp only [Option.some.injEq,Prod.mk.injEq] at H
         obtain⟨rfl,rfl⟩:=H
         have p294: 0≤ (x22_2:Int):=of_decide_eq_true zq1
         have q294:x22_2< (l1.length:Int):=of_decide_eq_true zq1
         obtain⟨ad294,e294,hx294_0,hx294_1,hx294_2⟩:=at_T57 HR1.out x22_2 p294 q294
         cases e294
         replace hx294_0:=zhx HB hx294_0
         replace hx294_1:=zhx HB hx294_1
         replace hx294_2:=zhx HB hx294_2
         replace p294:=eq_true p294
         replace q294:=eq_true q294
         go_wp2_with (first|((with_reducible refine gate_dst (N:=8) rfl ?_);(try(refine gate_guard (by rfl) ?_;dsimp only));refine box_event ?hg (N:=8) ?hd (cs:= #[.int .i64 0,.int .i64 0,.int .i64 0]) (t:=57) ?hr ?_;(case hd=>rfl);(case hg=>rfl);(case hr=>first|(go_simp;done)|(go_simp;rfl));intro gb295 hg w33 hbox hb;have BK295:=Aside0.mk (hbox);have GW295:=Aside0.mk ((by rw [hg];exact(below_size (by exact zk1 HB)):w.heap.size≤gb295));have GE295:=GW295;replace HO_6:=Aside0.mk (Kd.R_below (zq4 HO_6) hb);replace HB:=Aside0.mk (below_step (by exact zk1 HB) hb);clear hb hbox hg;have hcz34_0:=zcz BK295 0 (.int .i64 0);have hcz34_1:=zcz BK295 1 (.int .i64 0);have hcz34_2:=zcz BK295 2 (.int .i64 0);have hfz34_0:=blk_frozen BK295.out 0;have hfz34_1:=blk_frozen BK295.out 1;have hfz34_2:=blk_frozen BK295.out 2)|((with_reducible refine gate_callee (f:=54) rfl ?_);refine goesL_ (some 30) rfl rfl Try.func54 (by kernel_rfl) rfl #[.int .i64 ((rd_T57 l1 x22_2).f0),.int .i64 0,.int .i64 (wrap64 (a0 - 1))] rfl zq2 ?_;(with_reducible refine(impl_in.calls ((rd_T57 l1 x22_2).f0) 0 (wrap64 (a0 - 1)) true _ A13.out).mono ?_);rintro e w' ⟨rfl,⟨nd,rfl⟩⟩;refine⟨_,rfl,?_⟩)|(go_at_call 54;(with_reducible refine(impl_in.calls ((rd_T57 l1 x22_2).f1) 0 (wrap64 (a0 - 1)) false _ A15.out).mono ?_);rintro e w' ⟨rfl,⟨nd,rfl⟩⟩))
         go_ret2
         exact⟨_,zer,by first|exact Kd.R_nil _ _ _ _ _|exact Kd.N_nil _ _ _ _ _|exact Kd.V_nil _ _ _ _ _|exact Kd.Q_nil _ _ _ _ _|exact Kd.S_nil _ _ _ _ _,by exact zk2 HB GE295.out⟩
       ·replace c14:=Bool.eq_false_iff.mpr c14
        subst c14
        have H1:(some (([] :List (S52)),false))=some (r1,r2):=by rw [if_neg (show ¬ (false=true) by decide)] at H;exact H
        clear H
        have H:=H1
        clear H1
        simp only [Option.some.injEq,Prod.mk.injEq] at H
        obtain⟨rfl,rfl⟩:=H
        have p294: 0≤ (x22_2:Int):=of_decide_eq_true zq1
        have q294:x22_2< (l1.length:Int):=of_decide_eq_true zq1
        obtain⟨ad294,e294,hx294_0,hx294_1,hx294_2⟩:=at_T57 HR1.out x22_2 p294 q294
        cases e294
        replace hx294_0:=zhx HB hx294_0
        replace hx294_1:=zhx HB hx294_1
        replace hx294_2:=zhx HB hx294_2
        replace p294:=eq_true p294
        replace q294:=eq_true q294
        go_wp2_with (first|((with_reducible refine gate_dst (N:=8) rfl ?_);(try(refine gate_guard (by rfl) ?_;dsimp only));refine box_event ?hg (N:=8) ?hd (cs:= #[.int .i64 0,.int .i64 0,.int .i64 0]) (t:=57) ?hr ?_;(case hd=>rfl);(case hg=>rfl);(case hr=>first|(go_simp;done)|(go_simp;rfl));intro gb295 hg w35 hbox hb;have BK295:=Aside0.mk (hbox);have GW295:=Aside0.mk ((by rw [hg];exact(below_size (by exact zk1 HB)):w.heap.size≤gb295));have GE295:=GW295;replace HO_6:=Aside0.mk (Kd.R_below (zq4 HO_6) hb);replace HB:=Aside0.mk (below_step (by exact zk1 HB) hb);clear hb hbox hg;have hcz36_0:=zcz BK295 0 (.int .i64 0);have hcz36_1:=zcz BK295 1 (.int .i64 0);have hcz36_2:=zcz BK295 2 (.int .i64 0);have hfz36_0:=blk_frozen BK295.out 0;have hfz36_1:=blk_frozen BK295.out 1;have hfz36_2:=blk_frozen BK295.out 2)|((with_reducible refine gate_callee (f:=54) rfl ?_);refine goesL_ (some 30) rfl rfl Try.func54 (by kernel_rfl) rfl #[.int .i64 ((rd_T57 l1 x22_2).f0),.int .i64 0,.int .i64 (wrap64 (a0 - 1))] rfl zq2 ?_;(with_reducible refine(impl_in.calls ((rd_T57 l1 x22_2).f0) 0 (wrap64 (a0 - 1)) false _ A13.out).mono ?_);rintro e w' ⟨rfl,⟨nd,rfl⟩⟩;refine⟨_,rfl,?_⟩))
        go_ret2
        exact⟨_,zer,by first|exact Kd.R_nil _ _ _ _ _|exact Kd.N_nil _ _ _ _ _|exact Kd.V_nil _ _ _ _ _|exact Kd.Q_nil _ _ _ _ _|exact Kd.S_nil _ _ _ _ _,by exact zk2 HB GE295.out⟩
      ·rw [if_neg c10] at H
       have c10b0:decide (x22_2< (l1.length:Int))=false:=decide_eq_false c10
       clear c10
       have H':=Aside0.mk H
       clear H
       go_wp2
       go_loopg [9,63] k2 (fun kq v9 v63 w'=> ∃ (x9_3:List (S52)) (x63_3:Int),v63= .int .i64 x63_3∧Aside0 (impl_BothWays.l1 kq a0 x6_2 x9_3 a0 x63_3=some (r1,r2))∧Aside0 (kq≤k2)∧Aside0 (Kd.R (Kd.int .i64) 73 w' w.heap.size (fun _=>True) (.slice (some ⟨gb6,0,none⟩) 144 144) x6_2)∧Aside0 (Kd.R k52 52 w' w.heap.size (fun _=>True) v9 x9_3)∧Aside0 (Below w.heap.size w w'))
       case atStart=>exact⟨(([] :List (S52))),(0),zrs,H',⟨Nat.le_refl _⟩,⟨zdr HO_6⟩,⟨by first|exact Kd.R_nil _ _ _ _ _|exact Kd.N_nil _ _ _ _ _|exact Kd.V_nil _ _ _ _ _|exact Kd.Q_nil _ _ _ _ _|exact Kd.S_nil _ _ _ _ _⟩,⟨by exact zk1 HB⟩⟩
       case round=>
        clear H'
        try clear c1
        try clear c2
        try clear p2
        try clear q2
        try clear hx2
        try clear hf2
        try clear c5
        try clear c6
        try clear p6
        try clear c7
        try clear c7b0
        try clear c7b1
        try clear c10
        try clear c10b0
        try clear c11
        try clear c11b0
        try clear c12
        try clear c12b0
        try clear c14
        try clear c16
        try clear c17
        try clear c17b0
        try clear c17b1
        try clear c21
        try clear c23
        try clear c23b0
        try clear c24
        try clear c24b0
        try clear p25
        try clear q25
        try clear hx25
        try clear hf25
        try clear p29
        try clear q29
        try clear hx29
        try clear hcz19_0
        try clear hcz19_1
        try clear hcz19_2
        try clear hcz27_0
        try clear hcz27_1
        try clear hcz27_2
        try clear hcz32_0
        try clear hcz32_1
        try clear hcz32_2
        try clear hcz34_0
        try clear hcz34_1
        try clear hcz34_2
        try clear hcz36_0
        try clear hcz36_1
        try clear hcz36_2
        try clear hfz19_0
        try clear hfz19_1
        try clear hfz19_2
        try clear hfz27_0
        try clear hfz27_1
        try clear hfz27_2
        try clear hfz32_0
        try clear hfz32_1
        try clear hfz32_2
        try clear hfz34_0
        try clear hfz34_1
        try clear hfz34_2
        try clear hfz36_0
        try clear hfz36_1
        try clear hfz36_2
        try clear hx25_0
        try clear hx294_0
        try clear hx294_1
        try clear hx294_2
        try clear p2
        try clear p25
        try clear p294
        try clear q25
        try clear q294
        obtain⟨x9_3,x63_3,rfl,HA,HK3,HO_6,HO_9,HB⟩:=hrel
        cases gk with
        |zero=>exact absurd HA.out (by simp [impl_BothWays.l1])
        |succ k3=>
         have H:=HA.out
         clear HA
         simp only [impl_BothWays.l1] at H
         by_cases c37:x63_3<a0
         ·rw [if_pos c37] at H
          have c37b0:decide (x63_3<a0)=true:=decide_eq_true c37
          clear c37
          have H':=Aside0.mk H
          clear H
          go_wp2
          go_loopg [9,11] k3 (fun kq v9 v11 w'=> ∃ (x9_4:List (S52)) (x11_4:Int),v11= .int .i64 x11_4∧Aside0 (impl_BothWays.l2 kq a0 x6_2 x9_4 x63_3 x11_4 a0 x63_3=some (r1,r2))∧Aside0 (kq≤k3)∧Aside0 (Kd.R (Kd.int .i64) 73 w' w.heap.size (fun _=>True) (.slice (some ⟨gb6,0,none⟩) 144 144) x6_2)∧Aside0 (Kd.R k52 52 w' w.heap.size (fun _=>True) v9 x9_4)∧Aside0 (Below w.heap.size w w'))
          case atStart=>exact⟨(x9_3),(wrap64 (x63_3+1)),zrs,H',⟨Nat.le_refl _⟩,⟨zdr HO_6⟩,⟨zdr HO_9⟩,⟨by exact zk1 HB⟩⟩
          case round=>
           clear H'
           try clear c1
           try clear c2
           try clear p2
           try clear q2
           try clear hx2
           try clear hf2
           try clear c3
           try clear c5
           try clear c6
           try clear p6
           try clear c7
           try clear c7b0
           try clear c7b1
           try clear c10
           try clear c10b0
           try clear c11
           try clear c11b0
           try clear c12
           try clear c12b0
           try clear c14
           try clear c16
           try clear c17
           try clear c17b0
           try clear c17b1
           try clear c21
           try clear c23
           try clear c23b0
           try clear c24
           try clear c24b0
           try clear p25
           try clear q25
           try clear hx25
           try clear hf25
           try clear p29
           try clear q29
           try clear hx29
           try clear c37
           try clear c37b0
           try clear hcz19_0
           try clear hcz19_1
           try clear hcz19_2
           try clear hcz27_0
           try clear hcz27_1
           try clear hcz27_2
           try clear hcz32_0
           try clear hcz32_1
           try clear hcz32_2
           try clear hcz34_0
           try clear hcz34_1
           try clear hcz34_2
           try clear hcz36_0
           try clear hcz36_1
           try clear hcz36_2
           try clear hfz19_0
           try clear hfz19_1
           try clear hfz19_2
           try clear hfz27_0
           try clear hfz27_1
           try clear hfz27_2
           try clear hfz32_0
           try clear hfz32_1
           try clear hfz32_2
           try clear hfz34_0
           try clear hfz34_1
           try clear hfz34_2
           try clear hfz36_0
           try clear hfz36_1
           try clear hfz36_2
           try clear hx25_0
           try clear hx294_0
           try clear hx294_1
           try clear hx294_2
           try clear p2
           try clear p25
           try clear p29
           try clear p294
           try clear p6
           try clear q2
           try clear q25
           try clear q29
           try clear q294
           obtain⟨x9_4,x11_4,rfl,HA,HK4,HO_6,HO_9,HB⟩:=hrel
           cases gk with
           |zero=>exact absurd HA.out (by simp [impl_BothWays.l2])
           |succ k4=>
            have H:=HA.out
            clear HA
            simp only [impl_BothWays.l2] at H
            by_cases c38:x11_4<a0
            ·rw [if_pos c38] at H
             have c38b0:decide (x11_4<a0)=true:=decide_eq_true c38
             clear c38
             obtain⟨ji39,hji39⟩ :∃ j_:Int,(idxB x63_3 x11_4)=j_:=⟨_,rfl⟩
             replace H:(if 0≤ (ji39) then(if (ji39)< (x6_2.length:Int) then(if (rd x6_2 (ji39)) > 0 then(if 0≤ (idxB x11_4 x63_3) then(if (idxB x11_4 x63_3)< (x6_2.length:Int) then(if (rd x6_2 (idxB x11_4 x63_3)) > 0 then(if x9_4.length< 5864062014805 then(impl_BothWays.l2 k4 a0 x6_2 (x9_4++ [(⟨x63_3,x11_4,mx (rd x6_2 (ji39)) (rd x6_2 (idxB x11_4 x63_3))⟩ :S52)]) x63_3 (wrap64 (x11_4+1)) a0 x63_3) else(none)) else(impl_BothWays.l2 k4 a0 x6_2 x9_4 x63_3 (wrap64 (x11_4+1)) a0 x63_3)) else(none)) else(none)) else(impl_BothWays.l2 k4 a0 x6_2 x9_4 x63_3 (wrap64 (x11_4+1)) a0 x63_3)) else(none)) else(none))=some (r1,r2):=by first|(rw [hji39] at H;exact H)|(simp only [hji39] at H ⊢;exact H)
             by_cases c40: 0≤ (ji39)
             case neg=>exact znn c40 H
             rw [if_pos c40] at H
             have c40b0:decide (0≤ (ji39))=true:=decide_eq_true c40
             obtain⟨ba39,bb39,bc39,bd39,be39⟩:=idxB_ok x63_3 x11_4 (by rw [hji39];exact c40)
             rw [hji39] at be39
             replace ba39:=eq_true ba39
             replace bb39:=eq_true bb39
             replace bc39:=eq_true bc39
             replace bd39:=eq_true bd39
             clear c40
             by_cases c41:(ji39)< (x6_2.length:Int)
             case neg=>exact znn c41 H
             rw [if_pos c41] at H
             have c41b0:decide ((ji39)< (x6_2.length:Int))=true:=decide_eq_true c41
             clear c41
             by_cases c42:(rd x6_2 (ji39)) > 0
             ·rw [if_pos c42] at H
              have c42b0:decide (0< (rd x6_2 (ji39)))=true:=decide_eq_true c42
              clear c42
              obtain⟨ji43,hji43⟩ :∃ j_:Int,(idxB x11_4 x63_3)=j_:=⟨_,rfl⟩
              replace H:(if 0≤ (ji43) then(if (ji43)< (x6_2.length:Int) then(if (rd x6_2 (ji43)) > 0 then(if x9_4.length< 5864062014805 then(impl_BothWays.l2 k4 a0 x6_2 (x9_4++ [(⟨x63_3,x11_4,mx (rd x6_2 (ji39)) (rd x6_2 (ji43))⟩ :S52)]) x63_3 (wrap64 (x11_4+1)) a0 x63_3) else(none)) else(impl_BothWays.l2 k4 a0 x6_2 x9_4 x63_3 (wrap64 (x11_4+1)) a0 x63_3)) else(none)) else(none))=some (r1,r2):=by first|(rw [hji43] at H;exact H)|(simp only [hji43] at H ⊢;exact H)
              by_cases c44: 0≤ (ji43)
              case neg=>exact znn c44 H
              rw [if_pos c44] at H
              have c44b0:decide (0≤ (ji43))=true:=decide_eq_true c44
              obtain⟨ba43,bb43,bc43,bd43,be43⟩:=idxB_ok x11_4 x63_3 (by rw [hji43];exact c44)
              rw [hji43] at be43
              replace ba43:=eq_true ba43
              replace bb43:=eq_true bb43
              replace bc43:=eq_true bc43
              replace bd43:=eq_true bd43
              clear c44
              by_cases c45:(ji43)< (x6_2.length:Int)
              case neg=>exact znn c45 H
              rw [if_pos c45] at H
              have c45b0:decide ((ji43)< (x6_2.length:Int))=true:=decide_eq_true c45
              clear c45
              by_cases c46:(rd x6_2 (ji43)) > 0
              ·rw [if_pos c46] at H
               have c46b0:decide (0< (rd x6_2 (ji43)))=true:=decide_eq_true c46
               clear c46
               obtain⟨ji47,hji47⟩ :∃ j_:Int,(mx (rd x6_2 (ji39)) (rd x6_2 (ji43)))=j_:=⟨_,rfl⟩
               replace H:(if x9_4.length< 5864062014805 then(impl_BothWays.l2 k4 a0 x6_2 (x9_4++ [(⟨x63_3,x11_4,ji47⟩ :S52)]) x63_3 (wrap64 (x11_4+1)) a0 x63_3) else(none))=some (r1,r2):=by first|(rw [hji47] at H;exact H)|(simp only [hji47] at H ⊢;exact H)
               have hji47_:(if (rd x6_2 (ji39))< (rd x6_2 (ji43)) then(rd x6_2 (ji43)) else(rd x6_2 (ji39)))=ji47:=hji47
               by_cases c48:x9_4.length< 5864062014805
               case neg=>exact znn c48 H
               rw [if_pos c48] at H
               have LMc48:=Aside0.mk c48
               clear c48
               obtain⟨y304,hy304⟩ :∃ y_:List (S52),y_= (x9_4++ [(⟨x63_3,x11_4,ji47⟩ :S52)]):=⟨_,rfl⟩
               replace H:(impl_BothWays.l2 k4 a0 x6_2 y304 x63_3 (wrap64 (x11_4+1)) a0 x63_3)=some (r1,r2):=zfh hy304 H
               have Ny304:=Aside0.mk hy304
               clear hy304
               have H':=Aside0.mk H
               clear H
               have p300: 0≤ ((ji39):Int):=of_decide_eq_true zq1
               have q300:(ji39)< (x6_2.length:Int):=of_decide_eq_true zq1
               obtain⟨ad300,e300,hx300_0⟩:=Kd.at_int (Kd.R_reads' HO_6.out).2.2 (ji39) p300 q300
               cases e300
               rw [be39] at hx300_0
               rw [addB] at hx300_0
               replace p300:=eq_true p300
               replace q300:=eq_true q300
               have p301: 0≤ ((ji43):Int):=of_decide_eq_true zq1
               have q301:(ji43)< (x6_2.length:Int):=of_decide_eq_true zq1
               obtain⟨ad301,e301,hx301_0⟩:=Kd.at_int (Kd.R_reads' HO_6.out).2.2 (ji43) p301 q301
               cases e301
               rw [be43] at hx301_0
               rw [addB] at hx301_0
               replace p301:=eq_true p301
               replace q301:=eq_true q301
               try go_wp2
               replace HO_6:=Aside0.mk (Kd.R_drew HO_6.out)
               replace HO_9:=Aside0.mk (Kd.R_drew HO_9.out)
               replace HB:=Aside0.mk (below_drew1 HB.out)
               have p302: 0≤ ((ji39):Int):=of_decide_eq_true zq1
               have q302:(ji39)< (x6_2.length:Int):=of_decide_eq_true zq1
               obtain⟨ad302,e302,hx302_0⟩:=Kd.at_int (Kd.R_reads' HO_6.out).2.2 (ji39) p302 q302
               cases e302
               rw [be39] at hx302_0
               rw [addB] at hx302_0
               replace p302:=eq_true p302
               replace q302:=eq_true q302
               have p303: 0≤ ((ji43):Int):=of_decide_eq_true zq1
               have q303:(ji43)< (x6_2.length:Int):=of_decide_eq_true zq1
               obtain⟨ad303,e303,hx303_0⟩:=Kd.at_int (Kd.R_reads' HO_6.out).2.2 (ji43) p303 q303
               cases e303
               rw [be43] at hx303_0
               rw [addB] at hx303_0
               replace p303:=eq_true p303
               replace q303:=eq_true q303
               refine start_ (n:=18) (S:=fun w'=>w'.cell? ⟨gb6,x63_3.toNat * 12+x11_4.toNat,none⟩=some (.int .i64 (rd x6_2 (ji39)))∧w'.cell? ⟨gb6,x11_4.toNat * 12+x63_3.toNat,none⟩=some (.int .i64 (rd x6_2 (ji43)))) (ds:= [15,16]) (mb' 18 0) (by kernel_rfl) rfl rfl ⟨hx302_0,hx303_0⟩ (fun hHeld=>?_);refine with_tabW impl_BothWays.tab19 impl_BothWays.bits19 (fun HT_ HW_=>?_)
               generalize wr.drew=w50 at HO_6 HO_9 HB hx302_0 hx303_0 hHeld ⊢
               refine zp1 HT_ 0 87 (mb' 18 1) rfl ?_
               refine zp1 HT_ 1 88 (mb' 18 3) rfl ?_
               refine zp1 HT_ 2 89 (mb' 18 7) rfl ?_
               refine zp1 HT_ 3 90 (mb' 18 15) rfl ?_
               refine zp1 HT_ 4 91 (mb' 18 31) rfl ?_
               refine zp1 HT_ 5 92 (mb' 18 63) rfl ?_
               refine zp1 HT_ 6 93 (mb' 18 127) rfl ?_
               refine zp1 HT_ 8 95 (mb' 18 383) rfl ?_
               refine zp1 HT_ 9 96 (mb' 18 895) rfl ?_
               refine zp1 HT_ 10 97 (mb' 18 1919) rfl ?_
               refine zp1 HT_ 11 98 (mb' 18 3967) rfl ?_
               refine zt1 HT_ HW_ (v:=?_) (a':=?_) 7 94 (mb' 18 4095) rfl ?_ hHeld ?_ ?_;rotate_left;(rintro w' ⟨s0,s1⟩;go_simp;with_reducible rfl);rotate_left;exact zpa
               refine zt1 HT_ HW_ (v:=?_) (a':=?_) 12 99 (mb' 18 8191) rfl ?_ hHeld ?_ ?_;rotate_left;(rintro w' ⟨s0,s1⟩;go_simp;with_reducible rfl);rotate_left;exact zpa
               refine zp1 HT_ 13 100 (mb' 18 16383) rfl ?_
               refine zp1 HT_ 14 101 (mb' 18 32767) rfl ?_
               refine last_ (i:=15) (N:=some 102) (mb' 18 65535) rfl rfl (one_of HT_.out (by kernel_rfl)) (by decide) (fun K hK=>?_)
               refine value_ (w1:=?_) (v:=?_) (by rfl) rfl ?_ ?_
               rotate_left 2
               ·go_simp
                constructor
                ·rfl
                ·rfl
               refine hK.out _ _ ?_
               clear hK K
               refine norm_ (a':=?_) ?_ ?_
               rotate_left
               ·show Act.put _ (some 102) _=_
                simp only [Act.put,List.setIfInBounds_toArray,List.set_cons_zero,List.set_cons_succ,i64_w,i32_w]
                rfl
               refine last_ (i:=16) (N:=some 103) (mb' 18 131071) rfl rfl (one_of HT_.out (by kernel_rfl)) (by decide) (fun K hK=>?_)
               refine Kd.R_append_step k52 (w0:=w) w.heap.size (by rfl) (.tmp 87) (.tmp 102) 26 52 (.agg #[(.int .i64 0),(.int .i64 0),(.int .i64 0)]) 24 rfl Try.underlying26 info52 rfl (by decide) (by omega) u9 x9_4 (⟨x63_3,x11_4,ji47⟩ :S52) [.int .i64 x63_3,.int .i64 x11_4,.int .i64 ji47] (fun _=>True) (fun _=>False) rfl rfl ?aP (fun _ hk=>hk.elim) ?aF ?aO ?aB ?aS ?aL ?_
               (case aP=>exact k52_mkM _ _ _ (⟨x63_3,x11_4,ji47⟩ :S52))
               (case aB=>exact(by exact zk1 HB))
               (case aF=>exact(fun _ _=>trivial))
               (case aO=>exact(zq4 HO_9))
               (case aS=>exact(below_size (by exact zk1 HB)))
               (case aL=>have:=LMc48.out;omega)
               intro v305 w51 ho hb hg hat
               rw [← Ny304.out] at ho
               have HO306:=Aside0.mk (ho)
               replace HO_6:=Aside0.mk (Kd.R_over' (zq4 HO_6) (Kd.R_typed (zq4 HO_9)) (by decide) hg)
               replace HB:=Aside0.mk (hb)
               clear HO_9
               clear ho hb hg hat
               refine hK.out _ _ ?_
               clear hK K
               refine norm_ (a':=?_) ?_ ?_
               rotate_left
               ·show Act.put _ (some 103) _=_
                simp only [Act.put,List.setIfInBounds_toArray,List.set_cons_zero,List.set_cons_succ,i64_w,i32_w]
                rfl
               refine zp1 HT_ 17 9 (mb' 18 262143) rfl ?_
               refine done_ (done_of HT_.out (by kernel_rfl)) ?_
               try go_wp2
               go_roundg k4
               case measure=>have:=HJ2.out;have:=HK2.out;have:=HK3.out;have:=HK4.out;omega
               case rel=>exact⟨(y304),(wrap64 (x11_4+1)),zrs,H',⟨by have:=HJ2.out;have:=HK2.out;have:=HK3.out;have:=HK4.out;omega⟩,⟨zdr HO_6⟩,⟨zdr HO306⟩,⟨by exact zk1 HB⟩⟩
              ·rw [if_neg c46] at H
               have c46b0:decide (0< (rd x6_2 (ji43)))=false:=decide_eq_false c46
               clear c46
               have H':=Aside0.mk H
               clear H
               have p300: 0≤ ((ji39):Int):=of_decide_eq_true zq1
               have q300:(ji39)< (x6_2.length:Int):=of_decide_eq_true zq1
               obtain⟨ad300,e300,hx300_0⟩:=Kd.at_int (Kd.R_reads' HO_6.out).2.2 (ji39) p300 q300
               cases e300
               rw [be39] at hx300_0
               rw [addB] at hx300_0
               replace p300:=eq_true p300
               replace q300:=eq_true q300
               have p301: 0≤ ((ji43):Int):=of_decide_eq_true zq1
               have q301:(ji43)< (x6_2.length:Int):=of_decide_eq_true zq1
               obtain⟨ad301,e301,hx301_0⟩:=Kd.at_int (Kd.R_reads' HO_6.out).2.2 (ji43) p301 q301
               cases e301
               rw [be43] at hx301_0
               rw [addB] at hx301_0
               replace p301:=eq_true p301
               replace q301:=eq_true q301
               go_wp2
               go_roundg k4
               case measure=>have:=HJ2.out;have:=HK2.out;have:=HK3.out;have:=HK4.out;omega
               case rel=>exact⟨(x9_4),(wrap64 (x11_4+1)),zrs,H',⟨by have:=HJ2.out;have:=HK2.out;have:=HK3.out;have:=HK4.out;omega⟩,⟨zdr HO_6⟩,⟨zdr HO_9⟩,⟨by exact zk1 HB⟩⟩
             ·rw [if_neg c42] at H
              have c42b0:decide (0< (rd x6_2 (ji39)))=false:=decide_eq_false c42
              clear c42
              have H':=Aside0.mk H
              clear H
              have p300: 0≤ ((ji39):Int):=of_decide_eq_true zq1
              have q300:(ji39)< (x6_2.length:Int):=of_decide_eq_true zq1
              obtain⟨ad300,e300,hx300_0⟩:=Kd.at_int (Kd.R_reads' HO_6.out).2.2 (ji39) p300 q300
              cases e300
              rw [be39] at hx300_0
              rw [addB] at hx300_0
              replace p300:=eq_true p300
              replace q300:=eq_true q300
              go_wp2
              go_roundg k4
              case measure=>have:=HJ2.out;have:=HK2.out;have:=HK3.out;have:=HK4.out;omega
              case rel=>exact⟨(x9_4),(wrap64 (x11_4+1)),zrs,H',⟨by have:=HJ2.out;have:=HK2.out;have:=HK3.out;have:=HK4.out;omega⟩,⟨zdr HO_6⟩,⟨zdr HO_9⟩,⟨by exact zk1 HB⟩⟩
            ·rw [if_neg c38] at H
             have c38b0:decide (x11_4<a0)=false:=decide_eq_false c38
             clear c38
             have H':=Aside0.mk H
             clear H
             go_wp2
             go_roundg k4
             case measure=>have:=HJ2.out;have:=HK2.out;have:=HK3.out;have:=HK4.out;omega
             case rel=>exact⟨(x9_4),(wrap64 (x63_3+1)),zrs,H',⟨by have:=HJ2.out;have:=HK2.out;have:=HK3.out;have:=HK4.out;omega⟩,⟨zdr HO_6⟩,⟨zdr HO_9⟩,⟨by exact zk1 HB⟩⟩
         ·rw [if_neg c37] at H
          have c37b0:decide (x63_3<a0)=false:=decide_eq_false c37
          clear c37
          by_cases c54:(x9_3.length:Int) > 40
          ·rw [if_pos c54] at H
           have c54b0:decide (40< (x9_3.length:Int))=true:=decide_eq_true c54
           have c54b1:decide (40<x9_3.length)=true:=decide_eq_true (by omega)
           clear c54
           simp only [Option.some.injEq,Prod.mk.injEq] at H
           obtain⟨rfl,rfl⟩:=H
           obtain⟨Ao55,co55,eo55⟩:=Kd.R_slice HO_9.out
           subst eo55
           go_wp2
           go_ret2
           exact⟨_,zer,by first|exact Kd.R_nil _ _ _ _ _|exact Kd.N_nil _ _ _ _ _|exact Kd.V_nil _ _ _ _ _|exact Kd.Q_nil _ _ _ _ _|exact Kd.S_nil _ _ _ _ _,by exact zk1 HB⟩
          ·rw [if_neg c54] at H
           have c54b0:decide (40< (x9_3.length:Int))=false:=decide_eq_false c54
           have c54b1:decide (40<x9_3.length)=false:=decide_eq_false (by omega)
           clear c54
           simp only [Option.some.injEq,Prod.mk.injEq] at H
           obtain⟨rfl,rfl⟩:=H
           obtain⟨Ao56,co56,eo56⟩:=Kd.R_slice HO_9.out
           subst eo56
           go_wp2
           go_ret2
           exact⟨_,zer,zdr HO_9,by exact zk1 HB⟩
def laws_eqTold.f (a0_0:Int) (a0_1:Int) (a0_2:Int) (a1_0:Int) (a1_1:Int) (a1_2:Int):Option (Bool):=if a0_0=a1_0 then(if a0_1=a1_1 then(if a0_2=a1_2 then(some true) else(some false)) else(some false)) else(some false)
set_option maxHeartbeats 8000000 in
set_option maxRecDepth 100000 in
theorem laws_eqTold.calls (a0_0:Int) (a0_1:Int) (a0_2:Int) (a1_0:Int) (a1_1:Int) (a1_2:Int) (r:Bool) (w:World) (h:laws_eqTold.f a0_0 a0_1 a0_2 a1_0 a1_1 a1_2=some r):
  Calls Try.prog 55 #[.agg #[.int .i64 a0_0,.int .i64 a0_1,.int .i64 a0_2],.agg #[.int .i64 a1_0,.int .i64 a1_1,.int .i64 a1_2]] w fun e w'=>e= .returned (.bool r)∧Below w.heap.size w w':=by
 have hu57:=Try.underlying57
 have HB:=Aside0.mk (Below.refl w.heap.size w)
 have H:(if a0_0=a1_0 then(if a0_1=a1_1 then(if a0_2=a1_2 then(some true) else(some false)) else(some false)) else(some false))=some r:=h
 clear h
 by_cases c3:a0_0=a1_0
 ·rw [if_pos c3] at H
  have c3b0:(a0_0==a1_0)=true:=beq_iff_eq.mpr c3
  have c3b1:(a0_0 !=a1_0)=false:=bne_eq_false_iff_eq.mpr c3
  clear c3
  by_cases c4:a0_1=a1_1
  ·rw [if_pos c4] at H
   have c4b0:(a0_1==a1_1)=true:=beq_iff_eq.mpr c4
   have c4b1:(a0_1 !=a1_1)=false:=bne_eq_false_iff_eq.mpr c4
   clear c4
   by_cases c5:a0_2=a1_2
   ·rw [if_pos c5] at H
    have c5b0:(a0_2==a1_2)=true:=beq_iff_eq.mpr c5
    have c5b1:(a0_2 !=a1_2)=false:=bne_eq_false_iff_eq.mpr c5
    clear c5
    obtain rfl:=Option.some.inj H
    go_enter Try.func55,Try.ntmps55
    go_wp2_with (first|((with_reducible refine gate_dst (N:=2) rfl ?_);refine box_event ?hg (N:=2) ?hd (cs:= #[.int .i64 a0_0,.int .i64 a0_1,.int .i64 a0_2]) (t:=57) ?hr ?_;(case hd=>rfl);(case hg=>rfl);(case hr=>first|(go_simp;done)|(go_simp;rfl));intro gb307 hg w6 hbox hb;have BK307:=Aside0.mk (hbox);have GW307:=Aside0.mk ((by rw [hg];exact(below_size (by exact zk1 HB)):w.heap.size≤gb307));have GE307:=GW307;replace HB:=Aside0.mk (below_step (by exact zk1 HB) hb);clear hb hbox hg)|((with_reducible refine gate_dst (N:=3) rfl ?_);refine box_event ?hg (N:=3) ?hd (cs:= #[.int .i64 a1_0,.int .i64 a1_1,.int .i64 a1_2]) (t:=57) ?hr ?_;(case hd=>rfl);(case hg=>rfl);(case hr=>first|(go_simp;done)|(go_simp;rfl));intro gb308 hg w7 hbox hb;have BK308:=Aside0.mk (hbox);have GW308:=Aside0.mk ((by rw [hg];exact(below_size (by exact zk2 HB GE307.out)):w.heap.size≤gb308));have GE308:=GW308;have NB307_308:=Aside0.mk ((by rw [hg];exact Nat.ne_of_lt (blk_lt (g:=gb307) (o:= .cells #[.int .i64 a0_0,.int .i64 a0_1,.int .i64 a0_2] 57 (0,0)) (zq3 BK307)):gb307≠gb308));have NB308_307:=Aside0.mk ((by rw [hg];exact Nat.ne_of_gt (blk_lt (g:=gb307) (o:= .cells #[.int .i64 a0_0,.int .i64 a0_1,.int .i64 a0_2] 57 (0,0)) (zq3 BK307)):gb308≠gb307));replace BK307:=Aside0.mk (blk_below (g:=gb307) (o:= .cells #[.int .i64 a0_0,.int .i64 a0_1,.int .i64 a0_2] 57 (0,0)) (zq3 BK307) hb);replace HB:=Aside0.mk (below_step (by exact zk2 HB GE307.out) hb);clear hb hbox hg;have hnb8:=NB307_308.out;have hnc8:=NB308_307.out;have hcz9_0:=zcz BK307 0 (.int .i64 a0_0);have hcz9_1:=zcz BK307 1 (.int .i64 a0_1);have hcz9_2:=zcz BK307 2 (.int .i64 a0_2);have hfz9_0:=blk_frozen BK307.out 0;have hfz9_1:=blk_frozen BK307.out 1;have hfz9_2:=blk_frozen BK307.out 2;have hcz10_0:=zcz BK308 0 (.int .i64 a1_0);have hcz10_1:=zcz BK308 1 (.int .i64 a1_1);have hcz10_2:=zcz BK308 2 (.int .i64 a1_2);have hfz10_0:=blk_frozen BK308.out 0;have hfz10_1:=blk_frozen BK308.out 1;have hfz10_2:=blk_frozen BK308.out 2))
    go_ret
    exact⟨zer,by exact zk3 HB GE307.out GE308.out⟩
   ·rw [if_neg c5] at H
    have c5b0:(a0_2==a1_2)=false:=beq_eq_false_iff_ne.mpr c5
    have c5b1:(a0_2 !=a1_2)=true:=bne_iff_ne.mpr c5
    obtain rfl:=Option.some.inj H
    go_enter Try.func55,Try.ntmps55
    go_wp2_with (first|((with_reducible refine gate_dst (N:=2) rfl ?_);refine box_event ?hg (N:=2) ?hd (cs:= #[.int .i64 a0_0,.int .i64 a0_1,.int .i64 a0_2]) (t:=57) ?hr ?_;(case hd=>rfl);(case hg=>rfl);(case hr=>first|(go_simp;done)|(go_simp;rfl));intro gb307 hg w11 hbox hb;have BK307:=Aside0.mk (hbox);have GW307:=Aside0.mk ((by rw [hg];exact(below_size (by exact zk1 HB)):w.heap.size≤gb307));have GE307:=GW307;replace HB:=Aside0.mk (below_step (by exact zk1 HB) hb);clear hb hbox hg)|((with_reducible refine gate_dst (N:=3) rfl ?_);refine box_event ?hg (N:=3) ?hd (cs:= #[.int .i64 a1_0,.int .i64 a1_1,.int .i64 a1_2]) (t:=57) ?hr ?_;(case hd=>rfl);(case hg=>rfl);(case hr=>first|(go_simp;done)|(go_simp;rfl));intro gb308 hg w12 hbox hb;have BK308:=Aside0.mk (hbox);have GW308:=Aside0.mk ((by rw [hg];exact(below_size (by exact zk2 HB GE307.out)):w.heap.size≤gb308));have GE308:=GW308;have NB307_308:=Aside0.mk ((by rw [hg];exact Nat.ne_of_lt (blk_lt (g:=gb307) (o:= .cells #[.int .i64 a0_0,.int .i64 a0_1,.int .i64 a0_2] 57 (0,0)) (zq3 BK307)):gb307≠gb308));have NB308_307:=Aside0.mk ((by rw [hg];exact Nat.ne_of_gt (blk_lt (g:=gb307) (o:= .cells #[.int .i64 a0_0,.int .i64 a0_1,.int .i64 a0_2] 57 (0,0)) (zq3 BK307)):gb308≠gb307));replace BK307:=Aside0.mk (blk_below (g:=gb307) (o:= .cells #[.int .i64 a0_0,.int .i64 a0_1,.int .i64 a0_2] 57 (0,0)) (zq3 BK307) hb);replace HB:=Aside0.mk (below_step (by exact zk2 HB GE307.out) hb);clear hb hbox hg;have hnb13:=NB307_308.out;have hnc13:=NB308_307.out;have hcz14_0:=zcz BK307 0 (.int .i64 a0_0);have hcz14_1:=zcz BK307 1 (.int .i64 a0_1);have hcz14_2:=zcz BK307 2 (.int .i64 a0_2);have hfz14_0:=blk_frozen BK307.out 0;have hfz14_1:=blk_frozen BK307.out 1;have hfz14_2:=blk_frozen BK307.out 2;have hcz15_0:=zcz BK308 0 (.int .i64 a1_0);have hcz15_1:=zcz BK308 1 (.int .i64 a1_1);have hcz15_2:=zcz BK308 2 (.int .i64 a1_2);have hfz15_0:=blk_frozen BK308.out 0;have hfz15_1:=blk_frozen BK308.out 1;have hfz15_2:=blk_frozen BK308.out 2))
    go_ret
    exact⟨zer,by exact zk3 HB GE307.out GE308.out⟩
  ·rw [if_neg c4] at H
   have c4b0:(a0_1==a1_1)=false:=beq_eq_false_iff_ne.mpr c4
   have c4b1:(a0_1 !=a1_1)=true:=bne_iff_ne.mpr c4
   obtain rfl:=Option.some.inj H
   go_enter Try.func55,Try.ntmps55
   go_wp2_with (first|((with_reducible refine gate_dst (N:=2) rfl ?_);refine box_event ?hg (N:=2) ?hd (cs:= #[.int .i64 a0_0,.int .i64 a0_1,.int .i64 a0_2]) (t:=57) ?hr ?_;(case hd=>rfl);(case hg=>rfl);(case hr=>first|(go_simp;done)|(go_simp;rfl));intro gb307 hg w16 hbox hb;have BK307:=Aside0.mk (hbox);have GW307:=Aside0.mk ((by rw [hg];exact(below_size (by exact zk1 HB)):w.heap.size≤gb307));have GE307:=GW307;replace HB:=Aside0.mk (below_step (by exact zk1 HB) hb);clear hb hbox hg)|((with_reducible refine gate_dst (N:=3) rfl ?_);refine box_event ?hg (N:=3) ?hd (cs:= #[.int .i64 a1_0,.int .i64 a1_1,.int .i64 a1_2]) (t:=57) ?hr ?_;(case hd=>rfl);(case hg=>rfl);(case hr=>first|(go_simp;done)|(go_simp;rfl));intro gb308 hg w17 hbox hb;have BK308:=Aside0.mk (hbox);have GW308:=Aside0.mk ((by rw [hg];exact(below_size (by exact zk2 HB GE307.out)):w.heap.size≤gb308));have GE308:=GW308;have NB307_308:=Aside0.mk ((by rw [hg];exact Nat.ne_of_lt (blk_lt (g:=gb307) (o:= .cells #[.int .i64 a0_0,.int .i64 a0_1,.int .i64 a0_2] 57 (0,0)) (zq3 BK307)):gb307≠gb308));have NB308_307:=Aside0.mk ((by rw [hg];exact Nat.ne_of_gt (blk_lt (g:=gb307) (o:= .cells #[.int .i64 a0_0,.int .i64 a0_1,.int .i64 a0_2] 57 (0,0)) (zq3 BK307)):gb308≠gb307));replace BK307:=Aside0.mk (blk_below (g:=gb307) (o:= .cells #[.int .i64 a0_0,.int .i64 a0_1,.int .i64 a0_2] 57 (0,0)) (zq3 BK307) hb);replace HB:=Aside0.mk (below_step (by exact zk2 HB GE307.out) hb);clear hb hbox hg;have hnb18:=NB307_308.out;have hnc18:=NB308_307.out;have hcz19_0:=zcz BK307 0 (.int .i64 a0_0);have hcz19_1:=zcz BK307 1 (.int .i64 a0_1);have hcz19_2:=zcz BK307 2 (.int .i64 a0_2);have hfz19_0:=blk_frozen BK307.out 0;have hfz19_1:=blk_frozen BK307.out 1;have hfz19_2:=blk_frozen BK307.out 2;have hcz20_0:=zcz BK308 0 (.int .i64 a1_0);have hcz20_1:=zcz BK308 1 (.int .i64 a1_1);have hcz20_2:=zcz BK308 2 (.int .i64 a1_2);have hfz20_0:=blk_frozen BK308.out 0;have hfz20_1:=blk_frozen BK308.out 1;have hfz20_2:=blk_frozen BK308.out 2))
   go_ret
   exact⟨zer,by exact zk3 HB GE307.out GE308.out⟩
 ·rw [if_neg c3] at H
  have c3b0:(a0_0==a1_0)=false:=beq_eq_false_iff_ne.mpr c3
  have c3b1:(a0_0 !=a1_0)=true:=bne_iff_ne.mpr c3
  obtain rfl:=Option.some.inj H
  go_enter Try.func55,Try.ntmps55
  go_wp2_with (first|((with_reducible refine gate_dst (N:=2) rfl ?_);refine box_event ?hg (N:=2) ?hd (cs:= #[.int .i64 a0_0,.int .i64 a0_1,.int .i64 a0_2]) (t:=57) ?hr ?_;(case hd=>rfl);(case hg=>rfl);(case hr=>first|(go_simp;done)|(go_simp;rfl));intro gb307 hg w21 hbox hb;have BK307:=Aside0.mk (hbox);have GW307:=Aside0.mk ((by rw [hg];exact(below_size (by exact zk1 HB)):w.heap.size≤gb307));have GE307:=GW307;replace HB:=Aside0.mk (below_step (by exact zk1 HB) hb);clear hb hbox hg)|((with_reducible refine gate_dst (N:=3) rfl ?_);refine box_event ?hg (N:=3) ?hd (cs:= #[.int .i64 a1_0,.int .i64 a1_1,.int .i64 a1_2]) (t:=57) ?hr ?_;(case hd=>rfl);(case hg=>rfl);(case hr=>first|(go_simp;done)|(go_simp;rfl));intro gb308 hg w22 hbox hb;have BK308:=Aside0.mk (hbox);have GW308:=Aside0.mk ((by rw [hg];exact(below_size (by exact zk2 HB GE307.out)):w.heap.size≤gb308));have GE308:=GW308;have NB307_308:=Aside0.mk ((by rw [hg];exact Nat.ne_of_lt (blk_lt (g:=gb307) (o:= .cells #[.int .i64 a0_0,.int .i64 a0_1,.int .i64 a0_2] 57 (0,0)) (zq3 BK307)):gb307≠gb308));have NB308_307:=Aside0.mk ((by rw [hg];exact Nat.ne_of_gt (blk_lt (g:=gb307) (o:= .cells #[.int .i64 a0_0,.int .i64 a0_1,.int .i64 a0_2] 57 (0,0)) (zq3 BK307)):gb308≠gb307));replace BK307:=Aside0.mk (blk_below (g:=gb307) (o:= .cells #[.int .i64 a0_0,.int .i64 a0_1,.int .i64 a0_2] 57 (0,0)) (zq3 BK307) hb);replace HB:=Aside0.mk (below_step (by exact zk2 HB GE307.out) hb);clear hb hbox hg;have hnb23:=NB307_308.out;have hnc23:=NB308_307.out;have hcz24_0:=zcz BK307 0 (.int .i64 a0_0);have hcz24_1:=zcz BK307 1 (.int .i64 a0_1);have hcz24_2:=zcz BK307 2 (.int .i64 a0_2);have hfz24_0:=blk_frozen BK307.out 0;have hfz24_1:=blk_frozen BK307.out 1;have hfz24_2:=blk_frozen BK307.out 2;have hcz25_0:=zcz BK308 0 (.int .i64 a1_0);have hcz25_1:=zcz BK308 1 (.int .i64 a1_1);have hcz25_2:=zcz BK308 2 (.int .i64 a1_2);have hfz25_0:=blk_frozen BK308.out 0;have hfz25_1:=blk_frozen BK308.out 1;have hfz25_2:=blk_frozen BK308.out 2))
  go_ret
  exact⟨zer,by exact zk3 HB GE307.out GE308.out⟩
def laws_eqToldS.l0:Nat→List (S57)→List (S57)→Int→Option (Bool)
 | 0,_,_,_=>none
 |k+1,x0,x1,x5=>if x5< (x0.length:Int) then(if 0≤x5 then(if x5< (x1.length:Int) then((laws_eqTold.f ((rd_T57 x0 x5).f0) ((rd_T57 x0 x5).f1) ((rd_T57 x0 x5).f2) ((rd_T57 x1 x5).f0) ((rd_T57 x1 x5).f1) ((rd_T57 x1 x5).f2)).bind fun t311=>(if t311=true then(laws_eqToldS.l0 k x0 x1 (wrap64 (x5+1))) else(some false))) else(none)) else(none)) else(some true)
def laws_eqToldS.f (k:Nat) (l0:List (S57)) (l1:List (S57)):Option (Bool):=if (l0.length:Int)= (l1.length:Int) then(laws_eqToldS.l0 k l0 l1 0) else(some false)
def laws_eqToldS.T6:Bool × List (List Nat × List Nat):=(true,[([],[]),([],[]),([0,1],[0,1]),([2],[2]),([],[]),([],[]),([4,5],[4,5]),([6],[6]),([3,7],[3,7]),([8],[8])])
def laws_eqToldS.B6:List Nat:= [0,0,3,7,0,0,48,112,255,511]
theorem laws_eqToldS.tab6:rtab .any (opsOf Try.f25 6)=laws_eqToldS.T6:=by kernel_rfl
theorem laws_eqToldS.bits6:waitsOk laws_eqToldS.T6.2 laws_eqToldS.B6=true:=by kernel_rfl
set_option maxHeartbeats 8000000 in
set_option maxRecDepth 100000 in
theorem laws_eqToldS.calls (k:Nat) (A0:Option Addr) (c0:Nat) (l0:List (S57)) (A1:Option Addr) (c1:Nat) (l1:List (S57)) (r:Bool) (w:World) (hr0:Kd.C k57 w A0 l0.length l0) (hc0:l0.length≤c0) (hr1:Kd.C k57 w A1 l1.length l1) (hc1:l1.length≤c1) (h:laws_eqToldS.f k l0 l1=some r):
  Calls Try.prog 25 #[.slice A0 l0.length c0,.slice A1 l1.length c1] w fun e w'=>e= .returned (.bool r)∧Below w.heap.size w w':=by
 have hu57:=Try.underlying57
 have HR0:=Aside0.mk hr0
 have HC0:=Aside0.mk hc0
 clear hr0 hc0
 have HR1:=Aside0.mk hr1
 have HC1:=Aside0.mk hc1
 clear hr1 hc1
 have HB:=Aside0.mk (Below.refl w.heap.size w)
 have H:(if (l0.length:Int)= (l1.length:Int) then(laws_eqToldS.l0 k l0 l1 0) else(some false))=some r:=h
 clear h
 by_cases c3:(l0.length:Int)= (l1.length:Int)
 ·rw [if_pos c3] at H
  have c3b0:((l0.length:Int)== (l1.length:Int))=true:=beq_iff_eq.mpr c3
  have c3b1:((l0.length:Int) != (l1.length:Int))=false:=bne_eq_false_iff_eq.mpr c3
  have c3b2:(l0.length==l1.length)=true:=by first|simpa using c3|(simp at c3 ⊢;omega)
  clear c3
  have H':=Aside0.mk H
  clear H
  go_enter Try.func25,Try.ntmps25
  go_wp2
  go_loopg [5] k (fun kq v5 w'=> ∃ (x5_1:Int),v5= .int .i64 x5_1∧Aside0 (laws_eqToldS.l0 kq l0 l1 x5_1=some r)∧Aside0 (kq≤k)∧Aside0 (Below w.heap.size w w'))
  case atStart=>exact⟨(0),zrs,H',⟨Nat.le_refl _⟩,⟨by exact zk1 HB⟩⟩
  case round=>
   clear H'
   try clear c1
   try clear c2
   try clear p2
   try clear c3
   try clear c3b0
   try clear c3b1
   try clear c3b2
   obtain⟨x5_1,rfl,HA,HK1,HB⟩:=hrel
   cases gk with
   |zero=>exact absurd HA.out (by simp [laws_eqToldS.l0])
   |succ k1=>
    have H:=HA.out
    clear HA
    simp only [laws_eqToldS.l0] at H
    by_cases c4:x5_1< (l0.length:Int)
    ·rw [if_pos c4] at H
     have c4b0:decide (x5_1< (l0.length:Int))=true:=decide_eq_true c4
     clear c4
     by_cases c5: 0≤x5_1
     case neg=>exact znn c5 H
     rw [if_pos c5] at H
     have c5b0:decide (0≤x5_1)=true:=decide_eq_true c5
     clear c5
     by_cases c6:x5_1< (l1.length:Int)
     case neg=>exact znn c6 H
     rw [if_pos c6] at H
     have c6b0:decide (x5_1< (l1.length:Int))=true:=decide_eq_true c6
     clear c6
     replace H:=Option.bind_eq_some_iff.mp H
     obtain⟨t311,A70,H⟩:=H
     replace H:(if t311=true then(laws_eqToldS.l0 k1 l0 l1 (wrap64 (x5_1+1))) else(some false))=some r:=H
     have A7:=Aside0.mk A70
     clear A70
     by_cases c8:t311=true
     ·subst c8
      have H1:(laws_eqToldS.l0 k1 l0 l1 (wrap64 (x5_1+1)))=some r:=by rw [if_pos rfl] at H;exact H
      clear H
      have H:=H1
      clear H1
      have H':=Aside0.mk H
      clear H
      try go_wp2
      replace HB:=Aside0.mk (below_drew1 HB.out)
      have p309: 0≤ (x5_1:Int):=of_decide_eq_true zq1
      have q309:x5_1< (l0.length:Int):=of_decide_eq_true zq1
      obtain⟨ad309,e309,hx309_0,hx309_1,hx309_2⟩:=at_T57 HR0.out x5_1 p309 q309
      have hw309_2:=hx309_2
      have hw309_1:=hx309_1
      have hw309_0:=hx309_0
      cases e309
      replace hx309_0:=zhx HB hx309_0
      replace hx309_1:=zhx HB hx309_1
      replace hx309_2:=zhx HB hx309_2
      replace p309:=eq_true p309
      replace q309:=eq_true q309
      have p310: 0≤ (x5_1:Int):=of_decide_eq_true zq1
      have q310:x5_1< (l1.length:Int):=of_decide_eq_true zq1
      obtain⟨ad310,e310,hx310_0,hx310_1,hx310_2⟩:=at_T57 HR1.out x5_1 p310 q310
      have hw310_2:=hx310_2
      have hw310_1:=hx310_1
      have hw310_0:=hx310_0
      cases e310
      replace hx310_0:=zhx HB hx310_0
      replace hx310_1:=zhx HB hx310_1
      replace hx310_2:=zhx HB hx310_2
      replace p310:=eq_true p310
      replace q310:=eq_true q310
      refine start_ (n:=10) (S:=fun w'=>w'.cell? (ad309.add ((x5_1).toNat * 3))=some (.int .i64 ((rd_T57 l0 x5_1).f0))∧w'.cell? ⟨(ad309.add ((x5_1).toNat * 3)).block,(ad309.add ((x5_1).toNat * 3)).off+1,none⟩=some (.int .i64 ((rd_T57 l0 x5_1).f1))∧w'.cell? ⟨(ad309.add ((x5_1).toNat * 3)).block,(ad309.add ((x5_1).toNat * 3)).off+2,none⟩=some (.int .i64 ((rd_T57 l0 x5_1).f2))∧w'.cell? (ad310.add ((x5_1).toNat * 3))=some (.int .i64 ((rd_T57 l1 x5_1).f0))∧w'.cell? ⟨(ad310.add ((x5_1).toNat * 3)).block,(ad310.add ((x5_1).toNat * 3)).off+1,none⟩=some (.int .i64 ((rd_T57 l1 x5_1).f1))∧w'.cell? ⟨(ad310.add ((x5_1).toNat * 3)).block,(ad310.add ((x5_1).toNat * 3)).off+2,none⟩=some (.int .i64 ((rd_T57 l1 x5_1).f2))) (ds:= []) (mb' 10 0) (by kernel_rfl) rfl rfl ⟨((zhx HB hw309_0).trans rfl),((zhx HB hw309_1).trans rfl),((zhx HB hw309_2).trans rfl),((zhx HB hw310_0).trans rfl),((zhx HB hw310_1).trans rfl),((zhx HB hw310_2).trans rfl)⟩ (fun hHeld=>?_);refine with_tabW laws_eqToldS.tab6 laws_eqToldS.bits6 (fun HT_ HW_=>?_)
      generalize wr.drew=w9 at HB hx309_0 hx309_1 hx309_2 hx310_0 hx310_1 hx310_2 hHeld ⊢
      refine zp1 HT_ 0 17 (mb' 10 1) rfl ?_
      refine zp1 HT_ 1 18 (mb' 10 3) rfl ?_
      refine zp1 HT_ 2 19 (mb' 10 7) rfl ?_
      refine zp1 HT_ 4 21 (mb' 10 23) rfl ?_
      refine zp1 HT_ 5 22 (mb' 10 55) rfl ?_
      refine zp1 HT_ 6 23 (mb' 10 119) rfl ?_
      refine zt1 HT_ HW_ (v:=?_) (a':=?_) 3 20 (mb' 10 127) rfl ?_ hHeld ?_ ?_;rotate_left;(rintro w' ⟨s0,s1,s2,s3,s4,s5⟩;go_simp;with_reducible rfl);rotate_left;exact zpa
      refine zt1 HT_ HW_ (v:=?_) (a':=?_) 7 24 (mb' 10 255) rfl ?_ hHeld ?_ ?_;rotate_left;(rintro w' ⟨s0,s1,s2,s3,s4,s5⟩;go_simp;with_reducible rfl);rotate_left;exact zpa
      refine one_ (i:=8) (N:=some 25) (mb' 10 511) rfl rfl (one_of HT_.out (by kernel_rfl)) (by decide) (fun K hK=>?_)
      refine goes_ Try.func55 (by kernel_rfl) rfl #[.agg #[.int .i64 ((rd_T57 l0 x5_1).f0),.int .i64 ((rd_T57 l0 x5_1).f1),.int .i64 ((rd_T57 l0 x5_1).f2)],.agg #[.int .i64 ((rd_T57 l1 x5_1).f0),.int .i64 ((rd_T57 l1 x5_1).f1),.int .i64 ((rd_T57 l1 x5_1).f2)]] (by rfl) rfl rfl zq2 ?_
      with_reducible refine(laws_eqTold.calls ((rd_T57 l0 x5_1).f0) ((rd_T57 l0 x5_1).f1) ((rd_T57 l0 x5_1).f2) ((rd_T57 l1 x5_1).f0) ((rd_T57 l1 x5_1).f1) ((rd_T57 l1 x5_1).f2) true _ A7.out).mono ?_
      rintro e w10 ⟨rfl,hb⟩
      refine⟨_,rfl,?_⟩
      replace HB:=Aside0.mk (below_step (by exact zk1 HB) hb)
      (try clear hb)
      (try clear hb2)
      (try clear hk)
      (try clear hi)
      refine hK.out _ _ ⟨((zhx HB hw309_0).trans rfl),((zhx HB hw309_1).trans rfl),((zhx HB hw309_2).trans rfl),((zhx HB hw310_0).trans rfl),((zhx HB hw310_1).trans rfl),((zhx HB hw310_2).trans rfl)⟩ (fun hHeld=>?_)
      clear hK K
      refine norm_ (a':=?_) ?_ ?_
      rotate_left
      ·show Act.put _ (some 25) _=_
       simp only [Act.put,List.setIfInBounds_toArray,List.set_cons_zero,List.set_cons_succ,i64_w,i32_w]
       rfl
      refine zp1 HT_ 9 26 (mb' 10 1023) rfl ?_
      refine done_ (done_of HT_.out (by kernel_rfl)) ?_
      try go_wp2
      go_roundg k1
      case measure=>have:=HK1.out;omega
      case rel=>exact⟨(wrap64 (x5_1+1)),zrs,H',⟨by have:=HK1.out;omega⟩,⟨by exact zk1 HB⟩⟩
     ·replace c8:=Bool.eq_false_iff.mpr c8
      subst c8
      have H1:(some false)=some r:=by rw [if_neg (show ¬ (false=true) by decide)] at H;exact H
      clear H
      have H:=H1
      clear H1
      obtain rfl:=Option.some.inj H
      try go_wp2
      replace HB:=Aside0.mk (below_drew1 HB.out)
      have p309: 0≤ (x5_1:Int):=of_decide_eq_true zq1
      have q309:x5_1< (l0.length:Int):=of_decide_eq_true zq1
      obtain⟨ad309,e309,hx309_0,hx309_1,hx309_2⟩:=at_T57 HR0.out x5_1 p309 q309
      have hw309_2:=hx309_2
      have hw309_1:=hx309_1
      have hw309_0:=hx309_0
      cases e309
      replace hx309_0:=zhx HB hx309_0
      replace hx309_1:=zhx HB hx309_1
      replace hx309_2:=zhx HB hx309_2
      replace p309:=eq_true p309
      replace q309:=eq_true q309
      have p310: 0≤ (x5_1:Int):=of_decide_eq_true zq1
      have q310:x5_1< (l1.length:Int):=of_decide_eq_true zq1
      obtain⟨ad310,e310,hx310_0,hx310_1,hx310_2⟩:=at_T57 HR1.out x5_1 p310 q310
      have hw310_2:=hx310_2
      have hw310_1:=hx310_1
      have hw310_0:=hx310_0
      cases e310
      replace hx310_0:=zhx HB hx310_0
      replace hx310_1:=zhx HB hx310_1
      replace hx310_2:=zhx HB hx310_2
      replace p310:=eq_true p310
      replace q310:=eq_true q310
      refine start_ (n:=10) (S:=fun w'=>w'.cell? (ad309.add ((x5_1).toNat * 3))=some (.int .i64 ((rd_T57 l0 x5_1).f0))∧w'.cell? ⟨(ad309.add ((x5_1).toNat * 3)).block,(ad309.add ((x5_1).toNat * 3)).off+1,none⟩=some (.int .i64 ((rd_T57 l0 x5_1).f1))∧w'.cell? ⟨(ad309.add ((x5_1).toNat * 3)).block,(ad309.add ((x5_1).toNat * 3)).off+2,none⟩=some (.int .i64 ((rd_T57 l0 x5_1).f2))∧w'.cell? (ad310.add ((x5_1).toNat * 3))=some (.int .i64 ((rd_T57 l1 x5_1).f0))∧w'.cell? ⟨(ad310.add ((x5_1).toNat * 3)).block,(ad310.add ((x5_1).toNat * 3)).off+1,none⟩=some (.int .i64 ((rd_T57 l1 x5_1).f1))∧w'.cell? ⟨(ad310.add ((x5_1).toNat * 3)).block,(ad310.add ((x5_1).toNat * 3)).off+2,none⟩=some (.int .i64 ((rd_T57 l1 x5_1).f2))) (ds:= []) (mb' 10 0) (by kernel_rfl) rfl rfl ⟨((zhx HB hw309_0).trans rfl),((zhx HB hw309_1).trans rfl),((zhx HB hw309_2).trans rfl),((zhx HB hw310_0).trans rfl),((zhx HB hw310_1).trans rfl),((zhx HB hw310_2).trans rfl)⟩ (fun hHeld=>?_);refine with_tabW laws_eqToldS.tab6 laws_eqToldS.bits6 (fun HT_ HW_=>?_)
      generalize wr.drew=w11 at HB hx309_0 hx309_1 hx309_2 hx310_0 hx310_1 hx310_2 hHeld ⊢
      refine zp1 HT_ 0 17 (mb' 10 1) rfl ?_
      refine zp1 HT_ 1 18 (mb' 10 3) rfl ?_
      refine zp1 HT_ 2 19 (mb' 10 7) rfl ?_
      refine zp1 HT_ 4 21 (mb' 10 23) rfl ?_
      refine zp1 HT_ 5 22 (mb' 10 55) rfl ?_
      refine zp1 HT_ 6 23 (mb' 10 119) rfl ?_
      refine zt1 HT_ HW_ (v:=?_) (a':=?_) 3 20 (mb' 10 127) rfl ?_ hHeld ?_ ?_;rotate_left;(rintro w' ⟨s0,s1,s2,s3,s4,s5⟩;go_simp;with_reducible rfl);rotate_left;exact zpa
      refine zt1 HT_ HW_ (v:=?_) (a':=?_) 7 24 (mb' 10 255) rfl ?_ hHeld ?_ ?_;rotate_left;(rintro w' ⟨s0,s1,s2,s3,s4,s5⟩;go_simp;with_reducible rfl);rotate_left;exact zpa
      refine one_ (i:=8) (N:=some 25) (mb' 10 511) rfl rfl (one_of HT_.out (by kernel_rfl)) (by decide) (fun K hK=>?_)
      refine goes_ Try.func55 (by kernel_rfl) rfl #[.agg #[.int .i64 ((rd_T57 l0 x5_1).f0),.int .i64 ((rd_T57 l0 x5_1).f1),.int .i64 ((rd_T57 l0 x5_1).f2)],.agg #[.int .i64 ((rd_T57 l1 x5_1).f0),.int .i64 ((rd_T57 l1 x5_1).f1),.int .i64 ((rd_T57 l1 x5_1).f2)]] (by rfl) rfl rfl zq2 ?_
      with_reducible refine(laws_eqTold.calls ((rd_T57 l0 x5_1).f0) ((rd_T57 l0 x5_1).f1) ((rd_T57 l0 x5_1).f2) ((rd_T57 l1 x5_1).f0) ((rd_T57 l1 x5_1).f1) ((rd_T57 l1 x5_1).f2) false _ A7.out).mono ?_
      rintro e w12 ⟨rfl,hb⟩
      refine⟨_,rfl,?_⟩
      replace HB:=Aside0.mk (below_step (by exact zk1 HB) hb)
      (try clear hb)
      (try clear hb2)
      (try clear hk)
      (try clear hi)
      refine hK.out _ _ ⟨((zhx HB hw309_0).trans rfl),((zhx HB hw309_1).trans rfl),((zhx HB hw309_2).trans rfl),((zhx HB hw310_0).trans rfl),((zhx HB hw310_1).trans rfl),((zhx HB hw310_2).trans rfl)⟩ (fun hHeld=>?_)
      clear hK K
      refine norm_ (a':=?_) ?_ ?_
      rotate_left
      ·show Act.put _ (some 25) _=_
       simp only [Act.put,List.setIfInBounds_toArray,List.set_cons_zero,List.set_cons_succ,i64_w,i32_w]
       rfl
      refine zp1 HT_ 9 26 (mb' 10 1023) rfl ?_
      refine done_ (done_of HT_.out (by kernel_rfl)) ?_
      try go_wp2
      go_ret
      exact⟨zer,by exact zk1 HB⟩
    ·rw [if_neg c4] at H
     have c4b0:decide (x5_1< (l0.length:Int))=false:=decide_eq_false c4
     clear c4
     obtain rfl:=Option.some.inj H
     go_wp2
     go_ret
     exact⟨zer,by exact zk1 HB⟩
 ·rw [if_neg c3] at H
  have c3b0:((l0.length:Int)== (l1.length:Int))=false:=beq_eq_false_iff_ne.mpr c3
  have c3b1:((l0.length:Int) != (l1.length:Int))=true:=bne_iff_ne.mpr c3
  have c3b2:(l0.length==l1.length)=false:=by first|simpa using c3|(simp at c3 ⊢;omega)
  obtain rfl:=Option.some.inj H
  go_enter Try.func25,Try.ntmps25
  go_wp2
  go_ret
  exact⟨zer,by exact zk1 HB⟩
def laws_markToldS.l0:Nat→List (S57)→Int→Int→Option (Int × (List (S57)))
 | 0,_,_,_=>none
 |k+1,x0,x1,x5=>if x5< (x0.length:Int) then(if 0≤x5 then((some (x0.set (x5:Int).toNat (⟨x1,(rd_T57 x0 x5).f1,(rd_T57 x0 x5).f2⟩ :S57):List (S57))).bind fun y312=>((some (y312.set (x5:Int).toNat (⟨(rd_T57 y312 x5).f0,wrap64 (x1+1),(rd_T57 y312 x5).f2⟩ :S57):List (S57))).bind fun y313=>(laws_markToldS.l0 k (y313.set (x5:Int).toNat (⟨(rd_T57 y313 x5).f0,(rd_T57 y313 x5).f1,wrap64 ((wrap64 (x1+1))+1)⟩ :S57)) (wrap64 ((wrap64 ((wrap64 (x1+1))+1))+1)) (wrap64 (x5+1))))) else(none)) else(some (x1,x0))
def laws_markToldS.f (k:Nat) (l0:List (S57)) (a1:Int):Option (Int × (List (S57))):=laws_markToldS.l0 k l0 a1 0
set_option maxHeartbeats 8000000 in
set_option maxRecDepth 100000 in
theorem laws_markToldS.calls (k:Nat) (P0_:Nat→Prop) (u9000_:Value) (l0:List (S57)) (a1:Int) (r1:Int) (r2:List (S57)) (w0 w:World) (hB:Below w0.heap.size w0 w) (ho0:Kd.R k57 57 w w0.heap.size P0_ u9000_ l0) (h:laws_markToldS.f k l0 a1=some (r1,r2)):
  Calls Try.prog 26 #[u9000_,.int .i64 a1] w fun e w'=>e= .returned (.int .i64 r1)∧Kd.R k57 57 w' w0.heap.size (fun k_=>(P0_ k_∨w.heap.size≤k_)) u9000_ r2∧Below w0.heap.size w0 w'∧Kept w w' (fun k_=>P0_ k_):=by
 have HO0:=Aside0.mk (show Kd.R k57 57 w w0.heap.size (fun k_=>(P0_ k_∨w.heap.size≤k_)) u9000_ l0 from Kd.R_mono ho0 (fun k_ hk=>(.inl hk)))
 have HK:=Aside0.mk (Kept.refl w (fun k_=>P0_ k_))
 have HW0:=Aside0.mk hB.size
 have HB:=Aside0.mk hB
 clear hB
 have H:(laws_markToldS.l0 k l0 a1 0)=some (r1,r2):=h
 clear h
 have H':=Aside0.mk H
 clear H
 go_enter Try.func26,Try.ntmps26
 go_wp2
 go_loopg [1,5] k (fun kq v1 v5 w'=> ∃ (x0_1:List (S57)) (x1_1:Int) (x5_1:Int),v1= .int .i64 x1_1∧v5= .int .i64 x5_1∧Aside0 (laws_markToldS.l0 kq x0_1 x1_1 x5_1=some (r1,r2))∧Aside0 (kq≤k)∧Aside0 (Kd.R k57 57 w' w0.heap.size (fun k_=>(P0_ k_∨w.heap.size≤k_)) u9000_ x0_1)∧Aside0 (Kept w w' (fun k_=>P0_ k_))∧Aside0 (Below w0.heap.size w0 w'))
 case atStart=>exact⟨(l0),(a1),(0),zrs,zrs,H',⟨Nat.le_refl _⟩,⟨zdr HO0⟩,⟨by exact zk4 HK⟩,⟨by exact zk1 HB⟩⟩
 case round=>
  clear H'
  try clear c2
  try clear p2
  obtain⟨x0_1,x1_1,x5_1,rfl,rfl,HA,HK1,HO_0,HK,HB⟩:=hrel
  cases gk with
  |zero=>exact absurd HA.out (by simp [laws_markToldS.l0])
  |succ k1=>
   have H:=HA.out
   clear HA
   simp only [laws_markToldS.l0] at H
   by_cases c3:x5_1< (x0_1.length:Int)
   ·rw [if_pos c3] at H
    have c3b0:decide (x5_1< (x0_1.length:Int))=true:=decide_eq_true c3
    clear c3
    by_cases c4: 0≤x5_1
    case neg=>exact znn c4 H
    rw [if_pos c4] at H
    have c4b0:decide (0≤x5_1)=true:=decide_eq_true c4
    clear c4
    obtain⟨y312,hy312⟩ :∃ y_:List (S57),y_= (x0_1.set (x5_1:Int).toNat (⟨x1_1,(rd_T57 x0_1 x5_1).f1,(rd_T57 x0_1 x5_1).f2⟩ :S57)):=⟨_,rfl⟩
    replace H:((some (y312.set (x5_1:Int).toNat (⟨(rd_T57 y312 x5_1).f0,wrap64 (x1_1+1),(rd_T57 y312 x5_1).f2⟩ :S57):List (S57))).bind fun y313=>(laws_markToldS.l0 k1 (y313.set (x5_1:Int).toNat (⟨(rd_T57 y313 x5_1).f0,(rd_T57 y313 x5_1).f1,wrap64 ((wrap64 (x1_1+1))+1)⟩ :S57)) (wrap64 ((wrap64 ((wrap64 (x1_1+1))+1))+1)) (wrap64 (x5_1+1))))=some (r1,r2):=zfh hy312 H
    have Ny312:=Aside0.mk hy312
    clear hy312
    obtain⟨y313,hy313⟩ :∃ y_:List (S57),y_= (y312.set (x5_1:Int).toNat (⟨(rd_T57 y312 x5_1).f0,wrap64 (x1_1+1),(rd_T57 y312 x5_1).f2⟩ :S57)):=⟨_,rfl⟩
    replace H:(laws_markToldS.l0 k1 (y313.set (x5_1:Int).toNat (⟨(rd_T57 y313 x5_1).f0,(rd_T57 y313 x5_1).f1,wrap64 ((wrap64 (x1_1+1))+1)⟩ :S57)) (wrap64 ((wrap64 ((wrap64 (x1_1+1))+1))+1)) (wrap64 (x5_1+1)))=some (r1,r2):=zfh hy313 H
    have Ny313:=Aside0.mk hy313
    clear hy313
    obtain⟨y314,hy314⟩ :∃ y_:List (S57),y_= (y313.set (x5_1:Int).toNat (⟨(rd_T57 y313 x5_1).f0,(rd_T57 y313 x5_1).f1,wrap64 ((wrap64 (x1_1+1))+1)⟩ :S57)):=⟨_,rfl⟩
    replace H:(laws_markToldS.l0 k1 y314 (wrap64 ((wrap64 ((wrap64 (x1_1+1))+1))+1)) (wrap64 (x5_1+1)))=some (r1,r2):=zfh hy314 H
    have Ny314:=Aside0.mk hy314
    clear hy314
    have H':=Aside0.mk H
    clear H
    obtain⟨Ao8,co8,eo8⟩:=Kd.R_slice HO_0.out
    subst eo8
    have p5: 0≤ (x5_1:Int):=of_decide_eq_true zq1
    have q5:(x5_1:Int)< ((x0_1.length:Int):Int):=of_decide_eq_true zq1
    obtain⟨go5,co5,eo5,gb5,gl5,cl5,HG5⟩:=Kd.R_form HO_0.out (by omega)
    (first|cases eo5|(injection eo5 with ea_ en_ ec_;(first|subst ea_|(injection ea_ with ea_;subst ea_));subst ec_;clear en_))
    have GB5:=Aside0.mk gb5
    have GG5:=Aside0.mk HG5
    clear gb5 gl5 HG5
    have HMgo5:=Aside0.mk (show (P0_ go5∨w.heap.size≤go5) from (HO_0.out.1 _ rfl))
    obtain⟨ce5,hcl5,hM5,hcc5,hfr5⟩:=Kd.R_elem HO_0.out z57 (x5_1:Int) p5 q5
    obtain rfl:=k57_openM hM5
    have hx5_0:wr.cell? ⟨go5,(x5_1:Int).toNat * 3,none⟩=some (.int .i64 ((rd_T57 x0_1 x5_1).f0)):=hcc5 0 _ rfl
    have hx5_1:wr.cell? ⟨go5,(x5_1:Int).toNat * 3+1,none⟩=some (.int .i64 ((rd_T57 x0_1 x5_1).f1)):=hcc5 1 _ rfl
    have hx5_2:wr.cell? ⟨go5,(x5_1:Int).toNat * 3+2,none⟩=some (.int .i64 ((rd_T57 x0_1 x5_1).f2)):=hcc5 2 _ rfl
    have hf5_0:wr.frozen? ⟨go5,(x5_1:Int).toNat * 3,none⟩=false:=hfr5 0
    have hf5_1:wr.frozen? ⟨go5,(x5_1:Int).toNat * 3+1,none⟩=false:=hfr5 1
    have hf5_2:wr.frozen? ⟨go5,(x5_1:Int).toNat * 3+2,none⟩=false:=hfr5 2
    clear hcl5 hcc5 hfr5 hM5
    replace p5:=eq_true p5
    replace q5:=eq_true q5
    have HX9:=Aside0.mk (show Kd.R k57 57 wr w0.heap.size (fun k_=>(P0_ k_∨w.heap.size≤k_)) (.slice (some ⟨go5,0,none⟩) x0_1.length co8) x0_1 from (zq4 HO_0))
    obtain⟨ce9,hcl9,hM9,hcc9,hfr9⟩:=Kd.R_elem HX9.out z57 (x5_1:Int) (of_decide_eq_true zq1) (by have h_:(x5_1:Int)< ((x0_1.length:Int):Int):=of_decide_eq_true zq1;first|exact h_|(have e_:=(Kd.R_reads' HO_0.out).1;omega)|simpa using h_)
    obtain rfl:=k57_openM hM9
    have HP9:=Kd.R_seg HX9.out (x5_1:Int) (of_decide_eq_true zq1) (by have h_:(x5_1:Int)< ((x0_1.length:Int):Int):=of_decide_eq_true zq1;first|exact h_|(have e_:=(Kd.R_reads' HO_0.out).1;omega)|simpa using h_) (seg:= [.int .i64 x1_1]) (j:=0) hcl9 hcc9 (show 1≤3 from by decide) (x':=(⟨x1_1,(rd_T57 x0_1 x5_1).f1,(rd_T57 x0_1 x5_1).f2⟩ :S57)) (k57_mkM _ _ _ (⟨x1_1,(rd_T57 x0_1 x5_1).f1,(rd_T57 x0_1 x5_1).f2⟩ :S57) ) (fun _ hk=>hk)
    have hx9_0:=hcc9 0 _ rfl
    (try simp only [show (k57).sz=3 from rfl,Nat.mul_one,Nat.add_zero] at hx9_0)
    have hf9_0:=hfr9 0
    (try simp only [show (k57).sz=3 from rfl,Nat.mul_one,Nat.add_zero] at hf9_0)
    clear hcl9 hcc9 hfr9 hM9
    go_wp2_with (first|((with_reducible refine gate_store (t:=3) (p:=16) rfl ?_);refine store_event (t:=3) (p:=16) (v:=?vo_w10) (w1:=(wr.setCell ⟨go5,(x5_1:Int).toNat * 3,none⟩ (.int .i64 x1_1))) ?hg ?ho ?hn ?hr ?_;(case ho=>rfl);(case hg=>rfl);(case hn=>rfl);(case hr=>first|(go_simp;done)|(go_simp;rfl));intro w10 hw;have hg:wr.grownBy w10 (some go5):=(by rw [hw];exact HP9.2);have hp_:Kd.R k57 57 w10 w0.heap.size (fun k_=>(P0_ k_∨w.heap.size≤k_)) (.slice (some ⟨go5,0,none⟩) x0_1.length co8) y312:=(by rw [hw,Ny312.out];exact HP9.1);clear HP9;replace HB:=Aside0.mk ((by rw [hw];exact below_set (HB.out) GB5.out:Below w0.heap.size w0 w10));replace HK:=Aside0.mk (Kept.of_grown (S:=(fun k_=>P0_ k_)) hg (by exact zk4 HK) (fun k_ e_=>(HO_0.out.1 k_ e_)));replace HO_0:=Aside0.mk (hp_);clear hg hw hp_;have p6: 0≤ (x5_1:Int):=of_decide_eq_true zq1;have q6:(x5_1:Int)< ((x0_1.length:Int):Int):=of_decide_eq_true zq1;obtain⟨ce6,hcl6,hM6,hcc6,hfr6⟩:=Kd.R_elem HO_0.out z57 (x5_1:Int) p6 q6;obtain rfl:=k57_openM hM6;have hx6_0:w10.cell? ⟨go5,(x5_1:Int).toNat * 3,none⟩=some (.int .i64 ((rd_T57 y312 x5_1).f0)):=hcc6 0 _ rfl;have hx6_1:w10.cell? ⟨go5,(x5_1:Int).toNat * 3+1,none⟩=some (.int .i64 ((rd_T57 y312 x5_1).f1)):=hcc6 1 _ rfl;have hx6_2:w10.cell? ⟨go5,(x5_1:Int).toNat * 3+2,none⟩=some (.int .i64 ((rd_T57 y312 x5_1).f2)):=hcc6 2 _ rfl;have hf6_0:w10.frozen? ⟨go5,(x5_1:Int).toNat * 3,none⟩=false:=hfr6 0;have hf6_1:w10.frozen? ⟨go5,(x5_1:Int).toNat * 3+1,none⟩=false:=hfr6 1;have hf6_2:w10.frozen? ⟨go5,(x5_1:Int).toNat * 3+2,none⟩=false:=hfr6 2;clear hcl6 hcc6 hfr6 hM6;replace p6:=eq_true p6;replace q6:=eq_true q6;have HX11:=Aside0.mk (show Kd.R k57 57 w10 w0.heap.size (fun k_=>(P0_ k_∨w.heap.size≤k_)) (.slice (some ⟨go5,0,none⟩) x0_1.length co8) y312 from (zq4 HO_0));obtain⟨ce11,hcl11,hM11,hcc11,hfr11⟩:=Kd.R_elem HX11.out z57 (x5_1:Int) (of_decide_eq_true zq1) (by have h_:(x5_1:Int)< ((x0_1.length:Int):Int):=of_decide_eq_true zq1;first|exact h_|(have e_:=(Kd.R_reads' HO_0.out).1;omega)|simpa using h_);obtain rfl:=k57_openM hM11;have HP11:=Kd.R_seg HX11.out (x5_1:Int) (of_decide_eq_true zq1) (by have h_:(x5_1:Int)< ((x0_1.length:Int):Int):=of_decide_eq_true zq1;first|exact h_|(have e_:=(Kd.R_reads' HO_0.out).1;omega)|simpa using h_) (seg:= [.int .i64 (wrap64 (x1_1+1))]) (j:=1) hcl11 hcc11 (show 2≤3 from by decide) (x':=(⟨(rd_T57 y312 x5_1).f0,wrap64 (x1_1+1),(rd_T57 y312 x5_1).f2⟩ :S57)) (k57_mkM _ _ _ (⟨(rd_T57 y312 x5_1).f0,wrap64 (x1_1+1),(rd_T57 y312 x5_1).f2⟩ :S57) ) (fun _ hk=>hk);have hx11_1:=hcc11 1 _ rfl;(try simp only [show (k57).sz=3 from rfl,Nat.mul_one,Nat.add_zero] at hx11_1);have hf11_1:=hfr11 1;(try simp only [show (k57).sz=3 from rfl,Nat.mul_one,Nat.add_zero] at hf11_1);clear hcl11 hcc11 hfr11 hM11)|((with_reducible refine gate_store (t:=3) (p:=23) rfl ?_);refine store_event (t:=3) (p:=23) (v:=?vo_w12) (w1:=(w10.setCell ⟨go5,(x5_1:Int).toNat * 3+1,none⟩ (.int .i64 (wrap64 (x1_1+1))))) ?hg ?ho ?hn ?hr ?_;(case ho=>rfl);(case hg=>rfl);(case hn=>rfl);(case hr=>first|(go_simp;done)|(go_simp;rfl));intro w12 hw;have hg:w10.grownBy w12 (some go5):=(by rw [hw];exact HP11.2);have hp_:Kd.R k57 57 w12 w0.heap.size (fun k_=>(P0_ k_∨w.heap.size≤k_)) (.slice (some ⟨go5,0,none⟩) x0_1.length co8) y313:=(by rw [hw,Ny313.out];exact HP11.1);clear HP11;replace HB:=Aside0.mk ((by rw [hw];exact below_set (HB.out) GB5.out:Below w0.heap.size w0 w12));replace HK:=Aside0.mk (Kept.of_grown (S:=(fun k_=>P0_ k_)) hg (by exact zk4 HK) (fun k_ e_=>(HO_0.out.1 k_ e_)));replace HO_0:=Aside0.mk (hp_);clear hg hw hp_;have p7: 0≤ (x5_1:Int):=of_decide_eq_true zq1;have q7:(x5_1:Int)< ((x0_1.length:Int):Int):=of_decide_eq_true zq1;obtain⟨ce7,hcl7,hM7,hcc7,hfr7⟩:=Kd.R_elem HO_0.out z57 (x5_1:Int) p7 q7;obtain rfl:=k57_openM hM7;have hx7_0:w12.cell? ⟨go5,(x5_1:Int).toNat * 3,none⟩=some (.int .i64 ((rd_T57 y313 x5_1).f0)):=hcc7 0 _ rfl;have hx7_1:w12.cell? ⟨go5,(x5_1:Int).toNat * 3+1,none⟩=some (.int .i64 ((rd_T57 y313 x5_1).f1)):=hcc7 1 _ rfl;have hx7_2:w12.cell? ⟨go5,(x5_1:Int).toNat * 3+2,none⟩=some (.int .i64 ((rd_T57 y313 x5_1).f2)):=hcc7 2 _ rfl;have hf7_0:w12.frozen? ⟨go5,(x5_1:Int).toNat * 3,none⟩=false:=hfr7 0;have hf7_1:w12.frozen? ⟨go5,(x5_1:Int).toNat * 3+1,none⟩=false:=hfr7 1;have hf7_2:w12.frozen? ⟨go5,(x5_1:Int).toNat * 3+2,none⟩=false:=hfr7 2;clear hcl7 hcc7 hfr7 hM7;replace p7:=eq_true p7;replace q7:=eq_true q7;have HX13:=Aside0.mk (show Kd.R k57 57 w12 w0.heap.size (fun k_=>(P0_ k_∨w.heap.size≤k_)) (.slice (some ⟨go5,0,none⟩) x0_1.length co8) y313 from (zq4 HO_0));obtain⟨ce13,hcl13,hM13,hcc13,hfr13⟩:=Kd.R_elem HX13.out z57 (x5_1:Int) (of_decide_eq_true zq1) (by have h_:(x5_1:Int)< ((x0_1.length:Int):Int):=of_decide_eq_true zq1;first|exact h_|(have e_:=(Kd.R_reads' HO_0.out).1;omega)|simpa using h_);obtain rfl:=k57_openM hM13;have HP13:=Kd.R_seg HX13.out (x5_1:Int) (of_decide_eq_true zq1) (by have h_:(x5_1:Int)< ((x0_1.length:Int):Int):=of_decide_eq_true zq1;first|exact h_|(have e_:=(Kd.R_reads' HO_0.out).1;omega)|simpa using h_) (seg:= [.int .i64 (wrap64 ((wrap64 (x1_1+1))+1))]) (j:=2) hcl13 hcc13 (show 3≤3 from by decide) (x':=(⟨(rd_T57 y313 x5_1).f0,(rd_T57 y313 x5_1).f1,wrap64 ((wrap64 (x1_1+1))+1)⟩ :S57)) (k57_mkM _ _ _ (⟨(rd_T57 y313 x5_1).f0,(rd_T57 y313 x5_1).f1,wrap64 ((wrap64 (x1_1+1))+1)⟩ :S57) ) (fun _ hk=>hk);have hx13_2:=hcc13 2 _ rfl;(try simp only [show (k57).sz=3 from rfl,Nat.mul_one,Nat.add_zero] at hx13_2);have hf13_2:=hfr13 2;(try simp only [show (k57).sz=3 from rfl,Nat.mul_one,Nat.add_zero] at hf13_2);clear hcl13 hcc13 hfr13 hM13)|((with_reducible refine gate_store (t:=3) (p:=30) rfl ?_);refine store_event (t:=3) (p:=30) (v:=?vo_w14) (w1:=(w12.setCell ⟨go5,(x5_1:Int).toNat * 3+2,none⟩ (.int .i64 (wrap64 ((wrap64 (x1_1+1))+1))))) ?hg ?ho ?hn ?hr ?_;(case ho=>rfl);(case hg=>rfl);(case hn=>rfl);(case hr=>first|(go_simp;done)|(go_simp;rfl));intro w14 hw;have hg:w12.grownBy w14 (some go5):=(by rw [hw];exact HP13.2);have hp_:Kd.R k57 57 w14 w0.heap.size (fun k_=>(P0_ k_∨w.heap.size≤k_)) (.slice (some ⟨go5,0,none⟩) x0_1.length co8) y314:=(by rw [hw,Ny314.out];exact HP13.1);clear HP13;replace HB:=Aside0.mk ((by rw [hw];exact below_set (HB.out) GB5.out:Below w0.heap.size w0 w14));replace HK:=Aside0.mk (Kept.of_grown (S:=(fun k_=>P0_ k_)) hg (by exact zk4 HK) (fun k_ e_=>(HO_0.out.1 k_ e_)));replace HO_0:=Aside0.mk (hp_);clear hg hw hp_))
    go_roundg k1
    case measure=>have:=HK1.out;omega
    case rel=>exact⟨(y314),(wrap64 ((wrap64 ((wrap64 (x1_1+1))+1))+1)),(wrap64 (x5_1+1)),zrs,zrs,H',⟨by have:=HK1.out;omega⟩,⟨zdr HO_0⟩,⟨by exact zk4 HK⟩,⟨by exact zk1 HB⟩⟩
   ·rw [if_neg c3] at H
    have c3b0:decide (x5_1< (x0_1.length:Int))=false:=decide_eq_false c3
    clear c3
    simp only [Option.some.injEq,Prod.mk.injEq] at H
    obtain⟨rfl,rfl⟩:=H
    obtain⟨Ao15,co15,eo15⟩:=Kd.R_slice HO_0.out
    subst eo15
    go_wp2
    go_ret
    exact⟨zer,zdr HO_0,by exact zk1 HB,by exact zk4 HK⟩
def laws_heldEdgeS.l0:Nat→List (S52)→Int→Int→Option (Int)
 | 0,_,_,_=>none
 |k+1,x0,x1,x5=>if x5< (x0.length:Int) then(if 0≤x5 then(if ((rd_T52 x0 x5).f0)=x1 then(if ((rd_T52 x0 x5).f1)= (wrap64 (x1+1)) then(if ((rd_T52 x0 x5).f2)= (wrap64 ((wrap64 (x1+1))+1)) then(laws_heldEdgeS.l0 k x0 (wrap64 ((wrap64 ((wrap64 (x1+1))+1))+1)) (wrap64 (x5+1))) else(some (-1))) else(some (-1))) else(some (-1))) else(none)) else(some x1)
def laws_heldEdgeS.f (k:Nat) (l0:List (S52)) (a1:Int):Option (Int):=laws_heldEdgeS.l0 k l0 a1 0
set_option maxHeartbeats 8000000 in
set_option maxRecDepth 100000 in
theorem laws_heldEdgeS.calls (k:Nat) (A0:Option Addr) (c0:Nat) (l0:List (S52)) (a1:Int) (r:Int) (w:World) (hr0:Kd.C k52 w A0 l0.length l0) (hc0:l0.length≤c0) (h:laws_heldEdgeS.f k l0 a1=some r):
  Calls Try.prog 27 #[.slice A0 l0.length c0,.int .i64 a1] w fun e w'=>e= .returned (.int .i64 r)∧Drawn0 w w':=by
 have HR0:=Aside0.mk hr0
 have HC0:=Aside0.mk hc0
 clear hr0 hc0
 have H:(laws_heldEdgeS.l0 k l0 a1 0)=some r:=h
 clear h
 have H':=Aside0.mk H
 clear H
 go_enter Try.func27,Try.ntmps27
 go_wp2
 go_loopg [1,5] k (fun kq v1 v5 w'=> ∃ (x1_1:Int) (x5_1:Int),v1= .int .i64 x1_1∧v5= .int .i64 x5_1∧Aside0 (laws_heldEdgeS.l0 kq l0 x1_1 x5_1=some r)∧Aside0 (kq≤k)∧Drawn0 w w')
 case atStart=>exact⟨(a1),(0),zrs,zrs,H',⟨Nat.le_refl _⟩,by repeat(first|exact Drawn0.refl _|apply Drawn0.step)⟩
 case round=>
  clear H'
  try clear c2
  try clear p2
  obtain⟨x1_1,x5_1,rfl,rfl,HA,HK1,⟨m1,rfl⟩⟩:=hrel
  cases gk with
  |zero=>exact absurd HA.out (by simp [laws_heldEdgeS.l0])
  |succ k1=>
   have H:=HA.out
   clear HA
   simp only [laws_heldEdgeS.l0] at H
   by_cases c3:x5_1< (l0.length:Int)
   ·rw [if_pos c3] at H
    have c3b0:decide (x5_1< (l0.length:Int))=true:=decide_eq_true c3
    clear c3
    by_cases c4: 0≤x5_1
    case neg=>exact znn c4 H
    rw [if_pos c4] at H
    have c4b0:decide (0≤x5_1)=true:=decide_eq_true c4
    clear c4
    by_cases c5:((rd_T52 l0 x5_1).f0)=x1_1
    ·rw [if_pos c5] at H
     have c5b0:(((rd_T52 l0 x5_1).f0)==x1_1)=true:=beq_iff_eq.mpr c5
     have c5b1:(((rd_T52 l0 x5_1).f0) !=x1_1)=false:=bne_eq_false_iff_eq.mpr c5
     clear c5
     by_cases c6:((rd_T52 l0 x5_1).f1)= (wrap64 (x1_1+1))
     ·rw [if_pos c6] at H
      have c6b0:(((rd_T52 l0 x5_1).f1)== (wrap64 (x1_1+1)))=true:=beq_iff_eq.mpr c6
      have c6b1:(((rd_T52 l0 x5_1).f1) != (wrap64 (x1_1+1)))=false:=bne_eq_false_iff_eq.mpr c6
      clear c6
      by_cases c7:((rd_T52 l0 x5_1).f2)= (wrap64 ((wrap64 (x1_1+1))+1))
      ·rw [if_pos c7] at H
       have c7b0:(((rd_T52 l0 x5_1).f2)== (wrap64 ((wrap64 (x1_1+1))+1)))=true:=beq_iff_eq.mpr c7
       have c7b1:(((rd_T52 l0 x5_1).f2) != (wrap64 ((wrap64 (x1_1+1))+1)))=false:=bne_eq_false_iff_eq.mpr c7
       clear c7
       have H':=Aside0.mk H
       clear H
       have p315: 0≤ (x5_1:Int):=of_decide_eq_true zq1
       have q315:x5_1< (l0.length:Int):=of_decide_eq_true zq1
       obtain⟨ad315,e315,hx315_0,hx315_1,hx315_2⟩:=at_T52 HR0.out x5_1 p315 q315
       cases e315
       replace p315:=eq_true p315
       replace q315:=eq_true q315
       have p316: 0≤ (x5_1:Int):=of_decide_eq_true zq1
       have q316:x5_1< (l0.length:Int):=of_decide_eq_true zq1
       obtain⟨ad316,e316,hx316_0,hx316_1,hx316_2⟩:=at_T52 HR0.out x5_1 p316 q316
       obtain rfl:ad315=ad316:=(by injection e316)
       replace p316:=eq_true p316
       replace q316:=eq_true q316
       have p317: 0≤ (x5_1:Int):=of_decide_eq_true zq1
       have q317:x5_1< (l0.length:Int):=of_decide_eq_true zq1
       obtain⟨ad317,e317,hx317_0,hx317_1,hx317_2⟩:=at_T52 HR0.out x5_1 p317 q317
       obtain rfl:ad315=ad317:=(by injection e317)
       replace p317:=eq_true p317
       replace q317:=eq_true q317
       go_wp2
       go_roundg k1
       case measure=>have:=HK1.out;omega
       case rel=>exact⟨(wrap64 ((wrap64 ((wrap64 (x1_1+1))+1))+1)),(wrap64 (x5_1+1)),zrs,zrs,H',⟨by have:=HK1.out;omega⟩,by repeat(first|exact Drawn0.refl _|apply Drawn0.step)⟩
      ·rw [if_neg c7] at H
       have c7b0:(((rd_T52 l0 x5_1).f2)== (wrap64 ((wrap64 (x1_1+1))+1)))=false:=beq_eq_false_iff_ne.mpr c7
       have c7b1:(((rd_T52 l0 x5_1).f2) != (wrap64 ((wrap64 (x1_1+1))+1)))=true:=bne_iff_ne.mpr c7
       obtain rfl:=Option.some.inj H
       have p315: 0≤ (x5_1:Int):=of_decide_eq_true zq1
       have q315:x5_1< (l0.length:Int):=of_decide_eq_true zq1
       obtain⟨ad315,e315,hx315_0,hx315_1,hx315_2⟩:=at_T52 HR0.out x5_1 p315 q315
       cases e315
       replace p315:=eq_true p315
       replace q315:=eq_true q315
       have p316: 0≤ (x5_1:Int):=of_decide_eq_true zq1
       have q316:x5_1< (l0.length:Int):=of_decide_eq_true zq1
       obtain⟨ad316,e316,hx316_0,hx316_1,hx316_2⟩:=at_T52 HR0.out x5_1 p316 q316
       obtain rfl:ad315=ad316:=(by injection e316)
       replace p316:=eq_true p316
       replace q316:=eq_true q316
       have p317: 0≤ (x5_1:Int):=of_decide_eq_true zq1
       have q317:x5_1< (l0.length:Int):=of_decide_eq_true zq1
       obtain⟨ad317,e317,hx317_0,hx317_1,hx317_2⟩:=at_T52 HR0.out x5_1 p317 q317
       obtain rfl:ad315=ad317:=(by injection e317)
       replace p317:=eq_true p317
       replace q317:=eq_true q317
       go_wp2
       go_ret
       exact⟨by first|rfl|(simp;done)|(simp [*];done),by repeat(first|exact Drawn0.refl _|apply Drawn0.step)⟩
     ·rw [if_neg c6] at H
      have c6b0:(((rd_T52 l0 x5_1).f1)== (wrap64 (x1_1+1)))=false:=beq_eq_false_iff_ne.mpr c6
      have c6b1:(((rd_T52 l0 x5_1).f1) != (wrap64 (x1_1+1)))=true:=bne_iff_ne.mpr c6
      obtain rfl:=Option.some.inj H
      have p315: 0≤ (x5_1:Int):=of_decide_eq_true zq1
      have q315:x5_1< (l0.length:Int):=of_decide_eq_true zq1
      obtain⟨ad315,e315,hx315_0,hx315_1,hx315_2⟩:=at_T52 HR0.out x5_1 p315 q315
      cases e315
      replace p315:=eq_true p315
      replace q315:=eq_true q315
      have p316: 0≤ (x5_1:Int):=of_decide_eq_true zq1
      have q316:x5_1< (l0.length:Int):=of_decide_eq_true zq1
      obtain⟨ad316,e316,hx316_0,hx316_1,hx316_2⟩:=at_T52 HR0.out x5_1 p316 q316
      obtain rfl:ad315=ad316:=(by injection e316)
      replace p316:=eq_true p316
      replace q316:=eq_true q316
      go_wp2
      go_ret
      exact⟨by first|rfl|(simp;done)|(simp [*];done),by repeat(first|exact Drawn0.refl _|apply Drawn0.step)⟩
    ·rw [if_neg c5] at H
     have c5b0:(((rd_T52 l0 x5_1).f0)==x1_1)=false:=beq_eq_false_iff_ne.mpr c5
     have c5b1:(((rd_T52 l0 x5_1).f0) !=x1_1)=true:=bne_iff_ne.mpr c5
     obtain rfl:=Option.some.inj H
     have p315: 0≤ (x5_1:Int):=of_decide_eq_true zq1
     have q315:x5_1< (l0.length:Int):=of_decide_eq_true zq1
     obtain⟨ad315,e315,hx315_0,hx315_1,hx315_2⟩:=at_T52 HR0.out x5_1 p315 q315
     cases e315
     replace p315:=eq_true p315
     replace q315:=eq_true q315
     go_wp2
     go_ret
     exact⟨by first|rfl|(simp;done)|(simp [*];done),by repeat(first|exact Drawn0.refl _|apply Drawn0.step)⟩
   ·rw [if_neg c3] at H
    have c3b0:decide (x5_1< (l0.length:Int))=false:=decide_eq_false c3
    clear c3
    obtain rfl:=Option.some.inj H
    go_wp2
    go_ret
    exact⟨by first|rfl|(simp;done)|(simp [*];done),by repeat(first|exact Drawn0.refl _|apply Drawn0.step)⟩
mutual
def laws_FnExactBothWays.j0:Nat→Int→List (S70)→List (S52)→Bool→List (S57)→List (S52)→Bool→Bool→Option (Bool)
 | 0,_,_,_,_,_,_,_,_=>none
 |k+1,x0,x1,x6,x7,x8,x9,x10,x44=>if x44=true then(some false) else((laws_toToldS.f k x1).bind fun t334=>((laws_eqToldS.f k x8 t334).bind fun t337=>(if t337=true then((laws_markToldS.f k x8 1).bind fun bt338=>(if bt338.1< 0 then(laws_FnExactBothWays.j1 k x0 x1 x6 x7 x9 true) else((laws_eqEdgeS.f k x9 x6).bind fun t340=>(if t340=true then(laws_FnExactBothWays.j1 k x0 x1 x6 x7 x9 (x10 !=x7)) else(laws_FnExactBothWays.j1 k x0 x1 x6 x7 x9 true))))) else(some false))))
def laws_FnExactBothWays.j1:Nat→Int→List (S70)→List (S52)→Bool→List (S52)→Bool→Option (Bool)
 | 0,_,_,_,_,_,_=>none
 |k+1,x0,x1,x6,x7,x9,x65=>if x65=true then(some false) else((laws_markEdgeS.f k x9 1).bind fun bt341=>((laws_heldEdgeS.f k bt341.2 1).bind fun t343=>(if t343< 0 then(some false) else(if t343=bt341.1 then((laws_toToldS.f k x1).bind fun t344=>((impl_BothWays.f k x0 t344).bind fun bt347=>((laws_eqEdgeS.f k bt347.1 x6).bind fun t351=>(if t351=true then(laws_FnExactBothWays.j2 k bt341.2 bt341.1 (bt347.2 !=x7)) else(laws_FnExactBothWays.j2 k bt341.2 bt341.1 true))))) else(some false)))))
def laws_FnExactBothWays.j2:Nat→List (S52)→Int→Bool→Option (Bool)
 | 0,_,_,_=>none
 |k+1,x9,x12,x92=>if x92=true then(some false) else((laws_heldEdgeS.f k x9 1).bind fun t352=>(if t352< 0 then(some false) else(if t352=x12 then(some true) else(some false))))
end
def laws_FnExactBothWays.f (k:Nat) (a0:Int) (l1:List (S70)):Option (Bool):=(laws_szToldS.f l1 1048576).bind fun t318=>(if t318< 0 then(some true) else((laws_toToldS.f k l1).bind fun t319=>((spec_BothWays.f k a0 t319).bind fun bt322=>((laws_toToldS.f k l1).bind fun t326=>((impl_BothWays.f k a0 t326).bind fun bt329=>((laws_eqEdgeS.f k bt329.1 bt322.1).bind fun t333=>(if t333=true then(laws_FnExactBothWays.j0 k a0 l1 bt322.1 bt322.2 t326 bt329.1 bt329.2 (bt329.2 !=bt322.2)) else(laws_FnExactBothWays.j0 k a0 l1 bt322.1 bt322.2 t326 bt329.1 bt329.2 true))))))))
set_option maxHeartbeats 8000000 in
set_option maxRecDepth 100000 in
theorem laws_FnExactBothWays.calls (k:Nat) (a0:Int) (A1:Option Addr) (c1:Nat) (l1:List (S70)) (r:Bool) (w:World) (hr1:Kd.C k70 w A1 l1.length l1) (hc1:l1.length≤c1) (h:laws_FnExactBothWays.f k a0 l1=some r) (hrt:r=true:=by rfl):
  Calls Try.prog 5 #[.int .i64 a0,.slice A1 l1.length c1] w fun e w'=>e= .returned (.bool r)∧Below w.heap.size w w':=by
 have HRT:=Aside0.mk hrt
 clear hrt
 have HR1:=Aside0.mk hr1
 have HC1:=Aside0.mk hc1
 clear hr1 hc1
 have HB:=Aside0.mk (Below.refl w.heap.size w)
 have H:((laws_szToldS.f l1 1048576).bind fun t318=>(if t318< 0 then(some true) else((laws_toToldS.f k l1).bind fun t319=>((spec_BothWays.f k a0 t319).bind fun bt322=>((laws_toToldS.f k l1).bind fun t326=>((impl_BothWays.f k a0 t326).bind fun bt329=>((laws_eqEdgeS.f k bt329.1 bt322.1).bind fun t333=>(if t333=true then(laws_FnExactBothWays.j0 k a0 l1 bt322.1 bt322.2 t326 bt329.1 bt329.2 (bt329.2 !=bt322.2)) else(laws_FnExactBothWays.j0 k a0 l1 bt322.1 bt322.2 t326 bt329.1 bt329.2 true)))))))))=some r:=h
 clear h
 replace H:=Option.bind_eq_some_iff.mp H
 obtain⟨t318,A30,H⟩:=H
 replace H:(if t318< 0 then(some true) else((laws_toToldS.f k l1).bind fun t319=>((spec_BothWays.f k a0 t319).bind fun bt322=>((laws_toToldS.f k l1).bind fun t326=>((impl_BothWays.f k a0 t326).bind fun bt329=>((laws_eqEdgeS.f k bt329.1 bt322.1).bind fun t333=>(if t333=true then(laws_FnExactBothWays.j0 k a0 l1 bt322.1 bt322.2 t326 bt329.1 bt329.2 (bt329.2 !=bt322.2)) else(laws_FnExactBothWays.j0 k a0 l1 bt322.1 bt322.2 t326 bt329.1 bt329.2 true))))))))=some r:=H
 have A3:=Aside0.mk A30
 clear A30
 by_cases c4:t318< 0
 ·rw [if_pos c4] at H
  have c4b0:decide (t318< 0)=true:=decide_eq_true c4
  clear c4
  obtain rfl:=Option.some.inj H
  go_enter Try.func5,Try.ntmps5
  go_wp2_with (first|((with_reducible refine gate_callee (f:=21) rfl ?_);refine goesL_ (some 18) rfl rfl Try.func21 (by kernel_rfl) rfl #[.slice A1 l1.length c1,.int .i64 1048576] rfl zq2 ?_;(with_reducible refine(laws_szToldS.calls _ _ l1 1048576 t318 _ ?side1 ?side2 A3.out).mono ?_);(case side1=>exact zcc (HR1.out));(case side2=>exact HC1.out);rintro e w' ⟨rfl,⟨nd,rfl⟩⟩;refine⟨_,rfl,?_⟩))
  go_ret
  exact⟨zer,by exact zk1 HB⟩
 ·rw [if_neg c4] at H
  have c4b0:decide (t318< 0)=false:=decide_eq_false c4
  clear c4
  replace H:=Option.bind_eq_some_iff.mp H
  obtain⟨t319,A50,H⟩:=H
  replace H:((spec_BothWays.f k a0 t319).bind fun bt322=>((laws_toToldS.f k l1).bind fun t326=>((impl_BothWays.f k a0 t326).bind fun bt329=>((laws_eqEdgeS.f k bt329.1 bt322.1).bind fun t333=>(if t333=true then(laws_FnExactBothWays.j0 k a0 l1 bt322.1 bt322.2 t326 bt329.1 bt329.2 (bt329.2 !=bt322.2)) else(laws_FnExactBothWays.j0 k a0 l1 bt322.1 bt322.2 t326 bt329.1 bt329.2 true))))))=some r:=H
  have A5:=Aside0.mk A50
  clear A50
  replace H:=Option.bind_eq_some_iff.mp H
  obtain⟨⟨t322,t323⟩,A60,H⟩:=H
  replace H:((laws_toToldS.f k l1).bind fun t326=>((impl_BothWays.f k a0 t326).bind fun bt329=>((laws_eqEdgeS.f k bt329.1 t322).bind fun t333=>(if t333=true then(laws_FnExactBothWays.j0 k a0 l1 t322 t323 t326 bt329.1 bt329.2 (bt329.2 !=t323)) else(laws_FnExactBothWays.j0 k a0 l1 t322 t323 t326 bt329.1 bt329.2 true)))))=some r:=H
  have A6:=Aside0.mk A60
  clear A60
  replace H:=Option.bind_eq_some_iff.mp H
  obtain⟨t326,A70,H⟩:=H
  replace H:((impl_BothWays.f k a0 t326).bind fun bt329=>((laws_eqEdgeS.f k bt329.1 t322).bind fun t333=>(if t333=true then(laws_FnExactBothWays.j0 k a0 l1 t322 t323 t326 bt329.1 bt329.2 (bt329.2 !=t323)) else(laws_FnExactBothWays.j0 k a0 l1 t322 t323 t326 bt329.1 bt329.2 true))))=some r:=H
  have A7:=Aside0.mk A70
  clear A70
  replace H:=Option.bind_eq_some_iff.mp H
  obtain⟨⟨t329,t330⟩,A80,H⟩:=H
  replace H:((laws_eqEdgeS.f k t329 t322).bind fun t333=>(if t333=true then(laws_FnExactBothWays.j0 k a0 l1 t322 t323 t326 t329 t330 (t330 !=t323)) else(laws_FnExactBothWays.j0 k a0 l1 t322 t323 t326 t329 t330 true)))=some r:=H
  have A8:=Aside0.mk A80
  clear A80
  have HC9:=Aside0.mk H
  clear H
  go_enter Try.func5,Try.ntmps5
  go_upto_region 8 with (first|((with_reducible refine gate_callee (f:=21) rfl ?_);refine goesL_ (some 18) rfl rfl Try.func21 (by kernel_rfl) rfl #[.slice A1 l1.length c1,.int .i64 1048576] rfl zq2 ?_;(with_reducible refine(laws_szToldS.calls _ _ l1 1048576 t318 _ ?side1 ?side2 A3.out).mono ?_);(case side1=>exact zcc (HR1.out));(case side2=>exact HC1.out);rintro e w' ⟨rfl,⟨nd,rfl⟩⟩;refine⟨_,rfl,?_⟩)|((with_reducible refine gate_callee (f:=23) rfl ?_);refine goesL_ (some 24) rfl rfl Try.func23 (by kernel_rfl) rfl #[.slice A1 l1.length c1] rfl zq2 ?_;(with_reducible refine(laws_toToldS.calls k _ _ l1 t319 _ ?side1 ?side2 A5.out).mono ?_);(case side1=>exact zcc (HR1.out));(case side2=>exact HC1.out);rintro e w10 ⟨v320,rfl,ho0,hb⟩;refine⟨_,rfl,?_⟩;have HO321:=Aside0.mk (Kd.R_lower ho0 (below_size (by exact zk1 HB)));replace HB:=Aside0.mk (below_step (by exact zk1 HB) hb);(try clear hb);(try clear hb2);(try clear hk);(try clear hi);(try clear ho0);obtain⟨Ao11,co11,eo11⟩:=Kd.R_slice HO321.out;subst eo11)|((with_reducible refine gate_callee (f:=22) rfl ?_);refine goesL_ (some 25) rfl rfl Try.func22 (by kernel_rfl) rfl #[.int .i64 a0,.slice Ao11 t319.length co11] rfl zq2 ?_;(with_reducible refine(spec_BothWays.calls k a0 _ _ t319 t322 t323 _ ?side1 ?side2 A6.out).mono ?_);(case side1=>exact zcc ((Kd.R_reads' HO321.out).2.2));(case side2=>exact(Kd.R_reads' HO321.out).2.1);rintro e w12 ⟨v324,rfl,ho0,hb⟩;refine⟨_,rfl,?_⟩;have HO325:=Aside0.mk (Kd.R_lower ho0 (below_size (by exact zk1 HB)));replace HO321:=Aside0.mk (Kd.R_below (zq4 HO321) hb);replace HB:=Aside0.mk (below_step (by exact zk1 HB) hb);(try clear hb);(try clear hb2);(try clear hk);(try clear hi);(try clear ho0))|((with_reducible refine gate_callee (f:=23) rfl ?_);refine goesL_ (some 29) rfl rfl Try.func23 (by kernel_rfl) rfl #[.slice A1 l1.length c1] rfl zq2 ?_;(with_reducible refine(laws_toToldS.calls k _ _ l1 t326 _ ?side1 ?side2 A7.out).mono ?_);(case side1=>exact zcc ((Kd.C_below HR1.out HB.out)));(case side2=>exact HC1.out);rintro e w13 ⟨v327,rfl,ho0,hb⟩;refine⟨_,rfl,?_⟩;have HO328:=Aside0.mk (Kd.R_lower (Kd.R_new' ho0 (Kd.R_lt (zq4 HO321))) (below_size (by exact zk1 HB)));replace HO321:=Aside0.mk (Kd.R_elder' (zq4 HO321) (Kd.R_base ho0) hb);replace HO325:=Aside0.mk (Kd.R_below (zq4 HO325) hb);replace HB:=Aside0.mk (below_step (by exact zk1 HB) hb);(try clear hb);(try clear hb2);(try clear hk);(try clear hi);(try clear ho0);obtain⟨Ao14,co14,eo14⟩:=Kd.R_slice HO328.out;subst eo14)|((with_reducible refine gate_callee (f:=24) rfl ?_);refine goesL_ (some 33) rfl rfl Try.func24 (by kernel_rfl) rfl #[.int .i64 a0,.slice Ao14 t326.length co14] rfl zq2 ?_;(with_reducible refine(impl_BothWays.calls k a0 _ _ t326 t329 t330 _ ?side1 ?side2 A8.out).mono ?_);(case side1=>exact zcc ((Kd.R_reads' HO328.out).2.2));(case side2=>exact(Kd.R_reads' HO328.out).2.1);rintro e w15 ⟨v331,rfl,ho0,hb⟩;refine⟨_,rfl,?_⟩;have HO332:=Aside0.mk (Kd.R_lower (Kd.R_new' ho0 (Kd.R_lt (zq4 HO325))) (below_size (by exact zk1 HB)));replace HO321:=Aside0.mk (Kd.R_below (zq4 HO321) hb);replace HO325:=Aside0.mk (Kd.R_elder' (zq4 HO325) (Kd.R_base ho0) hb);replace HO328:=Aside0.mk (Kd.R_below (zq4 HO328) hb);replace HB:=Aside0.mk (below_step (by exact zk1 HB) hb);(try clear hb);(try clear hb2);(try clear hk);(try clear hi);(try clear ho0)))
  (try simp only [Act.put,List.setIfInBounds_toArray,List.set_cons_zero,List.set_cons_succ])
  go_cut [44] (fun v44 wc=> ∃ (kq:Nat) (x44_8:Bool),v44= .bool x44_8∧Aside0 (laws_FnExactBothWays.j0 kq a0 l1 t322 t323 t326 t329 t330 x44_8=some r)∧Aside0 (kq≤k)∧Aside0 (Kd.R k52 52 wc w.heap.size (fun k_=>some k_≠ (v331:Value).ownBlock) v324 t322)∧Aside0 (Kd.R k57 57 wc w.heap.size (fun _=>True) (.slice Ao14 t326.length co14) t326)∧Aside0 (Kd.R k52 52 wc w.heap.size (fun k_=>some k_≠ (v324:Value).ownBlock) v331 t329)∧Aside0 (Below w.heap.size w wc))
  case first=>
   have H:=HC9.out
   clear HC9
   replace H:=Option.bind_eq_some_iff.mp H
   obtain⟨t333,A160,H⟩:=H
   replace H:(if t333=true then(laws_FnExactBothWays.j0 k a0 l1 t322 t323 t326 t329 t330 (t330 !=t323)) else(laws_FnExactBothWays.j0 k a0 l1 t322 t323 t326 t329 t330 true))=some r:=H
   have A16:=Aside0.mk A160
   clear A160
   by_cases c17:t333=true
   ·subst c17
    have H1:(laws_FnExactBothWays.j0 k a0 l1 t322 t323 t326 t329 t330 (t330 !=t323))=some r:=by rw [if_pos rfl] at H;exact H
    clear H
    have H:=H1
    clear H1
    have H':=Aside0.mk H
    clear H
    obtain⟨Ao18,co18,eo18⟩:=Kd.R_slice HO332.out
    subst eo18
    obtain⟨Ao19,co19,eo19⟩:=Kd.R_slice HO325.out
    subst eo19
    go_wp2_with (first|((with_reducible refine gate_callee (f:=14) rfl ?_);refine goesL_ (some 38) rfl rfl Try.func14 (by kernel_rfl) rfl #[.slice Ao18 t329.length co18,.slice Ao19 t322.length co19] rfl zq2 ?_;(with_reducible refine(laws_eqEdgeS.calls k _ _ t329 _ _ t322 true _ ?side1 ?side2 ?side3 ?side4 A16.out).mono ?_);(case side1=>exact zcc ((Kd.R_reads' HO332.out).2.2));(case side2=>exact(Kd.R_reads' HO332.out).2.1);(case side3=>exact zcc ((Kd.R_reads' HO325.out).2.2));(case side4=>exact(Kd.R_reads' HO325.out).2.1);rintro e w20 ⟨rfl,hb⟩;refine⟨_,rfl,?_⟩;replace HO321:=Aside0.mk (Kd.R_below (zq4 HO321) hb);replace HO325:=Aside0.mk (Kd.R_below (zq4 HO325) hb);replace HO328:=Aside0.mk (Kd.R_below (zq4 HO328) hb);replace HO332:=Aside0.mk (Kd.R_below (zq4 HO332) hb);replace HB:=Aside0.mk (below_step (by exact zk1 HB) hb);(try clear hb);(try clear hb2);(try clear hk);(try clear hi)))
    go_meet
    case rel=>exact⟨_,((t330 !=t323)),zrs,H',⟨by first|omega|exact Nat.le_refl _⟩,⟨by(with_reducible repeat(first|apply Kd.R_alloc|apply Kd.R_drewN|apply Kd.R_drew));exact Kd.R_mono HO325.out (fun _ hk=>hk.2)⟩,⟨by(with_reducible repeat(first|apply Kd.R_alloc|apply Kd.R_drewN|apply Kd.R_drew));exact Kd.R_mono HO328.out (fun _ hk=>trivial)⟩,⟨by(with_reducible repeat(first|apply Kd.R_alloc|apply Kd.R_drewN|apply Kd.R_drew));exact Kd.R_mono HO332.out (fun _ hk=>hk.2)⟩,⟨by exact zk1 HB⟩⟩
   ·replace c17:=Bool.eq_false_iff.mpr c17
    subst c17
    have H1:(laws_FnExactBothWays.j0 k a0 l1 t322 t323 t326 t329 t330 true)=some r:=by rw [if_neg (show ¬ (false=true) by decide)] at H;exact H
    clear H
    have H:=H1
    clear H1
    exact absurd (H.trans (congrArg some HRT.out)) (by cases k<;>simp [laws_FnExactBothWays.j0])
  case rest=>
   clear HC9
   try clear c1
   try clear c2
   try clear p2
   try clear c4
   try clear c4b0
   try clear c5
   try clear c14
   try clear c17
   obtain⟨kq,x44_8,rfl,HA,HJ8,HO_6,HO_8,HO_9,HB⟩:=hcut
   cases kq with
   |zero=>exact absurd HA.out (by simp [laws_FnExactBothWays.j0])
   |succ kj8=>
    have H:=HA.out
    clear HA
    simp only [laws_FnExactBothWays.j0] at H
    by_cases c21:x44_8=true
    ·subst c21
     have H1:(some false)=some r:=by rw [if_pos rfl] at H;exact H
     clear H
     have H:=H1
     clear H1
     exact absurd ((Option.some.inj H).trans HRT.out) (by decide)
    ·replace c21:=Bool.eq_false_iff.mpr c21
     subst c21
     have H1:((laws_toToldS.f kj8 l1).bind fun t334=>((laws_eqToldS.f kj8 t326 t334).bind fun t337=>(if t337=true then((laws_markToldS.f kj8 t326 1).bind fun bt338=>(if bt338.1< 0 then(laws_FnExactBothWays.j1 kj8 a0 l1 t322 t323 t329 true) else((laws_eqEdgeS.f kj8 t329 t322).bind fun t340=>(if t340=true then(laws_FnExactBothWays.j1 kj8 a0 l1 t322 t323 t329 (t330 !=t323)) else(laws_FnExactBothWays.j1 kj8 a0 l1 t322 t323 t329 true))))) else(some false))))=some r:=by rw [if_neg (show ¬ (false=true) by decide)] at H;exact H
     clear H
     have H:=H1
     clear H1
     replace H:=Option.bind_eq_some_iff.mp H
     obtain⟨t334,A220,H⟩:=H
     replace H:((laws_eqToldS.f kj8 t326 t334).bind fun t337=>(if t337=true then((laws_markToldS.f kj8 t326 1).bind fun bt338=>(if bt338.1< 0 then(laws_FnExactBothWays.j1 kj8 a0 l1 t322 t323 t329 true) else((laws_eqEdgeS.f kj8 t329 t322).bind fun t340=>(if t340=true then(laws_FnExactBothWays.j1 kj8 a0 l1 t322 t323 t329 (t330 !=t323)) else(laws_FnExactBothWays.j1 kj8 a0 l1 t322 t323 t329 true))))) else(some false)))=some r:=H
     have A22:=Aside0.mk A220
     clear A220
     replace H:=Option.bind_eq_some_iff.mp H
     obtain⟨t337,A230,H⟩:=H
     replace H:(if t337=true then((laws_markToldS.f kj8 t326 1).bind fun bt338=>(if bt338.1< 0 then(laws_FnExactBothWays.j1 kj8 a0 l1 t322 t323 t329 true) else((laws_eqEdgeS.f kj8 t329 t322).bind fun t340=>(if t340=true then(laws_FnExactBothWays.j1 kj8 a0 l1 t322 t323 t329 (t330 !=t323)) else(laws_FnExactBothWays.j1 kj8 a0 l1 t322 t323 t329 true))))) else(some false))=some r:=H
     have A23:=Aside0.mk A230
     clear A230
     by_cases c24:t337=true
     ·subst c24
      have H1:((laws_markToldS.f kj8 t326 1).bind fun bt338=>(if bt338.1< 0 then(laws_FnExactBothWays.j1 kj8 a0 l1 t322 t323 t329 true) else((laws_eqEdgeS.f kj8 t329 t322).bind fun t340=>(if t340=true then(laws_FnExactBothWays.j1 kj8 a0 l1 t322 t323 t329 (t330 !=t323)) else(laws_FnExactBothWays.j1 kj8 a0 l1 t322 t323 t329 true)))))=some r:=by rw [if_pos rfl] at H;exact H
      clear H
      have H:=H1
      clear H1
      replace H:=Option.bind_eq_some_iff.mp H
      obtain⟨⟨t338,t339⟩,A250,H⟩:=H
      replace H:(if t338< 0 then(laws_FnExactBothWays.j1 kj8 a0 l1 t322 t323 t329 true) else((laws_eqEdgeS.f kj8 t329 t322).bind fun t340=>(if t340=true then(laws_FnExactBothWays.j1 kj8 a0 l1 t322 t323 t329 (t330 !=t323)) else(laws_FnExactBothWays.j1 kj8 a0 l1 t322 t323 t329 true))))=some r:=H
      have A25:=Aside0.mk A250
      clear A250
      have HC26:=Aside0.mk H
      clear H
      go_upto_region 14 with (first|((with_reducible refine gate_callee (f:=23) rfl ?_);refine goesL_ (some 47) rfl rfl Try.func23 (by kernel_rfl) rfl #[.slice A1 l1.length c1] rfl zq2 ?_;(with_reducible refine(laws_toToldS.calls kj8 _ _ l1 t334 _ ?side1 ?side2 A22.out).mono ?_);(case side1=>exact zcc ((Kd.C_below HR1.out HB.out)));(case side2=>exact HC1.out);rintro e w27 ⟨v335,rfl,ho0,hb⟩;refine⟨_,rfl,?_⟩;have HO336:=Aside0.mk (Kd.R_lower (Kd.R_new' ho0 (Kd.R_lt (zq4 HO_8))) (below_size (by exact zk1 HB)));replace HO_6:=Aside0.mk (Kd.R_below (zq4 HO_6) hb);replace HO_8:=Aside0.mk (Kd.R_elder' (zq4 HO_8) (Kd.R_base ho0) hb);replace HO_9:=Aside0.mk (Kd.R_below (zq4 HO_9) hb);replace HB:=Aside0.mk (below_step (by exact zk1 HB) hb);(try clear hb);(try clear hb2);(try clear hk);(try clear hi);(try clear ho0);obtain⟨Ao28,co28,eo28⟩:=Kd.R_slice HO336.out;subst eo28)|((with_reducible refine gate_callee (f:=25) rfl ?_);refine goesL_ (some 48) rfl rfl Try.func25 (by kernel_rfl) rfl #[.slice Ao14 t326.length co14,.slice Ao28 t334.length co28] rfl zq2 ?_;(with_reducible refine(laws_eqToldS.calls kj8 _ _ t326 _ _ t334 true _ ?side1 ?side2 ?side3 ?side4 A23.out).mono ?_);(case side1=>exact zcc ((Kd.R_reads' HO_8.out).2.2));(case side2=>exact(Kd.R_reads' HO_8.out).2.1);(case side3=>exact zcc ((Kd.R_reads' HO336.out).2.2));(case side4=>exact(Kd.R_reads' HO336.out).2.1);rintro e w29 ⟨rfl,hb⟩;refine⟨_,rfl,?_⟩;replace HO_6:=Aside0.mk (Kd.R_below (zq4 HO_6) hb);replace HO_8:=Aside0.mk (Kd.R_below (zq4 HO_8) hb);replace HO_9:=Aside0.mk (Kd.R_below (zq4 HO_9) hb);replace HO336:=Aside0.mk (Kd.R_below (zq4 HO336) hb);replace HB:=Aside0.mk (below_step (by exact zk1 HB) hb);(try clear hb);(try clear hb2);(try clear hk);(try clear hi))|((with_reducible refine gate_callee (f:=26) rfl ?_);refine goesL_ (some 52) rfl rfl Try.func26 (by kernel_rfl) rfl #[.slice Ao14 t326.length co14,.int .i64 1] rfl zq2 ?_;(with_reducible refine(laws_markToldS.calls kj8 (fun k_=>some k_= (.slice Ao14 t326.length co14:Value).ownBlock) (.slice Ao14 t326.length co14) t326 1 t338 t339 w _ ?side1 ?side2 A25.out).mono ?_);(case side1=>exact zk1 HB);(case side2=>exact Kd.R_tight rfl HO_8.out);rintro e w30 ⟨rfl,hy0,hb,hkp⟩;refine⟨_,rfl,?_⟩;replace HO_6:=Aside0.mk (Kd.R_mono (ok':=fun k_=>some k_≠ (v331:Value).ownBlock) (Kd.R_keptB ((Kd.R_apart' HO_6.out (Kd.R_typed HO_8.out) (by decide))) hkp (fun k_ hk_ hs_=>(hk_.2) hs_)) (fun k_ hk_=>hk_.1.1));replace HO_9:=Aside0.mk (Kd.R_mono (ok':=fun k_=>some k_≠ (v324:Value).ownBlock) (Kd.R_keptB ((Kd.R_apart' HO_9.out (Kd.R_typed HO_8.out) (by decide))) hkp (fun k_ hk_ hs_=>(hk_.2) hs_)) (fun k_ hk_=>hk_.1.1));replace HO_8:=Aside0.mk (Kd.R_reok rfl hy0 (fun k_ e_=>HO_8.out.1 k_ e_));replace HO336:=Aside0.mk (Kd.R_mono (ok':=fun k_=>some k_≠ (.slice Ao14 t326.length co14:Value).ownBlock) (Kd.R_keptB (HO336.out) hkp (fun k_ hk_ hs_=>(hk_.2) hs_)) (fun k_ hk_=>hk_.1.2));replace HB:=Aside0.mk (hb);(try clear hb);(try clear hkp);(try clear hy0)))
      (try simp only [Act.put,List.setIfInBounds_toArray,List.set_cons_zero,List.set_cons_succ])
      go_cut [65] (fun v65 wc=> ∃ (kq:Nat) (x65_25:Bool),v65= .bool x65_25∧Aside0 (laws_FnExactBothWays.j1 kq a0 l1 t322 t323 t329 x65_25=some r)∧Aside0 (kq≤kj8)∧Aside0 (Kd.R k52 52 wc w.heap.size (fun k_=>some k_≠ (v331:Value).ownBlock) v324 t322)∧Aside0 (Kd.R k52 52 wc w.heap.size (fun k_=>some k_≠ (v324:Value).ownBlock) v331 t329)∧Aside0 (Below w.heap.size w wc))
      case first=>
       have H:=HC26.out
       clear HC26
       by_cases c31:t338< 0
       ·rw [if_pos c31] at H
        have c31b0:decide (t338< 0)=true:=decide_eq_true c31
        clear c31
        (first|rw [c31b0]|(simp only [i64_w,i32_w];rw [c31b0])|skip)
        exact absurd (H.trans (congrArg some HRT.out)) (by cases kj8<;>simp [laws_FnExactBothWays.j1])
       ·rw [if_neg c31] at H
        have c31b0:decide (t338< 0)=false:=decide_eq_false c31
        clear c31
        (first|rw [c31b0]|(simp only [i64_w,i32_w];rw [c31b0])|skip)
        replace H:=Option.bind_eq_some_iff.mp H
        obtain⟨t340,A320,H⟩:=H
        replace H:(if t340=true then(laws_FnExactBothWays.j1 kj8 a0 l1 t322 t323 t329 (t330 !=t323)) else(laws_FnExactBothWays.j1 kj8 a0 l1 t322 t323 t329 true))=some r:=H
        have A32:=Aside0.mk A320
        clear A320
        by_cases c33:t340=true
        ·subst c33
         have H1:(laws_FnExactBothWays.j1 kj8 a0 l1 t322 t323 t329 (t330 !=t323))=some r:=by rw [if_pos rfl] at H;exact H
         clear H
         have H:=H1
         clear H1
         have H':=Aside0.mk H
         clear H
         obtain⟨Ao34,co34,eo34⟩:=Kd.R_slice HO_9.out
         subst eo34
         obtain⟨Ao35,co35,eo35⟩:=Kd.R_slice HO_6.out
         subst eo35
         go_wp2_with (first|(go_at_call 14;(with_reducible refine(laws_eqEdgeS.calls kj8 _ _ t329 _ _ t322 true _ ?side1 ?side2 ?side3 ?side4 A32.out).mono ?_);(case side1=>exact zcc ((Kd.R_reads' HO_9.out).2.2));(case side2=>exact(Kd.R_reads' HO_9.out).2.1);(case side3=>exact zcc ((Kd.R_reads' HO_6.out).2.2));(case side4=>exact(Kd.R_reads' HO_6.out).2.1);rintro e w36 ⟨rfl,hb⟩;replace HO_6:=Aside0.mk (Kd.R_below (zq4 HO_6) hb);replace HO_8:=Aside0.mk (Kd.R_below (zq4 HO_8) hb);replace HO_9:=Aside0.mk (Kd.R_below (zq4 HO_9) hb);replace HO336:=Aside0.mk (Kd.R_below (zq4 HO336) hb);replace HB:=Aside0.mk (below_step (by exact zk1 HB) hb);(try clear hb);(try clear hb2);(try clear hk);(try clear hi)))
         go_meet
         case rel=>exact⟨_,((t330 !=t323)),zrs,H',⟨by have:=HJ8.out;first|omega|exact Nat.le_refl _⟩,⟨zdr HO_6⟩,⟨zdr HO_9⟩,⟨by exact zk1 HB⟩⟩
        ·replace c33:=Bool.eq_false_iff.mpr c33
         subst c33
         have H1:(laws_FnExactBothWays.j1 kj8 a0 l1 t322 t323 t329 true)=some r:=by rw [if_neg (show ¬ (false=true) by decide)] at H;exact H
         clear H
         have H:=H1
         clear H1
         exact absurd (H.trans (congrArg some HRT.out)) (by cases kj8<;>simp [laws_FnExactBothWays.j1])
      case rest=>
       clear HC26
       try clear c1
       try clear c2
       try clear p2
       try clear c3
       try clear c4
       try clear c4b0
       try clear c5
       try clear c14
       try clear c17
       try clear c21
       try clear c22
       try clear c23
       try clear c24
       try clear c25
       try clear c26
       try clear c31
       try clear c31b0
       try clear c33
       try clear p2
       obtain⟨kq,x65_25,rfl,HA,HJ25,HO_6,HO_9,HB⟩:=hcut
       cases kq with
       |zero=>exact absurd HA.out (by simp [laws_FnExactBothWays.j1])
       |succ kj25=>
        have H:=HA.out
        clear HA
        simp only [laws_FnExactBothWays.j1] at H
        by_cases c37:x65_25=true
        ·subst c37
         have H1:(some false)=some r:=by rw [if_pos rfl] at H;exact H
         clear H
         have H:=H1
         clear H1
         exact absurd ((Option.some.inj H).trans HRT.out) (by decide)
        ·replace c37:=Bool.eq_false_iff.mpr c37
         subst c37
         have H1:((laws_markEdgeS.f kj25 t329 1).bind fun bt341=>((laws_heldEdgeS.f kj25 bt341.2 1).bind fun t343=>(if t343< 0 then(some false) else(if t343=bt341.1 then((laws_toToldS.f kj25 l1).bind fun t344=>((impl_BothWays.f kj25 a0 t344).bind fun bt347=>((laws_eqEdgeS.f kj25 bt347.1 t322).bind fun t351=>(if t351=true then(laws_FnExactBothWays.j2 kj25 bt341.2 bt341.1 (bt347.2 !=t323)) else(laws_FnExactBothWays.j2 kj25 bt341.2 bt341.1 true))))) else(some false)))))=some r:=by rw [if_neg (show ¬ (false=true) by decide)] at H;exact H
         clear H
         have H:=H1
         clear H1
         replace H:=Option.bind_eq_some_iff.mp H
         obtain⟨⟨t341,t342⟩,A380,H⟩:=H
         replace H:((laws_heldEdgeS.f kj25 t342 1).bind fun t343=>(if t343< 0 then(some false) else(if t343=t341 then((laws_toToldS.f kj25 l1).bind fun t344=>((impl_BothWays.f kj25 a0 t344).bind fun bt347=>((laws_eqEdgeS.f kj25 bt347.1 t322).bind fun t351=>(if t351=true then(laws_FnExactBothWays.j2 kj25 t342 t341 (bt347.2 !=t323)) else(laws_FnExactBothWays.j2 kj25 t342 t341 true))))) else(some false))))=some r:=H
         have A38:=Aside0.mk A380
         clear A380
         replace H:=Option.bind_eq_some_iff.mp H
         obtain⟨t343,A390,H⟩:=H
         replace H:(if t343< 0 then(some false) else(if t343=t341 then((laws_toToldS.f kj25 l1).bind fun t344=>((impl_BothWays.f kj25 a0 t344).bind fun bt347=>((laws_eqEdgeS.f kj25 bt347.1 t322).bind fun t351=>(if t351=true then(laws_FnExactBothWays.j2 kj25 t342 t341 (bt347.2 !=t323)) else(laws_FnExactBothWays.j2 kj25 t342 t341 true))))) else(some false)))=some r:=H
         have A39:=Aside0.mk A390
         clear A390
         by_cases c40:t343< 0
         ·rw [if_pos c40] at H
          have c40b0:decide (t343< 0)=true:=decide_eq_true c40
          clear c40
          exact absurd ((Option.some.inj H).trans HRT.out) (by decide)
         ·rw [if_neg c40] at H
          have c40b0:decide (t343< 0)=false:=decide_eq_false c40
          clear c40
          by_cases c41:t343=t341
          ·rw [if_pos c41] at H
           have c41b0:(t343==t341)=true:=beq_iff_eq.mpr c41
           have c41b1:(t343 !=t341)=false:=bne_eq_false_iff_eq.mpr c41
           clear c41
           replace H:=Option.bind_eq_some_iff.mp H
           obtain⟨t344,A420,H⟩:=H
           replace H:((impl_BothWays.f kj25 a0 t344).bind fun bt347=>((laws_eqEdgeS.f kj25 bt347.1 t322).bind fun t351=>(if t351=true then(laws_FnExactBothWays.j2 kj25 t342 t341 (bt347.2 !=t323)) else(laws_FnExactBothWays.j2 kj25 t342 t341 true))))=some r:=H
           have A42:=Aside0.mk A420
           clear A420
           replace H:=Option.bind_eq_some_iff.mp H
           obtain⟨⟨t347,t348⟩,A430,H⟩:=H
           replace H:((laws_eqEdgeS.f kj25 t347 t322).bind fun t351=>(if t351=true then(laws_FnExactBothWays.j2 kj25 t342 t341 (t348 !=t323)) else(laws_FnExactBothWays.j2 kj25 t342 t341 true)))=some r:=H
           have A43:=Aside0.mk A430
           clear A430
           have HC44:=Aside0.mk H
           clear H
           obtain⟨Ao45,co45,eo45⟩:=Kd.R_slice HO_9.out
           subst eo45
           go_upto_region 25 with (first|((with_reducible refine gate_callee (f:=18) rfl ?_);refine goesL_ (some 68) rfl rfl Try.func18 (by kernel_rfl) rfl #[.slice Ao45 t329.length co45,.int .i64 1] rfl zq2 ?_;(with_reducible refine(laws_markEdgeS.calls kj25 (fun k_=>some k_= (.slice Ao45 t329.length co45:Value).ownBlock) (.slice Ao45 t329.length co45) t329 1 t341 t342 w _ ?side1 ?side2 A38.out).mono ?_);(case side1=>exact zk1 HB);(case side2=>exact Kd.R_tight rfl HO_9.out);rintro e w46 ⟨rfl,hy0,hb,hkp⟩;refine⟨_,rfl,?_⟩;replace HO_6:=Aside0.mk (Kd.R_mono (ok':=fun k_=>some k_≠ (.slice Ao45 t329.length co45:Value).ownBlock) (Kd.R_keptB (HO_6.out) hkp (fun k_ hk_ hs_=>(hk_) hs_)) (fun k_ hk_=>hk_.1));replace HO_9:=Aside0.mk (Kd.R_reok rfl hy0 (fun k_ e_=>HO_9.out.1 k_ e_));replace HB:=Aside0.mk (hb);(try clear hb);(try clear hkp);(try clear hy0))|((with_reducible refine gate_callee (f:=27) rfl ?_);refine goesL_ (some 71) rfl rfl Try.func27 (by kernel_rfl) rfl #[.slice Ao45 t342.length co45,.int .i64 1] rfl (by(try simp only [List.map_toArray,List.map_cons,List.map_nil]);first|done|(rw [show t342.length=t329.length from (Kd.R_reads' HO_9.out).1.symm]<;>rfl)|rfl|(simp only [List.length_drop,List.length_take];rfl)) ?_;(with_reducible refine(laws_heldEdgeS.calls kj25 _ _ t342 1 t343 _ ?side1 ?side2 A39.out).mono ?_);(case side1=>exact zcc ((Kd.R_reads' HO_9.out).2.2));(case side2=>rw [show t342.length=t329.length from (Kd.R_reads' HO_9.out).1.symm];exact(Kd.R_reads' HO_9.out).2.1);rintro e w' ⟨rfl,⟨nd,rfl⟩⟩;refine⟨_,rfl,?_⟩)|((with_reducible refine gate_callee (f:=23) rfl ?_);refine goesL_ (some 80) rfl rfl Try.func23 (by kernel_rfl) rfl #[.slice A1 l1.length c1] rfl zq2 ?_;(with_reducible refine(laws_toToldS.calls kj25 _ _ l1 t344 _ ?side1 ?side2 A42.out).mono ?_);(case side1=>repeat(first|exact(Kd.C_below HR1.out (by exact zk1 HB))|(with_reducible refine Kd.C_alloc ?_ _)|(with_reducible refine Kd.C_drewN ?_ _)|(with_reducible refine Kd.C_drew ?_)));(case side2=>exact HC1.out);rintro e w47 ⟨v345,rfl,ho0,hb⟩;refine⟨_,rfl,?_⟩;have HO346:=Aside0.mk (Kd.R_lower ho0 (below_size (by exact zk1 HB)));replace HO_6:=Aside0.mk (Kd.R_below (zq4 HO_6) hb);replace HO_9:=Aside0.mk (Kd.R_below (zq4 HO_9) hb);replace HB:=Aside0.mk (below_step (by exact zk1 HB) hb);(try clear hb);(try clear hb2);(try clear hk);(try clear hi);(try clear ho0);obtain⟨Ao48,co48,eo48⟩:=Kd.R_slice HO346.out;subst eo48)|((with_reducible refine gate_callee (f:=24) rfl ?_);refine goesL_ (some 81) rfl rfl Try.func24 (by kernel_rfl) rfl #[.int .i64 a0,.slice Ao48 t344.length co48] rfl zq2 ?_;(with_reducible refine(impl_BothWays.calls kj25 a0 _ _ t344 t347 t348 _ ?side1 ?side2 A43.out).mono ?_);(case side1=>exact zcc ((Kd.R_reads' HO346.out).2.2));(case side2=>exact(Kd.R_reads' HO346.out).2.1);rintro e w49 ⟨v349,rfl,ho0,hb⟩;refine⟨_,rfl,?_⟩;have HO350:=Aside0.mk (Kd.R_lower (Kd.R_new' (Kd.R_new' ho0 (Kd.R_lt (zq4 HO_6))) (Kd.R_lt (zq4 HO_9))) (below_size (by exact zk1 HB)));replace HO_6:=Aside0.mk (Kd.R_elder' (zq4 HO_6) (Kd.R_base ho0) hb);replace HO_9:=Aside0.mk (Kd.R_elder' (zq4 HO_9) (Kd.R_base ho0) hb);replace HO346:=Aside0.mk (Kd.R_below (zq4 HO346) hb);replace HB:=Aside0.mk (below_step (by exact zk1 HB) hb);(try clear hb);(try clear hb2);(try clear hk);(try clear hi);(try clear ho0)))
           (try simp only [Act.put,List.setIfInBounds_toArray,List.set_cons_zero,List.set_cons_succ])
           go_cut [92] (fun v92 wc=> ∃ (kq:Nat) (x92_43:Bool),v92= .bool x92_43∧Aside0 (laws_FnExactBothWays.j2 kq t342 t341 x92_43=some r)∧Aside0 (kq≤kj25)∧Aside0 (Kd.R k52 52 wc w.heap.size (fun _=>True) (.slice Ao45 t329.length co45) t342)∧Aside0 (Below w.heap.size w wc))
           case first=>
            have H:=HC44.out
            clear HC44
            replace H:=Option.bind_eq_some_iff.mp H
            obtain⟨t351,A500,H⟩:=H
            replace H:(if t351=true then(laws_FnExactBothWays.j2 kj25 t342 t341 (t348 !=t323)) else(laws_FnExactBothWays.j2 kj25 t342 t341 true))=some r:=H
            have A50:=Aside0.mk A500
            clear A500
            by_cases c51:t351=true
            ·subst c51
             have H1:(laws_FnExactBothWays.j2 kj25 t342 t341 (t348 !=t323))=some r:=by rw [if_pos rfl] at H;exact H
             clear H
             have H:=H1
             clear H1
             have H':=Aside0.mk H
             clear H
             obtain⟨Ao52,co52,eo52⟩:=Kd.R_slice HO350.out
             subst eo52
             obtain⟨Ao53,co53,eo53⟩:=Kd.R_slice HO_6.out
             subst eo53
             go_wp2_with (first|((with_reducible refine gate_callee (f:=14) rfl ?_);refine goesL_ (some 86) rfl rfl Try.func14 (by kernel_rfl) rfl #[.slice Ao52 t347.length co52,.slice Ao53 t322.length co53] rfl zq2 ?_;(with_reducible refine(laws_eqEdgeS.calls kj25 _ _ t347 _ _ t322 true _ ?side1 ?side2 ?side3 ?side4 A50.out).mono ?_);(case side1=>exact zcc ((Kd.R_reads' HO350.out).2.2));(case side2=>exact(Kd.R_reads' HO350.out).2.1);(case side3=>exact zcc ((Kd.R_reads' HO_6.out).2.2));(case side4=>exact(Kd.R_reads' HO_6.out).2.1);rintro e w54 ⟨rfl,hb⟩;refine⟨_,rfl,?_⟩;replace HO_6:=Aside0.mk (Kd.R_below (zq4 HO_6) hb);replace HO_9:=Aside0.mk (Kd.R_below (zq4 HO_9) hb);replace HO346:=Aside0.mk (Kd.R_below (zq4 HO346) hb);replace HO350:=Aside0.mk (Kd.R_below (zq4 HO350) hb);replace HB:=Aside0.mk (below_step (by exact zk1 HB) hb);(try clear hb);(try clear hb2);(try clear hk);(try clear hi)))
             go_meet
             case rel=>exact⟨_,((t348 !=t323)),zrs,H',⟨by have:=HJ8.out;have:=HJ25.out;first|omega|exact Nat.le_refl _⟩,⟨by(with_reducible repeat(first|apply Kd.R_alloc|apply Kd.R_drewN|apply Kd.R_drew));exact Kd.R_mono HO_9.out (fun _ hk=>trivial)⟩,⟨by exact zk1 HB⟩⟩
            ·replace c51:=Bool.eq_false_iff.mpr c51
             subst c51
             have H1:(laws_FnExactBothWays.j2 kj25 t342 t341 true)=some r:=by rw [if_neg (show ¬ (false=true) by decide)] at H;exact H
             clear H
             have H:=H1
             clear H1
             exact absurd (H.trans (congrArg some HRT.out)) (by cases kj25<;>simp [laws_FnExactBothWays.j2])
           case rest=>
            clear HC44
            try clear c1
            try clear c2
            try clear p2
            try clear c3
            try clear c4
            try clear c4b0
            try clear c5
            try clear c14
            try clear c17
            try clear c18
            try clear c21
            try clear c22
            try clear c23
            try clear c24
            try clear c25
            try clear c26
            try clear c27
            try clear c31
            try clear c31b0
            try clear c33
            try clear c37
            try clear c40
            try clear c40b0
            try clear c41
            try clear c41b0
            try clear c41b1
            try clear c51
            try clear p2
            obtain⟨kq,x92_43,rfl,HA,HJ43,HO_9,HB⟩:=hcut
            have hl9_43:=(Kd.R_reads' HO_9.out).1
            rw [hl9_43] at HO_9
            (try simp only [hl9_43])
            cases kq with
            |zero=>exact absurd HA.out (by simp [laws_FnExactBothWays.j2])
            |succ kj43=>
             have H:=HA.out
             clear HA
             simp only [laws_FnExactBothWays.j2] at H
             by_cases c55:x92_43=true
             ·subst c55
              have H1:(some false)=some r:=by rw [if_pos rfl] at H;exact H
              clear H
              have H:=H1
              clear H1
              exact absurd ((Option.some.inj H).trans HRT.out) (by decide)
             ·replace c55:=Bool.eq_false_iff.mpr c55
              subst c55
              have H1:((laws_heldEdgeS.f kj43 t342 1).bind fun t352=>(if t352< 0 then(some false) else(if t352=t341 then(some true) else(some false))))=some r:=by rw [if_neg (show ¬ (false=true) by decide)] at H;exact H
              clear H
              have H:=H1
              clear H1
              replace H:=Option.bind_eq_some_iff.mp H
              obtain⟨t352,A560,H⟩:=H
              replace H:(if t352< 0 then(some false) else(if t352=t341 then(some true) else(some false)))=some r:=H
              have A56:=Aside0.mk A560
              clear A560
              by_cases c57:t352< 0
              ·rw [if_pos c57] at H
               have c57b0:decide (t352< 0)=true:=decide_eq_true c57
               clear c57
               exact absurd ((Option.some.inj H).trans HRT.out) (by decide)
              ·rw [if_neg c57] at H
               have c57b0:decide (t352< 0)=false:=decide_eq_false c57
               clear c57
               by_cases c58:t352=t341
               ·rw [if_pos c58] at H
                have c58b0:(t352==t341)=true:=beq_iff_eq.mpr c58
                have c58b1:(t352 !=t341)=false:=bne_eq_false_iff_eq.mpr c58
                clear c58
                obtain rfl:=Option.some.inj H
                go_wp2_with (first|((with_reducible refine gate_callee (f:=27) rfl ?_);refine goesL_ (some 95) rfl rfl Try.func27 (by kernel_rfl) rfl #[.slice Ao45 t342.length co45,.int .i64 1] rfl zq2 ?_;(with_reducible refine(laws_heldEdgeS.calls kj43 _ _ t342 1 t352 _ ?side1 ?side2 A56.out).mono ?_);(case side1=>exact zcc ((Kd.R_reads' HO_9.out).2.2));(case side2=>exact(Kd.R_reads' HO_9.out).2.1);rintro e w' ⟨rfl,⟨nd,rfl⟩⟩;refine⟨_,rfl,?_⟩))
                go_ret
                exact⟨zer,by exact zk1 HB⟩
               ·rw [if_neg c58] at H
                have c58b0:(t352==t341)=false:=beq_eq_false_iff_ne.mpr c58
                have c58b1:(t352 !=t341)=true:=bne_iff_ne.mpr c58
                exact absurd ((Option.some.inj H).trans HRT.out) (by decide)
          ·rw [if_neg c41] at H
           have c41b0:(t343==t341)=false:=beq_eq_false_iff_ne.mpr c41
           have c41b1:(t343 !=t341)=true:=bne_iff_ne.mpr c41
           exact absurd ((Option.some.inj H).trans HRT.out) (by decide)
     ·replace c24:=Bool.eq_false_iff.mpr c24
      subst c24
      have H1:(some false)=some r:=by rw [if_neg (show ¬ (false=true) by decide)] at H;exact H
      clear H
      have H:=H1
      clear H1
      exact absurd ((Option.some.inj H).trans HRT.out) (by decide)
open Go.RowKit Go.Proofs.YtpbnpepikkocmaaW.PrintWords Go.Proofs.YtpbnpepikkocmaaW.PrintLast
def wfS70 (s : S70) : Prop := (fun n : Int => (Lit.int .i64 n).wf = true) s.f0 ∧ (fun n : Int => (Lit.int .i64 n).wf = true) s.f1 ∧ (fun n : Int => (Lit.int .i64 n).wf = true) s.f2
/-- The one pure statement of laws_FnExactBothWays. -/
def laws_FnExactBothWays.Pure : Prop := ∀ (a0 : Int) (l1 : List (S70)), (fun n : Int => (Lit.int .i64 n).wf = true) a0 → (fun l : List (S70) => l.length ≤ maxLen ∧ ∀ x ∈ l, wfS70 x) l1 → ∃ k, laws_FnExactBothWays.f k a0 l1 = some true
open Go.RowKit Go.Proofs.YtpbnpepikkocmaaW.PrintWords
theorem wrap_id {x:Int} (h0: -9223372036854775808≤x) (h1:x≤9223372036854775807):wrap64 x=x:=by unfold wrap64;omega
theorem Ev.succ {α :Type} {g:Nat→Option α} {r: α} (h:Ev (fun k=>g (k+1)) r):Ev g r:=Ev.step (fun _=>rfl) h
theorem Ev.some_ {α :Type} {r s: α} (h:r=s):Ev (fun _=>some r) s:=h ▸ Ev.now r
theorem getD_mid {α :Type} (d: α) (pre:List α) (x: α) (suf:List α):(pre++x::suf).getD ((pre.length:Int)).toNat d=x:=by simp
theorem set_mid {α :Type} (pre:List α) (x y: α) (suf:List α):(pre++x::suf).set ((pre.length:Int)).toNat y=pre++y::suf:=by simp
theorem app_one {α :Type} (pre:List α) (x: α) (suf:List α):pre++x::suf= (pre++ [x])++suf:=by simp
theorem len_one {α :Type} (pre:List α) (x: α):((pre++ [x]).length:Int)=pre.length+1:=by simp
theorem rdEdge_mid (pre:List S52) (x:S52) (suf:List S52):rd_T52 (pre++x::suf) (pre.length:Int)=x:=getD_mid _ pre x suf
instance decEdge:DecidableEq S52:=fun a b=>decidable_of_iff (a.f0=b.f0∧a.f1=b.f1∧a.f2=b.f2) (by cases a;cases b;simp)
theorem eqEdge_is (a b:S52):laws_eqEdge.f a.f0 a.f1 a.f2 b.f0 b.f1 b.f2=some (decide (a=b)):=by
 cases a;cases b
 unfold laws_eqEdge.f
 simp only [S52.mk.injEq]
 split
 ·split
  ·split
   ·rename_i h1 h2 h3;simp [h1,h2,h3]
   ·rename_i h1 h2 h3;simp [h3]
  ·rename_i h1 h2;simp [h2]
 ·rename_i h1;simp [h1]
theorem eqEdgeS_l (s:List S52):∀ (t pre qre:List S52) (k:Nat),s.length<k→pre.length=qre.length→s.length=t.length→ (pre.length:Int)+s.length≤1099511627776→
  laws_eqEdgeS.l0 k (pre++s) (qre++t) (pre.length:Int)=some (decide (s=t)):=by
 induction s with
 |nil=>
  intro t pre qre k hk hq hl hb
  obtain⟨k,rfl⟩ :∃ m,k=m+1:=⟨k - 1,by omega⟩
  obtain rfl:t= []:=List.eq_nil_of_length_eq_zero (by simpa using hl.symm)
  simp only [laws_eqEdgeS.l0]
  rw [if_neg (by simp)]
  simp
 |cons x s ih=>
  intro t pre qre k hk hq hl hb
  cases t with
  |nil=>simp at hl
  |cons y t=>
   simp only [List.length_cons] at hk hl hb
   obtain⟨k,rfl⟩ :∃ m,k=m+1:=⟨k - 1,by omega⟩
   have h:=ih t (pre++ [x]) (qre++ [y]) k (by omega) (by simp;omega) (by omega) (by simp;omega)
   have hy:rd_T52 (qre++y::t) (pre.length:Int)=y:=by rw [hq];exact rdEdge_mid qre y t
   simp only [laws_eqEdgeS.l0]
   rw [if_pos (by simp;omega),if_pos (by omega),if_pos (by simp;omega),rdEdge_mid,hy,eqEdge_is,wrap_id (by omega) (by omega)]
   simp only [Option.bind_some]
   by_cases e:x=y
   ·subst e
    rw [if_pos (by simp)]
    simpa using h
   ·rw [if_neg (by simpa using e)]
    simp [e]
theorem eqEdgeS_ev (s t:List S52) (hs:s.length≤1099511627776):Ev (fun k=>laws_eqEdgeS.f k s t) (decide (s=t)):=by
 refine⟨s.length+1,fun k hk=>?_⟩
 show laws_eqEdgeS.f k s t=_
 unfold laws_eqEdgeS.f
 by_cases hl:s.length=t.length
 ·rw [if_pos (by omega)]
  exact eqEdgeS_l s t [] [] k (by omega) rfl hl (by simp;omega)
 ·rw [if_neg (by omega)]
  have:s≠t:=fun e=>hl (by rw [e])
  simp [this]
theorem rdTold_mid (pre:List S57) (x:S57) (suf:List S57):rd_T57 (pre++x::suf) (pre.length:Int)=x:=getD_mid _ pre x suf
theorem rdLTold_mid (pre:List S70) (x:S70) (suf:List S70):rd_T70 (pre++x::suf) (pre.length:Int)=x:=getD_mid _ pre x suf
instance decTold:DecidableEq S57:=fun a b=>decidable_of_iff (a.f0=b.f0∧a.f1=b.f1∧a.f2=b.f2) (by cases a;cases b;simp)
def cvTold (x:S70):S57:=⟨x.f0,x.f1,x.f2⟩
theorem toToldS_l (suf:List S70):∀ (pre:List S70) (k:Nat),suf.length<k→ (pre.length:Int)+suf.length≤1099511627776→
  laws_toToldS.l0 k (pre++suf) (pre.map cvTold++List.replicate suf.length z57) (pre.length:Int)=some ((pre++suf).map cvTold):=by
 induction suf with
 |nil=>
  intro pre k hk hb
  obtain⟨k,rfl⟩ :∃ m,k=m+1:=⟨k - 1,by omega⟩
  simp only [laws_toToldS.l0]
  rw [if_neg (by simp)]
  simp
 |cons x suf ih=>
  intro pre k hk hb
  simp only [List.length_cons] at hk hb
  obtain⟨k,rfl⟩ :∃ m,k=m+1:=⟨k - 1,by omega⟩
  have h:=ih (pre++ [x]) k (by omega) (by simp;omega)
  simp only [laws_toToldS.l0]
  rw [if_pos (by simp;omega),if_pos (by omega),rdLTold_mid]
  simp only [laws_toTold.f,Option.bind_some]
  rw [if_pos (by simp;omega),wrap_id (by omega) (by omega)]
  have e:(pre.map cvTold++List.replicate (x::suf).length z57).set ((pre.length:Int)).toNat (⟨x.f0,x.f1,x.f2⟩ :S57)= (pre++ [x]).map cvTold++List.replicate suf.length z57:=by
   simp [List.replicate_succ,cvTold]
  rw [e]
  simpa using h
theorem toToldS_ev (l:List S70) (hl:l.length≤1048576):Ev (fun k=>laws_toToldS.f k l) (l.map cvTold):=by
 refine⟨l.length+1,fun k hk=>?_⟩
 have h:=toToldS_l l [] k (by omega) (by simp;omega)
 show laws_toToldS.f k l=_
 unfold laws_toToldS.f
 rw [if_pos (by omega),if_pos (by simp;omega)]
 simpa using h
theorem eqTold_is (a b:S57):laws_eqTold.f a.f0 a.f1 a.f2 b.f0 b.f1 b.f2=some (decide (a=b)):=by
 cases a;cases b
 unfold laws_eqTold.f
 simp only [S57.mk.injEq]
 split
 ·split
  ·split
   ·rename_i h1 h2 h3;simp [h1,h2,h3]
   ·rename_i h1 h2 h3;simp [h3]
  ·rename_i h1 h2;simp [h2]
 ·rename_i h1;simp [h1]
theorem eqToldS_l (s:List S57):∀ (t pre qre:List S57) (k:Nat),s.length<k→pre.length=qre.length→s.length=t.length→ (pre.length:Int)+s.length≤1099511627776→
  laws_eqToldS.l0 k (pre++s) (qre++t) (pre.length:Int)=some (decide (s=t)):=by
 induction s with
 |nil=>
  intro t pre qre k hk hq hl hb
  obtain⟨k,rfl⟩ :∃ m,k=m+1:=⟨k - 1,by omega⟩
  obtain rfl:t= []:=List.eq_nil_of_length_eq_zero (by simpa using hl.symm)
  simp only [laws_eqToldS.l0]
  rw [if_neg (by simp)]
  simp
 |cons x s ih=>
  intro t pre qre k hk hq hl hb
  cases t with
  |nil=>simp at hl
  |cons y t=>
   simp only [List.length_cons] at hk hl hb
   obtain⟨k,rfl⟩ :∃ m,k=m+1:=⟨k - 1,by omega⟩
   have h:=ih t (pre++ [x]) (qre++ [y]) k (by omega) (by simp;omega) (by omega) (by simp;omega)
   have hy:rd_T57 (qre++y::t) (pre.length:Int)=y:=by rw [hq];exact rdTold_mid qre y t
   simp only [laws_eqToldS.l0]
   rw [if_pos (by simp;omega),if_pos (by omega),if_pos (by simp;omega),rdTold_mid,hy,eqTold_is,wrap_id (by omega) (by omega)]
   simp only [Option.bind_some]
   by_cases e:x=y
   ·subst e
    rw [if_pos (by simp)]
    simpa using h
   ·rw [if_neg (by simpa using e)]
    simp [e]
theorem eqToldS_ev (s t:List S57) (hs:s.length≤1099511627776):Ev (fun k=>laws_eqToldS.f k s t) (decide (s=t)):=by
 refine⟨s.length+1,fun k hk=>?_⟩
 show laws_eqToldS.f k s t=_
 unfold laws_eqToldS.f
 by_cases hl:s.length=t.length
 ·rw [if_pos (by omega)]
  exact eqToldS_l s t [] [] k (by omega) rfl hl (by simp;omega)
 ·rw [if_neg (by omega)]
  have:s≠t:=fun e=>hl (by rw [e])
  simp [this]
theorem szToldS_is (l:List S70) (hl:l.length≤maxLen) (a:Int) (h0: 0≤a) (h1:a≤1048576):laws_szToldS.f l a=some (if a - l.length< 0 then -1 else a - l.length):=by
 have hm:l.length≤9223372036854775807:=by unfold maxLen at hl;exact hl
 unfold laws_szToldS.f
 rw [wrap_id (by omega) (by omega)]
 split<;>rfl
-- sweeps over a list of numbers, and a list taken over, both sides
theorem specIn (a b c:Int):spec_l1In.f a b c=some (decide (b≤a∧a≤c)):=by
 unfold spec_l1In.f
 by_cases h:a≥b
 ·rw [if_pos h]
  congr 1
  by_cases h2:a≤c
  ·rw [decide_eq_true h2,decide_eq_true ⟨h,h2⟩]
  ·rw [decide_eq_false h2,decide_eq_false (fun hc=>h2 hc.2)]
 ·rw [if_neg h,decide_eq_false (fun hc=>h hc.1)]
theorem implIn (a b c:Int):impl_in.f a b c=some (decide (b≤a∧a≤c)):=specIn a b c
def isTold (m:Int) (x:S57):Bool:=decide (0≤x.f0∧x.f0≤m∧0≤x.f1∧x.f1≤m∧x.f0≠x.f1∧1≤x.f2∧x.f2≤100)
theorem isTold_iff (m:Int) (x:S57):isTold m x=true↔ (0≤x.f0∧x.f0≤m∧0≤x.f1∧x.f1≤m∧x.f0≠x.f1∧1≤x.f2∧x.f2≤100):=by unfold isTold;simp only [decide_eq_true_eq]
def toldAt:List S57→Int→Int→Int→Int
 | [],_,_,c=>c
 |x::r,a,b,c=>toldAt r a b (if x.f0=a∧x.f1=b then x.f2 else c)
theorem toldAt_snoc (l:List S57) (x:S57):∀ (a b c:Int),toldAt (l++ [x]) a b c=if x.f0=a∧x.f1=b then x.f2 else toldAt l a b c:=by
 induction l with
 |nil=>intro a b c;rfl
 |cons y l ih=>intro a b c;exact ih a b _
def stepB (T:Int→Int→Int) (out:List S52) (a b:Int):List S52:=if 0<T a b∧0<T b a then out++ [⟨a,b,mx (T a b) (T b a)⟩] else out
def inB (T:Int→Int→Int) (a:Int):Nat→Int→List S52→List S52
 | 0,_,out=>out
 |m+1,b,out=>inB T a m (b+1) (stepB T out a b)
def outB (T:Int→Int→Int) (n:Int):Nat→Int→List S52→List S52
 | 0,_,out=>out
 |m+1,a,out=>outB T n m (a+1) (inB T a (n - (a+1)).toNat (a+1) out)
theorem stepB_len (T:Int→Int→Int) (out:List S52) (a b:Int):(stepB T out a b).length≤out.length+1:=by
 unfold stepB
 split
 ·simp
 ·omega
theorem inB_len (T:Int→Int→Int) (a:Int) (m:Nat):∀ (b:Int) (out:List S52),(inB T a m b out).length≤out.length+m:=by
 induction m with
 |zero=>intro b out;exact Nat.le_refl _
 |succ m ih=>
  intro b out
  have h1:=ih (b+1) (stepB T out a b)
  have h2:=stepB_len T out a b
  simp only [inB]
  omega
def finB (e:List S52):List S52 × Bool:=if e.length > 40 then([],false) else(e,true)
def bothOf (n:Int) (l:List S57):List S52:=outB (fun a b=>toldAt l a b 0) n n.toNat 0 []
def bothWays (n:Int) (l:List S57):List S52 × Bool:=
 if ((1≤n∧n≤12)∧l.length≤80)∧l.all (isTold (wrap64 (n - 1)))=true then finB (bothOf n l) else([],false)
theorem bothWays_len (n:Int) (l:List S57):(bothWays n l).1.length≤40:=by
 unfold bothWays finB
 split
 ·split
  ·simp
  ·show (bothOf n l).length≤40
   omega
 ·simp
/-! the reference -/
theorem specTold_l (a b:Int) (suf:List S57):∀ (pre:List S57) (c:Int),(pre.length:Int)+suf.length≤1099511627776→
  Ev (fun k=>spec_l8Told.l0 k a b c (pre++suf) ((pre++suf).length:Int) (pre.length:Int)) (toldAt suf a b c):=by
 induction suf with
 |nil=>
  intro pre c hb
  refine Ev.succ ?_
  simp only [spec_l8Told.l0]
  simp only [if_neg (show ¬ (pre.length:Int)< ((pre++ ([] :List S57)).length:Int) by simp)]
  exact Ev.now _
 |cons x suf ih=>
  intro pre c hb
  simp only [List.length_cons] at hb
  have c1:(pre.length:Int)< ((pre++x::suf).length:Int):=by simp<;>omega
  have h:=fun c'=>ih (pre++ [x]) c' (by simp<;>omega)
  simp only [← app_one,len_one] at h
  refine Ev.succ ?_
  simp only [spec_l8Told.l0]
  simp only [if_pos c1,if_pos (show (0:Int)≤ (pre.length:Int) by omega),rdTold_mid]
  rw [wrap_id (x:=(pre.length:Int)+1) (by omega) (by omega)]
  simp only [toldAt]
  by_cases h1:x.f0=a
  ·by_cases h2:x.f1=b
   ·simp only [if_pos h1,if_pos h2,if_pos (And.intro h1 h2)]
    exact h _
   ·simp only [if_pos h1,if_neg h2,if_neg (fun hc:x.f0=a∧x.f1=b=>h2 hc.2)]
    exact h _
  ·simp only [if_neg h1,if_neg (fun hc:x.f0=a∧x.f1=b=>h1 hc.1)]
   exact h _
theorem specTold_ev (l:List S57) (a b:Int) (hl:l.length≤1048576):Ev (fun k=>spec_l8Told.f k l a b) (toldAt l a b 0):=by
 unfold spec_l8Told.f
 exact specTold_l a b l [] 0 (by simp<;>omega)
theorem specB_in (n:Int) (hn:n≤12) (l:List S57) (hl:l.length≤1048576) (R:List S52 × Bool) (a:Int) (h0: 0≤a) (m:Nat):∀ (b:Int) (out:List S52),b+m=n→0≤b→out.length+m≤1000→
  Ev (fun k=>spec_BothWays.l1 k n l (inB (fun a b=>toldAt l a b 0) a m b out) (wrap64 (a+1))) R→Ev (fun k=>spec_BothWays.l2 k n l out a b) R:=by
 induction m with
 |zero=>
  intro b out hb hb0 ho h
  refine Ev.succ ?_
  simp only [spec_BothWays.l2,if_neg (show ¬ b<n by omega)]
  exact h
 |succ m ih=>
  intro b out hb hb0 ho h
  have hs:=stepB_len (fun a b=>toldAt l a b 0) out a b
  have h':=ih (b+1) (stepB (fun a b=>toldAt l a b 0) out a b) (by omega) (by omega) (by omega) h
  refine Ev.succ ?_
  simp only [spec_BothWays.l2,if_pos (show b<n by omega)]
  refine Ev.bind (specTold_ev l a b hl) ?_
  refine Ev.bind (specTold_ev l b a hl) ?_
  simp only [stepB] at h'
  have hw:wrap64 (b+1)=b+1:=wrap_id (by omega) (by omega)
  by_cases h1: 0<toldAt l a b 0
  ·simp only [gt_iff_lt,if_pos h1]
   refine Ev.succ ?_
   simp only [spec_BothWays.j4,hw]
   by_cases h2: 0<toldAt l b a 0
   ·simp only [h2,decide_true,if_true,if_pos (show out.length< 5864062014805 by omega)]
    rw [if_pos ⟨h1,h2⟩] at h'
    by_cases h3:toldAt l a b 0<toldAt l b a 0
    ·simp only [gt_iff_lt,if_pos h3]
     simp only [mx,if_pos h3] at h'
     exact h'
    ·simp only [gt_iff_lt,if_neg h3]
     simp only [mx,if_neg h3] at h'
     exact h'
   ·simp only [h2,decide_false,Bool.false_eq_true,if_false]
    rw [if_neg (fun hc=>h2 hc.2)] at h'
    exact h'
  ·simp only [gt_iff_lt,if_neg h1]
   refine Ev.succ ?_
   simp only [spec_BothWays.j4,hw,Bool.false_eq_true,if_false]
   rw [if_neg (fun hc=>h1 hc.1)] at h'
   exact h'
theorem finB_int (e:List S52):(if (e.length:Int) > 40 then some (([] :List S52),false) else some (e,true))=some (finB e):=by
 unfold finB
 by_cases h:e.length > 40
 ·rw [if_pos h,if_pos (by omega)]
 ·rw [if_neg h,if_neg (by omega)]
theorem specB_out (n:Int) (hn:n≤12) (l:List S57) (hl:l.length≤1048576) (m:Nat):∀ (a:Int) (out:List S52),a+m=n→0≤a→out.length+12 * m≤900→
  Ev (fun k=>spec_BothWays.l1 k n l out a) (finB (outB (fun a b=>toldAt l a b 0) n m a out)):=by
 induction m with
 |zero=>
  intro a out ha h0 ho
  refine Ev.succ ?_
  simp only [spec_BothWays.l1,if_neg (show ¬ a<n by omega)]
  exact⟨0,fun k _=>finB_int _⟩
 |succ m ih=>
  intro a out ha h0 ho
  refine Ev.succ ?_
  simp only [spec_BothWays.l1,if_pos (show a<n by omega)]
  have hw:wrap64 (a+1)=a+1:=wrap_id (by omega) (by omega)
  rw [hw]
  refine specB_in n hn l hl _ a h0 (n - (a+1)).toNat (a+1) out (by omega) (by omega) (by omega) ?_
  rw [hw]
  have hi:=inB_len (fun a b=>toldAt l a b 0) a (n - (a+1)).toNat (a+1) out
  exact ih (a+1) _ (by omega) (by omega) (by omega)
theorem specB_l (n:Int) (L:List S57) (R:List S52 × Bool) (hR:Ev (fun k=>(spec_l1In.f n 1 12).bind fun t=>if t=true then spec_BothWays.j1 k n L (decide ((L.length:Int) > 80)) else spec_BothWays.j1 k n L true) R) (suf:List S57):∀ (pre:List S57),(pre.length:Int)+suf.length≤1099511627776→
  Ev (fun k=>spec_BothWays.l0 k n L (pre++suf) ((pre++suf).length:Int) (pre.length:Int)) (if suf.all (isTold (wrap64 (n - 1)))=true then R else([],false)):=by
 induction suf with
 |nil=>
  intro pre hb
  refine Ev.succ ?_
  simp only [spec_BothWays.l0]
  simp only [if_neg (show ¬ (pre.length:Int)< ((pre++ ([] :List S57)).length:Int) by simp),List.all_nil,if_true]
  exact hR
 |cons x suf ih=>
  intro pre hb
  simp only [List.length_cons] at hb
  have c1:(pre.length:Int)< ((pre++x::suf).length:Int):=by simp<;>omega
  have h:=ih (pre++ [x]) (by simp<;>omega)
  rw [← app_one,len_one] at h
  refine Ev.succ ?_
  simp only [spec_BothWays.l0]
  simp only [if_pos c1,if_pos (show (0:Int)≤ (pre.length:Int) by omega),rdTold_mid,specIn,Option.bind_some]
  rw [wrap_id (x:=(pre.length:Int)+1) (by omega) (by omega)]
  generalize wrap64 (n - 1)=m at h ⊢
  have bad:isTold m x=false→Ev (fun _=>some (([] :List S52),false)) (if (x::suf).all (isTold m)=true then R else([],false)):=by
   intro he
   refine Ev.some_ ?_
   simp [he]
  by_cases h1: 0≤x.f0∧x.f0≤m
  ·simp only [h1,and_self,decide_true,if_true]
   by_cases h2: 0≤x.f1∧x.f1≤m
   ·simp only [h2,and_self,decide_true,if_true]
    by_cases h3:x.f0=x.f1
    ·simp only [if_pos h3]
     refine bad ?_
     unfold isTold;simp only [decide_eq_false_iff_not];omega
    ·simp only [if_neg h3]
     by_cases h4: 1≤x.f2∧x.f2≤100
     ·simp only [h4,and_self,decide_true,if_true]
      have he:isTold m x=true:=by rw [isTold_iff];omega
      simp only [List.all_cons,he,Bool.true_and]
      exact h
     ·simp only [h4,decide_false,Bool.false_eq_true,if_false]
      refine bad ?_
      unfold isTold;simp only [decide_eq_false_iff_not];omega
   ·simp only [h2,decide_false,Bool.false_eq_true,if_false]
    refine bad ?_
    unfold isTold;simp only [decide_eq_false_iff_not];omega
  ·simp only [h1,decide_false,Bool.false_eq_true,if_false]
   refine bad ?_
   unfold isTold;simp only [decide_eq_false_iff_not];omega
theorem specBothWays_ev (n:Int) (l:List S57) (hl:l.length≤1048576):Ev (fun k=>spec_BothWays.f k n l) (bothWays n l):=by
 unfold spec_BothWays.f
 by_cases hg:(1≤n∧n≤12)∧l.length≤80
 ·have h:=specB_l n l (finB (bothOf n l)) ?_ l [] (by simp<;>omega)
  ·have e:bothWays n l=if l.all (isTold (wrap64 (n - 1)))=true then finB (bothOf n l) else([],false):=by
    unfold bothWays
    by_cases ha:l.all (isTold (wrap64 (n - 1)))=true
    ·rw [if_pos ⟨hg,ha⟩,if_pos ha]
    ·rw [if_neg (fun hc=>ha hc.2),if_neg ha]
   rw [e]
   exact h
  ·simp only [specIn,Option.bind_some,hg.1,and_self,decide_true,if_true]
   refine Ev.succ ?_
   simp only [spec_BothWays.j1,show decide ((l.length:Int) > 80)=false by simp<;>omega,Bool.false_eq_true,if_false]
   exact specB_out n (by omega) l hl n.toNat 0 [] (by omega) (by omega) (by simp<;>omega)
 ·have h:=specB_l n l ([],false) ?_ l [] (by simp<;>omega)
  ·have e:bothWays n l= ([],false):=by
    unfold bothWays
    rw [if_neg (fun hc=>hg hc.1)]
   rw [e]
   simpa using h
  ·simp only [specIn,Option.bind_some]
   by_cases h1: 1≤n∧n≤12
   ·simp only [h1,and_self,decide_true,if_true]
    refine Ev.succ ?_
    simp only [spec_BothWays.j1,show decide ((l.length:Int) > 80)=true by simp<;>omega,if_true]
    exact Ev.now _
   ·simp only [h1,decide_false,Bool.false_eq_true,if_false]
    refine Ev.succ ?_
    simp only [spec_BothWays.j1,if_true]
    exact Ev.now _
/-! the program -/
def heldB (x6:List Int) (T:Int→Int→Int):Prop:=x6.length=144∧ ∀ a b:Int,0≤a→a< 12→0≤b→b< 12→rd x6 (idxB a b)=T a b
theorem idxB_in {a b:Int} (h0: 0≤a) (h1:a< 12) (h2: 0≤b) (h3:b< 12):idxB a b=a * 12+b:=by
 unfold idxB
 rw [if_pos ⟨h0,h1,h2,h3⟩]
theorem heldB_set {x6:List Int} {T T':Int→Int→Int} (h:heldB x6 T) {a b v:Int} (h0: 0≤a) (h1:a< 12) (h2: 0≤b) (h3:b< 12) (hT:∀ c d,T' c d=if a=c∧b=d then v else T c d):heldB (x6.set (idxB a b).toNat v) T':=by
 obtain⟨hl,hh⟩:=h
 refine⟨by simp [hl],fun c d c0 c1 d0 d1=>?_⟩
 have hcd:=hh c d c0 c1 d0 d1
 rw [hT]
 unfold rd at hcd ⊢
 rw [idxB_in c0 c1 d0 d1] at hcd ⊢
 rw [idxB_in h0 h1 h2 h3]
 by_cases e:a=c∧b=d
 ·obtain⟨rfl,rfl⟩:=e
  rw [if_pos ⟨rfl,rfl⟩,List.getD_eq_getElem?_getD,List.getElem?_set_self (by omega)]
  rfl
 ·rw [if_neg e,← hcd,List.getD_eq_getElem?_getD,List.getElem?_set_ne (by omega),← List.getD_eq_getElem?_getD]
theorem implB_in (n:Int) (hn:n≤12) (T:Int→Int→Int) (x6:List Int) (hx:heldB x6 T) (R:List S52 × Bool) (a:Int) (h0: 0≤a) (han:a<n) (m:Nat):∀ (b:Int) (out:List S52),b+m=n→0≤b→out.length+m≤1000→
  Ev (fun k=>impl_BothWays.l1 k n x6 (inB T a m b out) n (wrap64 (a+1))) R→Ev (fun k=>impl_BothWays.l2 k n x6 out a b n a) R:=by
 induction m with
 |zero=>
  intro b out hb hb0 ho h
  refine Ev.succ ?_
  simp only [impl_BothWays.l2,if_neg (show ¬ b<n by omega)]
  exact h
 |succ m ih=>
  intro b out hb hb0 ho h
  have hs:=stepB_len T out a b
  have h':=ih (b+1) (stepB T out a b) (by omega) (by omega) (by omega) h
  have i1:=idxB_in h0 (show a< 12 by omega) hb0 (show b< 12 by omega)
  have i2:=idxB_in hb0 (show b< 12 by omega) h0 (show a< 12 by omega)
  have t1:=hx.2 a b h0 (by omega) hb0 (by omega)
  have t2:=hx.2 b a hb0 (by omega) h0 (by omega)
  have hl:=hx.1
  refine Ev.succ ?_
  have hw:wrap64 (b+1)=b+1:=wrap_id (by omega) (by omega)
  simp only [impl_BothWays.l2,if_pos (show b<n by omega),if_pos (show 0≤idxB a b by omega),if_pos (show idxB a b< (x6.length:Int) by omega),if_pos (show 0≤idxB b a by omega),if_pos (show idxB b a< (x6.length:Int) by omega),t1,t2,hw,if_pos (show out.length< 5864062014805 by omega)]
  simp only [stepB] at h'
  by_cases h1: 0<T a b
  ·by_cases h2: 0<T b a
   ·simp only [gt_iff_lt,if_pos h1,if_pos h2]
    rw [if_pos ⟨h1,h2⟩] at h'
    exact h'
   ·simp only [gt_iff_lt,if_pos h1,if_neg h2]
    rw [if_neg (fun hc=>h2 hc.2)] at h'
    exact h'
  ·simp only [gt_iff_lt,if_neg h1]
   rw [if_neg (fun hc=>h1 hc.1)] at h'
   exact h'
theorem implB_out (n:Int) (hn:n≤12) (T:Int→Int→Int) (x6:List Int) (hx:heldB x6 T) (m:Nat):∀ (a:Int) (out:List S52),a+m=n→0≤a→out.length+12 * m≤900→
  Ev (fun k=>impl_BothWays.l1 k n x6 out n a) (finB (outB T n m a out)):=by
 induction m with
 |zero=>
  intro a out ha h0 ho
  refine Ev.succ ?_
  simp only [impl_BothWays.l1,if_neg (show ¬ a<n by omega)]
  exact⟨0,fun k _=>finB_int _⟩
 |succ m ih=>
  intro a out ha h0 ho
  refine Ev.succ ?_
  simp only [impl_BothWays.l1,if_pos (show a<n by omega)]
  have hw:wrap64 (a+1)=a+1:=wrap_id (by omega) (by omega)
  rw [hw]
  refine implB_in n hn T x6 hx _ a h0 (by omega) (n - (a+1)).toNat (a+1) out (by omega) (by omega) (by omega) ?_
  rw [hw]
  have hi:=inB_len T a (n - (a+1)).toNat (a+1) out
  exact ih (a+1) _ (by omega) (by omega) (by omega)
theorem implB_l (n:Int) (h1n: 1≤n) (hn:n≤12) (suf:List S57):∀ (pre:List S57) (x6:List Int),(pre.length:Int)+suf.length≤1099511627776→heldB x6 (fun a b=>toldAt pre a b 0)→
  Ev (fun k=>impl_BothWays.l0 k n x6 (pre++suf) ((pre++suf).length:Int) (pre.length:Int)) (if suf.all (isTold (wrap64 (n - 1)))=true then finB (bothOf n (pre++suf)) else([],false)):=by
 induction suf with
 |nil=>
  intro pre x6 hb hx
  refine Ev.succ ?_
  simp only [impl_BothWays.l0]
  simp only [List.append_nil,if_neg (show ¬ (pre.length:Int)< (pre.length:Int) by omega),List.all_nil,if_true]
  exact implB_out n hn _ x6 hx n.toNat 0 [] (by omega) (by omega) (by simp<;>omega)
 |cons x suf ih=>
  intro pre x6 hb hx
  simp only [List.length_cons] at hb
  have c1:(pre.length:Int)< ((pre++x::suf).length:Int):=by simp<;>omega
  have h:=fun y6 hy=>ih (pre++ [x]) y6 (by simp<;>omega) hy
  simp only [← app_one,len_one] at h
  refine Ev.succ ?_
  simp only [impl_BothWays.l0]
  simp only [if_pos c1,if_pos (show (0:Int)≤ (pre.length:Int) by omega),rdTold_mid,implIn,Option.bind_some]
  rw [wrap_id (x:=(pre.length:Int)+1) (by omega) (by omega)]
  rw [wrap_id (x:=n - 1) (by omega) (by omega)] at h ⊢
  generalize finB (bothOf n (pre++x::suf))=R at h ⊢
  have bad:isTold (n - 1) x=false→Ev (fun _=>some (([] :List S52),false)) (if (x::suf).all (isTold (n - 1))=true then R else([],false)):=by
   intro he
   refine Ev.some_ ?_
   simp [he]
  by_cases h1: 0≤x.f0∧x.f0≤n - 1
  ·simp only [h1,and_self,decide_true,if_true]
   by_cases h2: 0≤x.f1∧x.f1≤n - 1
   ·simp only [h2,and_self,decide_true,if_true]
    by_cases h3:x.f0=x.f1
    ·simp only [if_pos h3]
     refine bad ?_
     unfold isTold;simp only [decide_eq_false_iff_not];omega
    ·simp only [if_neg h3]
     by_cases h4: 1≤x.f2∧x.f2≤100
     ·have i1:=idxB_in h1.1 (show x.f0< 12 by omega) h2.1 (show x.f1< 12 by omega)
      have hl:=hx.1
      simp only [h4,and_self,decide_true,if_true,if_pos (show 0≤idxB x.f0 x.f1 by omega),if_pos (show idxB x.f0 x.f1< (x6.length:Int) by omega)]
      have he:isTold (n - 1) x=true:=by rw [isTold_iff];omega
      simp only [List.all_cons,he,Bool.true_and]
      exact h _ (heldB_set hx h1.1 (by omega) h2.1 (by omega) (fun c d=>toldAt_snoc pre x c d 0))
     ·simp only [h4,decide_false,Bool.false_eq_true,if_false]
      refine bad ?_
      unfold isTold;simp only [decide_eq_false_iff_not];omega
   ·simp only [h2,decide_false,Bool.false_eq_true,if_false]
    refine bad ?_
    unfold isTold;simp only [decide_eq_false_iff_not];omega
  ·simp only [h1,decide_false,Bool.false_eq_true,if_false]
   refine bad ?_
   unfold isTold;simp only [decide_eq_false_iff_not];omega
theorem implBothWays_ev (n:Int) (l:List S57) (hl:l.length≤1048576):Ev (fun k=>impl_BothWays.f k n l) (bothWays n l):=by
 unfold impl_BothWays.f
 simp only [impl_isSpots.f,implIn,Option.bind_some]
 by_cases h1: 1≤n∧n≤12
 ·simp only [h1,and_self,decide_true,if_true]
  refine Ev.succ ?_
  simp only [impl_BothWays.j0]
  by_cases h2:l.length≤80
  ·simp only [show decide ((l.length:Int) > 80)=false by simp<;>omega,Bool.false_eq_true,if_false,if_pos (show (144:Nat)≤35184372088832 by omega)]
   have h:=implB_l n h1.1 h1.2 l [] (List.replicate 144 0) (by simp<;>omega) ⟨by simp,fun a b a0 a1 b0 b1=>?_⟩
   ·have e:bothWays n l=if l.all (isTold (wrap64 (n - 1)))=true then finB (bothOf n l) else([],false):=by
     unfold bothWays
     by_cases ha:l.all (isTold (wrap64 (n - 1)))=true
     ·rw [if_pos ⟨⟨h1,h2⟩,ha⟩,if_pos ha]
     ·rw [if_neg (fun hc=>ha hc.2),if_neg ha]
    rw [e]
    exact h
   ·unfold rd
    rw [idxB_in a0 a1 b0 b1,List.getD_eq_getElem?_getD,List.getElem?_replicate,if_pos (by omega)]
    rfl
  ·simp only [show decide ((l.length:Int) > 80)=true by simp<;>omega,if_true]
   refine Ev.some_ ?_
   unfold bothWays
   rw [if_neg (fun hc=>h2 hc.1.2)]
 ·simp only [h1,decide_false,Bool.false_eq_true,if_false]
  refine Ev.succ ?_
  simp only [impl_BothWays.j0,if_true]
  refine Ev.some_ ?_
  unfold bothWays
  rw [if_neg (fun hc=>h1 hc.1.1)]
def marksEdge:Nat→Int→List S52
 | 0,_=> []
 |n+1,q=>⟨q,q+1,q+2⟩::marksEdge n (q+3)
theorem markEdgeS_l (suf:List S52):∀ (pre:List S52) (k:Nat) (q:Int),suf.length<k→ (pre.length:Int)+suf.length≤1099511627776→0≤q→q+3 * suf.length≤4611686018427387904→
  laws_markEdgeS.l0 k (pre++suf) q (pre.length:Int)=some (q+3 * suf.length,pre++marksEdge suf.length q):=by
 induction suf with
 |nil=>
  intro pre k q hk hb h0 h1
  obtain⟨k,rfl⟩ :∃ m,k=m+1:=⟨k - 1,by omega⟩
  simp only [laws_markEdgeS.l0]
  rw [if_neg (by simp)]
  simp [marksEdge]
 |cons x suf ih=>
  intro pre k q hk hb h0 h1
  simp only [List.length_cons] at hk hb h1
  obtain⟨k,rfl⟩ :∃ m,k=m+1:=⟨k - 1,by omega⟩
  have h:=ih (pre++ [⟨q,q+1,q+2⟩]) k (q+3) (by omega) (by simp<;>omega) (by omega) (by omega)
  simp only [laws_markEdgeS.l0]
  rw [if_pos (by simp<;>omega),if_pos (by omega)]
  simp only [Option.bind_some,set_mid,rdEdge_mid]
  rw [wrap_id (x:=q+1) (by omega) (by omega),wrap_id (x:=q+1+1) (by omega) (by omega),wrap_id (x:=q+1+1+1) (by omega) (by omega),wrap_id (x:=(pre.length:Int)+1) (by omega) (by omega)]
  rw [show q+1+1=q+2 from by omega,show q+2+1=q+3 from by omega]
  rw [show ((pre++ [(⟨q,q+1,q+2⟩ :S52)]).length:Int)= (pre.length:Int)+1 from by simp] at h
  rw [app_one,h]
  simp only [marksEdge,List.length_cons,List.append_assoc,List.cons_append,List.nil_append,Option.some.injEq,Prod.mk.injEq,and_true]
  omega
theorem markEdgeS_ev (l:List S52) (q:Int) (hl:l.length≤1099511627776) (h0: 0≤q) (h1:q≤1099511627776):Ev (fun k=>laws_markEdgeS.f k l q) (q+3 * l.length,marksEdge l.length q):=by
 refine⟨l.length+1,fun k hk=>?_⟩
 show laws_markEdgeS.f k l q=_
 unfold laws_markEdgeS.f
 simpa using markEdgeS_l l [] k q (by omega) (by simp<;>omega) h0 (by omega)
theorem heldEdgeS_l (n:Nat):∀ (pre:List S52) (k:Nat) (q:Int),n<k→ (pre.length:Int)+n≤1099511627776→0≤q→q+3 * n≤4611686018427387904→
  laws_heldEdgeS.l0 k (pre++marksEdge n q) q (pre.length:Int)=some (q+3 * n):=by
 induction n with
 |zero=>
  intro pre k q hk hb h0 h1
  obtain⟨k,rfl⟩ :∃ m,k=m+1:=⟨k - 1,by omega⟩
  simp only [laws_heldEdgeS.l0]
  rw [show marksEdge 0 q= [] from rfl,if_neg (by simp)]
  simp
 |succ n ih=>
  intro pre k q hk hb h0 h1
  obtain⟨k,rfl⟩ :∃ m,k=m+1:=⟨k - 1,by omega⟩
  have h:=ih (pre++ [⟨q,q+1,q+2⟩]) k (q+3) (by omega) (by simp<;>omega) (by omega) (by omega)
  simp only [laws_heldEdgeS.l0]
  rw [show marksEdge (n+1) q= ⟨q,q+1,q+2⟩::marksEdge n (q+3) from rfl]
  rw [if_pos (by simp<;>omega),if_pos (by omega)]
  simp only [rdEdge_mid]
  rw [wrap_id (x:=q+1) (by omega) (by omega),wrap_id (x:=q+1+1) (by omega) (by omega),wrap_id (x:=q+1+1+1) (by omega) (by omega),wrap_id (x:=(pre.length:Int)+1) (by omega) (by omega)]
  rw [show q+1+1=q+2 from by omega,show q+2+1=q+3 from by omega,if_pos rfl,if_pos rfl,if_pos trivial]
  rw [show ((pre++ [(⟨q,q+1,q+2⟩ :S52)]).length:Int)= (pre.length:Int)+1 from by simp] at h
  rw [app_one,h]
  simp only [Option.some.injEq]
  omega
theorem heldEdgeS_ev (n:Nat) (q:Int) (hl:n≤1099511627776) (h0: 0≤q) (h1:q≤1099511627776):Ev (fun k=>laws_heldEdgeS.f k (marksEdge n q) q) (q+3 * n):=by
 refine⟨n+1,fun k hk=>?_⟩
 show laws_heldEdgeS.f k (marksEdge n q) q=_
 unfold laws_heldEdgeS.f
 exact heldEdgeS_l n [] k q (by omega) (by simp<;>omega) h0 (by omega)
def marksTold:Nat→Int→List S57
 | 0,_=> []
 |n+1,q=>⟨q,q+1,q+2⟩::marksTold n (q+3)
theorem markToldS_l (suf:List S57):∀ (pre:List S57) (k:Nat) (q:Int),suf.length<k→ (pre.length:Int)+suf.length≤1099511627776→0≤q→q+3 * suf.length≤4611686018427387904→
  laws_markToldS.l0 k (pre++suf) q (pre.length:Int)=some (q+3 * suf.length,pre++marksTold suf.length q):=by
 induction suf with
 |nil=>
  intro pre k q hk hb h0 h1
  obtain⟨k,rfl⟩ :∃ m,k=m+1:=⟨k - 1,by omega⟩
  simp only [laws_markToldS.l0]
  rw [if_neg (by simp)]
  simp [marksTold]
 |cons x suf ih=>
  intro pre k q hk hb h0 h1
  simp only [List.length_cons] at hk hb h1
  obtain⟨k,rfl⟩ :∃ m,k=m+1:=⟨k - 1,by omega⟩
  have h:=ih (pre++ [⟨q,q+1,q+2⟩]) k (q+3) (by omega) (by simp<;>omega) (by omega) (by omega)
  simp only [laws_markToldS.l0]
  rw [if_pos (by simp<;>omega),if_pos (by omega)]
  simp only [Option.bind_some,set_mid,rdTold_mid]
  rw [wrap_id (x:=q+1) (by omega) (by omega),wrap_id (x:=q+1+1) (by omega) (by omega),wrap_id (x:=q+1+1+1) (by omega) (by omega),wrap_id (x:=(pre.length:Int)+1) (by omega) (by omega)]
  rw [show q+1+1=q+2 from by omega,show q+2+1=q+3 from by omega]
  rw [show ((pre++ [(⟨q,q+1,q+2⟩ :S57)]).length:Int)= (pre.length:Int)+1 from by simp] at h
  rw [app_one,h]
  simp only [marksTold,List.length_cons,List.append_assoc,List.cons_append,List.nil_append,Option.some.injEq,Prod.mk.injEq,and_true]
  omega
theorem markToldS_ev (l:List S57) (q:Int) (hl:l.length≤1099511627776) (h0: 0≤q) (h1:q≤1099511627776):Ev (fun k=>laws_markToldS.f k l q) (q+3 * l.length,marksTold l.length q):=by
 refine⟨l.length+1,fun k hk=>?_⟩
 show laws_markToldS.f k l q=_
 unfold laws_markToldS.f
 simpa using markToldS_l l [] k q (by omega) (by simp<;>omega) h0 (by omega)
end Go.Proofs.Ytpbnpepikkocmaa.P
namespace Go.Proofs.Ytpbnpepikkocmaa.Pure
open Go.RowKit Go.Proofs.Ytpbnpepikkocmaa.P Go.Proofs.YtpbnpepikkocmaaW.PrintWords Go.Proofs.YtpbnpepikkocmaaW.PrintLast
set_option linter.unusedVariables false
set_option linter.unusedSimpArgs false
theorem FnExactBothWays:laws_FnExactBothWays.Pure:=by
 intro a0 l _ ⟨hm,_⟩
 refine Ev.rounds ?_
 unfold laws_FnExactBothWays.f
 rw [szToldS_is l hm 1048576 (by omega) (by omega)]
 simp only [Option.bind_some]
 by_cases h:(1048576:Int) - l.length< 0
 ·simp only [if_pos h]
  exact Ev.now _
 ·have hl:l.length≤1048576:=by omega
  have hl2:(l.map cvTold).length≤1048576:=by simpa using hl
  have hr:=bothWays_len a0 (l.map cvTold)
  simp only [if_neg h]
  refine Ev.bind (toToldS_ev l hl) ?_
  refine Ev.bind (specBothWays_ev a0 _ hl2) ?_
  refine Ev.bind (toToldS_ev l hl) ?_
  refine Ev.bind (implBothWays_ev a0 _ hl2) ?_
  have hi:=implBothWays_ev a0 _ hl2
  generalize bothWays a0 (l.map cvTold)=r at hr hi
  refine Ev.bind (eqEdgeS_ev _ _ (by omega)) ?_
  simp only [decide_true,if_true,bne_self_eq_false]
  refine Ev.succ ?_
  simp only [laws_FnExactBothWays.j0,Bool.false_eq_true,if_false]
  refine Ev.bind (toToldS_ev l hl) ?_
  refine Ev.bind (eqToldS_ev _ _ (by omega)) ?_
  simp only [decide_true,if_true]
  refine Ev.bind (markToldS_ev _ 1 (by omega) (by omega) (by omega)) ?_
  simp only [if_neg (show ¬ (1+3 * ((l.map cvTold).length:Int))< 0 by omega)]
  refine Ev.bind (eqEdgeS_ev _ _ (by omega)) ?_
  simp only [decide_true,if_true,bne_self_eq_false]
  refine Ev.succ ?_
  simp only [laws_FnExactBothWays.j1,Bool.false_eq_true,if_false]
  refine Ev.bind (markEdgeS_ev _ 1 (by omega) (by omega) (by omega)) ?_
  refine Ev.bind (heldEdgeS_ev _ 1 (by omega) (by omega) (by omega)) ?_
  simp only [if_neg (show ¬ (1+3 * (r.1.length:Int))< 0 by omega),if_true]
  refine Ev.bind (toToldS_ev l hl) ?_
  refine Ev.bind hi ?_
  refine Ev.bind (eqEdgeS_ev _ _ (by omega)) ?_
  simp only [decide_true,if_true,bne_self_eq_false]
  refine Ev.succ ?_
  simp only [laws_FnExactBothWays.j2,Bool.false_eq_true,if_false]
  refine Ev.bind (heldEdgeS_ev _ 1 (by omega) (by omega) (by omega)) ?_
  simp only [if_neg (show ¬ (1+3 * (r.1.length:Int))< 0 by omega),if_true]
  exact Ev.now _
end Go.Proofs.Ytpbnpepikkocmaa.Pure
