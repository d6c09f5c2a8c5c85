/- Functions, walks and plain lemmas that the law FnExactTreesFor reaches, part 5. -/
import Derived.Test.YtedegfbheihopaaCFnExactTreesFor4
import Derived.WalkKit
import Derived.ProofKit
import Derived.OpenShut
import Derived.ChangeOld
import Derived.Below
import Derived.SizedLaws
import Derived.ChangeArms
import Derived.DataElems
import Derived.Deep.Draws
import Derived.Deep.AppendLies
import Derived.Maps.AppendAt
import Derived.OwnWalk
import Derived.Laws.BytesArg
import Derived.Laws.MakeOwn
import Derived.Laws.OwnMore
import Derived.Deep.OwnRows
import Derived.Tactics
import Derived.Lib.ConvBytes
import Derived.Laws.Slices
import Derived.KernelRfl
import Derived.RowKit3
import Derived.Deep.LoopGhost
import Derived.Deep.QuietTactic
import Derived.BigQuiet
import Derived.WideLaws
import Derived.Deep.DeepCutAuto
import Derived.Deep.CutBlock
import Derived.Deep.RegionHeld3
import Derived.Laws.Rows
import Derived.Lib.AppendStr
import Derived.ArgAppend
import Derived.Laws.IdiomCopy
import Derived.OrdersHeld
import Derived.Laws.BitsLemmas
import Derived.RowKit
import Derived.WalkSpells
import Derived.Lib.SliceRun
import Derived.Shelf.Abstract
import Derived.ShutString
namespace Go.Proofs.Ytedegfbheihopaa.P
open Go.RowKit Go.Proofs.YtedegfbheihopaaW.PrintWords Go.Proofs.YtedegfbheihopaaW.PrintLast Go.Proofs.YtedegfbheihopaaW.PrintMore
attribute [local go_sem] max2_int min2_int max_two min_two max_three min_three max_four min_four   -- for this text's walks alone
set_option linter.unusedVariables false
set_option linter.unusedSimpArgs false
def impl_hops.l0:Nat→List (S79)→Int→List Int→List Int→List Int→Int→Int→Option (List Int)
 | 0,_,_,_,_,_,_,_=>none
 |k+1,x1,x2,x3,x9,x15,x16,x17=>if x17<x16 then(if 0≤x17 then(if x17< (x15.length:Int) then(if 0≤x2 then(if x2< (x3.length:Int) then(if (rd x3 x2)< 100000 then(if 0≤ (rd x15 x17) then(if (rd x15 x17)< (x3.length:Int) then((impl_cost.f k x1 x2 (rd x15 x17)).bind fun t510=>(if (wrap64 ((rd x3 (rd x15 x17))+t510))= (rd x3 x2) then(if x9.length< 17592186044416 then(impl_hops.l0 k x1 x2 x3 (x9++ [rd x15 x17]) x15 x16 (wrap64 (x17+1))) else(none)) else(impl_hops.l0 k x1 x2 x3 x9 x15 x16 (wrap64 (x17+1))))) else(none)) else(none)) else(impl_hops.l0 k x1 x2 x3 x9 x15 x16 (wrap64 (x17+1)))) else(none)) else(none)) else(none)) else(none)) else(some x9)
def impl_hops.f (k:Nat) (a0:Int) (l1:List (S79)) (a2:Int) (l3:List Int):Option (List Int):=(impl_near.f k a0 l1 a2).bind fun t504=>(impl_hops.l0 k l1 a2 l3 ([] :List Int) t504 (t504.length:Int) 0)
def impl_hops.T5:Bool × List (List Nat × List Nat):=(true,[([],[]),([],[]),([0,1],[0,1]),([2],[2]),([3],[3]),([4],[4]),([5],[5]),([5],[5]),([6,7,5],[5,6,7]),([8,5],[5,8]),([5],[5]),([5],[5]),([5],[5]),([10,11,12,5,5],[5,10,11,12]),([9,13,5],[5,9,13]),([5],[5]),([5],[5]),([15,16,5],[5,15,16]),([17,5],[5,17]),([14,18,5],[5,14,18]),([5,19],[5,19])])
def impl_hops.B5:List Nat:= [0,0,3,7,15,31,63,63,255,511,63,63,63,7231,16383,63,63,98367,229439,524287,1048575]
theorem impl_hops.tab5:rtab .any (opsOf Try.f98 5)=impl_hops.T5:=by kernel_rfl
theorem impl_hops.bits5:waitsOk impl_hops.T5.2 impl_hops.B5=true:=by kernel_rfl
set_option maxHeartbeats 8000000 in
set_option maxRecDepth 100000 in
theorem impl_hops.calls (k:Nat) (a0:Int) (A1:Option Addr) (c1:Nat) (l1:List (S79)) (a2:Int) (A3:Option Addr) (c3:Nat) (l3:List Int) (r:List Int) (w:World) (hr1:Kd.C k79 w A1 l1.length l1) (hc1:l1.length≤c1) (hr3:Kd.C (Kd.int .i64) w A3 l3.length l3) (hc3:l3.length≤c3) (h:impl_hops.f k a0 l1 a2 l3=some r):
  Calls Try.prog 98 #[.int .i64 a0,.slice A1 l1.length c1,.int .i64 a2,.slice A3 l3.length c3] w fun e w'=> ∃ v0_:Value,e= .returned (v0_)∧Kd.R (Kd.int .i64) 3 w' w.heap.size (fun _=>True) v0_ r∧Below w.heap.size w w':=by
 have HR1:=Aside0.mk hr1
 have HC1:=Aside0.mk hc1
 clear hr1 hc1
 have HR3:=Aside0.mk hr3
 have HC3:=Aside0.mk hc3
 clear hr3 hc3
 have HB:=Aside0.mk (Below.refl w.heap.size w)
 have H:((impl_near.f k a0 l1 a2).bind fun t504=>(impl_hops.l0 k l1 a2 l3 ([] :List Int) t504 (t504.length:Int) 0))=some r:=h
 clear h
 replace H:=Option.bind_eq_some_iff.mp H
 obtain⟨t504,A50,H⟩:=H
 replace H:(impl_hops.l0 k l1 a2 l3 ([] :List Int) t504 (t504.length:Int) 0)=some r:=H
 have A5:=Aside0.mk A50
 clear A50
 have H':=Aside0.mk H
 clear H
 go_enter Try.func98,Try.ntmps98
 go_wp2_with (first|((with_reducible refine gate_callee (f:=107) rfl ?_);refine goesL_ (some 15) rfl rfl Try.func107 (by kernel_rfl) rfl #[.int .i64 a0,.slice A1 l1.length c1,.int .i64 a2] rfl zq2 ?_;(with_reducible refine(impl_near.calls k a0 _ _ l1 a2 t504 _ ?side1 ?side2 A5.out).mono ?_);(case side1=>repeat(first|exact HR1.out|(with_reducible refine Kd.C_alloc ?_ _)|(with_reducible refine Kd.C_drewN ?_ _)|(with_reducible refine Kd.C_drew ?_)));(case side2=>exact HC1.out);rintro e w6 ⟨v505,rfl,ho0,hb⟩;refine⟨_,rfl,?_⟩;have n0_:=Aside0.mk (Kd.R_lower ho0 (below_size (zb0 HB)));have n1_:=Aside0.mk (below_step (zb0 HB) hb);clear HB;have HO506:=n0_;have HB:=n1_;clear n0_ n1_;(try clear hb);(try clear hb2);(try clear hk);(try clear hi);(try clear ho0);obtain⟨Ao7,co7,eo7⟩:=Kd.R_slice HO506.out;subst eo7))
 go_loopg [9,17] k (fun kq v9 v17 w'=> ∃ (x9_1:List Int) (x17_1:Int),v17= .int .i64 x17_1∧Aside0 (impl_hops.l0 kq l1 a2 l3 x9_1 t504 (t504.length:Int) x17_1=some r)∧Aside0 (kq≤k)∧Aside0 (Kd.R (Kd.int .i64) 3 w' w.heap.size (fun k_=>some k_≠ ((.slice Ao7 t504.length co7):Value).ownBlock) v9 x9_1)∧Aside0 (Kd.R (Kd.int .i64) 3 w' w.heap.size (fun k_=>some k_≠ (v9:Value).ownBlock) (.slice Ao7 t504.length co7) t504)∧Aside0 (Below w.heap.size w w'))
 case atStart=>exact⟨(([] :List Int)),(0),(by first|rfl|(simp;done)|(simp [*];done)),H',⟨Nat.le_refl _⟩,⟨by first|exact Kd.R_nil _ _ _ _ _|exact Kd.N_nil _ _ _ _ _|exact Kd.V_nil _ _ _ _ _|exact Kd.Q_nil _ _ _ _ _|exact Kd.S_nil _ _ _ _ _⟩,⟨by(with_reducible repeat(first|apply Kd.R_alloc|apply Kd.R_drewN|apply Kd.R_drew));exact Kd.R_mono HO506.out (fun _ hk=>(by simp [Value.ownBlock]))⟩,⟨by repeat(first|(with_reducible first|exact HB.out|apply below_alloc|apply pw_below_drewN|apply below_drew1)|exact HB.out)⟩⟩
 case round=>
  clear H'
  try clear c1
  try clear p2
  try clear c3
  obtain⟨x9_1,x17_1,rfl,HA,HK1,HO_9,HO_15,HB⟩:=hrel
  cases gk with
  |zero=>exact absurd HA.out (by simp [impl_hops.l0])
  |succ k1=>
   have H:=HA.out
   clear HA
   simp only [impl_hops.l0] at H
   by_cases c8:x17_1< (t504.length:Int)
   ·rw [if_pos c8] at H
    have c8b0:decide (x17_1< (t504.length:Int))=true:=decide_eq_true c8
    clear c8
    by_cases c9: 0≤x17_1
    ·rw [if_pos c9] at H
     have c9b0:decide (0≤x17_1)=true:=decide_eq_true c9
     clear c9
     by_cases c10:x17_1< (t504.length:Int)
     ·rw [if_pos c10] at H
      have c10b0:decide (x17_1< (t504.length:Int))=true:=decide_eq_true c10
      clear c10
      by_cases c11: 0≤a2
      ·rw [if_pos c11] at H
       have c11b0:decide (0≤a2)=true:=decide_eq_true c11
       clear c11
       by_cases c12:a2< (l3.length:Int)
       ·rw [if_pos c12] at H
        have c12b0:decide (a2< (l3.length:Int))=true:=decide_eq_true c12
        clear c12
        by_cases c13:(rd l3 a2)< 100000
        ·rw [if_pos c13] at H
         have c13b0:decide ((rd l3 a2)< 100000)=true:=decide_eq_true c13
         clear c13
         by_cases c14: 0≤ (rd t504 x17_1)
         ·rw [if_pos c14] at H
          have c14b0:decide (0≤ (rd t504 x17_1))=true:=decide_eq_true c14
          clear c14
          by_cases c15:(rd t504 x17_1)< (l3.length:Int)
          ·rw [if_pos c15] at H
           have c15b0:decide ((rd t504 x17_1)< (l3.length:Int))=true:=decide_eq_true c15
           clear c15
           replace H:=Option.bind_eq_some_iff.mp H
           obtain⟨t510,A160,H⟩:=H
           replace H:(if (wrap64 ((rd l3 (rd t504 x17_1))+t510))= (rd l3 a2) then(if x9_1.length< 17592186044416 then(impl_hops.l0 k1 l1 a2 l3 (x9_1++ [rd t504 x17_1]) t504 (t504.length:Int) (wrap64 (x17_1+1))) else(none)) else(impl_hops.l0 k1 l1 a2 l3 x9_1 t504 (t504.length:Int) (wrap64 (x17_1+1))))=some r:=H
           have A16:=Aside0.mk A160
           clear A160
           by_cases c17:(wrap64 ((rd l3 (rd t504 x17_1))+t510))= (rd l3 a2)
           ·rw [if_pos c17] at H
            have c17b0:((wrap64 ((rd l3 (rd t504 x17_1))+t510))== (rd l3 a2))=true:=beq_iff_eq.mpr c17
            have c17b1:((wrap64 ((rd l3 (rd t504 x17_1))+t510)) != (rd l3 a2))=false:=bne_eq_false_iff_eq.mpr c17
            clear c17
            by_cases c18:x9_1.length< 17592186044416
            ·rw [if_pos c18] at H
             have LMc18:=Aside0.mk c18
             clear c18
             obtain⟨y512,hy512⟩ :∃ y_:List Int,y_= (x9_1++ [rd t504 x17_1]):=⟨_,rfl⟩
             replace H:(impl_hops.l0 k1 l1 a2 l3 y512 t504 (t504.length:Int) (wrap64 (x17_1+1)))=some r:=by first|(rw [hy512];with_reducible exact H)|(have H2_:=(Option.bind_some _ _).symm.trans H;rw [hy512];with_reducible exact H2_)|(have H2_:=(Option.bind_some _ _).symm.trans H;with_reducible exact H2_)|with_reducible exact H|(rw [hy512];exact H)|exact H
             have Ny512:=Aside0.mk hy512
             clear hy512
             have H':=Aside0.mk H
             clear H
             have p507: 0≤ (x17_1:Int):=of_decide_eq_true zq1
             have q507:x17_1< (t504.length:Int):=of_decide_eq_true zq1
             obtain⟨ad507,e507,hx507_0⟩:=Kd.at_int (Kd.R_reads' HO_15.out).2.2 x17_1 p507 q507
             cases e507
             replace p507:=eq_true p507
             replace q507:=eq_true q507
             try go_wp2
             have n0_:=Aside0.mk (Kd.R_drew HO_9.out)
             have n1_:=Aside0.mk (Kd.R_drew HO_15.out)
             have n2_:=Aside0.mk (below_drew1 HB.out)
             clear HO_9
             clear HO_15
             clear HB
             have HO_9:=n0_
             have HO_15:=n1_
             have HB:=n2_
             clear n0_ n1_ n2_
             have p508: 0≤ (a2:Int):=of_decide_eq_true zq1
             have q508:a2< (l3.length:Int):=of_decide_eq_true zq1
             obtain⟨ad508,e508,hx508_0⟩:=Kd.at_int HR3.out a2 p508 q508
             have hw508_0:=hx508_0
             cases e508
             replace hx508_0:=(HB.out.cell (World.block_lt_of_cell? w _ hx508_0)).trans hx508_0
             replace p508:=eq_true p508
             replace q508:=eq_true q508
             have p509: 0≤ ((rd t504 x17_1):Int):=of_decide_eq_true zq1
             have q509:(rd t504 x17_1)< (l3.length:Int):=of_decide_eq_true zq1
             obtain⟨ad509,e509,hx509_0⟩:=Kd.at_int HR3.out (rd t504 x17_1) p509 q509
             have hw509_0:=hx509_0
             obtain rfl:ad508=ad509:=(by injection e509)
             replace hx509_0:=(HB.out.cell (World.block_lt_of_cell? w _ hx509_0)).trans hx509_0
             replace p509:=eq_true p509
             replace q509:=eq_true q509
             have p511: 0≤ (a2:Int):=of_decide_eq_true zq1
             have q511:a2< (l3.length:Int):=of_decide_eq_true zq1
             obtain⟨ad511,e511,hx511_0⟩:=Kd.at_int HR3.out a2 p511 q511
             have hw511_0:=hx511_0
             obtain rfl:ad508=ad511:=(by injection e511)
             replace hx511_0:=(HB.out.cell (World.block_lt_of_cell? w _ hx511_0)).trans hx511_0
             replace p511:=eq_true p511
             replace q511:=eq_true q511
             refine start_ (n:=21) (S:=fun w'=>w'.cell? (ad508.add (a2).toNat)=some (.int .i64 (rd l3 a2))∧w'.cell? (ad508.add ((rd t504 x17_1)).toNat)=some (.int .i64 (rd l3 (rd t504 x17_1)))∧w'.cell? (ad508.add (a2).toNat)=some (.int .i64 (rd l3 a2))) (ds:= []) #[f',f',f',f',f',f',f',f',f',f',f',f',f',f',f',f',f',f',f',f',f'] (by kernel_rfl) rfl rfl ⟨((HB.out.cell (World.block_lt_of_cell? w _ hw508_0)).trans hw508_0),((HB.out.cell (World.block_lt_of_cell? w _ hw509_0)).trans hw509_0),((HB.out.cell (World.block_lt_of_cell? w _ hw511_0)).trans hw511_0)⟩ (fun hHeld=>?_);refine with_tabW impl_hops.tab5 impl_hops.bits5 (fun HT_ HW_=>?_)
             generalize wr.drew=w19 at HO_9 HO_15 HB hx508_0 hx509_0 hx511_0 hHeld ⊢
             refine pure_ (i:=0) (N:=some 21) (v:=?_) (a':=?_) #[t',f',f',f',f',f',f',f',f',f',f',f',f',f',f',f',f',f',f',f',f'] rfl rfl (any_of HT_.out (by kernel_rfl)) (fun _ _ _ h=>h) (Or.inl ⟨by rfl,?_⟩) ?_ ?_
             rotate_left
             ·intro w'
              go_simp
              with_reducible rfl
             rotate_left
             ·simp only [Act.put,zq5,zq6,zq7,i64_w,i32_w]
              rfl
             refine pure_ (i:=1) (N:=some 22) (v:=?_) (a':=?_) #[t',t',f',f',f',f',f',f',f',f',f',f',f',f',f',f',f',f',f',f',f'] rfl rfl (any_of HT_.out (by kernel_rfl)) (fun _ _ _ h=>h) (Or.inl ⟨by rfl,?_⟩) ?_ ?_
             rotate_left
             ·intro w'
              go_simp
              with_reducible rfl
             rotate_left
             ·simp only [Act.put,zq5,zq6,zq7,i64_w,i32_w]
              rfl
             refine pure_ (i:=2) (N:=some 23) (v:=?_) (a':=?_) #[t',t',t',f',f',f',f',f',f',f',f',f',f',f',f',f',f',f',f',f',f'] rfl rfl (any_of HT_.out (by kernel_rfl)) (fun _ _ _ h=>h) (Or.inl ⟨by rfl,?_⟩) ?_ ?_
             rotate_left
             ·intro w'
              go_simp
              with_reducible rfl
             rotate_left
             ·simp only [Act.put,zq5,zq6,zq7,i64_w,i32_w]
              rfl
             refine take_ (i:=3) (N:=some 24) (v:=?_) (a':=?_) #[t',t',t',t',f',f',f',f',f',f',f',f',f',f',f',f',f',f',f',f',f'] rfl rfl (take_ofW HT_.out HW_.out (by kernel_rfl)) (fun _ _ _ h=>h) (Or.inl ⟨by rfl,?_⟩) hHeld ?_ ?_
             rotate_left
             ·rintro w' ⟨s0,s1,s2⟩
              go_simp
              with_reducible rfl
             rotate_left
             ·simp only [Act.put,zq5,zq6,zq7,i64_w,i32_w]
              rfl
             refine pure_ (i:=4) (N:=some 25) (v:=?_) (a':=?_) #[t',t',t',t',t',f',f',f',f',f',f',f',f',f',f',f',f',f',f',f',f'] rfl rfl (any_of HT_.out (by kernel_rfl)) (fun _ _ _ h=>h) (Or.inl ⟨by rfl,?_⟩) ?_ ?_
             rotate_left
             ·intro w'
              go_simp
              with_reducible rfl
             rotate_left
             ·simp only [Act.put,zq5,zq6,zq7,i64_w,i32_w]
              rfl
             refine pure_ (i:=5) (N:=some 26) (v:=?_) (a':=?_) #[t',t',t',t',t',t',f',f',f',f',f',f',f',f',f',f',f',f',f',f',f'] rfl rfl (any_of HT_.out (by kernel_rfl)) (fun _ _ _ h=>h) (Or.inl ⟨by rfl,?_⟩) ?_ ?_
             rotate_left
             ·intro w'
              go_simp
              with_reducible rfl
             rotate_left
             ·simp only [Act.put,zq5,zq6,zq7,i64_w,i32_w]
              rfl
             refine pure_ (i:=6) (N:=some 27) (v:=?_) (a':=?_) #[t',t',t',t',t',t',t',f',f',f',f',f',f',f',f',f',f',f',f',f',f'] rfl rfl (any_of HT_.out (by kernel_rfl)) (fun _ _ _ h=>h) (Or.inl ⟨by rfl,?_⟩) ?_ ?_
             rotate_left
             ·intro w'
              go_simp
              with_reducible rfl
             rotate_left
             ·simp only [Act.put,zq5,zq6,zq7,i64_w,i32_w]
              rfl
             refine pure_ (i:=7) (N:=some 28) (v:=?_) (a':=?_) #[t',t',t',t',t',t',t',t',f',f',f',f',f',f',f',f',f',f',f',f',f'] rfl rfl (any_of HT_.out (by kernel_rfl)) (fun _ _ _ h=>h) (Or.inl ⟨by rfl,?_⟩) ?_ ?_
             rotate_left
             ·intro w'
              go_simp
              with_reducible rfl
             rotate_left
             ·simp only [Act.put,zq5,zq6,zq7,i64_w,i32_w]
              rfl
             refine pure_ (i:=8) (N:=some 29) (v:=?_) (a':=?_) #[t',t',t',t',t',t',t',t',t',f',f',f',f',f',f',f',f',f',f',f',f'] rfl rfl (any_of HT_.out (by kernel_rfl)) (fun _ _ _ h=>h) (Or.inl ⟨by rfl,?_⟩) ?_ ?_
             rotate_left
             ·intro w'
              go_simp
              with_reducible rfl
             rotate_left
             ·simp only [Act.put,zq5,zq6,zq7,i64_w,i32_w]
              rfl
             refine pure_ (i:=10) (N:=some 31) (v:=?_) (a':=?_) #[t',t',t',t',t',t',t',t',t',f',t',f',f',f',f',f',f',f',f',f',f'] rfl rfl (any_of HT_.out (by kernel_rfl)) (fun _ _ _ h=>h) (Or.inl ⟨by rfl,?_⟩) ?_ ?_
             rotate_left
             ·intro w'
              go_simp
              with_reducible rfl
             rotate_left
             ·simp only [Act.put,zq5,zq6,zq7,i64_w,i32_w]
              rfl
             refine pure_ (i:=11) (N:=some 32) (v:=?_) (a':=?_) #[t',t',t',t',t',t',t',t',t',f',t',t',f',f',f',f',f',f',f',f',f'] rfl rfl (any_of HT_.out (by kernel_rfl)) (fun _ _ _ h=>h) (Or.inl ⟨by rfl,?_⟩) ?_ ?_
             rotate_left
             ·intro w'
              go_simp
              with_reducible rfl
             rotate_left
             ·simp only [Act.put,zq5,zq6,zq7,i64_w,i32_w]
              rfl
             refine pure_ (i:=12) (N:=some 33) (v:=?_) (a':=?_) #[t',t',t',t',t',t',t',t',t',f',t',t',t',f',f',f',f',f',f',f',f'] rfl rfl (any_of HT_.out (by kernel_rfl)) (fun _ _ _ h=>h) (Or.inl ⟨by rfl,?_⟩) ?_ ?_
             rotate_left
             ·intro w'
              go_simp
              with_reducible rfl
             rotate_left
             ·simp only [Act.put,zq5,zq6,zq7,i64_w,i32_w]
              rfl
             refine pure_ (i:=15) (N:=some 36) (v:=?_) (a':=?_) #[t',t',t',t',t',t',t',t',t',f',t',t',t',f',f',t',f',f',f',f',f'] rfl rfl (any_of HT_.out (by kernel_rfl)) (fun _ _ _ h=>h) (Or.inl ⟨by rfl,?_⟩) ?_ ?_
             rotate_left
             ·intro w'
              go_simp
              with_reducible rfl
             rotate_left
             ·simp only [Act.put,zq5,zq6,zq7,i64_w,i32_w]
              rfl
             refine pure_ (i:=16) (N:=some 37) (v:=?_) (a':=?_) #[t',t',t',t',t',t',t',t',t',f',t',t',t',f',f',t',t',f',f',f',f'] rfl rfl (any_of HT_.out (by kernel_rfl)) (fun _ _ _ h=>h) (Or.inl ⟨by rfl,?_⟩) ?_ ?_
             rotate_left
             ·intro w'
              go_simp
              with_reducible rfl
             rotate_left
             ·simp only [Act.put,zq5,zq6,zq7,i64_w,i32_w]
              rfl
             refine pure_ (i:=17) (N:=some 38) (v:=?_) (a':=?_) #[t',t',t',t',t',t',t',t',t',f',t',t',t',f',f',t',t',t',f',f',f'] rfl rfl (any_of HT_.out (by kernel_rfl)) (fun _ _ _ h=>h) (Or.inl ⟨by rfl,?_⟩) ?_ ?_
             rotate_left
             ·intro w'
              go_simp
              with_reducible rfl
             rotate_left
             ·simp only [Act.put,zq5,zq6,zq7,i64_w,i32_w]
              rfl
             refine take_ (i:=9) (N:=some 30) (v:=?_) (a':=?_) #[t',t',t',t',t',t',t',t',t',t',t',t',t',f',f',t',t',t',f',f',f'] rfl rfl (take_ofW HT_.out HW_.out (by kernel_rfl)) (fun _ _ _ h=>h) (Or.inl ⟨by rfl,?_⟩) hHeld ?_ ?_
             rotate_left
             ·rintro w' ⟨s0,s1,s2⟩
              go_simp
              with_reducible rfl
             rotate_left
             ·simp only [Act.put,zq5,zq6,zq7,i64_w,i32_w]
              rfl
             refine take_ (i:=18) (N:=some 39) (v:=?_) (a':=?_) #[t',t',t',t',t',t',t',t',t',t',t',t',t',f',f',t',t',t',t',f',f'] rfl rfl (take_ofW HT_.out HW_.out (by kernel_rfl)) (fun _ _ _ h=>h) (Or.inl ⟨by rfl,?_⟩) hHeld ?_ ?_
             rotate_left
             ·rintro w' ⟨s0,s1,s2⟩
              go_simp
              with_reducible rfl
             rotate_left
             ·simp only [Act.put,zq5,zq6,zq7,i64_w,i32_w]
              rfl
             refine one_ (i:=13) (N:=some 34) #[t',t',t',t',t',t',t',t',t',t',t',t',t',t',f',t',t',t',t',f',f'] rfl rfl (one_of HT_.out (by kernel_rfl)) (by decide) (fun K hK=>?_)
             refine goes_ Try.func70 (by kernel_rfl) rfl #[.slice A1 l1.length c1,.int .i64 a2,.int .i64 (rd t504 x17_1)] (by rfl) rfl rfl zq2 ?_
             with_reducible refine(impl_cost.calls k1 _ _ l1 a2 (rd t504 x17_1) t510 _ ?side1 ?side2 A16.out).mono ?_
             (case side1=>repeat(first|exact(Kd.C_below HR1.out HB.out)|(with_reducible refine Kd.C_alloc ?_ _)|(with_reducible refine Kd.C_drewN ?_ _)|(with_reducible refine Kd.C_drew ?_)))
             (case side2=>exact HC1.out)
             rintro e w20 ⟨rfl,hb⟩
             refine⟨_,rfl,?_⟩
             have n0_:=Aside0.mk (Kd.R_below (zq4 HO_9) hb)
             have n1_:=Aside0.mk (Kd.R_below (zq4 HO_15) hb)
             have n2_:=Aside0.mk (below_step (zb0 HB) hb)
             clear HO_9
             clear HO_15
             clear HB
             have HO_9:=n0_
             have HO_15:=n1_
             have HB:=n2_
             clear n0_ n1_ n2_
             (try clear hb)
             (try clear hb2)
             (try clear hk)
             (try clear hi)
             refine hK.out _ _ ⟨((HB.out.cell (World.block_lt_of_cell? w _ hw508_0)).trans hw508_0),((HB.out.cell (World.block_lt_of_cell? w _ hw509_0)).trans hw509_0),((HB.out.cell (World.block_lt_of_cell? w _ hw511_0)).trans hw511_0)⟩ (fun hHeld=>?_)
             clear hK K
             refine norm_ (a':=?_) ?_ ?_
             rotate_left
             ·show Act.put _ (some 34) _=_
              simp only [Act.put,zq5,zq6,zq7,i64_w,i32_w]
              rfl
             refine pure_ (i:=14) (N:=some 35) (v:=?_) (a':=?_) #[t',t',t',t',t',t',t',t',t',t',t',t',t',t',t',t',t',t',t',f',f'] rfl rfl (any_of HT_.out (by kernel_rfl)) (fun _ _ _ h=>h) (Or.inl ⟨by rfl,?_⟩) ?_ ?_
             rotate_left
             ·intro w'
              go_simp
              with_reducible rfl
             rotate_left
             ·simp only [Act.put,zq5,zq6,zq7,i64_w,i32_w]
              rfl
             refine pure_ (i:=19) (N:=some 40) (v:=?_) (a':=?_) #[t',t',t',t',t',t',t',t',t',t',t',t',t',t',t',t',t',t',t',t',f'] rfl rfl (any_of HT_.out (by kernel_rfl)) (fun _ _ _ h=>h) (Or.inl ⟨by rfl,?_⟩) ?_ ?_
             rotate_left
             ·intro w'
              go_simp
              with_reducible rfl
             rotate_left
             ·simp only [Act.put,zq5,zq6,zq7,i64_w,i32_w]
              rfl
             refine pure_ (i:=20) (N:=some 41) (v:=?_) (a':=?_) #[t',t',t',t',t',t',t',t',t',t',t',t',t',t',t',t',t',t',t',t',t'] rfl rfl (any_of HT_.out (by kernel_rfl)) (fun _ _ _ h=>h) (Or.inl ⟨by rfl,?_⟩) ?_ ?_
             rotate_left
             ·intro w'
              go_simp
              with_reducible rfl
             rotate_left
             ·simp only [Act.put,zq5,zq6,zq7,i64_w,i32_w]
              rfl
             refine done_ (done_of HT_.out (by kernel_rfl)) ?_
             try go_wp2_with (first|((with_reducible refine gate_builtin (b:= .append) (xs:= #[.tmp 42,.tmp 44]) rfl ?_);at_builtin;refine Kd.R_append (Kd.int .i64) (w0:=w) w.heap.size rfl (.tmp 42) (.tmp 44) 22 3 (.int .i64 0) 8 rfl Try.underlying22 info3 rfl (by decide) (by omega) u9 x9_1 (rd t504 x17_1) [.int .i64 (rd t504 x17_1)] (fun k_=>some k_≠ (.slice (some ad507) t504.length co7:Value).ownBlock) (fun _=>False) rfl rfl ?aP (fun _ hk=>hk.elim) ?aF ?aO ?aB ?aS ?aL ?_;(case aP=>exact rfl);(case aB=>exact(zb0 HB));(case aF=>exact(fun k_ hk=>Kd.fresh' (Kd.R_lt (zq4 HO_15)) k_ hk));(case aO=>exact(zq4 HO_9));(case aS=>exact(below_size (zb0 HB)));(case aL=>have:=LMc18.out;omega);intro v513 w21 ho hb hg hat;rw [← Ny512.out] at ho;have n0_:=Aside0.mk (Kd.R_after (ok:=(fun _=>True)) (by(with_reducible repeat(first|apply Kd.R_alloc|apply Kd.R_drewN|apply Kd.R_drew));exact Kd.R_mono HO_15.out (fun _ hk=>⟨trivial,hk⟩)) hg hat);have n1_:=Aside0.mk (hb);have n2_:=Aside0.mk (ho);clear HO_15;clear HB;clear HO_9;have HO_15:=n0_;have HB:=n1_;have HO514:=n2_;clear n0_ n1_ n2_;clear ho hb hg hat))
             go_roundg k1
             case measure=>have:=HK1.out;omega
             case rel=>exact⟨(y512),(wrap64 (x17_1+1)),(by first|rfl|(simp;done)|(simp [*];done)),H',⟨by have:=HK1.out;omega⟩,⟨by(with_reducible repeat(first|apply Kd.R_alloc|apply Kd.R_drewN|apply Kd.R_drew));exact HO514.out⟩,⟨by(with_reducible repeat(first|apply Kd.R_alloc|apply Kd.R_drewN|apply Kd.R_drew));exact Kd.R_mono HO_15.out (fun _ hk=>hk.2)⟩,⟨by repeat(first|(with_reducible first|exact HB.out|apply below_alloc|apply pw_below_drewN|apply below_drew1)|exact HB.out)⟩⟩
            ·rw [if_neg c18] at H
             exact absurd H (by simp)
           ·rw [if_neg c17] at H
            have c17b0:((wrap64 ((rd l3 (rd t504 x17_1))+t510))== (rd l3 a2))=false:=beq_eq_false_iff_ne.mpr c17
            have c17b1:((wrap64 ((rd l3 (rd t504 x17_1))+t510)) != (rd l3 a2))=true:=bne_iff_ne.mpr c17
            have H':=Aside0.mk H
            clear H
            have p507: 0≤ (x17_1:Int):=of_decide_eq_true zq1
            have q507:x17_1< (t504.length:Int):=of_decide_eq_true zq1
            obtain⟨ad507,e507,hx507_0⟩:=Kd.at_int (Kd.R_reads' HO_15.out).2.2 x17_1 p507 q507
            cases e507
            replace p507:=eq_true p507
            replace q507:=eq_true q507
            try go_wp2
            have n0_:=Aside0.mk (Kd.R_drew HO_9.out)
            have n1_:=Aside0.mk (Kd.R_drew HO_15.out)
            have n2_:=Aside0.mk (below_drew1 HB.out)
            clear HO_9
            clear HO_15
            clear HB
            have HO_9:=n0_
            have HO_15:=n1_
            have HB:=n2_
            clear n0_ n1_ n2_
            have p508: 0≤ (a2:Int):=of_decide_eq_true zq1
            have q508:a2< (l3.length:Int):=of_decide_eq_true zq1
            obtain⟨ad508,e508,hx508_0⟩:=Kd.at_int HR3.out a2 p508 q508
            have hw508_0:=hx508_0
            cases e508
            replace hx508_0:=(HB.out.cell (World.block_lt_of_cell? w _ hx508_0)).trans hx508_0
            replace p508:=eq_true p508
            replace q508:=eq_true q508
            have p509: 0≤ ((rd t504 x17_1):Int):=of_decide_eq_true zq1
            have q509:(rd t504 x17_1)< (l3.length:Int):=of_decide_eq_true zq1
            obtain⟨ad509,e509,hx509_0⟩:=Kd.at_int HR3.out (rd t504 x17_1) p509 q509
            have hw509_0:=hx509_0
            obtain rfl:ad508=ad509:=(by injection e509)
            replace hx509_0:=(HB.out.cell (World.block_lt_of_cell? w _ hx509_0)).trans hx509_0
            replace p509:=eq_true p509
            replace q509:=eq_true q509
            have p511: 0≤ (a2:Int):=of_decide_eq_true zq1
            have q511:a2< (l3.length:Int):=of_decide_eq_true zq1
            obtain⟨ad511,e511,hx511_0⟩:=Kd.at_int HR3.out a2 p511 q511
            have hw511_0:=hx511_0
            obtain rfl:ad508=ad511:=(by injection e511)
            replace hx511_0:=(HB.out.cell (World.block_lt_of_cell? w _ hx511_0)).trans hx511_0
            replace p511:=eq_true p511
            replace q511:=eq_true q511
            refine start_ (n:=21) (S:=fun w'=>w'.cell? (ad508.add (a2).toNat)=some (.int .i64 (rd l3 a2))∧w'.cell? (ad508.add ((rd t504 x17_1)).toNat)=some (.int .i64 (rd l3 (rd t504 x17_1)))∧w'.cell? (ad508.add (a2).toNat)=some (.int .i64 (rd l3 a2))) (ds:= []) #[f',f',f',f',f',f',f',f',f',f',f',f',f',f',f',f',f',f',f',f',f'] (by kernel_rfl) rfl rfl ⟨((HB.out.cell (World.block_lt_of_cell? w _ hw508_0)).trans hw508_0),((HB.out.cell (World.block_lt_of_cell? w _ hw509_0)).trans hw509_0),((HB.out.cell (World.block_lt_of_cell? w _ hw511_0)).trans hw511_0)⟩ (fun hHeld=>?_);refine with_tabW impl_hops.tab5 impl_hops.bits5 (fun HT_ HW_=>?_)
            generalize wr.drew=w22 at HO_9 HO_15 HB hx508_0 hx509_0 hx511_0 hHeld ⊢
            refine pure_ (i:=0) (N:=some 21) (v:=?_) (a':=?_) #[t',f',f',f',f',f',f',f',f',f',f',f',f',f',f',f',f',f',f',f',f'] rfl rfl (any_of HT_.out (by kernel_rfl)) (fun _ _ _ h=>h) (Or.inl ⟨by rfl,?_⟩) ?_ ?_
            rotate_left
            ·intro w'
             go_simp
             with_reducible rfl
            rotate_left
            ·simp only [Act.put,zq5,zq6,zq7,i64_w,i32_w]
             rfl
            refine pure_ (i:=1) (N:=some 22) (v:=?_) (a':=?_) #[t',t',f',f',f',f',f',f',f',f',f',f',f',f',f',f',f',f',f',f',f'] rfl rfl (any_of HT_.out (by kernel_rfl)) (fun _ _ _ h=>h) (Or.inl ⟨by rfl,?_⟩) ?_ ?_
            rotate_left
            ·intro w'
             go_simp
             with_reducible rfl
            rotate_left
            ·simp only [Act.put,zq5,zq6,zq7,i64_w,i32_w]
             rfl
            refine pure_ (i:=2) (N:=some 23) (v:=?_) (a':=?_) #[t',t',t',f',f',f',f',f',f',f',f',f',f',f',f',f',f',f',f',f',f'] rfl rfl (any_of HT_.out (by kernel_rfl)) (fun _ _ _ h=>h) (Or.inl ⟨by rfl,?_⟩) ?_ ?_
            rotate_left
            ·intro w'
             go_simp
             with_reducible rfl
            rotate_left
            ·simp only [Act.put,zq5,zq6,zq7,i64_w,i32_w]
             rfl
            refine take_ (i:=3) (N:=some 24) (v:=?_) (a':=?_) #[t',t',t',t',f',f',f',f',f',f',f',f',f',f',f',f',f',f',f',f',f'] rfl rfl (take_ofW HT_.out HW_.out (by kernel_rfl)) (fun _ _ _ h=>h) (Or.inl ⟨by rfl,?_⟩) hHeld ?_ ?_
            rotate_left
            ·rintro w' ⟨s0,s1,s2⟩
             go_simp
             with_reducible rfl
            rotate_left
            ·simp only [Act.put,zq5,zq6,zq7,i64_w,i32_w]
             rfl
            refine pure_ (i:=4) (N:=some 25) (v:=?_) (a':=?_) #[t',t',t',t',t',f',f',f',f',f',f',f',f',f',f',f',f',f',f',f',f'] rfl rfl (any_of HT_.out (by kernel_rfl)) (fun _ _ _ h=>h) (Or.inl ⟨by rfl,?_⟩) ?_ ?_
            rotate_left
            ·intro w'
             go_simp
             with_reducible rfl
            rotate_left
            ·simp only [Act.put,zq5,zq6,zq7,i64_w,i32_w]
             rfl
            refine pure_ (i:=5) (N:=some 26) (v:=?_) (a':=?_) #[t',t',t',t',t',t',f',f',f',f',f',f',f',f',f',f',f',f',f',f',f'] rfl rfl (any_of HT_.out (by kernel_rfl)) (fun _ _ _ h=>h) (Or.inl ⟨by rfl,?_⟩) ?_ ?_
            rotate_left
            ·intro w'
             go_simp
             with_reducible rfl
            rotate_left
            ·simp only [Act.put,zq5,zq6,zq7,i64_w,i32_w]
             rfl
            refine pure_ (i:=6) (N:=some 27) (v:=?_) (a':=?_) #[t',t',t',t',t',t',t',f',f',f',f',f',f',f',f',f',f',f',f',f',f'] rfl rfl (any_of HT_.out (by kernel_rfl)) (fun _ _ _ h=>h) (Or.inl ⟨by rfl,?_⟩) ?_ ?_
            rotate_left
            ·intro w'
             go_simp
             with_reducible rfl
            rotate_left
            ·simp only [Act.put,zq5,zq6,zq7,i64_w,i32_w]
             rfl
            refine pure_ (i:=7) (N:=some 28) (v:=?_) (a':=?_) #[t',t',t',t',t',t',t',t',f',f',f',f',f',f',f',f',f',f',f',f',f'] rfl rfl (any_of HT_.out (by kernel_rfl)) (fun _ _ _ h=>h) (Or.inl ⟨by rfl,?_⟩) ?_ ?_
            rotate_left
            ·intro w'
             go_simp
             with_reducible rfl
            rotate_left
            ·simp only [Act.put,zq5,zq6,zq7,i64_w,i32_w]
             rfl
            refine pure_ (i:=8) (N:=some 29) (v:=?_) (a':=?_) #[t',t',t',t',t',t',t',t',t',f',f',f',f',f',f',f',f',f',f',f',f'] rfl rfl (any_of HT_.out (by kernel_rfl)) (fun _ _ _ h=>h) (Or.inl ⟨by rfl,?_⟩) ?_ ?_
            rotate_left
            ·intro w'
             go_simp
             with_reducible rfl
            rotate_left
            ·simp only [Act.put,zq5,zq6,zq7,i64_w,i32_w]
             rfl
            refine pure_ (i:=10) (N:=some 31) (v:=?_) (a':=?_) #[t',t',t',t',t',t',t',t',t',f',t',f',f',f',f',f',f',f',f',f',f'] rfl rfl (any_of HT_.out (by kernel_rfl)) (fun _ _ _ h=>h) (Or.inl ⟨by rfl,?_⟩) ?_ ?_
            rotate_left
            ·intro w'
             go_simp
             with_reducible rfl
            rotate_left
            ·simp only [Act.put,zq5,zq6,zq7,i64_w,i32_w]
             rfl
            refine pure_ (i:=11) (N:=some 32) (v:=?_) (a':=?_) #[t',t',t',t',t',t',t',t',t',f',t',t',f',f',f',f',f',f',f',f',f'] rfl rfl (any_of HT_.out (by kernel_rfl)) (fun _ _ _ h=>h) (Or.inl ⟨by rfl,?_⟩) ?_ ?_
            rotate_left
            ·intro w'
             go_simp
             with_reducible rfl
            rotate_left
            ·simp only [Act.put,zq5,zq6,zq7,i64_w,i32_w]
             rfl
            refine pure_ (i:=12) (N:=some 33) (v:=?_) (a':=?_) #[t',t',t',t',t',t',t',t',t',f',t',t',t',f',f',f',f',f',f',f',f'] rfl rfl (any_of HT_.out (by kernel_rfl)) (fun _ _ _ h=>h) (Or.inl ⟨by rfl,?_⟩) ?_ ?_
            rotate_left
            ·intro w'
             go_simp
             with_reducible rfl
            rotate_left
            ·simp only [Act.put,zq5,zq6,zq7,i64_w,i32_w]
             rfl
            refine pure_ (i:=15) (N:=some 36) (v:=?_) (a':=?_) #[t',t',t',t',t',t',t',t',t',f',t',t',t',f',f',t',f',f',f',f',f'] rfl rfl (any_of HT_.out (by kernel_rfl)) (fun _ _ _ h=>h) (Or.inl ⟨by rfl,?_⟩) ?_ ?_
            rotate_left
            ·intro w'
             go_simp
             with_reducible rfl
            rotate_left
            ·simp only [Act.put,zq5,zq6,zq7,i64_w,i32_w]
             rfl
            refine pure_ (i:=16) (N:=some 37) (v:=?_) (a':=?_) #[t',t',t',t',t',t',t',t',t',f',t',t',t',f',f',t',t',f',f',f',f'] rfl rfl (any_of HT_.out (by kernel_rfl)) (fun _ _ _ h=>h) (Or.inl ⟨by rfl,?_⟩) ?_ ?_
            rotate_left
            ·intro w'
             go_simp
             with_reducible rfl
            rotate_left
            ·simp only [Act.put,zq5,zq6,zq7,i64_w,i32_w]
             rfl
            refine pure_ (i:=17) (N:=some 38) (v:=?_) (a':=?_) #[t',t',t',t',t',t',t',t',t',f',t',t',t',f',f',t',t',t',f',f',f'] rfl rfl (any_of HT_.out (by kernel_rfl)) (fun _ _ _ h=>h) (Or.inl ⟨by rfl,?_⟩) ?_ ?_
            rotate_left
            ·intro w'
             go_simp
             with_reducible rfl
            rotate_left
            ·simp only [Act.put,zq5,zq6,zq7,i64_w,i32_w]
             rfl
            refine take_ (i:=9) (N:=some 30) (v:=?_) (a':=?_) #[t',t',t',t',t',t',t',t',t',t',t',t',t',f',f',t',t',t',f',f',f'] rfl rfl (take_ofW HT_.out HW_.out (by kernel_rfl)) (fun _ _ _ h=>h) (Or.inl ⟨by rfl,?_⟩) hHeld ?_ ?_
            rotate_left
            ·rintro w' ⟨s0,s1,s2⟩
             go_simp
             with_reducible rfl
            rotate_left
            ·simp only [Act.put,zq5,zq6,zq7,i64_w,i32_w]
             rfl
            refine take_ (i:=18) (N:=some 39) (v:=?_) (a':=?_) #[t',t',t',t',t',t',t',t',t',t',t',t',t',f',f',t',t',t',t',f',f'] rfl rfl (take_ofW HT_.out HW_.out (by kernel_rfl)) (fun _ _ _ h=>h) (Or.inl ⟨by rfl,?_⟩) hHeld ?_ ?_
            rotate_left
            ·rintro w' ⟨s0,s1,s2⟩
             go_simp
             with_reducible rfl
            rotate_left
            ·simp only [Act.put,zq5,zq6,zq7,i64_w,i32_w]
             rfl
            refine one_ (i:=13) (N:=some 34) #[t',t',t',t',t',t',t',t',t',t',t',t',t',t',f',t',t',t',t',f',f'] rfl rfl (one_of HT_.out (by kernel_rfl)) (by decide) (fun K hK=>?_)
            refine goes_ Try.func70 (by kernel_rfl) rfl #[.slice A1 l1.length c1,.int .i64 a2,.int .i64 (rd t504 x17_1)] (by rfl) rfl rfl zq2 ?_
            with_reducible refine(impl_cost.calls k1 _ _ l1 a2 (rd t504 x17_1) t510 _ ?side1 ?side2 A16.out).mono ?_
            (case side1=>repeat(first|exact(Kd.C_below HR1.out HB.out)|(with_reducible refine Kd.C_alloc ?_ _)|(with_reducible refine Kd.C_drewN ?_ _)|(with_reducible refine Kd.C_drew ?_)))
            (case side2=>exact HC1.out)
            rintro e w23 ⟨rfl,hb⟩
            refine⟨_,rfl,?_⟩
            have n0_:=Aside0.mk (Kd.R_below (zq4 HO_9) hb)
            have n1_:=Aside0.mk (Kd.R_below (zq4 HO_15) hb)
            have n2_:=Aside0.mk (below_step (zb0 HB) hb)
            clear HO_9
            clear HO_15
            clear HB
            have HO_9:=n0_
            have HO_15:=n1_
            have HB:=n2_
            clear n0_ n1_ n2_
            (try clear hb)
            (try clear hb2)
            (try clear hk)
            (try clear hi)
            refine hK.out _ _ ⟨((HB.out.cell (World.block_lt_of_cell? w _ hw508_0)).trans hw508_0),((HB.out.cell (World.block_lt_of_cell? w _ hw509_0)).trans hw509_0),((HB.out.cell (World.block_lt_of_cell? w _ hw511_0)).trans hw511_0)⟩ (fun hHeld=>?_)
            clear hK K
            refine norm_ (a':=?_) ?_ ?_
            rotate_left
            ·show Act.put _ (some 34) _=_
             simp only [Act.put,zq5,zq6,zq7,i64_w,i32_w]
             rfl
            refine pure_ (i:=14) (N:=some 35) (v:=?_) (a':=?_) #[t',t',t',t',t',t',t',t',t',t',t',t',t',t',t',t',t',t',t',f',f'] rfl rfl (any_of HT_.out (by kernel_rfl)) (fun _ _ _ h=>h) (Or.inl ⟨by rfl,?_⟩) ?_ ?_
            rotate_left
            ·intro w'
             go_simp
             with_reducible rfl
            rotate_left
            ·simp only [Act.put,zq5,zq6,zq7,i64_w,i32_w]
             rfl
            refine pure_ (i:=19) (N:=some 40) (v:=?_) (a':=?_) #[t',t',t',t',t',t',t',t',t',t',t',t',t',t',t',t',t',t',t',t',f'] rfl rfl (any_of HT_.out (by kernel_rfl)) (fun _ _ _ h=>h) (Or.inl ⟨by rfl,?_⟩) ?_ ?_
            rotate_left
            ·intro w'
             go_simp
             with_reducible rfl
            rotate_left
            ·simp only [Act.put,zq5,zq6,zq7,i64_w,i32_w]
             rfl
            refine pure_ (i:=20) (N:=some 41) (v:=?_) (a':=?_) #[t',t',t',t',t',t',t',t',t',t',t',t',t',t',t',t',t',t',t',t',t'] rfl rfl (any_of HT_.out (by kernel_rfl)) (fun _ _ _ h=>h) (Or.inl ⟨by rfl,?_⟩) ?_ ?_
            rotate_left
            ·intro w'
             go_simp
             with_reducible rfl
            rotate_left
            ·simp only [Act.put,zq5,zq6,zq7,i64_w,i32_w]
             rfl
            refine done_ (done_of HT_.out (by kernel_rfl)) ?_
            try go_wp2
            go_roundg k1
            case measure=>have:=HK1.out;omega
            case rel=>exact⟨(x9_1),(wrap64 (x17_1+1)),(by first|rfl|(simp;done)|(simp [*];done)),H',⟨by have:=HK1.out;omega⟩,⟨by(with_reducible repeat(first|apply Kd.R_alloc|apply Kd.R_drewN|apply Kd.R_drew));exact HO_9.out⟩,⟨by(with_reducible repeat(first|apply Kd.R_alloc|apply Kd.R_drewN|apply Kd.R_drew));exact HO_15.out⟩,⟨by repeat(first|(with_reducible first|exact HB.out|apply below_alloc|apply pw_below_drewN|apply below_drew1)|exact HB.out)⟩⟩
          ·rw [if_neg c15] at H
           exact absurd H (by simp)
         ·rw [if_neg c14] at H
          exact absurd H (by simp)
        ·rw [if_neg c13] at H
         have c13b0:decide ((rd l3 a2)< 100000)=false:=decide_eq_false c13
         clear c13
         have H':=Aside0.mk H
         clear H
         have p507: 0≤ (x17_1:Int):=of_decide_eq_true zq1
         have q507:x17_1< (t504.length:Int):=of_decide_eq_true zq1
         obtain⟨ad507,e507,hx507_0⟩:=Kd.at_int (Kd.R_reads' HO_15.out).2.2 x17_1 p507 q507
         cases e507
         replace p507:=eq_true p507
         replace q507:=eq_true q507
         try go_wp2
         have n0_:=Aside0.mk (Kd.R_drew HO_9.out)
         have n1_:=Aside0.mk (Kd.R_drew HO_15.out)
         have n2_:=Aside0.mk (below_drew1 HB.out)
         clear HO_9
         clear HO_15
         clear HB
         have HO_9:=n0_
         have HO_15:=n1_
         have HB:=n2_
         clear n0_ n1_ n2_
         have p508: 0≤ (a2:Int):=of_decide_eq_true zq1
         have q508:a2< (l3.length:Int):=of_decide_eq_true zq1
         obtain⟨ad508,e508,hx508_0⟩:=Kd.at_int HR3.out a2 p508 q508
         have hw508_0:=hx508_0
         cases e508
         replace hx508_0:=(HB.out.cell (World.block_lt_of_cell? w _ hx508_0)).trans hx508_0
         replace p508:=eq_true p508
         replace q508:=eq_true q508
         refine start_ (n:=21) (S:=fun w'=>w'.cell? (ad508.add (a2).toNat)=some (.int .i64 (rd l3 a2))) (ds:= []) #[f',f',f',f',f',f',f',f',f',f',f',f',f',f',f',f',f',f',f',f',f'] (by kernel_rfl) rfl rfl (((HB.out.cell (World.block_lt_of_cell? w _ hw508_0)).trans hw508_0)) (fun hHeld=>?_);refine with_tabW impl_hops.tab5 impl_hops.bits5 (fun HT_ HW_=>?_)
         generalize wr.drew=w24 at HO_9 HO_15 HB hx508_0 hHeld ⊢
         refine pure_ (i:=0) (N:=some 21) (v:=?_) (a':=?_) #[t',f',f',f',f',f',f',f',f',f',f',f',f',f',f',f',f',f',f',f',f'] rfl rfl (any_of HT_.out (by kernel_rfl)) (fun _ _ _ h=>h) (Or.inl ⟨by rfl,?_⟩) ?_ ?_
         rotate_left
         ·intro w'
          go_simp
          with_reducible rfl
         rotate_left
         ·simp only [Act.put,zq5,zq6,zq7,i64_w,i32_w]
          rfl
         refine pure_ (i:=1) (N:=some 22) (v:=?_) (a':=?_) #[t',t',f',f',f',f',f',f',f',f',f',f',f',f',f',f',f',f',f',f',f'] rfl rfl (any_of HT_.out (by kernel_rfl)) (fun _ _ _ h=>h) (Or.inl ⟨by rfl,?_⟩) ?_ ?_
         rotate_left
         ·intro w'
          go_simp
          with_reducible rfl
         rotate_left
         ·simp only [Act.put,zq5,zq6,zq7,i64_w,i32_w]
          rfl
         refine pure_ (i:=2) (N:=some 23) (v:=?_) (a':=?_) #[t',t',t',f',f',f',f',f',f',f',f',f',f',f',f',f',f',f',f',f',f'] rfl rfl (any_of HT_.out (by kernel_rfl)) (fun _ _ _ h=>h) (Or.inl ⟨by rfl,?_⟩) ?_ ?_
         rotate_left
         ·intro w'
          go_simp
          with_reducible rfl
         rotate_left
         ·simp only [Act.put,zq5,zq6,zq7,i64_w,i32_w]
          rfl
         refine take_ (i:=3) (N:=some 24) (v:=?_) (a':=?_) #[t',t',t',t',f',f',f',f',f',f',f',f',f',f',f',f',f',f',f',f',f'] rfl rfl (take_ofW HT_.out HW_.out (by kernel_rfl)) (fun _ _ _ h=>h) (Or.inl ⟨by rfl,?_⟩) hHeld ?_ ?_
         rotate_left
         ·intro w' s0
          go_simp
          with_reducible rfl
         rotate_left
         ·simp only [Act.put,zq5,zq6,zq7,i64_w,i32_w]
          rfl
         refine pure_ (i:=4) (N:=some 25) (v:=?_) (a':=?_) #[t',t',t',t',t',f',f',f',f',f',f',f',f',f',f',f',f',f',f',f',f'] rfl rfl (any_of HT_.out (by kernel_rfl)) (fun _ _ _ h=>h) (Or.inl ⟨by rfl,?_⟩) ?_ ?_
         rotate_left
         ·intro w'
          go_simp
          with_reducible rfl
         rotate_left
         ·simp only [Act.put,zq5,zq6,zq7,i64_w,i32_w]
          rfl
         refine pure_ (i:=5) (N:=some 26) (v:=?_) (a':=?_) #[t',t',t',t',t',t',f',f',f',f',f',f',f',f',f',f',f',f',f',f',f'] rfl rfl (any_of HT_.out (by kernel_rfl)) (fun _ _ _ h=>h) (Or.inl ⟨by rfl,?_⟩) ?_ ?_
         rotate_left
         ·intro w'
          go_simp
          with_reducible rfl
         rotate_left
         ·simp only [Act.put,zq5,zq6,zq7,i64_w,i32_w]
          rfl
         refine pure_ (i:=6) (N:=some 27) (v:=undef) (a':=?_) #[t',t',t',t',t',t',t',f',f',f',f',f',f',f',f',f',f',f',f',f',f'] rfl rfl (any_of HT_.out (by kernel_rfl)) (fun _ _ _ h=>h) (Or.inr ⟨by rfl,rfl⟩) ?_ ?_
         rotate_left
         ·simp only [Act.put,zq5,zq6,zq7,i64_w,i32_w]
          rfl
         refine pure_ (i:=7) (N:=some 28) (v:=undef) (a':=?_) #[t',t',t',t',t',t',t',t',f',f',f',f',f',f',f',f',f',f',f',f',f'] rfl rfl (any_of HT_.out (by kernel_rfl)) (fun _ _ _ h=>h) (Or.inr ⟨by rfl,rfl⟩) ?_ ?_
         rotate_left
         ·simp only [Act.put,zq5,zq6,zq7,i64_w,i32_w]
          rfl
         refine pure_ (i:=8) (N:=some 29) (v:=undef) (a':=?_) #[t',t',t',t',t',t',t',t',t',f',f',f',f',f',f',f',f',f',f',f',f'] rfl rfl (any_of HT_.out (by kernel_rfl)) (fun _ _ _ h=>h) (Or.inr ⟨by rfl,rfl⟩) ?_ ?_
         rotate_left
         ·simp only [Act.put,zq5,zq6,zq7,i64_w,i32_w]
          rfl
         refine pure_ (i:=9) (N:=some 30) (v:=undef) (a':=?_) #[t',t',t',t',t',t',t',t',t',t',f',f',f',f',f',f',f',f',f',f',f'] rfl rfl (any_of HT_.out (by kernel_rfl)) (fun _ _ _ h=>h) (Or.inr ⟨by rfl,rfl⟩) ?_ ?_
         rotate_left
         ·simp only [Act.put,zq5,zq6,zq7,i64_w,i32_w]
          rfl
         refine pure_ (i:=10) (N:=some 31) (v:=undef) (a':=?_) #[t',t',t',t',t',t',t',t',t',t',t',f',f',f',f',f',f',f',f',f',f'] rfl rfl (any_of HT_.out (by kernel_rfl)) (fun _ _ _ h=>h) (Or.inr ⟨by rfl,rfl⟩) ?_ ?_
         rotate_left
         ·simp only [Act.put,zq5,zq6,zq7,i64_w,i32_w]
          rfl
         refine pure_ (i:=11) (N:=some 32) (v:=undef) (a':=?_) #[t',t',t',t',t',t',t',t',t',t',t',t',f',f',f',f',f',f',f',f',f'] rfl rfl (any_of HT_.out (by kernel_rfl)) (fun _ _ _ h=>h) (Or.inr ⟨by rfl,rfl⟩) ?_ ?_
         rotate_left
         ·simp only [Act.put,zq5,zq6,zq7,i64_w,i32_w]
          rfl
         refine pure_ (i:=12) (N:=some 33) (v:=undef) (a':=?_) #[t',t',t',t',t',t',t',t',t',t',t',t',t',f',f',f',f',f',f',f',f'] rfl rfl (any_of HT_.out (by kernel_rfl)) (fun _ _ _ h=>h) (Or.inr ⟨by rfl,rfl⟩) ?_ ?_
         rotate_left
         ·simp only [Act.put,zq5,zq6,zq7,i64_w,i32_w]
          rfl
         refine pure_ (i:=13) (N:=some 34) (v:=undef) (a':=?_) #[t',t',t',t',t',t',t',t',t',t',t',t',t',t',f',f',f',f',f',f',f'] rfl rfl (any_of HT_.out (by kernel_rfl)) (fun _ _ _ h=>h) (Or.inr ⟨by rfl,rfl⟩) ?_ ?_
         rotate_left
         ·simp only [Act.put,zq5,zq6,zq7,i64_w,i32_w]
          rfl
         refine pure_ (i:=14) (N:=some 35) (v:=undef) (a':=?_) #[t',t',t',t',t',t',t',t',t',t',t',t',t',t',t',f',f',f',f',f',f'] rfl rfl (any_of HT_.out (by kernel_rfl)) (fun _ _ _ h=>h) (Or.inr ⟨by rfl,rfl⟩) ?_ ?_
         rotate_left
         ·simp only [Act.put,zq5,zq6,zq7,i64_w,i32_w]
          rfl
         refine pure_ (i:=15) (N:=some 36) (v:=undef) (a':=?_) #[t',t',t',t',t',t',t',t',t',t',t',t',t',t',t',t',f',f',f',f',f'] rfl rfl (any_of HT_.out (by kernel_rfl)) (fun _ _ _ h=>h) (Or.inr ⟨by rfl,rfl⟩) ?_ ?_
         rotate_left
         ·simp only [Act.put,zq5,zq6,zq7,i64_w,i32_w]
          rfl
         refine pure_ (i:=16) (N:=some 37) (v:=undef) (a':=?_) #[t',t',t',t',t',t',t',t',t',t',t',t',t',t',t',t',t',f',f',f',f'] rfl rfl (any_of HT_.out (by kernel_rfl)) (fun _ _ _ h=>h) (Or.inr ⟨by rfl,rfl⟩) ?_ ?_
         rotate_left
         ·simp only [Act.put,zq5,zq6,zq7,i64_w,i32_w]
          rfl
         refine pure_ (i:=17) (N:=some 38) (v:=undef) (a':=?_) #[t',t',t',t',t',t',t',t',t',t',t',t',t',t',t',t',t',t',f',f',f'] rfl rfl (any_of HT_.out (by kernel_rfl)) (fun _ _ _ h=>h) (Or.inr ⟨by rfl,rfl⟩) ?_ ?_
         rotate_left
         ·simp only [Act.put,zq5,zq6,zq7,i64_w,i32_w]
          rfl
         refine pure_ (i:=18) (N:=some 39) (v:=undef) (a':=?_) #[t',t',t',t',t',t',t',t',t',t',t',t',t',t',t',t',t',t',t',f',f'] rfl rfl (any_of HT_.out (by kernel_rfl)) (fun _ _ _ h=>h) (Or.inr ⟨by rfl,rfl⟩) ?_ ?_
         rotate_left
         ·simp only [Act.put,zq5,zq6,zq7,i64_w,i32_w]
          rfl
         refine pure_ (i:=19) (N:=some 40) (v:=undef) (a':=?_) #[t',t',t',t',t',t',t',t',t',t',t',t',t',t',t',t',t',t',t',t',f'] rfl rfl (any_of HT_.out (by kernel_rfl)) (fun _ _ _ h=>h) (Or.inr ⟨by rfl,rfl⟩) ?_ ?_
         rotate_left
         ·simp only [Act.put,zq5,zq6,zq7,i64_w,i32_w]
          rfl
         refine pure_ (i:=20) (N:=some 41) (v:=?_) (a':=?_) #[t',t',t',t',t',t',t',t',t',t',t',t',t',t',t',t',t',t',t',t',t'] rfl rfl (any_of HT_.out (by kernel_rfl)) (fun _ _ _ h=>h) (Or.inl ⟨by rfl,?_⟩) ?_ ?_
         rotate_left
         ·intro w'
          go_simp
          with_reducible rfl
         rotate_left
         ·simp only [Act.put,zq5,zq6,zq7,i64_w,i32_w]
          rfl
         refine done_ (done_of HT_.out (by kernel_rfl)) ?_
         try go_wp2
         go_roundg k1
         case measure=>have:=HK1.out;omega
         case rel=>exact⟨(x9_1),(wrap64 (x17_1+1)),(by first|rfl|(simp;done)|(simp [*];done)),H',⟨by have:=HK1.out;omega⟩,⟨by(with_reducible repeat(first|apply Kd.R_alloc|apply Kd.R_drewN|apply Kd.R_drew));exact HO_9.out⟩,⟨by(with_reducible repeat(first|apply Kd.R_alloc|apply Kd.R_drewN|apply Kd.R_drew));exact HO_15.out⟩,⟨by repeat(first|(with_reducible first|exact HB.out|apply below_alloc|apply pw_below_drewN|apply below_drew1)|exact HB.out)⟩⟩
       ·rw [if_neg c12] at H
        exact absurd H (by simp)
      ·rw [if_neg c11] at H
       exact absurd H (by simp)
     ·rw [if_neg c10] at H
      exact absurd H (by simp)
    ·rw [if_neg c9] at H
     exact absurd H (by simp)
   ·rw [if_neg c8] at H
    have c8b0:decide (x17_1< (t504.length:Int))=false:=decide_eq_false c8
    clear c8
    obtain rfl:=Option.some.inj H
    go_wp2
    go_ret
    exact⟨_,by first|rfl|(simp [errW_none,errW_some]<;>rfl)|(simp [*,errW_none,errW_some]<;>rfl),by(with_reducible repeat(first|apply Kd.R_alloc|apply Kd.R_drewN|apply Kd.R_drew));exact Kd.R_mono HO_9.out (fun _ hk=>trivial),by repeat(first|(with_reducible first|exact HB.out|apply below_alloc|apply pw_below_drewN|apply below_drew1)|exact HB.out)⟩
end Go.Proofs.Ytedegfbheihopaa.P

namespace Go.Proofs.Ytedegfbheihopaa.P
open Go.RowKit Go.Proofs.YtedegfbheihopaaW.PrintWords Go.Proofs.YtedegfbheihopaaW.PrintLast Go.Proofs.YtedegfbheihopaaW.PrintMore
attribute [local go_sem] max2_int min2_int max_two min_two max_three min_three max_four min_four   -- for this text's walks alone
set_option linter.unusedVariables false
set_option linter.unusedSimpArgs false
def impl_treeAt.l0:Nat→Int→List (S79)→Int→List Int→List Int→Int→Int→Option (List Int)
 | 0,_,_,_,_,_,_,_=>none
 |k+1,x0,x1,x2,x7,x8,x18,x19=>if x19<x18 then(if 0≤x19 then(if x19< (x8.length:Int) then((some (x8.set (x19:Int).toNat (-1):List Int)).bind fun y521=>((impl_hops.f k x0 x1 x19 x7).bind fun t522=>(if x19=x2 then(impl_treeAt.l0 k x0 x1 x2 x7 y521 x18 (wrap64 (x19+1))) else(if (t522.length:Int) > 0 then(if 0< (t522.length:Int) then(impl_treeAt.l0 k x0 x1 x2 x7 (y521.set (x19:Int).toNat (rd t522 0)) x18 (wrap64 (x19+1))) else(none)) else(impl_treeAt.l0 k x0 x1 x2 x7 y521 x18 (wrap64 (x19+1))))))) else(none)) else(none)) else(some x8)
def impl_treeAt.f (k:Nat) (a0:Int) (l1:List (S79)) (a2:Int):Option (List Int):=(impl_fars.f k a0 l1 a2).bind fun t515=>(if 0≤a0 then(if (a0:Int).toNat≤35184372088832 then((some (List.replicate (a0:Int).toNat 0:List Int)).bind fun y518=>(impl_treeAt.l0 k a0 l1 a2 t515 y518 (y518.length:Int) 0)) else(none)) else(none))
set_option maxHeartbeats 8000000 in
set_option maxRecDepth 100000 in
theorem impl_treeAt.calls (k:Nat) (a0:Int) (A1:Option Addr) (c1:Nat) (l1:List (S79)) (a2:Int) (r:List Int) (w:World) (hr1:Kd.C k79 w A1 l1.length l1) (hc1:l1.length≤c1) (h:impl_treeAt.f k a0 l1 a2=some r):
  Calls Try.prog 77 #[.int .i64 a0,.slice A1 l1.length c1,.int .i64 a2] w fun e w'=> ∃ v0_:Value,e= .returned (v0_)∧Kd.R (Kd.int .i64) 3 w' w.heap.size (fun _=>True) v0_ r∧Below w.heap.size w w':=by
 have HR1:=Aside0.mk hr1
 have HC1:=Aside0.mk hc1
 clear hr1 hc1
 have HB:=Aside0.mk (Below.refl w.heap.size w)
 have H:((impl_fars.f k a0 l1 a2).bind fun t515=>(if 0≤a0 then(if (a0:Int).toNat≤35184372088832 then((some (List.replicate (a0:Int).toNat 0:List Int)).bind fun y518=>(impl_treeAt.l0 k a0 l1 a2 t515 y518 (y518.length:Int) 0)) else(none)) else(none)))=some r:=h
 clear h
 replace H:=Option.bind_eq_some_iff.mp H
 obtain⟨t515,A40,H⟩:=H
 replace H:(if 0≤a0 then(if (a0:Int).toNat≤35184372088832 then((some (List.replicate (a0:Int).toNat 0:List Int)).bind fun y518=>(impl_treeAt.l0 k a0 l1 a2 t515 y518 (y518.length:Int) 0)) else(none)) else(none))=some r:=H
 have A4:=Aside0.mk A40
 clear A40
 by_cases c5: 0≤a0
 ·rw [if_pos c5] at H
  have c5b0:=eq_true c5
  have c5b1:decide (0≤a0)=true:=decide_eq_true c5
  clear c5
  by_cases c6:(a0:Int).toNat≤35184372088832
  ·rw [if_pos c6] at H
   have c6b0:=eq_true c6
   have c6b1:decide ((a0:Int).toNat≤35184372088832)=true:=decide_eq_true c6
   clear c6
   obtain⟨y518,hy518⟩ :∃ y_:List Int,y_= (List.replicate (a0:Int).toNat 0):=⟨_,rfl⟩
   replace H:(impl_treeAt.l0 k a0 l1 a2 t515 y518 (y518.length:Int) 0)=some r:=by first|(rw [hy518];with_reducible exact H)|(have H2_:=(Option.bind_some _ _).symm.trans H;rw [hy518];with_reducible exact H2_)|(have H2_:=(Option.bind_some _ _).symm.trans H;with_reducible exact H2_)|with_reducible exact H|(rw [hy518];exact H)|exact H
   have Ny518:=Aside0.mk hy518
   clear hy518
   have H':=Aside0.mk H
   clear H
   go_enter Try.func77,Try.ntmps77
   go_wp2_with (first|((with_reducible refine gate_callee (f:=85) rfl ?_);refine goesL_ (some 14) rfl rfl Try.func85 (by kernel_rfl) rfl #[.int .i64 a0,.slice A1 l1.length c1,.int .i64 a2] rfl zq2 ?_;(with_reducible refine(impl_fars.calls k a0 _ _ l1 a2 t515 _ ?side1 ?side2 A4.out).mono ?_);(case side1=>repeat(first|exact HR1.out|(with_reducible refine Kd.C_alloc ?_ _)|(with_reducible refine Kd.C_drewN ?_ _)|(with_reducible refine Kd.C_drew ?_)));(case side2=>exact HC1.out);rintro e w7 ⟨v516,rfl,ho0,hb⟩;refine⟨_,rfl,?_⟩;have n0_:=Aside0.mk (Kd.R_lower ho0 (below_size (zb0 HB)));have n1_:=Aside0.mk (below_step (zb0 HB) hb);clear HB;have HO517:=n0_;have HB:=n1_;clear n0_ n1_;(try clear hb);(try clear hb2);(try clear hk);(try clear hi);(try clear ho0))|((with_reducible refine gate_dst (N:=16) rfl ?_);(try(refine gate_guard (by rfl) ?_;dsimp only));refine Kd.R_make (Kd.int .i64) _ 3 rfl (N:=16) rfl 22 _ _ rfl a0 rfl rfl Try.underlying22 (.int .i64 0) 8 info3 rfl (by decide) (by omega) 0 (ok:=fun _=>True) (okp:=fun _=>True) rfl (fun _ hk=>hk) trivial (of_decide_eq_true zq1) (Nat.le_trans (Nat.mul_le_mul_right _ (of_decide_eq_true zq1:a0.toNat≤35184372088832)) (by omega)) (Below.refl _ _) (Nat.le_refl _) ?_;intro v519 w8 ho9 hb hg_ hnew_;clear hg_ hnew_;(first|rw [← Ny518.out] at ho9|(simp only [Int.reduceToNat] at ho9;rw [← Ny518.out] at ho9));have n0_:=Aside0.mk (Kd.R_elder' (zq4 HO517) (Kd.R_base ho9) hb);have n1_:=Aside0.mk (Kd.R_lower (Kd.R_new' ho9 (Kd.R_lt (zq4 HO517))) (below_size (zb0 HB)));have n2_:=Aside0.mk (below_step (zb0 HB) hb);clear HO517;clear HB;have HO517:=n0_;have HO520:=n1_;have HB:=n2_;clear n0_ n1_ n2_;clear hb ho9;obtain⟨Ao10,co10,eo10⟩:=Kd.R_slice HO520.out;subst eo10))
   go_loopg [19] k (fun kq v19 w'=> ∃ (x8_1:List Int) (x19_1:Int),v19= .int .i64 x19_1∧Aside0 (impl_treeAt.l0 kq a0 l1 a2 t515 x8_1 (y518.length:Int) x19_1=some r)∧Aside0 (kq≤k)∧Aside0 (Kd.R (Kd.int .i64) 3 w' w.heap.size (fun k_=>some k_≠ ((.slice Ao10 y518.length co10):Value).ownBlock) v516 t515)∧Aside0 (Kd.R (Kd.int .i64) 3 w' w.heap.size (fun k_=>some k_≠ (v516:Value).ownBlock) (.slice Ao10 y518.length co10) x8_1)∧Aside0 (Below w.heap.size w w'))
   case atStart=>exact⟨(y518),(0),(by first|rfl|(simp;done)|(simp [*];done)),H',⟨Nat.le_refl _⟩,⟨by(with_reducible repeat(first|apply Kd.R_alloc|apply Kd.R_drewN|apply Kd.R_drew));exact Kd.R_mono HO517.out (fun _ hk=>hk.2)⟩,⟨by(with_reducible repeat(first|apply Kd.R_alloc|apply Kd.R_drewN|apply Kd.R_drew));exact Kd.R_mono HO520.out (fun _ hk=>hk.2)⟩,⟨by repeat(first|(with_reducible first|exact HB.out|apply below_alloc|apply pw_below_drewN|apply below_drew1)|exact HB.out)⟩⟩
   case round=>
    clear H'
    try clear c1
    try clear p2
    try clear c5
    try clear c5b0
    try clear c5b1
    try clear c6
    try clear c6b0
    try clear c6b1
    try clear c7
    try clear c8
    obtain⟨x8_1,x19_1,rfl,HA,HK1,HO_7,HO_8,HB⟩:=hrel
    have hl8_1:=(Kd.R_reads' HO_8.out).1
    rw [hl8_1] at HO_8
    (try simp only [hl8_1])
    (try simp only [hl8_1] at HO_7)
    cases gk with
    |zero=>exact absurd HA.out (by simp [impl_treeAt.l0])
    |succ k1=>
     have H:=HA.out
     clear HA
     simp only [impl_treeAt.l0] at H
     by_cases c11:x19_1< (y518.length:Int)
     ·rw [if_pos c11] at H
      have c11b0:decide (x19_1< (y518.length:Int))=true:=decide_eq_true c11
      (try(have c11b0L:=c11b0;simp only [hl8_1] at c11b0L))
      clear c11
      by_cases c12: 0≤x19_1
      ·rw [if_pos c12] at H
       have c12b0:decide (0≤x19_1)=true:=decide_eq_true c12
       clear c12
       by_cases c13:x19_1< (x8_1.length:Int)
       ·rw [if_pos c13] at H
        have c13b0:decide (x19_1< (x8_1.length:Int))=true:=decide_eq_true c13
        (try(have c13b0L:=c13b0;simp only [hl8_1] at c13b0L))
        clear c13
        obtain⟨y521,hy521⟩ :∃ y_:List Int,y_= (x8_1.set (x19_1:Int).toNat (-1)):=⟨_,rfl⟩
        replace H:((impl_hops.f k1 a0 l1 x19_1 t515).bind fun t522=>(if x19_1=a2 then(impl_treeAt.l0 k1 a0 l1 a2 t515 y521 (y518.length:Int) (wrap64 (x19_1+1))) else(if (t522.length:Int) > 0 then(if 0< (t522.length:Int) then(impl_treeAt.l0 k1 a0 l1 a2 t515 (y521.set (x19_1:Int).toNat (rd t522 0)) (y518.length:Int) (wrap64 (x19_1+1))) else(none)) else(impl_treeAt.l0 k1 a0 l1 a2 t515 y521 (y518.length:Int) (wrap64 (x19_1+1))))))=some r:=by first|(rw [hy521];with_reducible exact H)|(have H2_:=(Option.bind_some _ _).symm.trans H;rw [hy521];with_reducible exact H2_)|(have H2_:=(Option.bind_some _ _).symm.trans H;with_reducible exact H2_)|with_reducible exact H|(rw [hy521];exact H)|exact H
        have Ny521:=Aside0.mk hy521
        clear hy521
        replace H:=Option.bind_eq_some_iff.mp H
        obtain⟨t522,A150,H⟩:=H
        replace H:(if x19_1=a2 then(impl_treeAt.l0 k1 a0 l1 a2 t515 y521 (y518.length:Int) (wrap64 (x19_1+1))) else(if (t522.length:Int) > 0 then(if 0< (t522.length:Int) then(impl_treeAt.l0 k1 a0 l1 a2 t515 (y521.set (x19_1:Int).toNat (rd t522 0)) (y518.length:Int) (wrap64 (x19_1+1))) else(none)) else(impl_treeAt.l0 k1 a0 l1 a2 t515 y521 (y518.length:Int) (wrap64 (x19_1+1)))))=some r:=H
        have A15:=Aside0.mk A150
        clear A150
        by_cases c16:x19_1=a2
        ·rw [if_pos c16] at H
         have c16b0:(x19_1==a2)=true:=beq_iff_eq.mpr c16
         have c16b1:(x19_1 !=a2)=false:=bne_eq_false_iff_eq.mpr c16
         clear c16
         have H':=Aside0.mk H
         clear H
         have p14: 0≤ (x19_1:Int):=of_decide_eq_true zq1
         have q14:(x19_1:Int)< ((x8_1.length:Int):Int):=of_decide_eq_true zq1
         obtain⟨go14,co14,eo14,gb14,gl14,cl14,HG14⟩:=Kd.R_form HO_8.out (by omega)
         (first|cases eo14|(injection eo14 with ea_ en_ ec_;(first|subst ea_|(injection ea_ with ea_;subst ea_));subst ec_;clear en_))
         have GB14:=Aside0.mk gb14
         have GG14:=Aside0.mk HG14
         clear gb14 gl14 HG14
         obtain⟨hx14_0,hf14_0⟩:=Kd.R_celln 0 HO_8.out (x19_1:Int) p14 q14
         replace p14:=eq_true p14
         replace q14:=eq_true q14
         have HP17:=Kd.R_putg HO_8.out (x19_1:Int) (-1)
         go_wp2_with (first|((with_reducible refine gate_store (t:=3) (p:=24) rfl ?_);refine store_event (t:=3) (p:=24) (v:=?vo_w18) (w1:=(wr.setCell ⟨go14,(x19_1:Int).toNat,none⟩ (.int .i64 (-1)))) ?hg ?ho ?hn ?hr ?_;(case ho=>rfl);(case hg=>rfl);(case hn=>rfl);(case hr=>first|(go_simp;done)|(go_simp;rfl));intro w18 hw;have hg:wr.grownBy w18 (some go14):=(by rw [hw];exact HP17.2);have hp_:Kd.R (Kd.int .i64) 3 w18 w.heap.size (fun k_=>some k_≠ (v516:Value).ownBlock) (.slice (some ⟨go14,0,none⟩) x8_1.length co10) y521:=(by rw [hw,Ny521.out];exact HP17.1);clear HP17;have n0_:=Aside0.mk (Kd.R_after (v:=(.slice (some ⟨go14,0,none⟩) x8_1.length co10)) (v1:=(.slice (some ⟨go14,0,none⟩) x8_1.length co10)) (ok:=(fun _=>True)) (by(with_reducible repeat(first|apply Kd.R_alloc|apply Kd.R_drewN|apply Kd.R_drew));exact Kd.R_mono HO_7.out (fun _ hk=>⟨trivial,hk⟩)) hg (.inl rfl));have n1_:=Aside0.mk (hp_);have n2_:=Aside0.mk ((by rw [hw];exact below_set (HB.out) GB14.out:Below w.heap.size w w18));clear HO_7;clear HO_8;clear HB;have HO_7:=n0_;have HO_8:=n1_;have HB:=n2_;clear n0_ n1_ n2_;clear hg hw hp_;obtain⟨Ao19,co19,eo19⟩:=Kd.R_slice HO_7.out;subst eo19)|((with_reducible refine gate_callee (f:=98) rfl ?_);refine goesL_ (some 29) rfl rfl Try.func98 (by kernel_rfl) rfl #[.int .i64 a0,.slice A1 l1.length c1,.int .i64 x19_1,.slice Ao19 t515.length co19] rfl zq2 ?_;(with_reducible refine(impl_hops.calls k1 a0 _ _ l1 x19_1 _ _ t515 t522 _ ?side1 ?side2 ?side3 ?side4 A15.out).mono ?_);(case side1=>repeat(first|exact(Kd.C_below HR1.out HB.out)|(with_reducible refine Kd.C_alloc ?_ _)|(with_reducible refine Kd.C_drewN ?_ _)|(with_reducible refine Kd.C_drew ?_)));(case side2=>exact HC1.out);(case side3=>repeat(first|exact(Kd.R_reads' HO_7.out).2.2|(with_reducible refine Kd.C_alloc ?_ _)|(with_reducible refine Kd.C_drewN ?_ _)|(with_reducible refine Kd.C_drew ?_)));(case side4=>exact(Kd.R_reads' HO_7.out).2.1);rintro e w20 ⟨v523,rfl,ho0,hb⟩;refine⟨_,rfl,?_⟩;have n0_:=Aside0.mk (Kd.R_elder' (zq4 HO_7) (Kd.R_base ho0) hb);have n1_:=Aside0.mk (Kd.R_elder' (zq4 HO_8) (Kd.R_base ho0) hb);have n2_:=Aside0.mk (Kd.R_lower (Kd.R_new' (Kd.R_new' ho0 (Kd.R_lt (zq4 HO_7))) (Kd.R_lt (zq4 HO_8))) (below_size (zb0 HB)));have n3_:=Aside0.mk (below_step (zb0 HB) hb);clear HO_7;clear HO_8;clear HB;have HO_7:=n0_;have HO_8:=n1_;have HO524:=n2_;have HB:=n3_;clear n0_ n1_ n2_ n3_;(try clear hb);(try clear hb2);(try clear hk);(try clear hi);(try clear ho0)))
         (try simp only [← hl8_1])
         go_roundg k1
         case measure=>have:=HK1.out;omega
         case rel=>exact⟨(y521),(wrap64 (x19_1+1)),(by first|rfl|(simp;done)|(simp [*];done)),H',⟨by have:=HK1.out;omega⟩,⟨by(try simp only [hl8_1]);(with_reducible repeat(first|apply Kd.R_alloc|apply Kd.R_drewN|apply Kd.R_drew));exact Kd.R_mono HO_7.out (fun _ hk=>hk.1.2)⟩,⟨by(try simp only [hl8_1]);(with_reducible repeat(first|apply Kd.R_alloc|apply Kd.R_drewN|apply Kd.R_drew));exact Kd.R_mono HO_8.out (fun _ hk=>hk.1)⟩,⟨by repeat(first|(with_reducible first|exact HB.out|apply below_alloc|apply pw_below_drewN|apply below_drew1)|exact HB.out)⟩⟩
        ·rw [if_neg c16] at H
         have c16b0:(x19_1==a2)=false:=beq_eq_false_iff_ne.mpr c16
         have c16b1:(x19_1 !=a2)=true:=bne_iff_ne.mpr c16
         by_cases c21:(t522.length:Int) > 0
         ·rw [if_pos c21] at H
          have c21b0:decide (0< (t522.length:Int))=true:=decide_eq_true c21
          (try(have c21b0L:=c21b0;simp only [hl8_1] at c21b0L))
          have c21b1:decide (0<t522.length)=true:=decide_eq_true (by omega)
          clear c21
          by_cases c22: 0< (t522.length:Int)
          ·rw [if_pos c22] at H
           have c22b0:decide (0< (t522.length:Int))=true:=decide_eq_true c22
           (try(have c22b0L:=c22b0;simp only [hl8_1] at c22b0L))
           have c22b1:decide (0<t522.length)=true:=decide_eq_true (by omega)
           clear c22
           obtain⟨y526,hy526⟩ :∃ y_:List Int,y_= (y521.set (x19_1:Int).toNat (rd t522 0)):=⟨_,rfl⟩
           replace H:(impl_treeAt.l0 k1 a0 l1 a2 t515 y526 (y518.length:Int) (wrap64 (x19_1+1)))=some r:=by first|(rw [hy526];with_reducible exact H)|(have H2_:=(Option.bind_some _ _).symm.trans H;rw [hy526];with_reducible exact H2_)|(have H2_:=(Option.bind_some _ _).symm.trans H;with_reducible exact H2_)|with_reducible exact H|(rw [hy526];exact H)|exact H
           have Ny526:=Aside0.mk hy526
           clear hy526
           have H':=Aside0.mk H
           clear H
           have p14: 0≤ (x19_1:Int):=of_decide_eq_true zq1
           have q14:(x19_1:Int)< ((x8_1.length:Int):Int):=of_decide_eq_true zq1
           obtain⟨go14,co14,eo14,gb14,gl14,cl14,HG14⟩:=Kd.R_form HO_8.out (by omega)
           (first|cases eo14|(injection eo14 with ea_ en_ ec_;(first|subst ea_|(injection ea_ with ea_;subst ea_));subst ec_;clear en_))
           have GB14:=Aside0.mk gb14
           have GG14:=Aside0.mk HG14
           clear gb14 gl14 HG14
           obtain⟨hx14_0,hf14_0⟩:=Kd.R_celln 0 HO_8.out (x19_1:Int) p14 q14
           replace p14:=eq_true p14
           replace q14:=eq_true q14
           have HP24:=Kd.R_putg HO_8.out (x19_1:Int) (-1)
           go_wp2_with (first|((with_reducible refine gate_store (t:=3) (p:=24) rfl ?_);refine store_event (t:=3) (p:=24) (v:=?vo_w25) (w1:=(wr.setCell ⟨go14,(x19_1:Int).toNat,none⟩ (.int .i64 (-1)))) ?hg ?ho ?hn ?hr ?_;(case ho=>rfl);(case hg=>rfl);(case hn=>rfl);(case hr=>first|(go_simp;done)|(go_simp;rfl));intro w25 hw;have hg:wr.grownBy w25 (some go14):=(by rw [hw];exact HP24.2);have hp_:Kd.R (Kd.int .i64) 3 w25 w.heap.size (fun k_=>some k_≠ (v516:Value).ownBlock) (.slice (some ⟨go14,0,none⟩) x8_1.length co10) y521:=(by rw [hw,Ny521.out];exact HP24.1);clear HP24;have n0_:=Aside0.mk (Kd.R_after (v:=(.slice (some ⟨go14,0,none⟩) x8_1.length co10)) (v1:=(.slice (some ⟨go14,0,none⟩) x8_1.length co10)) (ok:=(fun _=>True)) (by(with_reducible repeat(first|apply Kd.R_alloc|apply Kd.R_drewN|apply Kd.R_drew));exact Kd.R_mono HO_7.out (fun _ hk=>⟨trivial,hk⟩)) hg (.inl rfl));have n1_:=Aside0.mk (hp_);have n2_:=Aside0.mk ((by rw [hw];exact below_set (HB.out) GB14.out:Below w.heap.size w w25));clear HO_7;clear HO_8;clear HB;have HO_7:=n0_;have HO_8:=n1_;have HB:=n2_;clear n0_ n1_ n2_;clear hg hw hp_;obtain⟨Ao26,co26,eo26⟩:=Kd.R_slice HO_7.out;subst eo26)|((with_reducible refine gate_callee (f:=98) rfl ?_);refine goesL_ (some 29) rfl rfl Try.func98 (by kernel_rfl) rfl #[.int .i64 a0,.slice A1 l1.length c1,.int .i64 x19_1,.slice Ao26 t515.length co26] rfl zq2 ?_;(with_reducible refine(impl_hops.calls k1 a0 _ _ l1 x19_1 _ _ t515 t522 _ ?side1 ?side2 ?side3 ?side4 A15.out).mono ?_);(case side1=>repeat(first|exact(Kd.C_below HR1.out HB.out)|(with_reducible refine Kd.C_alloc ?_ _)|(with_reducible refine Kd.C_drewN ?_ _)|(with_reducible refine Kd.C_drew ?_)));(case side2=>exact HC1.out);(case side3=>repeat(first|exact(Kd.R_reads' HO_7.out).2.2|(with_reducible refine Kd.C_alloc ?_ _)|(with_reducible refine Kd.C_drewN ?_ _)|(with_reducible refine Kd.C_drew ?_)));(case side4=>exact(Kd.R_reads' HO_7.out).2.1);rintro e w27 ⟨v523,rfl,ho0,hb⟩;refine⟨_,rfl,?_⟩;have n0_:=Aside0.mk (Kd.R_elder' (zq4 HO_7) (Kd.R_base ho0) hb);have n1_:=Aside0.mk (Kd.R_elder' (zq4 HO_8) (Kd.R_base ho0) hb);have n2_:=Aside0.mk (Kd.R_lower (Kd.R_new' (Kd.R_new' ho0 (Kd.R_lt (zq4 HO_7))) (Kd.R_lt (zq4 HO_8))) (below_size (zb0 HB)));have n3_:=Aside0.mk (below_step (zb0 HB) hb);clear HO_7;clear HO_8;clear HB;have HO_7:=n0_;have HO_8:=n1_;have HO524:=n2_;have HB:=n3_;clear n0_ n1_ n2_ n3_;(try clear hb);(try clear hb2);(try clear hk);(try clear hi);(try clear ho0);obtain⟨Ao28,co28,eo28⟩:=Kd.R_slice HO524.out;subst eo28;have p525: 0≤ (0:Int):=(by omega);have q525: 0< (t522.length:Int):=of_decide_eq_true zq1;obtain⟨ad525,e525,hx525_0⟩:=Kd.at_int (Kd.R_reads' HO524.out).2.2 0 p525 q525;cases e525;have qi525:(0<t522.length)=True:=eq_true (by omega);(try rw [show ((0:Int)).toNat=0 from rfl] at hx525_0);(try rw [Addr.add_zero'] at hx525_0);replace p525:=eq_true p525;replace q525:=eq_true q525;have p23: 0≤ (x19_1:Int):=of_decide_eq_true zq1;have q23:(x19_1:Int)< ((x8_1.length:Int):Int):=of_decide_eq_true zq1;obtain⟨hx23_0,hf23_0⟩:=Kd.R_celln 0 HO_8.out (x19_1:Int) p23 q23;replace p23:=eq_true p23;replace q23:=eq_true q23;obtain⟨hy29_,hz29_⟩:=Kd.R_celln 0 HO_8.out (x19_1:Int) (of_decide_eq_true zq1) (of_decide_eq_true zq1);have HP29:=Kd.R_putg HO_8.out (x19_1:Int) (rd t522 0))|((with_reducible refine gate_store (t:=3) (p:=43) rfl ?_);refine store_event (t:=3) (p:=43) (v:=?vo_w30) (w1:=(w27.setCell ⟨go14,(x19_1:Int).toNat,none⟩ (.int .i64 (rd t522 0)))) ?hg ?ho ?hn ?hr ?_;(case ho=>rfl);(case hg=>rfl);(case hn=>rfl);(case hr=>first|(go_simp;done)|(go_simp;rfl));intro w30 hw;have hg:w27.grownBy w30 (some go14):=(by rw [hw];exact HP29.2);have hp_:Kd.R (Kd.int .i64) 3 w30 w.heap.size (fun k_=>some k_≠ (.slice Ao26 t515.length co26:Value).ownBlock∧some k_≠ (.slice (some ad525) t522.length co28:Value).ownBlock) (.slice (some ⟨go14,0,none⟩) x8_1.length co10) y526:=(by rw [hw,Ny526.out];exact HP29.1);clear HP29;have n0_:=Aside0.mk (Kd.R_after (v:=(.slice (some ⟨go14,0,none⟩) x8_1.length co10)) (v1:=(.slice (some ⟨go14,0,none⟩) x8_1.length co10)) (ok:=(fun k_=>some k_≠ (.slice (some ad525) t522.length co28:Value).ownBlock)) (by(with_reducible repeat(first|apply Kd.R_alloc|apply Kd.R_drewN|apply Kd.R_drew));exact Kd.R_mono HO_7.out (fun _ hk=>⟨hk.2,hk.1.2⟩)) hg (.inl rfl));have n1_:=Aside0.mk (hp_);have n2_:=Aside0.mk (Kd.R_after (v:=(.slice (some ⟨go14,0,none⟩) x8_1.length co10)) (v1:=(.slice (some ⟨go14,0,none⟩) x8_1.length co10)) (ok:=(fun k_=>some k_≠ (.slice Ao26 t515.length co26:Value).ownBlock)) (by(with_reducible repeat(first|apply Kd.R_alloc|apply Kd.R_drewN|apply Kd.R_drew));exact Kd.R_mono HO524.out (fun _ hk=>⟨hk.1.2,hk.2⟩)) hg (.inl rfl));have n3_:=Aside0.mk ((by rw [hw];exact below_set (HB.out) GB14.out:Below w.heap.size w w30));clear HO_7;clear HO_8;clear HO524;clear HB;have HO_7:=n0_;have HO_8:=n1_;have HO524:=n2_;have HB:=n3_;clear n0_ n1_ n2_ n3_;clear hg hw hp_))
           (try simp only [← hl8_1])
           go_roundg k1
           case measure=>have:=HK1.out;omega
           case rel=>exact⟨(y526),(wrap64 (x19_1+1)),(by first|rfl|(simp;done)|(simp [*];done)),H',⟨by have:=HK1.out;omega⟩,⟨by(try simp only [hl8_1]);(with_reducible repeat(first|apply Kd.R_alloc|apply Kd.R_drewN|apply Kd.R_drew));exact Kd.R_mono HO_7.out (fun _ hk=>hk.2)⟩,⟨by(try simp only [hl8_1]);(with_reducible repeat(first|apply Kd.R_alloc|apply Kd.R_drewN|apply Kd.R_drew));exact Kd.R_mono HO_8.out (fun _ hk=>hk.1)⟩,⟨by repeat(first|(with_reducible first|exact HB.out|apply below_alloc|apply pw_below_drewN|apply below_drew1)|exact HB.out)⟩⟩
          ·rw [if_neg c22] at H
           exact absurd H (by simp)
         ·rw [if_neg c21] at H
          have c21b0:decide (0< (t522.length:Int))=false:=decide_eq_false c21
          (try(have c21b0L:=c21b0;simp only [hl8_1] at c21b0L))
          have c21b1:decide (0<t522.length)=false:=decide_eq_false (by omega)
          clear c21
          have H':=Aside0.mk H
          clear H
          have p14: 0≤ (x19_1:Int):=of_decide_eq_true zq1
          have q14:(x19_1:Int)< ((x8_1.length:Int):Int):=of_decide_eq_true zq1
          obtain⟨go14,co14,eo14,gb14,gl14,cl14,HG14⟩:=Kd.R_form HO_8.out (by omega)
          (first|cases eo14|(injection eo14 with ea_ en_ ec_;(first|subst ea_|(injection ea_ with ea_;subst ea_));subst ec_;clear en_))
          have GB14:=Aside0.mk gb14
          have GG14:=Aside0.mk HG14
          clear gb14 gl14 HG14
          obtain⟨hx14_0,hf14_0⟩:=Kd.R_celln 0 HO_8.out (x19_1:Int) p14 q14
          replace p14:=eq_true p14
          replace q14:=eq_true q14
          have HP31:=Kd.R_putg HO_8.out (x19_1:Int) (-1)
          go_wp2_with (first|((with_reducible refine gate_store (t:=3) (p:=24) rfl ?_);refine store_event (t:=3) (p:=24) (v:=?vo_w32) (w1:=(wr.setCell ⟨go14,(x19_1:Int).toNat,none⟩ (.int .i64 (-1)))) ?hg ?ho ?hn ?hr ?_;(case ho=>rfl);(case hg=>rfl);(case hn=>rfl);(case hr=>first|(go_simp;done)|(go_simp;rfl));intro w32 hw;have hg:wr.grownBy w32 (some go14):=(by rw [hw];exact HP31.2);have hp_:Kd.R (Kd.int .i64) 3 w32 w.heap.size (fun k_=>some k_≠ (v516:Value).ownBlock) (.slice (some ⟨go14,0,none⟩) x8_1.length co10) y521:=(by rw [hw,Ny521.out];exact HP31.1);clear HP31;have n0_:=Aside0.mk (Kd.R_after (v:=(.slice (some ⟨go14,0,none⟩) x8_1.length co10)) (v1:=(.slice (some ⟨go14,0,none⟩) x8_1.length co10)) (ok:=(fun _=>True)) (by(with_reducible repeat(first|apply Kd.R_alloc|apply Kd.R_drewN|apply Kd.R_drew));exact Kd.R_mono HO_7.out (fun _ hk=>⟨trivial,hk⟩)) hg (.inl rfl));have n1_:=Aside0.mk (hp_);have n2_:=Aside0.mk ((by rw [hw];exact below_set (HB.out) GB14.out:Below w.heap.size w w32));clear HO_7;clear HO_8;clear HB;have HO_7:=n0_;have HO_8:=n1_;have HB:=n2_;clear n0_ n1_ n2_;clear hg hw hp_;obtain⟨Ao33,co33,eo33⟩:=Kd.R_slice HO_7.out;subst eo33)|((with_reducible refine gate_callee (f:=98) rfl ?_);refine goesL_ (some 29) rfl rfl Try.func98 (by kernel_rfl) rfl #[.int .i64 a0,.slice A1 l1.length c1,.int .i64 x19_1,.slice Ao33 t515.length co33] rfl zq2 ?_;(with_reducible refine(impl_hops.calls k1 a0 _ _ l1 x19_1 _ _ t515 t522 _ ?side1 ?side2 ?side3 ?side4 A15.out).mono ?_);(case side1=>repeat(first|exact(Kd.C_below HR1.out HB.out)|(with_reducible refine Kd.C_alloc ?_ _)|(with_reducible refine Kd.C_drewN ?_ _)|(with_reducible refine Kd.C_drew ?_)));(case side2=>exact HC1.out);(case side3=>repeat(first|exact(Kd.R_reads' HO_7.out).2.2|(with_reducible refine Kd.C_alloc ?_ _)|(with_reducible refine Kd.C_drewN ?_ _)|(with_reducible refine Kd.C_drew ?_)));(case side4=>exact(Kd.R_reads' HO_7.out).2.1);rintro e w34 ⟨v523,rfl,ho0,hb⟩;refine⟨_,rfl,?_⟩;have n0_:=Aside0.mk (Kd.R_elder' (zq4 HO_7) (Kd.R_base ho0) hb);have n1_:=Aside0.mk (Kd.R_elder' (zq4 HO_8) (Kd.R_base ho0) hb);have n2_:=Aside0.mk (Kd.R_lower (Kd.R_new' (Kd.R_new' ho0 (Kd.R_lt (zq4 HO_7))) (Kd.R_lt (zq4 HO_8))) (below_size (zb0 HB)));have n3_:=Aside0.mk (below_step (zb0 HB) hb);clear HO_7;clear HO_8;clear HB;have HO_7:=n0_;have HO_8:=n1_;have HO524:=n2_;have HB:=n3_;clear n0_ n1_ n2_ n3_;(try clear hb);(try clear hb2);(try clear hk);(try clear hi);(try clear ho0);obtain⟨Ao35,co35,eo35⟩:=Kd.R_slice HO524.out;subst eo35))
          (try simp only [← hl8_1])
          go_roundg k1
          case measure=>have:=HK1.out;omega
          case rel=>exact⟨(y521),(wrap64 (x19_1+1)),(by first|rfl|(simp;done)|(simp [*];done)),H',⟨by have:=HK1.out;omega⟩,⟨by(try simp only [hl8_1]);(with_reducible repeat(first|apply Kd.R_alloc|apply Kd.R_drewN|apply Kd.R_drew));exact Kd.R_mono HO_7.out (fun _ hk=>hk.1.2)⟩,⟨by(try simp only [hl8_1]);(with_reducible repeat(first|apply Kd.R_alloc|apply Kd.R_drewN|apply Kd.R_drew));exact Kd.R_mono HO_8.out (fun _ hk=>hk.1)⟩,⟨by repeat(first|(with_reducible first|exact HB.out|apply below_alloc|apply pw_below_drewN|apply below_drew1)|exact HB.out)⟩⟩
       ·rw [if_neg c13] at H
        exact absurd H (by simp)
      ·rw [if_neg c12] at H
       exact absurd H (by simp)
     ·rw [if_neg c11] at H
      have c11b0:decide (x19_1< (y518.length:Int))=false:=decide_eq_false c11
      (try(have c11b0L:=c11b0;simp only [hl8_1] at c11b0L))
      clear c11
      obtain rfl:=Option.some.inj H
      go_wp2
      go_ret
      exact⟨_,by first|rfl|(simp [errW_none,errW_some]<;>rfl)|(simp [*,errW_none,errW_some]<;>rfl),by(with_reducible repeat(first|apply Kd.R_alloc|apply Kd.R_drewN|apply Kd.R_drew));exact Kd.R_mono HO_8.out (fun _ hk=>trivial),by repeat(first|(with_reducible first|exact HB.out|apply below_alloc|apply pw_below_drewN|apply below_drew1)|exact HB.out)⟩
  ·rw [if_neg c6] at H
   exact absurd H (by simp)
 ·rw [if_neg c5] at H
  exact absurd H (by simp)
def laws_markEdgeS.l0:Nat→List (S79)→Int→Int→Option (Int × (List (S79)))
 | 0,_,_,_=>none
 |k+1,x0,x1,x5=>if x5< (x0.length:Int) then(if 0≤x5 then((some (x0.set (x5:Int).toNat (⟨x1,(rd_T79 x0 x5).f1,(rd_T79 x0 x5).f2⟩ :S79):List (S79))).bind fun y534=>((some (y534.set (x5:Int).toNat (⟨(rd_T79 y534 x5).f0,wrap64 (x1+1),(rd_T79 y534 x5).f2⟩ :S79):List (S79))).bind fun y535=>(laws_markEdgeS.l0 k (y535.set (x5:Int).toNat (⟨(rd_T79 y535 x5).f0,(rd_T79 y535 x5).f1,wrap64 ((wrap64 (x1+1))+1)⟩ :S79)) (wrap64 ((wrap64 ((wrap64 (x1+1))+1))+1)) (wrap64 (x5+1))))) else(none)) else(some (x1,x0))
def laws_markEdgeS.f (k:Nat) (l0:List (S79)) (a1:Int):Option (Int × (List (S79))):=laws_markEdgeS.l0 k l0 a1 0
set_option maxHeartbeats 8000000 in
set_option maxRecDepth 100000 in
theorem laws_markEdgeS.calls (k:Nat) (P0_:Nat→Prop) (u9000_:Value) (l0:List (S79)) (a1:Int) (r1:Int) (r2:List (S79)) (w0 w:World) (hB:Below w0.heap.size w0 w) (ho0:Kd.R k79 79 w w0.heap.size P0_ u9000_ l0) (h:laws_markEdgeS.f k l0 a1=some (r1,r2)):
  Calls Try.prog 35 #[u9000_,.int .i64 a1] w fun e w'=>e= .returned (.int .i64 r1)∧Kd.R k79 79 w' w0.heap.size (fun k_=>(P0_ k_∨w.heap.size≤k_)) u9000_ r2∧Below w0.heap.size w0 w'∧Kept w w' (fun k_=>P0_ k_):=by
 have HO0:=Aside0.mk (show Kd.R k79 79 w w0.heap.size (fun k_=>(P0_ k_∨w.heap.size≤k_)) u9000_ l0 from Kd.R_mono ho0 (fun k_ hk=>(.inl hk)))
 have HK:=Aside0.mk (Kept.refl w (fun k_=>P0_ k_))
 have HW0:=Aside0.mk hB.size
 have HB:=Aside0.mk hB
 clear hB
 have H:(laws_markEdgeS.l0 k l0 a1 0)=some (r1,r2):=h
 clear h
 have H':=Aside0.mk H
 clear H
 go_enter Try.func35,Try.ntmps35
 go_wp2
 go_loopg [1,5] k (fun kq v1 v5 w'=> ∃ (x0_1:List (S79)) (x1_1:Int) (x5_1:Int),v1= .int .i64 x1_1∧v5= .int .i64 x5_1∧Aside0 (laws_markEdgeS.l0 kq x0_1 x1_1 x5_1=some (r1,r2))∧Aside0 (kq≤k)∧Aside0 (Kd.R k79 79 w' w0.heap.size (fun k_=>(P0_ k_∨w.heap.size≤k_)) u9000_ x0_1)∧Aside0 (Kept w w' (fun k_=>P0_ k_))∧Aside0 (Below w0.heap.size w0 w'))
 case atStart=>exact⟨(l0),(a1),(0),(by first|rfl|(simp;done)|(simp [*];done)),(by first|rfl|(simp;done)|(simp [*];done)),H',⟨Nat.le_refl _⟩,⟨by(with_reducible repeat(first|apply Kd.R_alloc|apply Kd.R_drewN|apply Kd.R_drew));exact HO0.out⟩,⟨by repeat(first|(with_reducible first|exact HK.out|apply Kept.alloc|apply Kept.drewN|apply Kept.drew)|exact HK.out)⟩,⟨by repeat(first|(with_reducible first|exact HB.out|apply below_alloc|apply pw_below_drewN|apply below_drew1)|exact HB.out)⟩⟩
 case round=>
  clear H'
  try clear p2
  obtain⟨x0_1,x1_1,x5_1,rfl,rfl,HA,HK1,HO_0,HK,HB⟩:=hrel
  cases gk with
  |zero=>exact absurd HA.out (by simp [laws_markEdgeS.l0])
  |succ k1=>
   have H:=HA.out
   clear HA
   simp only [laws_markEdgeS.l0] at H
   by_cases c3:x5_1< (x0_1.length:Int)
   ·rw [if_pos c3] at H
    have c3b0:decide (x5_1< (x0_1.length:Int))=true:=decide_eq_true c3
    clear c3
    by_cases c4: 0≤x5_1
    ·rw [if_pos c4] at H
     have c4b0:decide (0≤x5_1)=true:=decide_eq_true c4
     clear c4
     obtain⟨y534,hy534⟩ :∃ y_:List (S79),y_= (x0_1.set (x5_1:Int).toNat (⟨x1_1,(rd_T79 x0_1 x5_1).f1,(rd_T79 x0_1 x5_1).f2⟩ :S79)):=⟨_,rfl⟩
     replace H:((some (y534.set (x5_1:Int).toNat (⟨(rd_T79 y534 x5_1).f0,wrap64 (x1_1+1),(rd_T79 y534 x5_1).f2⟩ :S79):List (S79))).bind fun y535=>(laws_markEdgeS.l0 k1 (y535.set (x5_1:Int).toNat (⟨(rd_T79 y535 x5_1).f0,(rd_T79 y535 x5_1).f1,wrap64 ((wrap64 (x1_1+1))+1)⟩ :S79)) (wrap64 ((wrap64 ((wrap64 (x1_1+1))+1))+1)) (wrap64 (x5_1+1))))=some (r1,r2):=by first|(rw [hy534];with_reducible exact H)|(have H2_:=(Option.bind_some _ _).symm.trans H;rw [hy534];with_reducible exact H2_)|(have H2_:=(Option.bind_some _ _).symm.trans H;with_reducible exact H2_)|with_reducible exact H|(rw [hy534];exact H)|exact H
     have Ny534:=Aside0.mk hy534
     clear hy534
     obtain⟨y535,hy535⟩ :∃ y_:List (S79),y_= (y534.set (x5_1:Int).toNat (⟨(rd_T79 y534 x5_1).f0,wrap64 (x1_1+1),(rd_T79 y534 x5_1).f2⟩ :S79)):=⟨_,rfl⟩
     replace H:(laws_markEdgeS.l0 k1 (y535.set (x5_1:Int).toNat (⟨(rd_T79 y535 x5_1).f0,(rd_T79 y535 x5_1).f1,wrap64 ((wrap64 (x1_1+1))+1)⟩ :S79)) (wrap64 ((wrap64 ((wrap64 (x1_1+1))+1))+1)) (wrap64 (x5_1+1)))=some (r1,r2):=by first|(rw [hy535];with_reducible exact H)|(have H2_:=(Option.bind_some _ _).symm.trans H;rw [hy535];with_reducible exact H2_)|(have H2_:=(Option.bind_some _ _).symm.trans H;with_reducible exact H2_)|with_reducible exact H|(rw [hy535];exact H)|exact H
     have Ny535:=Aside0.mk hy535
     clear hy535
     obtain⟨y536,hy536⟩ :∃ y_:List (S79),y_= (y535.set (x5_1:Int).toNat (⟨(rd_T79 y535 x5_1).f0,(rd_T79 y535 x5_1).f1,wrap64 ((wrap64 (x1_1+1))+1)⟩ :S79)):=⟨_,rfl⟩
     replace H:(laws_markEdgeS.l0 k1 y536 (wrap64 ((wrap64 ((wrap64 (x1_1+1))+1))+1)) (wrap64 (x5_1+1)))=some (r1,r2):=by first|(rw [hy536];with_reducible exact H)|(have H2_:=(Option.bind_some _ _).symm.trans H;rw [hy536];with_reducible exact H2_)|(have H2_:=(Option.bind_some _ _).symm.trans H;with_reducible exact H2_)|with_reducible exact H|(rw [hy536];exact H)|exact H
     have Ny536:=Aside0.mk hy536
     clear hy536
     have H':=Aside0.mk H
     clear H
     obtain⟨Ao8,co8,eo8⟩:=Kd.R_slice HO_0.out
     subst eo8
     have p5: 0≤ (x5_1:Int):=of_decide_eq_true zq1
     have q5:(x5_1:Int)< ((x0_1.length:Int):Int):=of_decide_eq_true zq1
     obtain⟨go5,co5,eo5,gb5,gl5,cl5,HG5⟩:=Kd.R_form HO_0.out (by omega)
     (first|cases eo5|(injection eo5 with ea_ en_ ec_;(first|subst ea_|(injection ea_ with ea_;subst ea_));subst ec_;clear en_))
     have GB5:=Aside0.mk gb5
     have GG5:=Aside0.mk HG5
     clear gb5 gl5 HG5
     have HMgo5:=Aside0.mk (show (P0_ go5∨w.heap.size≤go5) from (HO_0.out.1 _ rfl))
     obtain⟨ce5,hcl5,hM5,hcc5,hfr5⟩:=Kd.R_elem HO_0.out z79 (x5_1:Int) p5 q5
     obtain rfl:=k79_openM hM5
     have hx5_0:wr.cell? ⟨go5,(x5_1:Int).toNat * 3,none⟩=some (.int .i64 ((rd_T79 x0_1 x5_1).f0)):=hcc5 0 _ rfl
     have hx5_1:wr.cell? ⟨go5,(x5_1:Int).toNat * 3+1,none⟩=some (.int .i64 ((rd_T79 x0_1 x5_1).f1)):=hcc5 1 _ rfl
     have hx5_2:wr.cell? ⟨go5,(x5_1:Int).toNat * 3+2,none⟩=some (.int .i64 ((rd_T79 x0_1 x5_1).f2)):=hcc5 2 _ rfl
     have hf5_0:wr.frozen? ⟨go5,(x5_1:Int).toNat * 3,none⟩=false:=hfr5 0
     have hf5_1:wr.frozen? ⟨go5,(x5_1:Int).toNat * 3+1,none⟩=false:=hfr5 1
     have hf5_2:wr.frozen? ⟨go5,(x5_1:Int).toNat * 3+2,none⟩=false:=hfr5 2
     clear hcl5 hcc5 hfr5 hM5
     replace p5:=eq_true p5
     replace q5:=eq_true q5
     have HX9:=Aside0.mk (show Kd.R k79 79 wr w0.heap.size (fun k_=>(P0_ k_∨w.heap.size≤k_)) (.slice (some ⟨go5,0,none⟩) x0_1.length co8) x0_1 from (zq4 HO_0))
     obtain⟨ce9,hcl9,hM9,hcc9,hfr9⟩:=Kd.R_elem HX9.out z79 (x5_1:Int) (of_decide_eq_true zq1) (by have h_:(x5_1:Int)< ((x0_1.length:Int):Int):=of_decide_eq_true zq1;first|exact h_|(have e_:=(Kd.R_reads' HO_0.out).1;omega)|simpa using h_)
     obtain rfl:=k79_openM hM9
     have HP9:=Kd.R_seg HX9.out (x5_1:Int) (of_decide_eq_true zq1) (by have h_:(x5_1:Int)< ((x0_1.length:Int):Int):=of_decide_eq_true zq1;first|exact h_|(have e_:=(Kd.R_reads' HO_0.out).1;omega)|simpa using h_) (seg:= [.int .i64 x1_1]) (j:=0) hcl9 hcc9 (show 1≤3 from by decide) (x':=(⟨x1_1,(rd_T79 x0_1 x5_1).f1,(rd_T79 x0_1 x5_1).f2⟩ :S79)) (k79_mkM _ _ _ (⟨x1_1,(rd_T79 x0_1 x5_1).f1,(rd_T79 x0_1 x5_1).f2⟩ :S79) ) (fun _ hk=>hk)
     have hx9_0:=hcc9 0 _ rfl
     (try simp only [show (k79).sz=3 from rfl,Nat.mul_one,Nat.add_zero] at hx9_0)
     have hf9_0:=hfr9 0
     (try simp only [show (k79).sz=3 from rfl,Nat.mul_one,Nat.add_zero] at hf9_0)
     clear hcl9 hcc9 hfr9 hM9
     go_wp2_with (first|((with_reducible refine gate_store (t:=3) (p:=16) rfl ?_);refine store_event (t:=3) (p:=16) (v:=?vo_w10) (w1:=(wr.setCell ⟨go5,(x5_1:Int).toNat * 3,none⟩ (.int .i64 x1_1))) ?hg ?ho ?hn ?hr ?_;(case ho=>rfl);(case hg=>rfl);(case hn=>rfl);(case hr=>first|(go_simp;done)|(go_simp;rfl));intro w10 hw;have hg:wr.grownBy w10 (some go5):=(by rw [hw];exact HP9.2);have hp_:Kd.R k79 79 w10 w0.heap.size (fun k_=>(P0_ k_∨w.heap.size≤k_)) (.slice (some ⟨go5,0,none⟩) x0_1.length co8) y534:=(by rw [hw,Ny534.out];exact HP9.1);clear HP9;have n0_:=Aside0.mk (hp_);have n1_:=Aside0.mk ((by rw [hw];exact below_set (HB.out) GB5.out:Below w0.heap.size w0 w10));have n2_:=Aside0.mk (Kept.of_grown (S:=(fun k_=>P0_ k_)) hg (by repeat(first|(with_reducible first|exact HK.out|apply Kept.alloc|apply Kept.drewN|apply Kept.drew)|exact HK.out)) (fun k_ e_=>(HO_0.out.1 k_ e_)));clear HO_0;clear HB;clear HK;have HO_0:=n0_;have HB:=n1_;have HK:=n2_;clear n0_ n1_ n2_;clear hg hw hp_;have p6: 0≤ (x5_1:Int):=of_decide_eq_true zq1;have q6:(x5_1:Int)< ((x0_1.length:Int):Int):=of_decide_eq_true zq1;obtain⟨ce6,hcl6,hM6,hcc6,hfr6⟩:=Kd.R_elem HO_0.out z79 (x5_1:Int) p6 q6;obtain rfl:=k79_openM hM6;have hx6_0:w10.cell? ⟨go5,(x5_1:Int).toNat * 3,none⟩=some (.int .i64 ((rd_T79 y534 x5_1).f0)):=hcc6 0 _ rfl;have hx6_1:w10.cell? ⟨go5,(x5_1:Int).toNat * 3+1,none⟩=some (.int .i64 ((rd_T79 y534 x5_1).f1)):=hcc6 1 _ rfl;have hx6_2:w10.cell? ⟨go5,(x5_1:Int).toNat * 3+2,none⟩=some (.int .i64 ((rd_T79 y534 x5_1).f2)):=hcc6 2 _ rfl;have hf6_0:w10.frozen? ⟨go5,(x5_1:Int).toNat * 3,none⟩=false:=hfr6 0;have hf6_1:w10.frozen? ⟨go5,(x5_1:Int).toNat * 3+1,none⟩=false:=hfr6 1;have hf6_2:w10.frozen? ⟨go5,(x5_1:Int).toNat * 3+2,none⟩=false:=hfr6 2;clear hcl6 hcc6 hfr6 hM6;replace p6:=eq_true p6;replace q6:=eq_true q6;have HX11:=Aside0.mk (show Kd.R k79 79 w10 w0.heap.size (fun k_=>(P0_ k_∨w.heap.size≤k_)) (.slice (some ⟨go5,0,none⟩) x0_1.length co8) y534 from (zq4 HO_0));obtain⟨ce11,hcl11,hM11,hcc11,hfr11⟩:=Kd.R_elem HX11.out z79 (x5_1:Int) (of_decide_eq_true zq1) (by have h_:(x5_1:Int)< ((x0_1.length:Int):Int):=of_decide_eq_true zq1;first|exact h_|(have e_:=(Kd.R_reads' HO_0.out).1;omega)|simpa using h_);obtain rfl:=k79_openM hM11;have HP11:=Kd.R_seg HX11.out (x5_1:Int) (of_decide_eq_true zq1) (by have h_:(x5_1:Int)< ((x0_1.length:Int):Int):=of_decide_eq_true zq1;first|exact h_|(have e_:=(Kd.R_reads' HO_0.out).1;omega)|simpa using h_) (seg:= [.int .i64 (wrap64 (x1_1+1))]) (j:=1) hcl11 hcc11 (show 2≤3 from by decide) (x':=(⟨(rd_T79 y534 x5_1).f0,wrap64 (x1_1+1),(rd_T79 y534 x5_1).f2⟩ :S79)) (k79_mkM _ _ _ (⟨(rd_T79 y534 x5_1).f0,wrap64 (x1_1+1),(rd_T79 y534 x5_1).f2⟩ :S79) ) (fun _ hk=>hk);have hx11_1:=hcc11 1 _ rfl;(try simp only [show (k79).sz=3 from rfl,Nat.mul_one,Nat.add_zero] at hx11_1);have hf11_1:=hfr11 1;(try simp only [show (k79).sz=3 from rfl,Nat.mul_one,Nat.add_zero] at hf11_1);clear hcl11 hcc11 hfr11 hM11)|((with_reducible refine gate_store (t:=3) (p:=23) rfl ?_);refine store_event (t:=3) (p:=23) (v:=?vo_w12) (w1:=(w10.setCell ⟨go5,(x5_1:Int).toNat * 3+1,none⟩ (.int .i64 (wrap64 (x1_1+1))))) ?hg ?ho ?hn ?hr ?_;(case ho=>rfl);(case hg=>rfl);(case hn=>rfl);(case hr=>first|(go_simp;done)|(go_simp;rfl));intro w12 hw;have hg:w10.grownBy w12 (some go5):=(by rw [hw];exact HP11.2);have hp_:Kd.R k79 79 w12 w0.heap.size (fun k_=>(P0_ k_∨w.heap.size≤k_)) (.slice (some ⟨go5,0,none⟩) x0_1.length co8) y535:=(by rw [hw,Ny535.out];exact HP11.1);clear HP11;have n0_:=Aside0.mk (hp_);have n1_:=Aside0.mk ((by rw [hw];exact below_set (HB.out) GB5.out:Below w0.heap.size w0 w12));have n2_:=Aside0.mk (Kept.of_grown (S:=(fun k_=>P0_ k_)) hg (by repeat(first|(with_reducible first|exact HK.out|apply Kept.alloc|apply Kept.drewN|apply Kept.drew)|exact HK.out)) (fun k_ e_=>(HO_0.out.1 k_ e_)));clear HO_0;clear HB;clear HK;have HO_0:=n0_;have HB:=n1_;have HK:=n2_;clear n0_ n1_ n2_;clear hg hw hp_;have p7: 0≤ (x5_1:Int):=of_decide_eq_true zq1;have q7:(x5_1:Int)< ((x0_1.length:Int):Int):=of_decide_eq_true zq1;obtain⟨ce7,hcl7,hM7,hcc7,hfr7⟩:=Kd.R_elem HO_0.out z79 (x5_1:Int) p7 q7;obtain rfl:=k79_openM hM7;have hx7_0:w12.cell? ⟨go5,(x5_1:Int).toNat * 3,none⟩=some (.int .i64 ((rd_T79 y535 x5_1).f0)):=hcc7 0 _ rfl;have hx7_1:w12.cell? ⟨go5,(x5_1:Int).toNat * 3+1,none⟩=some (.int .i64 ((rd_T79 y535 x5_1).f1)):=hcc7 1 _ rfl;have hx7_2:w12.cell? ⟨go5,(x5_1:Int).toNat * 3+2,none⟩=some (.int .i64 ((rd_T79 y535 x5_1).f2)):=hcc7 2 _ rfl;have hf7_0:w12.frozen? ⟨go5,(x5_1:Int).toNat * 3,none⟩=false:=hfr7 0;have hf7_1:w12.frozen? ⟨go5,(x5_1:Int).toNat * 3+1,none⟩=false:=hfr7 1;have hf7_2:w12.frozen? ⟨go5,(x5_1:Int).toNat * 3+2,none⟩=false:=hfr7 2;clear hcl7 hcc7 hfr7 hM7;replace p7:=eq_true p7;replace q7:=eq_true q7;have HX13:=Aside0.mk (show Kd.R k79 79 w12 w0.heap.size (fun k_=>(P0_ k_∨w.heap.size≤k_)) (.slice (some ⟨go5,0,none⟩) x0_1.length co8) y535 from (zq4 HO_0));obtain⟨ce13,hcl13,hM13,hcc13,hfr13⟩:=Kd.R_elem HX13.out z79 (x5_1:Int) (of_decide_eq_true zq1) (by have h_:(x5_1:Int)< ((x0_1.length:Int):Int):=of_decide_eq_true zq1;first|exact h_|(have e_:=(Kd.R_reads' HO_0.out).1;omega)|simpa using h_);obtain rfl:=k79_openM hM13;have HP13:=Kd.R_seg HX13.out (x5_1:Int) (of_decide_eq_true zq1) (by have h_:(x5_1:Int)< ((x0_1.length:Int):Int):=of_decide_eq_true zq1;first|exact h_|(have e_:=(Kd.R_reads' HO_0.out).1;omega)|simpa using h_) (seg:= [.int .i64 (wrap64 ((wrap64 (x1_1+1))+1))]) (j:=2) hcl13 hcc13 (show 3≤3 from by decide) (x':=(⟨(rd_T79 y535 x5_1).f0,(rd_T79 y535 x5_1).f1,wrap64 ((wrap64 (x1_1+1))+1)⟩ :S79)) (k79_mkM _ _ _ (⟨(rd_T79 y535 x5_1).f0,(rd_T79 y535 x5_1).f1,wrap64 ((wrap64 (x1_1+1))+1)⟩ :S79) ) (fun _ hk=>hk);have hx13_2:=hcc13 2 _ rfl;(try simp only [show (k79).sz=3 from rfl,Nat.mul_one,Nat.add_zero] at hx13_2);have hf13_2:=hfr13 2;(try simp only [show (k79).sz=3 from rfl,Nat.mul_one,Nat.add_zero] at hf13_2);clear hcl13 hcc13 hfr13 hM13)|((with_reducible refine gate_store (t:=3) (p:=30) rfl ?_);refine store_event (t:=3) (p:=30) (v:=?vo_w14) (w1:=(w12.setCell ⟨go5,(x5_1:Int).toNat * 3+2,none⟩ (.int .i64 (wrap64 ((wrap64 (x1_1+1))+1))))) ?hg ?ho ?hn ?hr ?_;(case ho=>rfl);(case hg=>rfl);(case hn=>rfl);(case hr=>first|(go_simp;done)|(go_simp;rfl));intro w14 hw;have hg:w12.grownBy w14 (some go5):=(by rw [hw];exact HP13.2);have hp_:Kd.R k79 79 w14 w0.heap.size (fun k_=>(P0_ k_∨w.heap.size≤k_)) (.slice (some ⟨go5,0,none⟩) x0_1.length co8) y536:=(by rw [hw,Ny536.out];exact HP13.1);clear HP13;have n0_:=Aside0.mk (hp_);have n1_:=Aside0.mk ((by rw [hw];exact below_set (HB.out) GB5.out:Below w0.heap.size w0 w14));have n2_:=Aside0.mk (Kept.of_grown (S:=(fun k_=>P0_ k_)) hg (by repeat(first|(with_reducible first|exact HK.out|apply Kept.alloc|apply Kept.drewN|apply Kept.drew)|exact HK.out)) (fun k_ e_=>(HO_0.out.1 k_ e_)));clear HO_0;clear HB;clear HK;have HO_0:=n0_;have HB:=n1_;have HK:=n2_;clear n0_ n1_ n2_;clear hg hw hp_))
     go_roundg k1
     case measure=>have:=HK1.out;omega
     case rel=>exact⟨(y536),(wrap64 ((wrap64 ((wrap64 (x1_1+1))+1))+1)),(wrap64 (x5_1+1)),(by first|rfl|(simp;done)|(simp [*];done)),(by first|rfl|(simp;done)|(simp [*];done)),H',⟨by have:=HK1.out;omega⟩,⟨by(with_reducible repeat(first|apply Kd.R_alloc|apply Kd.R_drewN|apply Kd.R_drew));exact HO_0.out⟩,⟨by repeat(first|(with_reducible first|exact HK.out|apply Kept.alloc|apply Kept.drewN|apply Kept.drew)|exact HK.out)⟩,⟨by repeat(first|(with_reducible first|exact HB.out|apply below_alloc|apply pw_below_drewN|apply below_drew1)|exact HB.out)⟩⟩
    ·rw [if_neg c4] at H
     exact absurd H (by simp)
   ·rw [if_neg c3] at H
    have c3b0:decide (x5_1< (x0_1.length:Int))=false:=decide_eq_false c3
    clear c3
    simp only [Option.some.injEq,Prod.mk.injEq] at H
    obtain⟨rfl,rfl⟩:=H
    obtain⟨Ao15,co15,eo15⟩:=Kd.R_slice HO_0.out
    subst eo15
    go_wp2
    go_ret
    exact⟨by first|rfl|(simp [errW_none,errW_some]<;>rfl)|(simp [*,errW_none,errW_some]<;>rfl),by(with_reducible repeat(first|apply Kd.R_alloc|apply Kd.R_drewN|apply Kd.R_drew));exact HO_0.out,by repeat(first|(with_reducible first|exact HB.out|apply below_alloc|apply pw_below_drewN|apply below_drew1)|exact HB.out),by repeat(first|(with_reducible first|exact HK.out|apply Kept.alloc|apply Kept.drewN|apply Kept.drew)|exact HK.out)⟩
end Go.Proofs.Ytedegfbheihopaa.P

namespace Go.Proofs.Ytedegfbheihopaa.P
open Go.RowKit Go.Proofs.YtedegfbheihopaaW.PrintWords Go.Proofs.YtedegfbheihopaaW.PrintLast Go.Proofs.YtedegfbheihopaaW.PrintMore
attribute [local go_sem] max2_int min2_int max_two min_two max_three min_three max_four min_four   -- for this text's walks alone
set_option linter.unusedVariables false
set_option linter.unusedSimpArgs false
mutual
def spec_TreesFor.j0:Nat→Int→List (S79)→Int→Bool→Option ((List (List Int)) × Bool)
 | 0,_,_,_,_=>none
 |k+1,x0,x1,x2,x19=>if x19=true then(some (([] :List (List Int)),false)) else(spec_TreesFor.l0 k x0 x1 x2 ([] :List (List Int)) 0)
def spec_TreesFor.l0:Nat→Int→List (S79)→Int→List (List Int)→Int→Option ((List (List Int)) × Bool)
 | 0,_,_,_,_,_=>none
 |k+1,x0,x1,x2,x8,x9=>if x9<x2 then((spec_l10At.f k x0 x1 x9).bind fun t574=>(if x8.length< 5864062014805 then(spec_TreesFor.l0 k x0 x1 x2 (x8++ [t574]) (wrap64 (x9+1))) else(none))) else(some (x8,true))
end
def spec_TreesFor.f (k:Nat) (a0:Int) (l1:List (S79)) (a2:Int):Option ((List (List Int)) × Bool):=(spec_GoodEdges.f k a0 l1).bind fun t572=>(if t572=true then((spec_l1In.f a2 0 a0).bind fun t573=>(spec_TreesFor.j0 k a0 l1 a2 (!t573))) else(spec_TreesFor.j0 k a0 l1 a2 true))
set_option maxHeartbeats 8000000 in
set_option maxRecDepth 100000 in
theorem spec_TreesFor.calls (k:Nat) (a0:Int) (A1:Option Addr) (c1:Nat) (l1:List (S79)) (a2:Int) (r1:List (List Int)) (r2:Bool) (w:World) (hr1:Kd.C k79 w A1 l1.length l1) (hc1:l1.length≤c1) (h:spec_TreesFor.f k a0 l1 a2=some (r1,r2)):
  Calls Try.prog 36 #[.int .i64 a0,.slice A1 l1.length c1,.int .i64 a2] w fun e w'=> ∃ v0_:Value,e= .returned (.tuple #[v0_,.bool r2])∧Kd.S (Kd.slice 3 (Kd.int .i64)) 22 w' w.heap.size (fun _=>True) v0_ r1∧Below w.heap.size w w':=by
 have HR1:=Aside0.mk hr1
 have HC1:=Aside0.mk hc1
 clear hr1 hc1
 have HB:=Aside0.mk (Below.refl w.heap.size w)
 have H:((spec_GoodEdges.f k a0 l1).bind fun t572=>(if t572=true then((spec_l1In.f a2 0 a0).bind fun t573=>(spec_TreesFor.j0 k a0 l1 a2 (!t573))) else(spec_TreesFor.j0 k a0 l1 a2 true)))=some (r1,r2):=h
 clear h
 have HC4:=Aside0.mk H
 clear H
 go_enter Try.func36,Try.ntmps36
 go_upto_region 1 with (fail)
 go_cut [19] (fun v19 wc=> ∃ (kq:Nat) (x19_3:Bool),v19= .bool x19_3∧Aside0 (spec_TreesFor.j0 kq a0 l1 a2 x19_3=some (r1,r2))∧Aside0 (kq≤k)∧Aside0 (Below w.heap.size w wc))
 case first=>
  have H:=HC4.out
  clear HC4
  replace H:=Option.bind_eq_some_iff.mp H
  obtain⟨t572,A50,H⟩:=H
  replace H:(if t572=true then((spec_l1In.f a2 0 a0).bind fun t573=>(spec_TreesFor.j0 k a0 l1 a2 (!t573))) else(spec_TreesFor.j0 k a0 l1 a2 true))=some (r1,r2):=H
  have A5:=Aside0.mk A50
  clear A50
  by_cases c6:t572=true
  ·subst c6
   have H1:((spec_l1In.f a2 0 a0).bind fun t573=>(spec_TreesFor.j0 k a0 l1 a2 (!t573)))=some (r1,r2):=by rw [if_pos rfl] at H;exact H
   clear H
   have H:=H1
   clear H1
   replace H:=Option.bind_eq_some_iff.mp H
   obtain⟨t573,A70,H⟩:=H
   replace H:(spec_TreesFor.j0 k a0 l1 a2 (!t573))=some (r1,r2):=H
   have A7:=Aside0.mk A70
   clear A70
   have H':=Aside0.mk H
   clear H
   go_wp2_with (first|((with_reducible refine gate_callee (f:=66) rfl ?_);refine goesL_ (some 12) rfl rfl Try.func66 (by kernel_rfl) rfl #[.int .i64 a0,.slice A1 l1.length c1] rfl zq2 ?_;(with_reducible refine(spec_GoodEdges.calls k a0 _ _ l1 true _ ?side1 ?side2 A5.out).mono ?_);(case side1=>repeat(first|exact(Kd.C_below HR1.out HB.out)|(with_reducible refine Kd.C_alloc ?_ _)|(with_reducible refine Kd.C_drewN ?_ _)|(with_reducible refine Kd.C_drew ?_)));(case side2=>exact HC1.out);rintro e w8 ⟨rfl,hb⟩;refine⟨_,rfl,?_⟩;have n0_:=Aside0.mk (below_step (zb0 HB) hb);clear HB;have HB:=n0_;clear n0_;(try clear hb);(try clear hb2);(try clear hk);(try clear hi))|(go_at_call 59;(with_reducible refine(spec_l1In.calls a2 0 a0 t573 _ A7.out).mono ?_);rintro e w' ⟨rfl,⟨nd,rfl⟩⟩))
   go_meet
   case rel=>exact⟨_,(!t573),(by first|rfl|(simp;done)|(simp [*];done)),H',⟨by first|omega|exact Nat.le_refl _⟩,⟨by repeat(first|(with_reducible first|exact HB.out|apply below_alloc|apply pw_below_drewN|apply below_drew1)|exact HB.out)⟩⟩
  ·replace c6:=Bool.eq_false_iff.mpr c6
   subst c6
   have H1:(spec_TreesFor.j0 k a0 l1 a2 true)=some (r1,r2):=by rw [if_neg (show ¬ (false=true) by decide)] at H;exact H
   clear H
   have H:=H1
   clear H1
   have H':=Aside0.mk H
   clear H
   go_wp2_with (first|((with_reducible refine gate_callee (f:=66) rfl ?_);refine goesL_ (some 12) rfl rfl Try.func66 (by kernel_rfl) rfl #[.int .i64 a0,.slice A1 l1.length c1] rfl zq2 ?_;(with_reducible refine(spec_GoodEdges.calls k a0 _ _ l1 false _ ?side1 ?side2 A5.out).mono ?_);(case side1=>repeat(first|exact(Kd.C_below HR1.out HB.out)|(with_reducible refine Kd.C_alloc ?_ _)|(with_reducible refine Kd.C_drewN ?_ _)|(with_reducible refine Kd.C_drew ?_)));(case side2=>exact HC1.out);rintro e w9 ⟨rfl,hb⟩;refine⟨_,rfl,?_⟩;have n0_:=Aside0.mk (below_step (zb0 HB) hb);clear HB;have HB:=n0_;clear n0_;(try clear hb);(try clear hb2);(try clear hk);(try clear hi)))
   go_meet
   case rel=>exact⟨_,(true),(by first|rfl|(simp;done)|(simp [*];done)),H',⟨by first|omega|exact Nat.le_refl _⟩,⟨by repeat(first|(with_reducible first|exact HB.out|apply below_alloc|apply pw_below_drewN|apply below_drew1)|exact HB.out)⟩⟩
 case rest=>
  clear HC4
  try clear c1
  try clear p2
  try clear c3
  try clear c6
  obtain⟨kq,x19_3,rfl,HA,HJ3,HB⟩:=hcut
  cases kq with
  |zero=>exact absurd HA.out (by simp [spec_TreesFor.j0])
  |succ kj3=>
   have H:=HA.out
   clear HA
   simp only [spec_TreesFor.j0] at H
   by_cases c10:x19_3=true
   ·subst c10
    have H1:(some (([] :List (List Int)),false))=some (r1,r2):=by rw [if_pos rfl] at H;exact H
    clear H
    have H:=H1
    clear H1
    simp only [Option.some.injEq,Prod.mk.injEq] at H
    obtain⟨rfl,rfl⟩:=H
    go_wp2
    go_ret2
    exact⟨_,by first|rfl|(simp [errW_none,errW_some]<;>rfl)|(simp [*,errW_none,errW_some]<;>rfl),by first|exact Kd.S_nil _ _ _ _ _|exact Kd.N_nil _ _ _ _ _|exact Kd.V_nil _ _ _ _ _|exact Kd.Q_nil _ _ _ _ _|exact Kd.R_nil _ _ _ _ _,by repeat(first|(with_reducible first|exact HB.out|apply below_alloc|apply pw_below_drewN|apply below_drew1)|exact HB.out)⟩
   ·replace c10:=Bool.eq_false_iff.mpr c10
    subst c10
    have H1:(spec_TreesFor.l0 kj3 a0 l1 a2 ([] :List (List Int)) 0)=some (r1,r2):=by rw [if_neg (show ¬ (false=true) by decide)] at H;exact H
    clear H
    have H:=H1
    clear H1
    have H':=Aside0.mk H
    clear H
    go_wp2
    go_loopg [8,9] kj3 (fun kq v8 v9 w'=> ∃ (x8_2:List (List Int)) (x9_2:Int),v9= .int .i64 x9_2∧Aside0 (spec_TreesFor.l0 kq a0 l1 a2 x8_2 x9_2=some (r1,r2))∧Aside0 (kq≤kj3)∧Aside0 (Kd.S (Kd.slice 3 (Kd.int .i64)) 22 w' w.heap.size (fun _=>True) v8 x8_2)∧Aside0 (Below w.heap.size w w'))
    case atStart=>exact⟨(([] :List (List Int))),(0),(by first|rfl|(simp;done)|(simp [*];done)),H',⟨Nat.le_refl _⟩,⟨by first|exact Kd.S_nil _ _ _ _ _|exact Kd.N_nil _ _ _ _ _|exact Kd.V_nil _ _ _ _ _|exact Kd.Q_nil _ _ _ _ _|exact Kd.R_nil _ _ _ _ _⟩,⟨by repeat(first|(with_reducible first|exact HB.out|apply below_alloc|apply pw_below_drewN|apply below_drew1)|exact HB.out)⟩⟩
    case round=>
     clear H'
     try clear c1
     try clear p2
     try clear c3
     try clear c6
     try clear c10
     try clear p2
     obtain⟨x8_2,x9_2,rfl,HA,HK2,HO_8,HB⟩:=hrel
     cases gk with
     |zero=>exact absurd HA.out (by simp [spec_TreesFor.l0])
     |succ k2=>
      have H:=HA.out
      clear HA
      simp only [spec_TreesFor.l0] at H
      by_cases c11:x9_2<a2
      ·rw [if_pos c11] at H
       have c11b0:decide (x9_2<a2)=true:=decide_eq_true c11
       clear c11
       replace H:=Option.bind_eq_some_iff.mp H
       obtain⟨t574,A120,H⟩:=H
       replace H:(if x8_2.length< 5864062014805 then(spec_TreesFor.l0 k2 a0 l1 a2 (x8_2++ [t574]) (wrap64 (x9_2+1))) else(none))=some (r1,r2):=H
       have A12:=Aside0.mk A120
       clear A120
       by_cases c13:x8_2.length< 5864062014805
       ·rw [if_pos c13] at H
        have LMc13:=Aside0.mk c13
        clear c13
        obtain⟨y577,hy577⟩ :∃ y_:List (List Int),y_= (x8_2++ [t574]):=⟨_,rfl⟩
        replace H:(spec_TreesFor.l0 k2 a0 l1 a2 y577 (wrap64 (x9_2+1)))=some (r1,r2):=by first|(rw [hy577];with_reducible exact H)|(have H2_:=(Option.bind_some _ _).symm.trans H;rw [hy577];with_reducible exact H2_)|(have H2_:=(Option.bind_some _ _).symm.trans H;with_reducible exact H2_)|with_reducible exact H|(rw [hy577];exact H)|exact H
        have Ny577:=Aside0.mk hy577
        clear hy577
        have H':=Aside0.mk H
        clear H
        go_wp2_with (first|((with_reducible refine gate_callee (f:=75) rfl ?_);refine goesL_ (some 29) rfl rfl Try.func75 (by kernel_rfl) rfl #[.int .i64 a0,.slice A1 l1.length c1,.int .i64 x9_2] rfl zq2 ?_;(with_reducible refine(spec_l10At.calls k2 a0 _ _ l1 x9_2 t574 _ ?side1 ?side2 A12.out).mono ?_);(case side1=>repeat(first|exact(Kd.C_below HR1.out HB.out)|(with_reducible refine Kd.C_alloc ?_ _)|(with_reducible refine Kd.C_drewN ?_ _)|(with_reducible refine Kd.C_drew ?_)));(case side2=>exact HC1.out);rintro e w14 ⟨v575,rfl,ho0,hb⟩;refine⟨_,rfl,?_⟩;have n0_:=Aside0.mk (Kd.S_elder' (by(with_reducible repeat(first|apply Kd.S_alloc|apply Kd.S_drewN|apply Kd.S_drew));exact HO_8.out) (Kd.R_base ho0) hb);have n1_:=Aside0.mk (Kd.R_lower ho0 (below_size (zb0 HB)));have n2_:=Aside0.mk (below_step (zb0 HB) hb);clear HO_8;clear HB;have HO_8:=n0_;have HO576:=n1_;have HB:=n2_;clear n0_ n1_ n2_;(try clear hb);(try clear hb2);(try clear hk);(try clear hi);(try clear ho0);obtain⟨Ao16,co16,eo16⟩:=Kd.R_slice HO576.out;subst eo16)|((with_reducible refine gate_builtin (b:= .append) (xs:= #[.tmp 25,.tmp 30]) rfl ?_);at_builtin;refine Kd.S_append (Kd.slice 3 (Kd.int .i64)) (w0:=w) w.heap.size rfl (.tmp 25) (.tmp 30) 48 22 (.slice none 0 0) 24 rfl Try.underlying48 info22 rfl (by decide) (by omega) u8 x8_2 t574 [.slice Ao16 t574.length co16] (fun _=>True) (fun k_=>some k_= (.slice Ao16 t574.length co16:Value).ownBlock) rfl rfl ?aP (fun k_ hk_=>((Kd.R_mono (ok':=fun k_=>((fun _=>True)) k_∧some k_≠ (u8:Value).ownBlock) (Kd.R_apart' (HO576.out) (Kd.S_typed HO_8.out) (by decide)) (fun k_ hk=>⟨trivial,hk.2⟩))).1 k_ hk_.symm) ?aF ?aO ?aB ?aS ?aL ?_;(case aP=>exact Kd.M_row (Kd.R_mono (Kd.R_tight rfl (Kd.R_mono (ok':=fun k_=>((fun _=>True)) k_∧some k_≠ (u8:Value).ownBlock) (Kd.R_apart' (HO576.out) (Kd.S_typed HO_8.out) (by decide)) (fun k_ hk=>⟨trivial,hk.2⟩))) (fun _ h_=>h_)));(case aB=>exact(zb0 HB));(case aF=>exact(fun _ _=>trivial));(case aO=>exact(by(with_reducible repeat(first|apply Kd.S_alloc|apply Kd.S_drewN|apply Kd.S_drew));exact Kd.S_mono HO_8.out (fun k_ hk=>⟨trivial,fun e_=>hk.2 e_⟩)));(case aS=>exact(below_size (zb0 HB)));(case aL=>have:=LMc13.out;omega);intro v578 w15 ho hb hg hat;rw [← Ny577.out] at ho;have n0_:=Aside0.mk (hb);have n1_:=Aside0.mk (ho);clear HB;clear HO_8;clear HO576;have HB:=n0_;have HO579:=n1_;clear n0_ n1_;clear ho hb hg hat))
        go_roundg k2
        case measure=>have:=HJ3.out;have:=HK2.out;omega
        case rel=>exact⟨(y577),(wrap64 (x9_2+1)),(by first|rfl|(simp;done)|(simp [*];done)),H',⟨by have:=HJ3.out;have:=HK2.out;omega⟩,⟨by(with_reducible repeat(first|apply Kd.S_alloc|apply Kd.S_drewN|apply Kd.S_drew));exact HO579.out⟩,⟨by repeat(first|(with_reducible first|exact HB.out|apply below_alloc|apply pw_below_drewN|apply below_drew1)|exact HB.out)⟩⟩
       ·rw [if_neg c13] at H
        exact absurd H (by simp)
      ·rw [if_neg c11] at H
       have c11b0:decide (x9_2<a2)=false:=decide_eq_false c11
       clear c11
       simp only [Option.some.injEq,Prod.mk.injEq] at H
       obtain⟨rfl,rfl⟩:=H
       go_wp2
       go_ret2
       exact⟨_,by first|rfl|(simp [errW_none,errW_some]<;>rfl)|(simp [*,errW_none,errW_some]<;>rfl),by(with_reducible repeat(first|apply Kd.S_alloc|apply Kd.S_drewN|apply Kd.S_drew));exact HO_8.out,by repeat(first|(with_reducible first|exact HB.out|apply below_alloc|apply pw_below_drewN|apply below_drew1)|exact HB.out)⟩
mutual
def impl_TreesFor.j0:Nat→Int→List (S79)→Int→Bool→Option ((List (List Int)) × Bool)
 | 0,_,_,_,_=>none
 |k+1,x0,x1,x2,x19=>if x19=true then(some (([] :List (List Int)),false)) else(impl_TreesFor.l0 k x0 x1 ([] :List (List Int)) x2 0)
def impl_TreesFor.l0:Nat→Int→List (S79)→List (List Int)→Int→Int→Option ((List (List Int)) × Bool)
 | 0,_,_,_,_,_=>none
 |k+1,x0,x1,x8,x20,x21=>if x21<x20 then((impl_treeAt.f k x0 x1 x21).bind fun t582=>(if x8.length< 5864062014805 then(impl_TreesFor.l0 k x0 x1 (x8++ [t582]) x20 (wrap64 (x21+1))) else(none))) else(some (x8,true))
end
def impl_TreesFor.f (k:Nat) (a0:Int) (l1:List (S79)) (a2:Int):Option ((List (List Int)) × Bool):=(impl_GoodEdges.f k a0 l1).bind fun t580=>(if t580=true then((impl_in.f a2 0 a0).bind fun t581=>(impl_TreesFor.j0 k a0 l1 a2 (!t581))) else(impl_TreesFor.j0 k a0 l1 a2 true))
set_option maxHeartbeats 8000000 in
set_option maxRecDepth 100000 in
theorem impl_TreesFor.calls (k:Nat) (a0:Int) (A1:Option Addr) (c1:Nat) (l1:List (S79)) (a2:Int) (r1:List (List Int)) (r2:Bool) (w:World) (hr1:Kd.C k79 w A1 l1.length l1) (hc1:l1.length≤c1) (h:impl_TreesFor.f k a0 l1 a2=some (r1,r2)):
  Calls Try.prog 37 #[.int .i64 a0,.slice A1 l1.length c1,.int .i64 a2] w fun e w'=> ∃ v0_:Value,e= .returned (.tuple #[v0_,.bool r2])∧Kd.S (Kd.slice 3 (Kd.int .i64)) 22 w' w.heap.size (fun _=>True) v0_ r1∧Below w.heap.size w w':=by
 have HR1:=Aside0.mk hr1
 have HC1:=Aside0.mk hc1
 clear hr1 hc1
 have HB:=Aside0.mk (Below.refl w.heap.size w)
 have H:((impl_GoodEdges.f k a0 l1).bind fun t580=>(if t580=true then((impl_in.f a2 0 a0).bind fun t581=>(impl_TreesFor.j0 k a0 l1 a2 (!t581))) else(impl_TreesFor.j0 k a0 l1 a2 true)))=some (r1,r2):=h
 clear h
 have HC4:=Aside0.mk H
 clear H
 go_enter Try.func37,Try.ntmps37
 go_upto_region 1 with (fail)
 go_cut [19] (fun v19 wc=> ∃ (kq:Nat) (x19_3:Bool),v19= .bool x19_3∧Aside0 (impl_TreesFor.j0 kq a0 l1 a2 x19_3=some (r1,r2))∧Aside0 (kq≤k)∧Aside0 (Below w.heap.size w wc))
 case first=>
  have H:=HC4.out
  clear HC4
  replace H:=Option.bind_eq_some_iff.mp H
  obtain⟨t580,A50,H⟩:=H
  replace H:(if t580=true then((impl_in.f a2 0 a0).bind fun t581=>(impl_TreesFor.j0 k a0 l1 a2 (!t581))) else(impl_TreesFor.j0 k a0 l1 a2 true))=some (r1,r2):=H
  have A5:=Aside0.mk A50
  clear A50
  by_cases c6:t580=true
  ·subst c6
   have H1:((impl_in.f a2 0 a0).bind fun t581=>(impl_TreesFor.j0 k a0 l1 a2 (!t581)))=some (r1,r2):=by rw [if_pos rfl] at H;exact H
   clear H
   have H:=H1
   clear H1
   replace H:=Option.bind_eq_some_iff.mp H
   obtain⟨t581,A70,H⟩:=H
   replace H:(impl_TreesFor.j0 k a0 l1 a2 (!t581))=some (r1,r2):=H
   have A7:=Aside0.mk A70
   clear A70
   have H':=Aside0.mk H
   clear H
   go_wp2_with (first|((with_reducible refine gate_callee (f:=69) rfl ?_);refine goesL_ (some 12) rfl rfl Try.func69 (by kernel_rfl) rfl #[.int .i64 a0,.slice A1 l1.length c1] rfl zq2 ?_;(with_reducible refine(impl_GoodEdges.calls k a0 _ _ l1 true _ ?side1 ?side2 A5.out).mono ?_);(case side1=>repeat(first|exact(Kd.C_below HR1.out HB.out)|(with_reducible refine Kd.C_alloc ?_ _)|(with_reducible refine Kd.C_drewN ?_ _)|(with_reducible refine Kd.C_drew ?_)));(case side2=>exact HC1.out);rintro e w8 ⟨rfl,hb⟩;refine⟨_,rfl,?_⟩;have n0_:=Aside0.mk (below_step (zb0 HB) hb);clear HB;have HB:=n0_;clear n0_;(try clear hb);(try clear hb2);(try clear hk);(try clear hi))|(go_at_call 78;(with_reducible refine(impl_in.calls a2 0 a0 t581 _ A7.out).mono ?_);rintro e w' ⟨rfl,⟨nd,rfl⟩⟩))
   go_meet
   case rel=>exact⟨_,(!t581),(by first|rfl|(simp;done)|(simp [*];done)),H',⟨by first|omega|exact Nat.le_refl _⟩,⟨by repeat(first|(with_reducible first|exact HB.out|apply below_alloc|apply pw_below_drewN|apply below_drew1)|exact HB.out)⟩⟩
  ·replace c6:=Bool.eq_false_iff.mpr c6
   subst c6
   have H1:(impl_TreesFor.j0 k a0 l1 a2 true)=some (r1,r2):=by rw [if_neg (show ¬ (false=true) by decide)] at H;exact H
   clear H
   have H:=H1
   clear H1
   have H':=Aside0.mk H
   clear H
   go_wp2_with (first|((with_reducible refine gate_callee (f:=69) rfl ?_);refine goesL_ (some 12) rfl rfl Try.func69 (by kernel_rfl) rfl #[.int .i64 a0,.slice A1 l1.length c1] rfl zq2 ?_;(with_reducible refine(impl_GoodEdges.calls k a0 _ _ l1 false _ ?side1 ?side2 A5.out).mono ?_);(case side1=>repeat(first|exact(Kd.C_below HR1.out HB.out)|(with_reducible refine Kd.C_alloc ?_ _)|(with_reducible refine Kd.C_drewN ?_ _)|(with_reducible refine Kd.C_drew ?_)));(case side2=>exact HC1.out);rintro e w9 ⟨rfl,hb⟩;refine⟨_,rfl,?_⟩;have n0_:=Aside0.mk (below_step (zb0 HB) hb);clear HB;have HB:=n0_;clear n0_;(try clear hb);(try clear hb2);(try clear hk);(try clear hi)))
   go_meet
   case rel=>exact⟨_,(true),(by first|rfl|(simp;done)|(simp [*];done)),H',⟨by first|omega|exact Nat.le_refl _⟩,⟨by repeat(first|(with_reducible first|exact HB.out|apply below_alloc|apply pw_below_drewN|apply below_drew1)|exact HB.out)⟩⟩
 case rest=>
  clear HC4
  try clear c1
  try clear p2
  try clear c3
  try clear c6
  obtain⟨kq,x19_3,rfl,HA,HJ3,HB⟩:=hcut
  cases kq with
  |zero=>exact absurd HA.out (by simp [impl_TreesFor.j0])
  |succ kj3=>
   have H:=HA.out
   clear HA
   simp only [impl_TreesFor.j0] at H
   by_cases c10:x19_3=true
   ·subst c10
    have H1:(some (([] :List (List Int)),false))=some (r1,r2):=by rw [if_pos rfl] at H;exact H
    clear H
    have H:=H1
    clear H1
    simp only [Option.some.injEq,Prod.mk.injEq] at H
    obtain⟨rfl,rfl⟩:=H
    go_wp2
    go_ret2
    exact⟨_,by first|rfl|(simp [errW_none,errW_some]<;>rfl)|(simp [*,errW_none,errW_some]<;>rfl),by first|exact Kd.S_nil _ _ _ _ _|exact Kd.N_nil _ _ _ _ _|exact Kd.V_nil _ _ _ _ _|exact Kd.Q_nil _ _ _ _ _|exact Kd.R_nil _ _ _ _ _,by repeat(first|(with_reducible first|exact HB.out|apply below_alloc|apply pw_below_drewN|apply below_drew1)|exact HB.out)⟩
   ·replace c10:=Bool.eq_false_iff.mpr c10
    subst c10
    have H1:(impl_TreesFor.l0 kj3 a0 l1 ([] :List (List Int)) a2 0)=some (r1,r2):=by rw [if_neg (show ¬ (false=true) by decide)] at H;exact H
    clear H
    have H:=H1
    clear H1
    have H':=Aside0.mk H
    clear H
    go_wp2
    go_loopg [8,21] kj3 (fun kq v8 v21 w'=> ∃ (x8_2:List (List Int)) (x21_2:Int),v21= .int .i64 x21_2∧Aside0 (impl_TreesFor.l0 kq a0 l1 x8_2 a2 x21_2=some (r1,r2))∧Aside0 (kq≤kj3)∧Aside0 (Kd.S (Kd.slice 3 (Kd.int .i64)) 22 w' w.heap.size (fun _=>True) v8 x8_2)∧Aside0 (Below w.heap.size w w'))
    case atStart=>exact⟨(([] :List (List Int))),(0),(by first|rfl|(simp;done)|(simp [*];done)),H',⟨Nat.le_refl _⟩,⟨by first|exact Kd.S_nil _ _ _ _ _|exact Kd.N_nil _ _ _ _ _|exact Kd.V_nil _ _ _ _ _|exact Kd.Q_nil _ _ _ _ _|exact Kd.R_nil _ _ _ _ _⟩,⟨by repeat(first|(with_reducible first|exact HB.out|apply below_alloc|apply pw_below_drewN|apply below_drew1)|exact HB.out)⟩⟩
    case round=>
     clear H'
     try clear c1
     try clear p2
     try clear c3
     try clear c6
     try clear c10
     try clear p2
     obtain⟨x8_2,x21_2,rfl,HA,HK2,HO_8,HB⟩:=hrel
     cases gk with
     |zero=>exact absurd HA.out (by simp [impl_TreesFor.l0])
     |succ k2=>
      have H:=HA.out
      clear HA
      simp only [impl_TreesFor.l0] at H
      by_cases c11:x21_2<a2
      ·rw [if_pos c11] at H
       have c11b0:decide (x21_2<a2)=true:=decide_eq_true c11
       clear c11
       replace H:=Option.bind_eq_some_iff.mp H
       obtain⟨t582,A120,H⟩:=H
       replace H:(if x8_2.length< 5864062014805 then(impl_TreesFor.l0 k2 a0 l1 (x8_2++ [t582]) a2 (wrap64 (x21_2+1))) else(none))=some (r1,r2):=H
       have A12:=Aside0.mk A120
       clear A120
       by_cases c13:x8_2.length< 5864062014805
       ·rw [if_pos c13] at H
        have LMc13:=Aside0.mk c13
        clear c13
        obtain⟨y585,hy585⟩ :∃ y_:List (List Int),y_= (x8_2++ [t582]):=⟨_,rfl⟩
        replace H:(impl_TreesFor.l0 k2 a0 l1 y585 a2 (wrap64 (x21_2+1)))=some (r1,r2):=by first|(rw [hy585];with_reducible exact H)|(have H2_:=(Option.bind_some _ _).symm.trans H;rw [hy585];with_reducible exact H2_)|(have H2_:=(Option.bind_some _ _).symm.trans H;with_reducible exact H2_)|with_reducible exact H|(rw [hy585];exact H)|exact H
        have Ny585:=Aside0.mk hy585
        clear hy585
        have H':=Aside0.mk H
        clear H
        go_wp2_with (first|((with_reducible refine gate_callee (f:=77) rfl ?_);refine goesL_ (some 28) rfl rfl Try.func77 (by kernel_rfl) rfl #[.int .i64 a0,.slice A1 l1.length c1,.int .i64 x21_2] rfl zq2 ?_;(with_reducible refine(impl_treeAt.calls k2 a0 _ _ l1 x21_2 t582 _ ?side1 ?side2 A12.out).mono ?_);(case side1=>repeat(first|exact(Kd.C_below HR1.out HB.out)|(with_reducible refine Kd.C_alloc ?_ _)|(with_reducible refine Kd.C_drewN ?_ _)|(with_reducible refine Kd.C_drew ?_)));(case side2=>exact HC1.out);rintro e w14 ⟨v583,rfl,ho0,hb⟩;refine⟨_,rfl,?_⟩;have n0_:=Aside0.mk (Kd.S_elder' (by(with_reducible repeat(first|apply Kd.S_alloc|apply Kd.S_drewN|apply Kd.S_drew));exact HO_8.out) (Kd.R_base ho0) hb);have n1_:=Aside0.mk (Kd.R_lower ho0 (below_size (zb0 HB)));have n2_:=Aside0.mk (below_step (zb0 HB) hb);clear HO_8;clear HB;have HO_8:=n0_;have HO584:=n1_;have HB:=n2_;clear n0_ n1_ n2_;(try clear hb);(try clear hb2);(try clear hk);(try clear hi);(try clear ho0);obtain⟨Ao16,co16,eo16⟩:=Kd.R_slice HO584.out;subst eo16)|((with_reducible refine gate_builtin (b:= .append) (xs:= #[.tmp 24,.tmp 29]) rfl ?_);at_builtin;refine Kd.S_append (Kd.slice 3 (Kd.int .i64)) (w0:=w) w.heap.size rfl (.tmp 24) (.tmp 29) 48 22 (.slice none 0 0) 24 rfl Try.underlying48 info22 rfl (by decide) (by omega) u8 x8_2 t582 [.slice Ao16 t582.length co16] (fun _=>True) (fun k_=>some k_= (.slice Ao16 t582.length co16:Value).ownBlock) rfl rfl ?aP (fun k_ hk_=>((Kd.R_mono (ok':=fun k_=>((fun _=>True)) k_∧some k_≠ (u8:Value).ownBlock) (Kd.R_apart' (HO584.out) (Kd.S_typed HO_8.out) (by decide)) (fun k_ hk=>⟨trivial,hk.2⟩))).1 k_ hk_.symm) ?aF ?aO ?aB ?aS ?aL ?_;(case aP=>exact Kd.M_row (Kd.R_mono (Kd.R_tight rfl (Kd.R_mono (ok':=fun k_=>((fun _=>True)) k_∧some k_≠ (u8:Value).ownBlock) (Kd.R_apart' (HO584.out) (Kd.S_typed HO_8.out) (by decide)) (fun k_ hk=>⟨trivial,hk.2⟩))) (fun _ h_=>h_)));(case aB=>exact(zb0 HB));(case aF=>exact(fun _ _=>trivial));(case aO=>exact(by(with_reducible repeat(first|apply Kd.S_alloc|apply Kd.S_drewN|apply Kd.S_drew));exact Kd.S_mono HO_8.out (fun k_ hk=>⟨trivial,fun e_=>hk.2 e_⟩)));(case aS=>exact(below_size (zb0 HB)));(case aL=>have:=LMc13.out;omega);intro v586 w15 ho hb hg hat;rw [← Ny585.out] at ho;have n0_:=Aside0.mk (hb);have n1_:=Aside0.mk (ho);clear HB;clear HO_8;clear HO584;have HB:=n0_;have HO587:=n1_;clear n0_ n1_;clear ho hb hg hat))
        go_roundg k2
        case measure=>have:=HJ3.out;have:=HK2.out;omega
        case rel=>exact⟨(y585),(wrap64 (x21_2+1)),(by first|rfl|(simp;done)|(simp [*];done)),H',⟨by have:=HJ3.out;have:=HK2.out;omega⟩,⟨by(with_reducible repeat(first|apply Kd.S_alloc|apply Kd.S_drewN|apply Kd.S_drew));exact HO587.out⟩,⟨by repeat(first|(with_reducible first|exact HB.out|apply below_alloc|apply pw_below_drewN|apply below_drew1)|exact HB.out)⟩⟩
       ·rw [if_neg c13] at H
        exact absurd H (by simp)
      ·rw [if_neg c11] at H
       have c11b0:decide (x21_2<a2)=false:=decide_eq_false c11
       clear c11
       simp only [Option.some.injEq,Prod.mk.injEq] at H
       obtain⟨rfl,rfl⟩:=H
       go_wp2
       go_ret2
       exact⟨_,by first|rfl|(simp [errW_none,errW_some]<;>rfl)|(simp [*,errW_none,errW_some]<;>rfl),by(with_reducible repeat(first|apply Kd.S_alloc|apply Kd.S_drewN|apply Kd.S_drew));exact HO_8.out,by repeat(first|(with_reducible first|exact HB.out|apply below_alloc|apply pw_below_drewN|apply below_drew1)|exact HB.out)⟩
end Go.Proofs.Ytedegfbheihopaa.P

namespace Go.Proofs.Ytedegfbheihopaa.P
open Go.RowKit Go.Proofs.YtedegfbheihopaaW.PrintWords Go.Proofs.YtedegfbheihopaaW.PrintLast Go.Proofs.YtedegfbheihopaaW.PrintMore
attribute [local go_sem] max2_int min2_int max_two min_two max_three min_three max_four min_four   -- for this text's walks alone
set_option linter.unusedVariables false
set_option linter.unusedSimpArgs false
def laws_eqIntS.l0:Nat→List Int→List Int→Int→Option (Bool)
 | 0,_,_,_=>none
 |k+1,x0,x1,x5=>if x5< (x0.length:Int) then(if 0≤x5 then(if x5< (x1.length:Int) then(if (rd x0 x5)= (rd x1 x5) then(laws_eqIntS.l0 k x0 x1 (wrap64 (x5+1))) else(some false)) else(none)) else(none)) else(some true)
def laws_eqIntS.f (k:Nat) (l0:List Int) (l1:List Int):Option (Bool):=if (l0.length:Int)= (l1.length:Int) then(laws_eqIntS.l0 k l0 l1 0) else(some false)
set_option maxHeartbeats 8000000 in
set_option maxRecDepth 100000 in
theorem laws_eqIntS.calls (k:Nat) (A0:Option Addr) (c0:Nat) (l0:List Int) (A1:Option Addr) (c1:Nat) (l1:List Int) (r:Bool) (w:World) (hr0:Kd.C (Kd.int .i64) w A0 l0.length l0) (hc0:l0.length≤c0) (hr1:Kd.C (Kd.int .i64) w A1 l1.length l1) (hc1:l1.length≤c1) (h:laws_eqIntS.f k l0 l1=some r):
  Calls Try.prog 16 #[.slice A0 l0.length c0,.slice A1 l1.length c1] w fun e w'=>e= .returned (.bool r)∧Drawn0 w w':=by
 have HR0:=Aside0.mk hr0
 have HC0:=Aside0.mk hc0
 clear hr0 hc0
 have HR1:=Aside0.mk hr1
 have HC1:=Aside0.mk hc1
 clear hr1 hc1
 have H:(if (l0.length:Int)= (l1.length:Int) then(laws_eqIntS.l0 k l0 l1 0) else(some false))=some r:=h
 clear h
 by_cases c3:(l0.length:Int)= (l1.length:Int)
 ·rw [if_pos c3] at H
  have c3b0:((l0.length:Int)== (l1.length:Int))=true:=beq_iff_eq.mpr c3
  have c3b1:((l0.length:Int) != (l1.length:Int))=false:=bne_eq_false_iff_eq.mpr c3
  have c3b2:(l0.length==l1.length)=true:=by first|simpa using c3|(simp at c3 ⊢;omega)
  clear c3
  have H':=Aside0.mk H
  clear H
  go_enter Try.func16,Try.ntmps16
  go_wp2
  repeat(go_quiet (fail);try go_wp2)
  go_loopg [5] k (fun kq v5 w'=> ∃ (x5_1:Int),v5= .int .i64 x5_1∧Aside0 (laws_eqIntS.l0 kq l0 l1 x5_1=some r)∧Aside0 (kq≤k)∧Drawn0 w w')
  case atStart=>exact⟨(0),(by first|rfl|(simp;done)|(simp [*];done)),H',⟨Nat.le_refl _⟩,by repeat(first|exact Drawn0.refl _|apply Drawn0.step)⟩
  case round=>
   clear H'
   try clear c1
   try clear p2
   try clear c3
   try clear c3b0
   try clear c3b1
   try clear c3b2
   obtain⟨x5_1,rfl,HA,HK1,⟨m1,rfl⟩⟩:=hrel
   cases gk with
   |zero=>exact absurd HA.out (by simp [laws_eqIntS.l0])
   |succ k1=>
    have H:=HA.out
    clear HA
    simp only [laws_eqIntS.l0] at H
    by_cases c4:x5_1< (l0.length:Int)
    ·rw [if_pos c4] at H
     have c4b0:decide (x5_1< (l0.length:Int))=true:=decide_eq_true c4
     clear c4
     by_cases c5: 0≤x5_1
     ·rw [if_pos c5] at H
      have c5b0:decide (0≤x5_1)=true:=decide_eq_true c5
      clear c5
      by_cases c6:x5_1< (l1.length:Int)
      ·rw [if_pos c6] at H
       have c6b0:decide (x5_1< (l1.length:Int))=true:=decide_eq_true c6
       clear c6
       by_cases c7:(rd l0 x5_1)= (rd l1 x5_1)
       ·rw [if_pos c7] at H
        have c7b0:((rd l0 x5_1)== (rd l1 x5_1))=true:=beq_iff_eq.mpr c7
        have c7b1:((rd l0 x5_1) != (rd l1 x5_1))=false:=bne_eq_false_iff_eq.mpr c7
        clear c7
        have H':=Aside0.mk H
        clear H
        have p118: 0≤ (x5_1:Int):=of_decide_eq_true zq1
        have q118:x5_1< (l0.length:Int):=of_decide_eq_true zq1
        obtain⟨ad118,e118,hx118_0⟩:=Kd.at_int HR0.out x5_1 p118 q118
        cases e118
        replace p118:=eq_true p118
        replace q118:=eq_true q118
        have p119: 0≤ (x5_1:Int):=of_decide_eq_true zq1
        have q119:x5_1< (l1.length:Int):=of_decide_eq_true zq1
        obtain⟨ad119,e119,hx119_0⟩:=Kd.at_int HR1.out x5_1 p119 q119
        cases e119
        replace p119:=eq_true p119
        replace q119:=eq_true q119
        go_wp2
        repeat(go_quiet (fail);try go_wp2)
        go_roundg k1
        case measure=>have:=HK1.out;omega
        case rel=>exact⟨(wrap64 (x5_1+1)),(by first|rfl|(simp;done)|(simp [*];done)),H',⟨by have:=HK1.out;omega⟩,by repeat(first|exact Drawn0.refl _|apply Drawn0.step)⟩
       ·rw [if_neg c7] at H
        have c7b0:((rd l0 x5_1)== (rd l1 x5_1))=false:=beq_eq_false_iff_ne.mpr c7
        have c7b1:((rd l0 x5_1) != (rd l1 x5_1))=true:=bne_iff_ne.mpr c7
        obtain rfl:=Option.some.inj H
        have p118: 0≤ (x5_1:Int):=of_decide_eq_true zq1
        have q118:x5_1< (l0.length:Int):=of_decide_eq_true zq1
        obtain⟨ad118,e118,hx118_0⟩:=Kd.at_int HR0.out x5_1 p118 q118
        cases e118
        replace p118:=eq_true p118
        replace q118:=eq_true q118
        have p119: 0≤ (x5_1:Int):=of_decide_eq_true zq1
        have q119:x5_1< (l1.length:Int):=of_decide_eq_true zq1
        obtain⟨ad119,e119,hx119_0⟩:=Kd.at_int HR1.out x5_1 p119 q119
        cases e119
        replace p119:=eq_true p119
        replace q119:=eq_true q119
        go_wp2
        repeat(go_quiet (fail);try go_wp2)
        go_ret
        exact⟨by first|rfl|(simp;done)|(simp [*];done),by repeat(first|exact Drawn0.refl _|apply Drawn0.step)⟩
      ·rw [if_neg c6] at H
       exact absurd H (by simp)
     ·rw [if_neg c5] at H
      exact absurd H (by simp)
    ·rw [if_neg c4] at H
     have c4b0:decide (x5_1< (l0.length:Int))=false:=decide_eq_false c4
     clear c4
     obtain rfl:=Option.some.inj H
     go_wp2
     repeat(go_quiet (fail);try go_wp2)
     go_ret
     exact⟨by first|rfl|(simp;done)|(simp [*];done),by repeat(first|exact Drawn0.refl _|apply Drawn0.step)⟩
 ·rw [if_neg c3] at H
  have c3b0:((l0.length:Int)== (l1.length:Int))=false:=beq_eq_false_iff_ne.mpr c3
  have c3b1:((l0.length:Int) != (l1.length:Int))=true:=bne_iff_ne.mpr c3
  have c3b2:(l0.length==l1.length)=false:=by first|simpa using c3|(simp at c3 ⊢;omega)
  obtain rfl:=Option.some.inj H
  go_enter Try.func16,Try.ntmps16
  go_wp2
  repeat(go_quiet (fail);try go_wp2)
  go_ret
  exact⟨by first|rfl|(simp;done)|(simp [*];done),by repeat(first|exact Drawn0.refl _|apply Drawn0.step)⟩
end Go.Proofs.Ytedegfbheihopaa.P

namespace Go.Proofs.Ytedegfbheihopaa.P
open Go.RowKit Go.Proofs.YtedegfbheihopaaW.PrintWords Go.Proofs.YtedegfbheihopaaW.PrintLast Go.Proofs.YtedegfbheihopaaW.PrintMore
attribute [local go_sem] max2_int min2_int max_two min_two max_three min_three max_four min_four   -- for this text's walks alone
set_option linter.unusedVariables false
set_option linter.unusedSimpArgs false
def laws_markIntS.l0:Nat→List Int→Int→Int→Option (Int × List Int)
 | 0,_,_,_=>none
 |k+1,x0,x1,x5=>if x5< (x0.length:Int) then(if 0≤x5 then(laws_markIntS.l0 k (x0.set (x5:Int).toNat x1) (wrap64 (x1+1)) (wrap64 (x5+1))) else(none)) else(some (x1,x0))
def laws_markIntS.f (k:Nat) (l0:List Int) (a1:Int):Option (Int × List Int):=laws_markIntS.l0 k l0 a1 0
set_option maxHeartbeats 8000000 in
set_option maxRecDepth 100000 in
theorem laws_markIntS.calls (k:Nat) (P0_:Nat→Prop) (u9000_:Value) (l0:List Int) (a1:Int) (r1:Int) (r2:List Int) (w0 w:World) (hB:Below w0.heap.size w0 w) (ho0:Kd.R (Kd.int .i64) 3 w w0.heap.size P0_ u9000_ l0) (h:laws_markIntS.f k l0 a1=some (r1,r2)):
  Calls Try.prog 21 #[u9000_,.int .i64 a1] w fun e w'=>e= .returned (.int .i64 r1)∧Kd.R (Kd.int .i64) 3 w' w0.heap.size (fun k_=>(P0_ k_∨w.heap.size≤k_)) u9000_ r2∧Below w0.heap.size w0 w'∧Kept w w' (fun k_=>P0_ k_):=by
 have HO0:=Aside0.mk (show Kd.R (Kd.int .i64) 3 w w0.heap.size (fun k_=>(P0_ k_∨w.heap.size≤k_)) u9000_ l0 from Kd.R_mono ho0 (fun k_ hk=>(.inl hk)))
 have HK:=Aside0.mk (Kept.refl w (fun k_=>P0_ k_))
 have HW0:=Aside0.mk hB.size
 have HB:=Aside0.mk hB
 clear hB
 have H:(laws_markIntS.l0 k l0 a1 0)=some (r1,r2):=h
 clear h
 have H':=Aside0.mk H
 clear H
 go_enter Try.func21,Try.ntmps21
 go_wp2
 go_loopg [1,5] k (fun kq v1 v5 w'=> ∃ (x0_1:List Int) (x1_1:Int) (x5_1:Int),v1= .int .i64 x1_1∧v5= .int .i64 x5_1∧Aside0 (laws_markIntS.l0 kq x0_1 x1_1 x5_1=some (r1,r2))∧Aside0 (kq≤k)∧Aside0 (Kd.R (Kd.int .i64) 3 w' w0.heap.size (fun k_=>(P0_ k_∨w.heap.size≤k_)) u9000_ x0_1)∧Aside0 (Kept w w' (fun k_=>P0_ k_))∧Aside0 (Below w0.heap.size w0 w'))
 case atStart=>exact⟨(l0),(a1),(0),(by first|rfl|(simp;done)|(simp [*];done)),(by first|rfl|(simp;done)|(simp [*];done)),H',⟨Nat.le_refl _⟩,⟨by(with_reducible repeat(first|apply Kd.R_alloc|apply Kd.R_drewN|apply Kd.R_drew));exact HO0.out⟩,⟨by repeat(first|(with_reducible first|exact HK.out|apply Kept.alloc|apply Kept.drewN|apply Kept.drew)|exact HK.out)⟩,⟨by repeat(first|(with_reducible first|exact HB.out|apply below_alloc|apply pw_below_drewN|apply below_drew1)|exact HB.out)⟩⟩
 case round=>
  clear H'
  try clear c2
  try clear p2
  obtain⟨x0_1,x1_1,x5_1,rfl,rfl,HA,HK1,HO_0,HK,HB⟩:=hrel
  cases gk with
  |zero=>exact absurd HA.out (by simp [laws_markIntS.l0])
  |succ k1=>
   have H:=HA.out
   clear HA
   simp only [laws_markIntS.l0] at H
   by_cases c3:x5_1< (x0_1.length:Int)
   ·rw [if_pos c3] at H
    have c3b0:decide (x5_1< (x0_1.length:Int))=true:=decide_eq_true c3
    clear c3
    by_cases c4: 0≤x5_1
    ·rw [if_pos c4] at H
     have c4b0:decide (0≤x5_1)=true:=decide_eq_true c4
     clear c4
     obtain⟨y216,hy216⟩ :∃ y_:List Int,y_= (x0_1.set (x5_1:Int).toNat x1_1):=⟨_,rfl⟩
     replace H:(laws_markIntS.l0 k1 y216 (wrap64 (x1_1+1)) (wrap64 (x5_1+1)))=some (r1,r2):=by first|(rw [hy216];with_reducible exact H)|(have H2_:=(Option.bind_some _ _).symm.trans H;rw [hy216];with_reducible exact H2_)|(have H2_:=(Option.bind_some _ _).symm.trans H;with_reducible exact H2_)|with_reducible exact H|(rw [hy216];exact H)|exact H
     have Ny216:=Aside0.mk hy216
     clear hy216
     have H':=Aside0.mk H
     clear H
     obtain⟨Ao6,co6,eo6⟩:=Kd.R_slice HO_0.out
     subst eo6
     have p5: 0≤ (x5_1:Int):=of_decide_eq_true zq1
     have q5:(x5_1:Int)< ((x0_1.length:Int):Int):=of_decide_eq_true zq1
     obtain⟨go5,co5,eo5,gb5,gl5,cl5,HG5⟩:=Kd.R_form HO_0.out (by omega)
     (first|cases eo5|(injection eo5 with ea_ en_ ec_;(first|subst ea_|(injection ea_ with ea_;subst ea_));subst ec_;clear en_))
     have GB5:=Aside0.mk gb5
     have GG5:=Aside0.mk HG5
     clear gb5 gl5 HG5
     have HMgo5:=Aside0.mk (show (P0_ go5∨w.heap.size≤go5) from (HO_0.out.1 _ rfl))
     obtain⟨hx5_0,hf5_0⟩:=Kd.R_celln 0 HO_0.out (x5_1:Int) p5 q5
     replace p5:=eq_true p5
     replace q5:=eq_true q5
     have HP7:=Kd.R_putg HO_0.out (x5_1:Int) x1_1
     go_wp2_with (first|((with_reducible refine gate_store (t:=3) (p:=15) rfl ?_);refine store_event (t:=3) (p:=15) (v:=?vo_w8) (w1:=(wr.setCell ⟨go5,(x5_1:Int).toNat,none⟩ (.int .i64 x1_1))) ?hg ?ho ?hn ?hr ?_;(case ho=>rfl);(case hg=>rfl);(case hn=>rfl);(case hr=>first|(go_simp;done)|(go_simp;rfl));intro w8 hw;have hg:wr.grownBy w8 (some go5):=(by rw [hw];exact HP7.2);have hp_:Kd.R (Kd.int .i64) 3 w8 w0.heap.size (fun k_=>(P0_ k_∨w.heap.size≤k_)) (.slice (some ⟨go5,0,none⟩) x0_1.length co6) y216:=(by rw [hw,Ny216.out];exact HP7.1);clear HP7;have n0_:=Aside0.mk (hp_);have n1_:=Aside0.mk ((by rw [hw];exact below_set (HB.out) GB5.out:Below w0.heap.size w0 w8));have n2_:=Aside0.mk (Kept.of_grown (S:=(fun k_=>P0_ k_)) hg (by repeat(first|(with_reducible first|exact HK.out|apply Kept.alloc|apply Kept.drewN|apply Kept.drew)|exact HK.out)) (fun k_ e_=>(HO_0.out.1 k_ e_)));clear HO_0;clear HB;clear HK;have HO_0:=n0_;have HB:=n1_;have HK:=n2_;clear n0_ n1_ n2_;clear hg hw hp_))
     go_roundg k1
     case measure=>have:=HK1.out;omega
     case rel=>exact⟨(y216),(wrap64 (x1_1+1)),(wrap64 (x5_1+1)),(by first|rfl|(simp;done)|(simp [*];done)),(by first|rfl|(simp;done)|(simp [*];done)),H',⟨by have:=HK1.out;omega⟩,⟨by(with_reducible repeat(first|apply Kd.R_alloc|apply Kd.R_drewN|apply Kd.R_drew));exact HO_0.out⟩,⟨by repeat(first|(with_reducible first|exact HK.out|apply Kept.alloc|apply Kept.drewN|apply Kept.drew)|exact HK.out)⟩,⟨by repeat(first|(with_reducible first|exact HB.out|apply below_alloc|apply pw_below_drewN|apply below_drew1)|exact HB.out)⟩⟩
    ·rw [if_neg c4] at H
     exact absurd H (by simp)
   ·rw [if_neg c3] at H
    have c3b0:decide (x5_1< (x0_1.length:Int))=false:=decide_eq_false c3
    clear c3
    simp only [Option.some.injEq,Prod.mk.injEq] at H
    obtain⟨rfl,rfl⟩:=H
    obtain⟨Ao9,co9,eo9⟩:=Kd.R_slice HO_0.out
    subst eo9
    go_wp2
    go_ret
    exact⟨by first|rfl|(simp [errW_none,errW_some]<;>rfl)|(simp [*,errW_none,errW_some]<;>rfl),by(with_reducible repeat(first|apply Kd.R_alloc|apply Kd.R_drewN|apply Kd.R_drew));exact HO_0.out,by repeat(first|(with_reducible first|exact HB.out|apply below_alloc|apply pw_below_drewN|apply below_drew1)|exact HB.out),by repeat(first|(with_reducible first|exact HK.out|apply Kept.alloc|apply Kept.drewN|apply Kept.drew)|exact HK.out)⟩
end Go.Proofs.Ytedegfbheihopaa.P

namespace Go.Proofs.Ytedegfbheihopaa.P
open Go.RowKit Go.Proofs.YtedegfbheihopaaW.PrintWords Go.Proofs.YtedegfbheihopaaW.PrintLast Go.Proofs.YtedegfbheihopaaW.PrintMore
attribute [local go_sem] max2_int min2_int max_two min_two max_three min_three max_four min_four   -- for this text's walks alone
set_option linter.unusedVariables false
set_option linter.unusedSimpArgs false
def laws_eqIntSS.l0:Nat→List (List Int)→List (List Int)→Int→Option (Bool)
 | 0,_,_,_=>none
 |k+1,x0,x1,x5=>if x5< (x0.length:Int) then(if 0≤x5 then(if x5< (x1.length:Int) then((laws_eqIntS.f k (rd_L6 x0 x5) (rd_L6 x1 x5)).bind fun t590=>(if t590=true then(laws_eqIntSS.l0 k x0 x1 (wrap64 (x5+1))) else(some false))) else(none)) else(none)) else(some true)
def laws_eqIntSS.f (k:Nat) (l0:List (List Int)) (l1:List (List Int)):Option (Bool):=if (l0.length:Int)= (l1.length:Int) then(laws_eqIntSS.l0 k l0 l1 0) else(some false)
set_option maxHeartbeats 8000000 in
set_option maxRecDepth 100000 in
theorem laws_eqIntSS.calls (k:Nat) (A0:Option Addr) (c0:Nat) (l0:List (List Int)) (A1:Option Addr) (c1:Nat) (l1:List (List Int)) (r:Bool) (w:World) (hr0:Kd.C (Kd.slice 3 (Kd.int .i64)) w A0 l0.length l0) (hc0:l0.length≤c0) (hr1:Kd.C (Kd.slice 3 (Kd.int .i64)) w A1 l1.length l1) (hc1:l1.length≤c1) (h:laws_eqIntSS.f k l0 l1=some r):
  Calls Try.prog 38 #[.slice A0 l0.length c0,.slice A1 l1.length c1] w fun e w'=>e= .returned (.bool r)∧Drawn0 w w':=by
 have HR0:=Aside0.mk hr0
 have HC0:=Aside0.mk hc0
 clear hr0 hc0
 have HR1:=Aside0.mk hr1
 have HC1:=Aside0.mk hc1
 clear hr1 hc1
 have H:(if (l0.length:Int)= (l1.length:Int) then(laws_eqIntSS.l0 k l0 l1 0) else(some false))=some r:=h
 clear h
 by_cases c3:(l0.length:Int)= (l1.length:Int)
 ·rw [if_pos c3] at H
  have c3b0:((l0.length:Int)== (l1.length:Int))=true:=beq_iff_eq.mpr c3
  have c3b1:((l0.length:Int) != (l1.length:Int))=false:=bne_eq_false_iff_eq.mpr c3
  have c3b2:(l0.length==l1.length)=true:=by first|simpa using c3|(simp at c3 ⊢;omega)
  clear c3
  have H':=Aside0.mk H
  clear H
  go_enter Try.func38,Try.ntmps38
  go_wp2
  repeat(go_quiet (fail);try go_wp2)
  go_loopg [5] k (fun kq v5 w'=> ∃ (x5_1:Int),v5= .int .i64 x5_1∧Aside0 (laws_eqIntSS.l0 kq l0 l1 x5_1=some r)∧Aside0 (kq≤k)∧Drawn0 w w')
  case atStart=>exact⟨(0),(by first|rfl|(simp;done)|(simp [*];done)),H',⟨Nat.le_refl _⟩,by repeat(first|exact Drawn0.refl _|apply Drawn0.step)⟩
  case round=>
   clear H'
   try clear c1
   try clear p2
   try clear c3
   try clear c3b0
   try clear c3b1
   try clear c3b2
   obtain⟨x5_1,rfl,HA,HK1,⟨m1,rfl⟩⟩:=hrel
   cases gk with
   |zero=>exact absurd HA.out (by simp [laws_eqIntSS.l0])
   |succ k1=>
    have H:=HA.out
    clear HA
    simp only [laws_eqIntSS.l0] at H
    by_cases c4:x5_1< (l0.length:Int)
    ·rw [if_pos c4] at H
     have c4b0:decide (x5_1< (l0.length:Int))=true:=decide_eq_true c4
     clear c4
     by_cases c5: 0≤x5_1
     ·rw [if_pos c5] at H
      have c5b0:decide (0≤x5_1)=true:=decide_eq_true c5
      clear c5
      by_cases c6:x5_1< (l1.length:Int)
      ·rw [if_pos c6] at H
       have c6b0:decide (x5_1< (l1.length:Int))=true:=decide_eq_true c6
       clear c6
       replace H:=Option.bind_eq_some_iff.mp H
       obtain⟨t590,A70,H⟩:=H
       replace H:(if t590=true then(laws_eqIntSS.l0 k1 l0 l1 (wrap64 (x5_1+1))) else(some false))=some r:=H
       have A7:=Aside0.mk A70
       clear A70
       by_cases c8:t590=true
       ·subst c8
        have H1:(laws_eqIntSS.l0 k1 l0 l1 (wrap64 (x5_1+1)))=some r:=by rw [if_pos rfl] at H;exact H
        clear H
        have H:=H1
        clear H1
        have H':=Aside0.mk H
        clear H
        have p588: 0≤ (x5_1:Int):=of_decide_eq_true zq1
        have q588:x5_1< (l0.length:Int):=of_decide_eq_true zq1
        obtain⟨ad588,A588_0,c588_0,e588,hx588_0,hl588_0,hi588_0⟩:=at_L6 HR0.out x5_1 p588 q588
        cases e588
        have HR588_0:=Aside0.mk hi588_0
        have HC588_0:=Aside0.mk hl588_0
        clear hi588_0 hl588_0
        replace p588:=eq_true p588
        replace q588:=eq_true q588
        have p589: 0≤ (x5_1:Int):=of_decide_eq_true zq1
        have q589:x5_1< (l1.length:Int):=of_decide_eq_true zq1
        obtain⟨ad589,A589_0,c589_0,e589,hx589_0,hl589_0,hi589_0⟩:=at_L6 HR1.out x5_1 p589 q589
        cases e589
        have HR589_0:=Aside0.mk hi589_0
        have HC589_0:=Aside0.mk hl589_0
        clear hi589_0 hl589_0
        replace p589:=eq_true p589
        replace q589:=eq_true q589
        go_wp2_with (first|(go_at_call 16;(with_reducible refine(laws_eqIntS.calls k1 _ _ (rd_L6 l0 x5_1) _ _ (rd_L6 l1 x5_1) true _ ?side1 ?side2 ?side3 ?side4 A7.out).mono ?_);(case side1=>repeat(first|exact HR588_0.out|(with_reducible refine Kd.C_alloc ?_ _)|(with_reducible refine Kd.C_drewN ?_ _)|(with_reducible refine Kd.C_drew ?_)));(case side2=>exact HC588_0.out);(case side3=>repeat(first|exact HR589_0.out|(with_reducible refine Kd.C_alloc ?_ _)|(with_reducible refine Kd.C_drewN ?_ _)|(with_reducible refine Kd.C_drew ?_)));(case side4=>exact HC589_0.out);rintro e w' ⟨rfl,⟨nd,rfl⟩⟩;(try first|exact⟨rfl,_,World.drewN_drewN _ _ _⟩|exact⟨rfl,_,Eq.trans (World.drewN_drewN _ _ _) (congrArg (World.drewN _) (Nat.add_assoc _ _ _))⟩)))
        repeat(go_quiet (first|(go_at_call 16;(with_reducible refine(laws_eqIntS.calls k1 _ _ (rd_L6 l0 x5_1) _ _ (rd_L6 l1 x5_1) true _ ?side1 ?side2 ?side3 ?side4 A7.out).mono ?_);(case side1=>repeat(first|exact HR588_0.out|(with_reducible refine Kd.C_alloc ?_ _)|(with_reducible refine Kd.C_drewN ?_ _)|(with_reducible refine Kd.C_drew ?_)));(case side2=>exact HC588_0.out);(case side3=>repeat(first|exact HR589_0.out|(with_reducible refine Kd.C_alloc ?_ _)|(with_reducible refine Kd.C_drewN ?_ _)|(with_reducible refine Kd.C_drew ?_)));(case side4=>exact HC589_0.out);rintro e w' ⟨rfl,⟨nd,rfl⟩⟩;(try first|exact⟨rfl,_,World.drewN_drewN _ _ _⟩|exact⟨rfl,_,Eq.trans (World.drewN_drewN _ _ _) (congrArg (World.drewN _) (Nat.add_assoc _ _ _))⟩)));try go_wp2_with (first|(go_at_call 16;(with_reducible refine(laws_eqIntS.calls k1 _ _ (rd_L6 l0 x5_1) _ _ (rd_L6 l1 x5_1) true _ ?side1 ?side2 ?side3 ?side4 A7.out).mono ?_);(case side1=>repeat(first|exact HR588_0.out|(with_reducible refine Kd.C_alloc ?_ _)|(with_reducible refine Kd.C_drewN ?_ _)|(with_reducible refine Kd.C_drew ?_)));(case side2=>exact HC588_0.out);(case side3=>repeat(first|exact HR589_0.out|(with_reducible refine Kd.C_alloc ?_ _)|(with_reducible refine Kd.C_drewN ?_ _)|(with_reducible refine Kd.C_drew ?_)));(case side4=>exact HC589_0.out);rintro e w' ⟨rfl,⟨nd,rfl⟩⟩;(try first|exact⟨rfl,_,World.drewN_drewN _ _ _⟩|exact⟨rfl,_,Eq.trans (World.drewN_drewN _ _ _) (congrArg (World.drewN _) (Nat.add_assoc _ _ _))⟩))))
        go_roundg k1
        case measure=>have:=HK1.out;omega
        case rel=>exact⟨(wrap64 (x5_1+1)),(by first|rfl|(simp;done)|(simp [*];done)),H',⟨by have:=HK1.out;omega⟩,by repeat(first|exact Drawn0.refl _|apply Drawn0.step)⟩
       ·replace c8:=Bool.eq_false_iff.mpr c8
        subst c8
        have H1:(some false)=some r:=by rw [if_neg (show ¬ (false=true) by decide)] at H;exact H
        clear H
        have H:=H1
        clear H1
        obtain rfl:=Option.some.inj H
        have p588: 0≤ (x5_1:Int):=of_decide_eq_true zq1
        have q588:x5_1< (l0.length:Int):=of_decide_eq_true zq1
        obtain⟨ad588,A588_0,c588_0,e588,hx588_0,hl588_0,hi588_0⟩:=at_L6 HR0.out x5_1 p588 q588
        cases e588
        have HR588_0:=Aside0.mk hi588_0
        have HC588_0:=Aside0.mk hl588_0
        clear hi588_0 hl588_0
        replace p588:=eq_true p588
        replace q588:=eq_true q588
        have p589: 0≤ (x5_1:Int):=of_decide_eq_true zq1
        have q589:x5_1< (l1.length:Int):=of_decide_eq_true zq1
        obtain⟨ad589,A589_0,c589_0,e589,hx589_0,hl589_0,hi589_0⟩:=at_L6 HR1.out x5_1 p589 q589
        cases e589
        have HR589_0:=Aside0.mk hi589_0
        have HC589_0:=Aside0.mk hl589_0
        clear hi589_0 hl589_0
        replace p589:=eq_true p589
        replace q589:=eq_true q589
        go_wp2_with (first|(go_at_call 16;(with_reducible refine(laws_eqIntS.calls k1 _ _ (rd_L6 l0 x5_1) _ _ (rd_L6 l1 x5_1) false _ ?side1 ?side2 ?side3 ?side4 A7.out).mono ?_);(case side1=>repeat(first|exact HR588_0.out|(with_reducible refine Kd.C_alloc ?_ _)|(with_reducible refine Kd.C_drewN ?_ _)|(with_reducible refine Kd.C_drew ?_)));(case side2=>exact HC588_0.out);(case side3=>repeat(first|exact HR589_0.out|(with_reducible refine Kd.C_alloc ?_ _)|(with_reducible refine Kd.C_drewN ?_ _)|(with_reducible refine Kd.C_drew ?_)));(case side4=>exact HC589_0.out);rintro e w' ⟨rfl,⟨nd,rfl⟩⟩;(try first|exact⟨rfl,_,World.drewN_drewN _ _ _⟩|exact⟨rfl,_,Eq.trans (World.drewN_drewN _ _ _) (congrArg (World.drewN _) (Nat.add_assoc _ _ _))⟩)))
        repeat(go_quiet (first|(go_at_call 16;(with_reducible refine(laws_eqIntS.calls k1 _ _ (rd_L6 l0 x5_1) _ _ (rd_L6 l1 x5_1) false _ ?side1 ?side2 ?side3 ?side4 A7.out).mono ?_);(case side1=>repeat(first|exact HR588_0.out|(with_reducible refine Kd.C_alloc ?_ _)|(with_reducible refine Kd.C_drewN ?_ _)|(with_reducible refine Kd.C_drew ?_)));(case side2=>exact HC588_0.out);(case side3=>repeat(first|exact HR589_0.out|(with_reducible refine Kd.C_alloc ?_ _)|(with_reducible refine Kd.C_drewN ?_ _)|(with_reducible refine Kd.C_drew ?_)));(case side4=>exact HC589_0.out);rintro e w' ⟨rfl,⟨nd,rfl⟩⟩;(try first|exact⟨rfl,_,World.drewN_drewN _ _ _⟩|exact⟨rfl,_,Eq.trans (World.drewN_drewN _ _ _) (congrArg (World.drewN _) (Nat.add_assoc _ _ _))⟩)));try go_wp2_with (first|(go_at_call 16;(with_reducible refine(laws_eqIntS.calls k1 _ _ (rd_L6 l0 x5_1) _ _ (rd_L6 l1 x5_1) false _ ?side1 ?side2 ?side3 ?side4 A7.out).mono ?_);(case side1=>repeat(first|exact HR588_0.out|(with_reducible refine Kd.C_alloc ?_ _)|(with_reducible refine Kd.C_drewN ?_ _)|(with_reducible refine Kd.C_drew ?_)));(case side2=>exact HC588_0.out);(case side3=>repeat(first|exact HR589_0.out|(with_reducible refine Kd.C_alloc ?_ _)|(with_reducible refine Kd.C_drewN ?_ _)|(with_reducible refine Kd.C_drew ?_)));(case side4=>exact HC589_0.out);rintro e w' ⟨rfl,⟨nd,rfl⟩⟩;(try first|exact⟨rfl,_,World.drewN_drewN _ _ _⟩|exact⟨rfl,_,Eq.trans (World.drewN_drewN _ _ _) (congrArg (World.drewN _) (Nat.add_assoc _ _ _))⟩))))
        go_ret
        exact⟨by first|rfl|(simp;done)|(simp [*];done),by repeat(first|exact Drawn0.refl _|apply Drawn0.step)⟩
      ·rw [if_neg c6] at H
       exact absurd H (by simp)
     ·rw [if_neg c5] at H
      exact absurd H (by simp)
    ·rw [if_neg c4] at H
     have c4b0:decide (x5_1< (l0.length:Int))=false:=decide_eq_false c4
     clear c4
     obtain rfl:=Option.some.inj H
     go_wp2
     repeat(go_quiet (fail);try go_wp2)
     go_ret
     exact⟨by first|rfl|(simp;done)|(simp [*];done),by repeat(first|exact Drawn0.refl _|apply Drawn0.step)⟩
 ·rw [if_neg c3] at H
  have c3b0:((l0.length:Int)== (l1.length:Int))=false:=beq_eq_false_iff_ne.mpr c3
  have c3b1:((l0.length:Int) != (l1.length:Int))=true:=bne_iff_ne.mpr c3
  have c3b2:(l0.length==l1.length)=false:=by first|simpa using c3|(simp at c3 ⊢;omega)
  obtain rfl:=Option.some.inj H
  go_enter Try.func38,Try.ntmps38
  go_wp2
  repeat(go_quiet (fail);try go_wp2)
  go_ret
  exact⟨by first|rfl|(simp;done)|(simp [*];done),by repeat(first|exact Drawn0.refl _|apply Drawn0.step)⟩
def laws_markIntSS.l0:Nat→List (List Int)→Int→Int→Option (Int × List (List Int))
 | 0,_,_,_=>none
 |k+1,x0,x1,x5=>if x5< (x0.length:Int) then(if 0≤x5 then((laws_markIntS.f k (x0.getD x5.toNat []) x1).bind fun bt=>(laws_markIntSS.l0 k (x0.set x5.toNat bt.2) bt.1 (wrap64 (x5+1)))) else(none)) else(some (x1,x0))
def laws_markIntSS.f (k:Nat) (l0:List (List Int)) (a1:Int):Option (Int × List (List Int)):=laws_markIntSS.l0 k l0 a1 0
theorem kept_trans_ {w w1 w2:World} {P Q:Nat→Prop} (h:Kept w w1 P) (k:Kept w1 w2 Q) (hq:∀ i,Q i→P i∨w.heap.size≤i):Kept w w2 P:=
 ⟨Nat.le_trans h.1 k.1,fun i hi hn=>(k.2 i (Nat.lt_of_lt_of_le hi h.1) (fun c=>(hq i c).elim hn (fun d=>absurd d (Nat.not_le_of_lt hi)))).trans (h.2 i hi hn)⟩
set_option maxHeartbeats 8000000 in
set_option maxRecDepth 100000 in
theorem laws_markIntSS.calls (k:Nat) (P0_:Nat→Prop) (u9000_:Value) (l0:List (List Int)) (a1:Int) (r1:Int) (r2:List (List Int)) (w0 w:World) (hB:Below w0.heap.size w0 w) (ho0:Kd.S (Kd.slice 3 (Kd.int .i64)) 22 w w0.heap.size P0_ u9000_ l0) (h:laws_markIntSS.f k l0 a1=some (r1,r2)):
  Calls Try.prog 39 #[u9000_,.int .i64 a1] w fun e w'=>e= .returned (.int .i64 r1)∧Kd.S (Kd.slice 3 (Kd.int .i64)) 22 w' w0.heap.size (fun k_=>(P0_ k_∨w.heap.size≤k_)) u9000_ r2∧Below w0.heap.size w0 w'∧Kept w w' (fun k_=>P0_ k_):=by
 have HO0:=Aside0.mk (show Kd.S (Kd.slice 3 (Kd.int .i64)) 22 w w0.heap.size (fun k_=>(P0_ k_∨w.heap.size≤k_)) u9000_ l0 from Kd.S_mono ho0 (fun k_ hk=>(.inl hk)))
 have HK:=Aside0.mk (Kept.refl w (fun k_=>P0_ k_))
 have HB:=Aside0.mk hB
 clear hB
 have H:(laws_markIntSS.l0 k l0 a1 0)=some (r1,r2):=h
 clear h
 have H':=Aside0.mk H
 clear H
 go_enter Try.func39,Try.ntmps39
 go_wp2
 go_loopg [1,5] k (fun kq v1 v5 w'=> ∃ (x0_1:List (List Int)) (x1_1:Int) (x5_1:Int),v1= .int .i64 x1_1∧v5= .int .i64 x5_1∧Aside0 (laws_markIntSS.l0 kq x0_1 x1_1 x5_1=some (r1,r2))∧Aside0 (kq≤k)∧Aside0 (Kd.S (Kd.slice 3 (Kd.int .i64)) 22 w' w0.heap.size (fun k_=>(P0_ k_∨w.heap.size≤k_)) u9000_ x0_1)∧Aside0 (Kept w w' (fun k_=>P0_ k_))∧Aside0 (Below w0.heap.size w0 w'))
 case atStart=>exact⟨(l0),(a1),(0),rfl,rfl,H',⟨Nat.le_refl _⟩,HO0,HK,HB⟩
 case round=>
  clear H'
  obtain⟨x0_1,x1_1,x5_1,rfl,rfl,HA,HK1,HO_0,HK,HB⟩:=hrel
  cases gk with
  |zero=>exact absurd HA.out (by simp [laws_markIntSS.l0])
  |succ k1=>
   have H:=HA.out
   clear HA
   simp only [laws_markIntSS.l0] at H
   by_cases c3:x5_1< (x0_1.length:Int)
   ·rw [if_pos c3] at H
    by_cases c4: 0≤x5_1
    ·rw [if_pos c4] at H
     replace H:=Option.bind_eq_some_iff.mp H
     obtain⟨⟨t1,t2⟩,A20,H⟩:=H
     replace H:laws_markIntSS.l0 k1 (x0_1.set x5_1.toNat t2) t1 (wrap64 (x5_1+1))=some (r1,r2):=H
     have A2:=Aside0.mk A20
     have H':=Aside0.mk H
     clear A20 H
     obtain⟨Ao6,co6,eo6⟩:=Kd.S_slice HO_0.out
     subst eo6
     obtain⟨go5,co5,eo5,gb5,gl5,HX5⟩:=Kd.S_form HO_0.out (by omega)
     clear HX5 gb5 gl5
     (first|cases eo5|(injection eo5 with ea_ en_ ec_;(first|subst ea_|(injection ea_ with ea_;subst ea_));subst ec_;clear en_))
     obtain⟨oki,cc,hcl,hM,hcc,hfr,hoki,hH⟩:=Kd.S_elem HO_0.out [] x5_1 c4 c3
     obtain⟨rv,rfl,hR⟩:=hM
     obtain⟨Ai,ci,ei⟩:=Kd.R_slice hR
     subst ei
     have hx0:=hcc 0 _ rfl
     have hx:wr.cell? ⟨go5,x5_1.toNat,none⟩=some (.slice Ai (x0_1.getD x5_1.toNat []).length ci):=by
      rw [show x5_1.toNat * (Kd.slice 3 (Kd.int .i64)).sz+0=x5_1.toNat from by show x5_1.toNat * 1+0=_;omega] at hx0
      exact hx0
     clear hx0 hcc hfr hcl
     have HR:=Aside0.mk hR
     have HOK:=Aside0.mk hoki
     have HHH:=Aside0.mk hH
     clear hR hoki hH
     generalize hrow:x0_1.getD x5_1.toNat []=row at hx HR A2
     have HROW:=Aside0.mk hrow
     clear hrow
     have c3b0:decide (x5_1< (x0_1.length:Int))=true:=decide_eq_true c3
     have c4b0:decide (0≤x5_1)=true:=decide_eq_true c4
     have C3:=Aside0.mk c3
     have C4:=Aside0.mk c4
     replace c3:=eq_true c3
     replace c4:=eq_true c4
     go_wp2_with (go_at_call 21;(with_reducible refine(laws_markIntS.calls k1 oki _ row x1_1 t1 t2 w0 _ ?sB ?sO A2.out).mono ?_);(case sB=>exact HB.out);(case sO=>exact HR.out);rintro e w8 ⟨rfl,ho_,hb_,hk_⟩;have n0_:=Aside0.mk ho_;have n1_:=Aside0.mk hb_;have n2_:=Aside0.mk hk_;clear ho_ hb_ hk_;have HB2:=n1_;have HK2:=n2_;have HR2:=n0_;clear n0_ n1_ n2_)
     go_roundg k1
     case measure=>have:=HK1.out;omega
     case rel=>
      refine⟨x0_1.set x5_1.toNat t2,t1,wrap64 (x5_1+1),rfl,by first|rfl|(simp;done)|(simp [*];done),H',⟨by have:=HK1.out;omega⟩,⟨?_⟩,⟨kept_trans_ HK.out HK2.out (fun i hi=>(HOK.out i hi).1)⟩,HB2⟩
      have hH2:=Kd.H_step HHH.out (w1:=w8) (fun q _ hn hlt=>HK2.out.2 q hlt hn)
      have hr1:=HR.out
      have hr2:=HR2.out
      rw [← HROW.out] at hr1 hr2
      exact Kd.H_back hH2 (okp:=oki) ⟨_,rfl,Kd.R_mono (Kd.R_tight rfl hr2) (fun q hq=>hr1.1 q hq.symm)⟩ (fun q hq=>hq)
    ·rw [if_neg c4] at H
     exact absurd H (by simp)
   ·rw [if_neg c3] at H
    have c3b0:decide (x5_1< (x0_1.length:Int))=false:=decide_eq_false c3
    clear c3
    simp only [Option.some.injEq,Prod.mk.injEq] at H
    obtain⟨rfl,rfl⟩:=H
    obtain⟨Ao9,co9,eo9⟩:=Kd.S_slice HO_0.out
    subst eo9
    go_wp2
    go_ret
    exact⟨rfl,HO_0.out,HB.out,HK.out⟩
def laws_heldIntSS.l0:Nat→List (List Int)→Int→Int→Option (Int)
 | 0,_,_,_=>none
 |k+1,x0,x1,x5=>if x5< (x0.length:Int) then(if 0≤x5 then((laws_heldIntS.f k (rd_L6 x0 x5) x1).bind fun t592=>(if t592< 0 then(some (-1)) else(laws_heldIntSS.l0 k x0 t592 (wrap64 (x5+1))))) else(none)) else(some x1)
def laws_heldIntSS.f (k:Nat) (l0:List (List Int)) (a1:Int):Option (Int):=laws_heldIntSS.l0 k l0 a1 0
set_option maxHeartbeats 8000000 in
set_option maxRecDepth 100000 in
theorem laws_heldIntSS.calls (k:Nat) (A0:Option Addr) (c0:Nat) (l0:List (List Int)) (a1:Int) (r:Int) (w:World) (hr0:Kd.C (Kd.slice 3 (Kd.int .i64)) w A0 l0.length l0) (hc0:l0.length≤c0) (h:laws_heldIntSS.f k l0 a1=some r):
  Calls Try.prog 40 #[.slice A0 l0.length c0,.int .i64 a1] w fun e w'=>e= .returned (.int .i64 r)∧Drawn0 w w':=by
 have HR0:=Aside0.mk hr0
 have HC0:=Aside0.mk hc0
 clear hr0 hc0
 have H:(laws_heldIntSS.l0 k l0 a1 0)=some r:=h
 clear h
 have H':=Aside0.mk H
 clear H
 go_enter Try.func40,Try.ntmps40
 go_wp2
 go_loopg [1,5] k (fun kq v1 v5 w'=> ∃ (x1_1:Int) (x5_1:Int),v1= .int .i64 x1_1∧v5= .int .i64 x5_1∧Aside0 (laws_heldIntSS.l0 kq l0 x1_1 x5_1=some r)∧Aside0 (kq≤k)∧Drawn0 w w')
 case atStart=>exact⟨(a1),(0),(by first|rfl|(simp;done)|(simp [*];done)),(by first|rfl|(simp;done)|(simp [*];done)),H',⟨Nat.le_refl _⟩,by repeat(first|exact Drawn0.refl _|apply Drawn0.step)⟩
 case round=>
  clear H'
  try clear p2
  obtain⟨x1_1,x5_1,rfl,rfl,HA,HK1,⟨m1,rfl⟩⟩:=hrel
  cases gk with
  |zero=>exact absurd HA.out (by simp [laws_heldIntSS.l0])
  |succ k1=>
   have H:=HA.out
   clear HA
   simp only [laws_heldIntSS.l0] at H
   by_cases c3:x5_1< (l0.length:Int)
   ·rw [if_pos c3] at H
    have c3b0:decide (x5_1< (l0.length:Int))=true:=decide_eq_true c3
    clear c3
    by_cases c4: 0≤x5_1
    ·rw [if_pos c4] at H
     have c4b0:decide (0≤x5_1)=true:=decide_eq_true c4
     clear c4
     replace H:=Option.bind_eq_some_iff.mp H
     obtain⟨t592,A50,H⟩:=H
     replace H:(if t592< 0 then(some (-1)) else(laws_heldIntSS.l0 k1 l0 t592 (wrap64 (x5_1+1))))=some r:=H
     have A5:=Aside0.mk A50
     clear A50
     by_cases c6:t592< 0
     ·rw [if_pos c6] at H
      have c6b0:decide (t592< 0)=true:=decide_eq_true c6
      clear c6
      obtain rfl:=Option.some.inj H
      have p591: 0≤ (x5_1:Int):=of_decide_eq_true zq1
      have q591:x5_1< (l0.length:Int):=of_decide_eq_true zq1
      obtain⟨ad591,A591_0,c591_0,e591,hx591_0,hl591_0,hi591_0⟩:=at_L6 HR0.out x5_1 p591 q591
      cases e591
      have HR591_0:=Aside0.mk hi591_0
      have HC591_0:=Aside0.mk hl591_0
      clear hi591_0 hl591_0
      replace p591:=eq_true p591
      replace q591:=eq_true q591
      go_wp2_with (first|((with_reducible refine gate_callee (f:=22) rfl ?_);refine goesL_ (some 17) rfl rfl Try.func22 (by kernel_rfl) rfl #[.slice A591_0 (rd_L6 l0 x5_1).length c591_0,.int .i64 x1_1] rfl zq2 ?_;(with_reducible refine(laws_heldIntS.calls k1 _ _ (rd_L6 l0 x5_1) x1_1 t592 _ ?side1 ?side2 A5.out).mono ?_);(case side1=>repeat(first|exact HR591_0.out|(with_reducible refine Kd.C_alloc ?_ _)|(with_reducible refine Kd.C_drewN ?_ _)|(with_reducible refine Kd.C_drew ?_)));(case side2=>exact HC591_0.out);rintro e w' ⟨rfl,⟨nd,rfl⟩⟩;refine⟨_,rfl,?_⟩))
      go_ret
      exact⟨by first|rfl|(simp;done)|(simp [*];done),by repeat(first|exact Drawn0.refl _|apply Drawn0.step)⟩
     ·rw [if_neg c6] at H
      have c6b0:decide (t592< 0)=false:=decide_eq_false c6
      clear c6
      have H':=Aside0.mk H
      clear H
      have p591: 0≤ (x5_1:Int):=of_decide_eq_true zq1
      have q591:x5_1< (l0.length:Int):=of_decide_eq_true zq1
      obtain⟨ad591,A591_0,c591_0,e591,hx591_0,hl591_0,hi591_0⟩:=at_L6 HR0.out x5_1 p591 q591
      cases e591
      have HR591_0:=Aside0.mk hi591_0
      have HC591_0:=Aside0.mk hl591_0
      clear hi591_0 hl591_0
      replace p591:=eq_true p591
      replace q591:=eq_true q591
      go_wp2_with (first|((with_reducible refine gate_callee (f:=22) rfl ?_);refine goesL_ (some 17) rfl rfl Try.func22 (by kernel_rfl) rfl #[.slice A591_0 (rd_L6 l0 x5_1).length c591_0,.int .i64 x1_1] rfl zq2 ?_;(with_reducible refine(laws_heldIntS.calls k1 _ _ (rd_L6 l0 x5_1) x1_1 t592 _ ?side1 ?side2 A5.out).mono ?_);(case side1=>repeat(first|exact HR591_0.out|(with_reducible refine Kd.C_alloc ?_ _)|(with_reducible refine Kd.C_drewN ?_ _)|(with_reducible refine Kd.C_drew ?_)));(case side2=>exact HC591_0.out);rintro e w' ⟨rfl,⟨nd,rfl⟩⟩;refine⟨_,rfl,?_⟩))
      go_roundg k1
      case measure=>have:=HK1.out;omega
      case rel=>exact⟨(t592),(wrap64 (x5_1+1)),(by first|rfl|(simp;done)|(simp [*];done)),(by first|rfl|(simp;done)|(simp [*];done)),H',⟨by have:=HK1.out;omega⟩,by repeat(first|exact Drawn0.refl _|apply Drawn0.step)⟩
    ·rw [if_neg c4] at H
     exact absurd H (by simp)
   ·rw [if_neg c3] at H
    have c3b0:decide (x5_1< (l0.length:Int))=false:=decide_eq_false c3
    clear c3
    obtain rfl:=Option.some.inj H
    go_wp2
    go_ret
    exact⟨by first|rfl|(simp;done)|(simp [*];done),by repeat(first|exact Drawn0.refl _|apply Drawn0.step)⟩
end Go.Proofs.Ytedegfbheihopaa.P

namespace Go.Proofs.Ytedegfbheihopaa.P
open Go.RowKit Go.Proofs.YtedegfbheihopaaW.PrintWords Go.Proofs.YtedegfbheihopaaW.PrintLast Go.Proofs.YtedegfbheihopaaW.PrintMore
attribute [local go_sem] max2_int min2_int max_two min_two max_three min_three max_four min_four   -- for this text's walks alone
set_option linter.unusedVariables false
set_option linter.unusedSimpArgs false
mutual
def laws_FnExactTreesFor.j0:Nat→Int→List (S81)→Int→List (List Int)→Bool→List (S79)→List (List Int)→Bool→Bool→Option (Bool)
 | 0,_,_,_,_,_,_,_,_,_=>none
 |k+1,x0,x1,x2,x8,x9,x10,x11,x12,x48=>if x48=true then(some false) else((laws_toEdgeS.f k x1).bind fun t609=>((laws_eqEdgeS.f k x10 t609).bind fun t612=>(if t612=true then((laws_markEdgeS.f k x10 1).bind fun bt613=>(if bt613.1< 0 then(laws_FnExactTreesFor.j1 k x0 x1 x2 x8 x9 x11 true) else((laws_eqIntSS.f k x11 x8).bind fun t615=>(if t615=true then(laws_FnExactTreesFor.j1 k x0 x1 x2 x8 x9 x11 (x12 !=x9)) else(laws_FnExactTreesFor.j1 k x0 x1 x2 x8 x9 x11 true))))) else(some false))))
def laws_FnExactTreesFor.j1:Nat→Int→List (S81)→Int→List (List Int)→Bool→List (List Int)→Bool→Option (Bool)
 | 0,_,_,_,_,_,_,_=>none
 |k+1,x0,x1,x2,x8,x9,x11,x69=>if x69=true then(some false) else((laws_markIntSS.f k x11 1).bind fun bt616=>((laws_heldIntSS.f k bt616.2 1).bind fun t617=>(if t617< 0 then(some false) else(if t617=bt616.1 then((laws_toEdgeS.f k x1).bind fun t618=>((impl_TreesFor.f k x0 t618 x2).bind fun bt621=>((laws_eqIntSS.f k bt621.1 x8).bind fun t625=>(if t625=true then(laws_FnExactTreesFor.j2 k bt616.2 bt616.1 (bt621.2 !=x9)) else(laws_FnExactTreesFor.j2 k bt616.2 bt616.1 true))))) else(some false)))))
def laws_FnExactTreesFor.j2:Nat→List (List Int)→Int→Bool→Option (Bool)
 | 0,_,_,_=>none
 |k+1,x11,x14,x97=>if x97=true then(some false) else((laws_heldIntSS.f k x11 1).bind fun t626=>(if t626< 0 then(some false) else(if t626=x14 then(some true) else(some false))))
end
def laws_FnExactTreesFor.f (k:Nat) (a0:Int) (l1:List (S81)) (a2:Int):Option (Bool):=(laws_szEdgeS.f l1 1048576).bind fun t593=>(if t593< 0 then(some true) else((laws_toEdgeS.f k l1).bind fun t594=>((spec_TreesFor.f k a0 t594 a2).bind fun bt597=>((laws_toEdgeS.f k l1).bind fun t601=>((impl_TreesFor.f k a0 t601 a2).bind fun bt604=>((laws_eqIntSS.f k bt604.1 bt597.1).bind fun t608=>(if t608=true then(laws_FnExactTreesFor.j0 k a0 l1 a2 bt597.1 bt597.2 t601 bt604.1 bt604.2 (bt604.2 !=bt597.2)) else(laws_FnExactTreesFor.j0 k a0 l1 a2 bt597.1 bt597.2 t601 bt604.1 bt604.2 true))))))))
theorem split_SS {α :Type} {d:Kd α} {e base:Nat} {ok ok2:Nat→Prop} {W w1:World} {u v:Value} {xs ys:List α} (h1:Kd.S d e W base ok u xs) (hb:Below W.heap.size W w1) (h2:Kd.S d e w1 W.heap.size ok2 v ys) (hl:base≤W.heap.size):∃ M:Nat,Kd.S d e w1 base (fun k=>k<M) u xs∧Kd.S d e w1 base (fun k=>M≤k) v ys:=
 ⟨W.heap.size,Kd.S_mono (Kd.S_old h1 hb) (fun k hk=>hk.2),Kd.S_lower (Kd.S_mono (Kd.S_bound h2) (fun k hk=>hk.2.1)) hl⟩
set_option maxHeartbeats 8000000 in
set_option maxRecDepth 100000 in
theorem laws_FnExactTreesFor.calls (k:Nat) (a0:Int) (A1:Option Addr) (c1:Nat) (l1:List (S81)) (a2:Int) (r:Bool) (w:World) (hr1:Kd.C k81 w A1 l1.length l1) (hc1:l1.length≤c1) (h:laws_FnExactTreesFor.f k a0 l1 a2=some r) (hrt:r=true:=by rfl):
  Calls Try.prog 9 #[.int .i64 a0,.slice A1 l1.length c1,.int .i64 a2] w fun e w'=>e= .returned (.bool r)∧Below w.heap.size w w':=by
 have HRT:=Aside0.mk hrt
 clear hrt
 have HR1:=Aside0.mk hr1
 have HC1:=Aside0.mk hc1
 clear hr1 hc1
 have HB:=Aside0.mk (Below.refl w.heap.size w)
 have H:((laws_szEdgeS.f l1 1048576).bind fun t593=>(if t593< 0 then(some true) else((laws_toEdgeS.f k l1).bind fun t594=>((spec_TreesFor.f k a0 t594 a2).bind fun bt597=>((laws_toEdgeS.f k l1).bind fun t601=>((impl_TreesFor.f k a0 t601 a2).bind fun bt604=>((laws_eqIntSS.f k bt604.1 bt597.1).bind fun t608=>(if t608=true then(laws_FnExactTreesFor.j0 k a0 l1 a2 bt597.1 bt597.2 t601 bt604.1 bt604.2 (bt604.2 !=bt597.2)) else(laws_FnExactTreesFor.j0 k a0 l1 a2 bt597.1 bt597.2 t601 bt604.1 bt604.2 true)))))))))=some r:=h
 clear h
 replace H:=Option.bind_eq_some_iff.mp H
 obtain⟨t593,A40,H⟩:=H
 replace H:(if t593< 0 then(some true) else((laws_toEdgeS.f k l1).bind fun t594=>((spec_TreesFor.f k a0 t594 a2).bind fun bt597=>((laws_toEdgeS.f k l1).bind fun t601=>((impl_TreesFor.f k a0 t601 a2).bind fun bt604=>((laws_eqIntSS.f k bt604.1 bt597.1).bind fun t608=>(if t608=true then(laws_FnExactTreesFor.j0 k a0 l1 a2 bt597.1 bt597.2 t601 bt604.1 bt604.2 (bt604.2 !=bt597.2)) else(laws_FnExactTreesFor.j0 k a0 l1 a2 bt597.1 bt597.2 t601 bt604.1 bt604.2 true))))))))=some r:=H
 have A4:=Aside0.mk A40
 clear A40
 by_cases c5:t593< 0
 ·rw [if_pos c5] at H
  have c5b0:decide (t593< 0)=true:=decide_eq_true c5
  clear c5
  obtain rfl:=Option.some.inj H
  go_enter Try.func9,Try.ntmps9
  go_wp2_with (first|((with_reducible refine gate_callee (f:=23) rfl ?_);refine goesL_ (some 20) rfl rfl Try.func23 (by kernel_rfl) rfl #[.slice A1 l1.length c1,.int .i64 1048576] rfl zq2 ?_;(with_reducible refine(laws_szEdgeS.calls _ _ l1 1048576 t593 _ ?side1 ?side2 A4.out).mono ?_);(case side1=>repeat(first|exact HR1.out|(with_reducible refine Kd.C_alloc ?_ _)|(with_reducible refine Kd.C_drewN ?_ _)|(with_reducible refine Kd.C_drew ?_)));(case side2=>exact HC1.out);rintro e w' ⟨rfl,⟨nd,rfl⟩⟩;refine⟨_,rfl,?_⟩))
  go_ret
  exact⟨by first|rfl|(simp [errW_none,errW_some]<;>rfl)|(simp [*,errW_none,errW_some]<;>rfl),by repeat(first|(with_reducible first|exact HB.out|apply below_alloc|apply pw_below_drewN|apply below_drew1)|exact HB.out)⟩
 ·rw [if_neg c5] at H
  have c5b0:decide (t593< 0)=false:=decide_eq_false c5
  clear c5
  replace H:=Option.bind_eq_some_iff.mp H
  obtain⟨t594,A60,H⟩:=H
  replace H:((spec_TreesFor.f k a0 t594 a2).bind fun bt597=>((laws_toEdgeS.f k l1).bind fun t601=>((impl_TreesFor.f k a0 t601 a2).bind fun bt604=>((laws_eqIntSS.f k bt604.1 bt597.1).bind fun t608=>(if t608=true then(laws_FnExactTreesFor.j0 k a0 l1 a2 bt597.1 bt597.2 t601 bt604.1 bt604.2 (bt604.2 !=bt597.2)) else(laws_FnExactTreesFor.j0 k a0 l1 a2 bt597.1 bt597.2 t601 bt604.1 bt604.2 true))))))=some r:=H
  have A6:=Aside0.mk A60
  clear A60
  replace H:=Option.bind_eq_some_iff.mp H
  obtain⟨⟨t597,t598⟩,A70,H⟩:=H
  replace H:((laws_toEdgeS.f k l1).bind fun t601=>((impl_TreesFor.f k a0 t601 a2).bind fun bt604=>((laws_eqIntSS.f k bt604.1 t597).bind fun t608=>(if t608=true then(laws_FnExactTreesFor.j0 k a0 l1 a2 t597 t598 t601 bt604.1 bt604.2 (bt604.2 !=t598)) else(laws_FnExactTreesFor.j0 k a0 l1 a2 t597 t598 t601 bt604.1 bt604.2 true)))))=some r:=H
  have A7:=Aside0.mk A70
  clear A70
  replace H:=Option.bind_eq_some_iff.mp H
  obtain⟨t601,A80,H⟩:=H
  replace H:((impl_TreesFor.f k a0 t601 a2).bind fun bt604=>((laws_eqIntSS.f k bt604.1 t597).bind fun t608=>(if t608=true then(laws_FnExactTreesFor.j0 k a0 l1 a2 t597 t598 t601 bt604.1 bt604.2 (bt604.2 !=t598)) else(laws_FnExactTreesFor.j0 k a0 l1 a2 t597 t598 t601 bt604.1 bt604.2 true))))=some r:=H
  have A8:=Aside0.mk A80
  clear A80
  replace H:=Option.bind_eq_some_iff.mp H
  obtain⟨⟨t604,t605⟩,A90,H⟩:=H
  replace H:((laws_eqIntSS.f k t604 t597).bind fun t608=>(if t608=true then(laws_FnExactTreesFor.j0 k a0 l1 a2 t597 t598 t601 t604 t605 (t605 !=t598)) else(laws_FnExactTreesFor.j0 k a0 l1 a2 t597 t598 t601 t604 t605 true)))=some r:=H
  have A9:=Aside0.mk A90
  clear A90
  have HC10:=Aside0.mk H
  clear H
  go_enter Try.func9,Try.ntmps9
  go_upto_region 8 with (first|((with_reducible refine gate_callee (f:=23) rfl ?_);refine goesL_ (some 20) rfl rfl Try.func23 (by kernel_rfl) rfl #[.slice A1 l1.length c1,.int .i64 1048576] rfl zq2 ?_;(with_reducible refine(laws_szEdgeS.calls _ _ l1 1048576 t593 _ ?side1 ?side2 A4.out).mono ?_);(case side1=>repeat(first|exact HR1.out|(with_reducible refine Kd.C_alloc ?_ _)|(with_reducible refine Kd.C_drewN ?_ _)|(with_reducible refine Kd.C_drew ?_)));(case side2=>exact HC1.out);rintro e w' ⟨rfl,⟨nd,rfl⟩⟩;refine⟨_,rfl,?_⟩)|((with_reducible refine gate_callee (f:=25) rfl ?_);refine goesL_ (some 26) rfl rfl Try.func25 (by kernel_rfl) rfl #[.slice A1 l1.length c1] rfl zq2 ?_;(with_reducible refine(laws_toEdgeS.calls k _ _ l1 t594 _ ?side1 ?side2 A6.out).mono ?_);(case side1=>repeat(first|exact HR1.out|(with_reducible refine Kd.C_alloc ?_ _)|(with_reducible refine Kd.C_drewN ?_ _)|(with_reducible refine Kd.C_drew ?_)));(case side2=>exact HC1.out);rintro e w11 ⟨v595,rfl,ho0,hb⟩;refine⟨_,rfl,?_⟩;have n0_:=Aside0.mk (Kd.R_lower ho0 (below_size (zb0 HB)));have n1_:=Aside0.mk (below_step (zb0 HB) hb);clear HB;have HO596:=n0_;have HB:=n1_;clear n0_ n1_;(try clear hb);(try clear hb2);(try clear hk);(try clear hi);(try clear ho0);obtain⟨Ao12,co12,eo12⟩:=Kd.R_slice HO596.out;subst eo12)|((with_reducible refine gate_callee (f:=36) rfl ?_);refine goesL_ (some 28) rfl rfl Try.func36 (by kernel_rfl) rfl #[.int .i64 a0,.slice Ao12 t594.length co12,.int .i64 a2] rfl zq2 ?_;(with_reducible refine(spec_TreesFor.calls k a0 _ _ t594 a2 t597 t598 _ ?side1 ?side2 A7.out).mono ?_);(case side1=>repeat(first|exact(Kd.R_reads' HO596.out).2.2|(with_reducible refine Kd.C_alloc ?_ _)|(with_reducible refine Kd.C_drewN ?_ _)|(with_reducible refine Kd.C_drew ?_)));(case side2=>exact(Kd.R_reads' HO596.out).2.1);rintro e w13 ⟨v599,rfl,ho0,hb⟩;refine⟨_,rfl,?_⟩;have n0_:=Aside0.mk (Kd.R_below (zq4 HO596) hb);have n1_:=Aside0.mk (Kd.S_lower ho0 (below_size (zb0 HB)));have n2_:=Aside0.mk (below_step (zb0 HB) hb);clear HO596;clear HB;have HO596:=n0_;have HO600:=n1_;have HB:=n2_;clear n0_ n1_ n2_;(try clear hb);(try clear hb2);(try clear hk);(try clear hi);(try clear ho0))|((with_reducible refine gate_callee (f:=25) rfl ?_);refine goesL_ (some 32) rfl rfl Try.func25 (by kernel_rfl) rfl #[.slice A1 l1.length c1] rfl zq2 ?_;(with_reducible refine(laws_toEdgeS.calls k _ _ l1 t601 _ ?side1 ?side2 A8.out).mono ?_);(case side1=>repeat(first|exact(Kd.C_below HR1.out HB.out)|(with_reducible refine Kd.C_alloc ?_ _)|(with_reducible refine Kd.C_drewN ?_ _)|(with_reducible refine Kd.C_drew ?_)));(case side2=>exact HC1.out);rintro e w14 ⟨v602,rfl,ho0,hb⟩;refine⟨_,rfl,?_⟩;have n0_:=Aside0.mk (Kd.R_elder' (zq4 HO596) (Kd.R_base ho0) hb);have n1_:=Aside0.mk (Kd.S_below (by(with_reducible repeat(first|apply Kd.S_alloc|apply Kd.S_drewN|apply Kd.S_drew));exact HO600.out) hb);have n2_:=Aside0.mk (Kd.R_lower (Kd.R_new' ho0 (Kd.R_lt (zq4 HO596))) (below_size (zb0 HB)));have n3_:=Aside0.mk (below_step (zb0 HB) hb);clear HO596;clear HO600;clear HB;have HO596:=n0_;have HO600:=n1_;have HO603:=n2_;have HB:=n3_;clear n0_ n1_ n2_ n3_;(try clear hb);(try clear hb2);(try clear hk);(try clear hi);(try clear ho0);obtain⟨Ao15,co15,eo15⟩:=Kd.R_slice HO603.out;subst eo15)|((with_reducible refine gate_callee (f:=37) rfl ?_);refine goesL_ (some 37) rfl rfl Try.func37 (by kernel_rfl) rfl #[.int .i64 a0,.slice Ao15 t601.length co15,.int .i64 a2] rfl zq2 ?_;(with_reducible refine(impl_TreesFor.calls k a0 _ _ t601 a2 t604 t605 _ ?side1 ?side2 A9.out).mono ?_);(case side1=>repeat(first|exact(Kd.R_reads' HO603.out).2.2|(with_reducible refine Kd.C_alloc ?_ _)|(with_reducible refine Kd.C_drewN ?_ _)|(with_reducible refine Kd.C_drew ?_)));(case side2=>exact(Kd.R_reads' HO603.out).2.1);rintro e w16 ⟨v606,rfl,ho0,hb⟩;refine⟨_,rfl,?_⟩;have n0_:=Aside0.mk (Kd.R_below (zq4 HO596) hb);have n2_:=Aside0.mk (Kd.R_below (zq4 HO603) hb);obtain⟨M_,s1_,s2_⟩:=split_SS (by(with_reducible repeat(first|apply Kd.S_alloc|apply Kd.S_drewN|apply Kd.S_drew));exact HO600.out) hb ho0 (below_size (zb0 HB));have n1_:=Aside0.mk s1_;have n3_:=Aside0.mk s2_;clear s1_ s2_;have n4_:=Aside0.mk (below_step (zb0 HB) hb);clear HO596;clear HO600;clear HO603;clear HB;have HO596:=n0_;have HO600:=n1_;have HO603:=n2_;have HO607:=n3_;have HB:=n4_;clear n0_ n1_ n2_ n3_ n4_;(try clear hb);(try clear hb2);(try clear hk);(try clear hi);(try clear ho0)))
  (try simp only [Act.put,List.setIfInBounds_toArray,List.set_cons_zero,List.set_cons_succ])
  go_cut [48] (fun v48 wc=> ∃ (kq:Nat) (x48_9:Bool),v48= .bool x48_9∧Aside0 (laws_FnExactTreesFor.j0 kq a0 l1 a2 t597 t598 t601 t604 t605 x48_9=some r)∧Aside0 (kq≤k)∧Aside0 (Kd.S (Kd.slice 3 (Kd.int .i64)) 22 wc w.heap.size (fun k_=>k_<M_) v599 t597)∧Aside0 (Kd.R k79 79 wc w.heap.size (fun _=>True) (.slice Ao15 t601.length co15) t601)∧Aside0 (Kd.S (Kd.slice 3 (Kd.int .i64)) 22 wc w.heap.size (fun k_=>M_≤k_) v606 t604)∧Aside0 (Below w.heap.size w wc))
  case first=>
   have H:=HC10.out
   clear HC10
   replace H:=Option.bind_eq_some_iff.mp H
   obtain⟨t608,A170,H⟩:=H
   replace H:(if t608=true then(laws_FnExactTreesFor.j0 k a0 l1 a2 t597 t598 t601 t604 t605 (t605 !=t598)) else(laws_FnExactTreesFor.j0 k a0 l1 a2 t597 t598 t601 t604 t605 true))=some r:=H
   have A17:=Aside0.mk A170
   clear A170
   by_cases c18:t608=true
   ·subst c18
    have H1:(laws_FnExactTreesFor.j0 k a0 l1 a2 t597 t598 t601 t604 t605 (t605 !=t598))=some r:=by rw [if_pos rfl] at H;exact H
    clear H
    have H:=H1
    clear H1
    have H':=Aside0.mk H
    clear H
    obtain⟨Ao19,co19,eo19⟩:=Kd.S_slice HO607.out
    subst eo19
    obtain⟨Ao20,co20,eo20⟩:=Kd.S_slice HO600.out
    subst eo20
    go_wp2_with (first|((with_reducible refine gate_callee (f:=38) rfl ?_);refine goesL_ (some 42) rfl rfl Try.func38 (by kernel_rfl) rfl #[.slice Ao19 t604.length co19,.slice Ao20 t597.length co20] rfl zq2 ?_;(with_reducible refine(laws_eqIntSS.calls k _ _ t604 _ _ t597 true _ ?side1 ?side2 ?side3 ?side4 A17.out).mono ?_);(case side1=>repeat(first|exact(Kd.S_reads' HO607.out).2.2|(with_reducible refine Kd.C_alloc ?_ _)|(with_reducible refine Kd.C_drewN ?_ _)|(with_reducible refine Kd.C_drew ?_)));(case side2=>exact(Kd.S_reads' HO607.out).2.1);(case side3=>repeat(first|exact(Kd.S_reads' HO600.out).2.2|(with_reducible refine Kd.C_alloc ?_ _)|(with_reducible refine Kd.C_drewN ?_ _)|(with_reducible refine Kd.C_drew ?_)));(case side4=>exact(Kd.S_reads' HO600.out).2.1);rintro e w' ⟨rfl,⟨nd,rfl⟩⟩;refine⟨_,rfl,?_⟩))
    go_meet
    case rel=>exact⟨_,((t605 !=t598)),(by first|rfl|(simp;done)|(simp [*];done)),H',⟨by first|omega|exact Nat.le_refl _⟩,⟨by(with_reducible repeat(first|apply Kd.S_alloc|apply Kd.S_drewN|apply Kd.S_drew));exact HO600.out⟩,⟨by(with_reducible repeat(first|apply Kd.R_alloc|apply Kd.R_drewN|apply Kd.R_drew));exact Kd.R_mono HO603.out (fun _ hk=>trivial)⟩,⟨by(with_reducible repeat(first|apply Kd.S_alloc|apply Kd.S_drewN|apply Kd.S_drew));exact HO607.out⟩,⟨by repeat(first|(with_reducible first|exact HB.out|apply below_alloc|apply pw_below_drewN|apply below_drew1)|exact HB.out)⟩⟩
   ·replace c18:=Bool.eq_false_iff.mpr c18
    subst c18
    have H1:(laws_FnExactTreesFor.j0 k a0 l1 a2 t597 t598 t601 t604 t605 true)=some r:=by rw [if_neg (show ¬ (false=true) by decide)] at H;exact H
    clear H
    have H:=H1
    clear H1
    exact absurd (H.trans (congrArg some HRT.out)) (by cases k<;>simp [laws_FnExactTreesFor.j0])
  case rest=>
   clear HC10
   try clear c1
   try clear c2
   try clear p2
   try clear c3
   try clear c5
   try clear c5b0
   try clear c9
   try clear c18
   obtain⟨kq,x48_9,rfl,HA,HJ9,HO_8,HO_10,HO_11,HB⟩:=hcut
   cases kq with
   |zero=>exact absurd HA.out (by simp [laws_FnExactTreesFor.j0])
   |succ kj9=>
    have H:=HA.out
    clear HA
    simp only [laws_FnExactTreesFor.j0] at H
    by_cases c21:x48_9=true
    ·subst c21
     have H1:(some false)=some r:=by rw [if_pos rfl] at H;exact H
     clear H
     have H:=H1
     clear H1
     exact absurd ((Option.some.inj H).trans HRT.out) (by decide)
    ·replace c21:=Bool.eq_false_iff.mpr c21
     subst c21
     have H1:((laws_toEdgeS.f kj9 l1).bind fun t609=>((laws_eqEdgeS.f kj9 t601 t609).bind fun t612=>(if t612=true then((laws_markEdgeS.f kj9 t601 1).bind fun bt613=>(if bt613.1< 0 then(laws_FnExactTreesFor.j1 kj9 a0 l1 a2 t597 t598 t604 true) else((laws_eqIntSS.f kj9 t604 t597).bind fun t615=>(if t615=true then(laws_FnExactTreesFor.j1 kj9 a0 l1 a2 t597 t598 t604 (t605 !=t598)) else(laws_FnExactTreesFor.j1 kj9 a0 l1 a2 t597 t598 t604 true))))) else(some false))))=some r:=by rw [if_neg (show ¬ (false=true) by decide)] at H;exact H
     clear H
     have H:=H1
     clear H1
     replace H:=Option.bind_eq_some_iff.mp H
     obtain⟨t609,A220,H⟩:=H
     replace H:((laws_eqEdgeS.f kj9 t601 t609).bind fun t612=>(if t612=true then((laws_markEdgeS.f kj9 t601 1).bind fun bt613=>(if bt613.1< 0 then(laws_FnExactTreesFor.j1 kj9 a0 l1 a2 t597 t598 t604 true) else((laws_eqIntSS.f kj9 t604 t597).bind fun t615=>(if t615=true then(laws_FnExactTreesFor.j1 kj9 a0 l1 a2 t597 t598 t604 (t605 !=t598)) else(laws_FnExactTreesFor.j1 kj9 a0 l1 a2 t597 t598 t604 true))))) else(some false)))=some r:=H
     have A22:=Aside0.mk A220
     clear A220
     replace H:=Option.bind_eq_some_iff.mp H
     obtain⟨t612,A230,H⟩:=H
     replace H:(if t612=true then((laws_markEdgeS.f kj9 t601 1).bind fun bt613=>(if bt613.1< 0 then(laws_FnExactTreesFor.j1 kj9 a0 l1 a2 t597 t598 t604 true) else((laws_eqIntSS.f kj9 t604 t597).bind fun t615=>(if t615=true then(laws_FnExactTreesFor.j1 kj9 a0 l1 a2 t597 t598 t604 (t605 !=t598)) else(laws_FnExactTreesFor.j1 kj9 a0 l1 a2 t597 t598 t604 true))))) else(some false))=some r:=H
     have A23:=Aside0.mk A230
     clear A230
     by_cases c24:t612=true
     ·subst c24
      have H1:((laws_markEdgeS.f kj9 t601 1).bind fun bt613=>(if bt613.1< 0 then(laws_FnExactTreesFor.j1 kj9 a0 l1 a2 t597 t598 t604 true) else((laws_eqIntSS.f kj9 t604 t597).bind fun t615=>(if t615=true then(laws_FnExactTreesFor.j1 kj9 a0 l1 a2 t597 t598 t604 (t605 !=t598)) else(laws_FnExactTreesFor.j1 kj9 a0 l1 a2 t597 t598 t604 true)))))=some r:=by rw [if_pos rfl] at H;exact H
      clear H
      have H:=H1
      clear H1
      replace H:=Option.bind_eq_some_iff.mp H
      obtain⟨⟨t613,t614⟩,A250,H⟩:=H
      replace H:(if t613< 0 then(laws_FnExactTreesFor.j1 kj9 a0 l1 a2 t597 t598 t604 true) else((laws_eqIntSS.f kj9 t604 t597).bind fun t615=>(if t615=true then(laws_FnExactTreesFor.j1 kj9 a0 l1 a2 t597 t598 t604 (t605 !=t598)) else(laws_FnExactTreesFor.j1 kj9 a0 l1 a2 t597 t598 t604 true))))=some r:=H
      have A25:=Aside0.mk A250
      clear A250
      have HC26:=Aside0.mk H
      clear H
      go_upto_region 14 with (first|((with_reducible refine gate_callee (f:=25) rfl ?_);refine goesL_ (some 51) rfl rfl Try.func25 (by kernel_rfl) rfl #[.slice A1 l1.length c1] rfl zq2 ?_;(with_reducible refine(laws_toEdgeS.calls kj9 _ _ l1 t609 _ ?side1 ?side2 A22.out).mono ?_);(case side1=>repeat(first|exact(Kd.C_below HR1.out HB.out)|(with_reducible refine Kd.C_alloc ?_ _)|(with_reducible refine Kd.C_drewN ?_ _)|(with_reducible refine Kd.C_drew ?_)));(case side2=>exact HC1.out);rintro e w27 ⟨v610,rfl,ho0,hb⟩;refine⟨_,rfl,?_⟩;have n0_:=Aside0.mk (Kd.S_below (by(with_reducible repeat(first|apply Kd.S_alloc|apply Kd.S_drewN|apply Kd.S_drew));exact HO_8.out) hb);have n1_:=Aside0.mk (Kd.R_elder' (zq4 HO_10) (Kd.R_base ho0) hb);have n2_:=Aside0.mk (Kd.S_below (by(with_reducible repeat(first|apply Kd.S_alloc|apply Kd.S_drewN|apply Kd.S_drew));exact HO_11.out) hb);have n3_:=Aside0.mk (Kd.R_lower (Kd.R_new' ho0 (Kd.R_lt (zq4 HO_10))) (below_size (zb0 HB)));have n4_:=Aside0.mk (below_step (zb0 HB) hb);clear HO_8;clear HO_10;clear HO_11;clear HB;have HO_8:=n0_;have HO_10:=n1_;have HO_11:=n2_;have HO611:=n3_;have HB:=n4_;clear n0_ n1_ n2_ n3_ n4_;(try clear hb);(try clear hb2);(try clear hk);(try clear hi);(try clear ho0);obtain⟨Ao28,co28,eo28⟩:=Kd.R_slice HO611.out;subst eo28)|((with_reducible refine gate_callee (f:=27) rfl ?_);refine goesL_ (some 52) rfl rfl Try.func27 (by kernel_rfl) rfl #[.slice Ao15 t601.length co15,.slice Ao28 t609.length co28] rfl zq2 ?_;(with_reducible refine(laws_eqEdgeS.calls kj9 _ _ t601 _ _ t609 true _ ?side1 ?side2 ?side3 ?side4 A23.out).mono ?_);(case side1=>repeat(first|exact(Kd.R_reads' HO_10.out).2.2|(with_reducible refine Kd.C_alloc ?_ _)|(with_reducible refine Kd.C_drewN ?_ _)|(with_reducible refine Kd.C_drew ?_)));(case side2=>exact(Kd.R_reads' HO_10.out).2.1);(case side3=>repeat(first|exact(Kd.R_reads' HO611.out).2.2|(with_reducible refine Kd.C_alloc ?_ _)|(with_reducible refine Kd.C_drewN ?_ _)|(with_reducible refine Kd.C_drew ?_)));(case side4=>exact(Kd.R_reads' HO611.out).2.1);rintro e w29 ⟨rfl,hb⟩;refine⟨_,rfl,?_⟩;have n0_:=Aside0.mk (Kd.S_below (by(with_reducible repeat(first|apply Kd.S_alloc|apply Kd.S_drewN|apply Kd.S_drew));exact HO_8.out) hb);have n1_:=Aside0.mk (Kd.R_below (zq4 HO_10) hb);have n2_:=Aside0.mk (Kd.S_below (by(with_reducible repeat(first|apply Kd.S_alloc|apply Kd.S_drewN|apply Kd.S_drew));exact HO_11.out) hb);have n3_:=Aside0.mk (Kd.R_below (zq4 HO611) hb);have n4_:=Aside0.mk (below_step (zb0 HB) hb);clear HO_8;clear HO_10;clear HO_11;clear HO611;clear HB;have HO_8:=n0_;have HO_10:=n1_;have HO_11:=n2_;have HO611:=n3_;have HB:=n4_;clear n0_ n1_ n2_ n3_ n4_;(try clear hb);(try clear hb2);(try clear hk);(try clear hi))|((with_reducible refine gate_callee (f:=35) rfl ?_);refine goesL_ (some 56) rfl rfl Try.func35 (by kernel_rfl) rfl #[.slice Ao15 t601.length co15,.int .i64 1] rfl zq2 ?_;(with_reducible refine(laws_markEdgeS.calls kj9 (fun k_=>some k_= (.slice Ao15 t601.length co15:Value).ownBlock) (.slice Ao15 t601.length co15) t601 1 t613 t614 w _ ?side1 ?side2 A25.out).mono ?_);(case side1=>repeat(first|(with_reducible first|exact HB.out|apply below_alloc|apply pw_below_drewN|apply below_drew1)|exact HB.out));(case side2=>exact Kd.R_tight rfl HO_10.out);rintro e w30 ⟨rfl,hy0,hb,hkp⟩;refine⟨_,rfl,?_⟩;have n0_:=Aside0.mk (Kd.S_mono (ok':=fun k_=>k_<M_) (Kd.S_keptB ((Kd.S_apart' HO_8.out (Kd.R_typed HO_10.out) (by decide))) hkp (fun k_ hk_ hs_=>(hk_.2) hs_)) (fun k_ hk_=>hk_.1.1));have n1_:=Aside0.mk (Kd.R_reok rfl hy0 (fun k_ e_=>HO_10.out.1 k_ e_));have n2_:=Aside0.mk (Kd.S_mono (ok':=fun k_=>M_≤k_) (Kd.S_keptB ((Kd.S_apart' HO_11.out (Kd.R_typed HO_10.out) (by decide))) hkp (fun k_ hk_ hs_=>(hk_.2) hs_)) (fun k_ hk_=>hk_.1.1));have n3_:=Aside0.mk (Kd.R_mono (ok':=fun k_=>some k_≠ (.slice Ao15 t601.length co15:Value).ownBlock) (Kd.R_keptB (HO611.out) hkp (fun k_ hk_ hs_=>(hk_.2) hs_)) (fun k_ hk_=>hk_.1.2));have n4_:=Aside0.mk (hb);clear HO_8;clear HO_10;clear HO_11;clear HO611;clear HB;have HO_8:=n0_;have HO_10:=n1_;have HO_11:=n2_;have HO611:=n3_;have HB:=n4_;clear n0_ n1_ n2_ n3_ n4_;(try clear hb);(try clear hkp);(try clear hy0)))
      (try simp only [Act.put,List.setIfInBounds_toArray,List.set_cons_zero,List.set_cons_succ])
      go_cut [69] (fun v69 wc=> ∃ (kq:Nat) (x69_25:Bool),v69= .bool x69_25∧Aside0 (laws_FnExactTreesFor.j1 kq a0 l1 a2 t597 t598 t604 x69_25=some r)∧Aside0 (kq≤kj9)∧Aside0 (Kd.S (Kd.slice 3 (Kd.int .i64)) 22 wc w.heap.size (fun k_=>k_<M_) v599 t597)∧Aside0 (Kd.S (Kd.slice 3 (Kd.int .i64)) 22 wc w.heap.size (fun k_=>M_≤k_) v606 t604)∧Aside0 (Below w.heap.size w wc))
      case first=>
       have H:=HC26.out
       clear HC26
       by_cases c31:t613< 0
       ·rw [if_pos c31] at H
        have c31b0:decide (t613< 0)=true:=decide_eq_true c31
        clear c31
        (first|rw [c31b0]|(simp only [i64_w,i32_w];rw [c31b0])|skip)
        exact absurd (H.trans (congrArg some HRT.out)) (by cases kj9<;>simp [laws_FnExactTreesFor.j1])
       ·rw [if_neg c31] at H
        have c31b0:decide (t613< 0)=false:=decide_eq_false c31
        clear c31
        (first|rw [c31b0]|(simp only [i64_w,i32_w];rw [c31b0])|skip)
        replace H:=Option.bind_eq_some_iff.mp H
        obtain⟨t615,A320,H⟩:=H
        replace H:(if t615=true then(laws_FnExactTreesFor.j1 kj9 a0 l1 a2 t597 t598 t604 (t605 !=t598)) else(laws_FnExactTreesFor.j1 kj9 a0 l1 a2 t597 t598 t604 true))=some r:=H
        have A32:=Aside0.mk A320
        clear A320
        by_cases c33:t615=true
        ·subst c33
         have H1:(laws_FnExactTreesFor.j1 kj9 a0 l1 a2 t597 t598 t604 (t605 !=t598))=some r:=by rw [if_pos rfl] at H;exact H
         clear H
         have H:=H1
         clear H1
         have H':=Aside0.mk H
         clear H
         obtain⟨Ao34,co34,eo34⟩:=Kd.S_slice HO_11.out
         subst eo34
         obtain⟨Ao35,co35,eo35⟩:=Kd.S_slice HO_8.out
         subst eo35
         go_wp2_with (first|(go_at_call 38;(with_reducible refine(laws_eqIntSS.calls kj9 _ _ t604 _ _ t597 true _ ?side1 ?side2 ?side3 ?side4 A32.out).mono ?_);(case side1=>repeat(first|exact(Kd.S_reads' HO_11.out).2.2|(with_reducible refine Kd.C_alloc ?_ _)|(with_reducible refine Kd.C_drewN ?_ _)|(with_reducible refine Kd.C_drew ?_)));(case side2=>exact(Kd.S_reads' HO_11.out).2.1);(case side3=>repeat(first|exact(Kd.S_reads' HO_8.out).2.2|(with_reducible refine Kd.C_alloc ?_ _)|(with_reducible refine Kd.C_drewN ?_ _)|(with_reducible refine Kd.C_drew ?_)));(case side4=>exact(Kd.S_reads' HO_8.out).2.1);rintro e w' ⟨rfl,⟨nd,rfl⟩⟩))
         go_meet
         case rel=>exact⟨_,((t605 !=t598)),(by first|rfl|(simp;done)|(simp [*];done)),H',⟨by have:=HJ9.out;first|omega|exact Nat.le_refl _⟩,⟨by(with_reducible repeat(first|apply Kd.S_alloc|apply Kd.S_drewN|apply Kd.S_drew));exact HO_8.out⟩,⟨by(with_reducible repeat(first|apply Kd.S_alloc|apply Kd.S_drewN|apply Kd.S_drew));exact HO_11.out⟩,⟨by repeat(first|(with_reducible first|exact HB.out|apply below_alloc|apply pw_below_drewN|apply below_drew1)|exact HB.out)⟩⟩
        ·replace c33:=Bool.eq_false_iff.mpr c33
         subst c33
         have H1:(laws_FnExactTreesFor.j1 kj9 a0 l1 a2 t597 t598 t604 true)=some r:=by rw [if_neg (show ¬ (false=true) by decide)] at H;exact H
         clear H
         have H:=H1
         clear H1
         exact absurd (H.trans (congrArg some HRT.out)) (by cases kj9<;>simp [laws_FnExactTreesFor.j1])
      case rest=>
       clear HC26
       try clear c1
       try clear c2
       try clear p2
       try clear c3
       try clear c5
       try clear c5b0
       try clear c9
       try clear c18
       try clear c21
       try clear c23
       try clear c24
       try clear c25
       try clear c27
       try clear c31
       try clear c31b0
       try clear c33
       try clear c35
       try clear p2
       obtain⟨kq,x69_25,rfl,HA,HJ25,HO_8,HO_11,HB⟩:=hcut
       cases kq with
       |zero=>exact absurd HA.out (by simp [laws_FnExactTreesFor.j1])
       |succ kj25=>
        have H:=HA.out
        clear HA
        simp only [laws_FnExactTreesFor.j1] at H
        by_cases c36:x69_25=true
        ·subst c36
         have H1:(some false)=some r:=by rw [if_pos rfl] at H;exact H
         clear H
         have H:=H1
         clear H1
         exact absurd ((Option.some.inj H).trans HRT.out) (by decide)
        ·replace c36:=Bool.eq_false_iff.mpr c36
         subst c36
         have H1:((laws_markIntSS.f kj25 t604 1).bind fun bt616=>((laws_heldIntSS.f kj25 bt616.2 1).bind fun t617=>(if t617< 0 then(some false) else(if t617=bt616.1 then((laws_toEdgeS.f kj25 l1).bind fun t618=>((impl_TreesFor.f kj25 a0 t618 a2).bind fun bt621=>((laws_eqIntSS.f kj25 bt621.1 t597).bind fun t625=>(if t625=true then(laws_FnExactTreesFor.j2 kj25 bt616.2 bt616.1 (bt621.2 !=t598)) else(laws_FnExactTreesFor.j2 kj25 bt616.2 bt616.1 true))))) else(some false)))))=some r:=by rw [if_neg (show ¬ (false=true) by decide)] at H;exact H
         clear H
         have H:=H1
         clear H1
         replace H:=Option.bind_eq_some_iff.mp H
         obtain⟨⟨t616,nt604⟩,A370,H⟩:=H
         replace H:((laws_heldIntSS.f kj25 nt604 1).bind fun t617=>(if t617< 0 then(some false) else(if t617=t616 then((laws_toEdgeS.f kj25 l1).bind fun t618=>((impl_TreesFor.f kj25 a0 t618 a2).bind fun bt621=>((laws_eqIntSS.f kj25 bt621.1 t597).bind fun t625=>(if t625=true then(laws_FnExactTreesFor.j2 kj25 nt604 t616 (bt621.2 !=t598)) else(laws_FnExactTreesFor.j2 kj25 nt604 t616 true))))) else(some false))))=some r:=H
         have A37:=Aside0.mk A370
         clear A370
         replace H:=Option.bind_eq_some_iff.mp H
         obtain⟨t617,A380,H⟩:=H
         replace H:(if t617< 0 then(some false) else(if t617=t616 then((laws_toEdgeS.f kj25 l1).bind fun t618=>((impl_TreesFor.f kj25 a0 t618 a2).bind fun bt621=>((laws_eqIntSS.f kj25 bt621.1 t597).bind fun t625=>(if t625=true then(laws_FnExactTreesFor.j2 kj25 nt604 t616 (bt621.2 !=t598)) else(laws_FnExactTreesFor.j2 kj25 nt604 t616 true))))) else(some false)))=some r:=H
         have A38:=Aside0.mk A380
         clear A380
         by_cases c39:t617< 0
         ·rw [if_pos c39] at H
          have c39b0:decide (t617< 0)=true:=decide_eq_true c39
          clear c39
          exact absurd ((Option.some.inj H).trans HRT.out) (by decide)
         ·rw [if_neg c39] at H
          have c39b0:decide (t617< 0)=false:=decide_eq_false c39
          clear c39
          by_cases c40:t617=t616
          ·rw [if_pos c40] at H
           have c40b0:(t617==t616)=true:=beq_iff_eq.mpr c40
           have c40b1:(t617 !=t616)=false:=bne_eq_false_iff_eq.mpr c40
           clear c40
           replace H:=Option.bind_eq_some_iff.mp H
           obtain⟨t618,A410,H⟩:=H
           replace H:((impl_TreesFor.f kj25 a0 t618 a2).bind fun bt621=>((laws_eqIntSS.f kj25 bt621.1 t597).bind fun t625=>(if t625=true then(laws_FnExactTreesFor.j2 kj25 nt604 t616 (bt621.2 !=t598)) else(laws_FnExactTreesFor.j2 kj25 nt604 t616 true))))=some r:=H
           have A41:=Aside0.mk A410
           clear A410
           replace H:=Option.bind_eq_some_iff.mp H
           obtain⟨⟨t621,t622⟩,A420,H⟩:=H
           replace H:((laws_eqIntSS.f kj25 t621 t597).bind fun t625=>(if t625=true then(laws_FnExactTreesFor.j2 kj25 nt604 t616 (t622 !=t598)) else(laws_FnExactTreesFor.j2 kj25 nt604 t616 true)))=some r:=H
           have A42:=Aside0.mk A420
           clear A420
           have HC43:=Aside0.mk H
           clear H
           go_upto_region 25 with (first|((with_reducible refine gate_callee (f:=39) rfl ?_);refine goesL_ (some 72) rfl rfl Try.func39 (by kernel_rfl) rfl #[v606,.int .i64 1] rfl zq2 ?_;(with_reducible refine(laws_markIntSS.calls kj25 (fun k_=>M_≤k_) _ t604 1 t616 nt604 w _ ?sB ?sO A37.out).mono ?_);(case sB=>exact(zb0 HB));(case sO=>(with_reducible repeat(first|apply Kd.S_alloc|apply Kd.S_drewN|apply Kd.S_drew));exact HO_11.out);rintro e w9 ⟨rfl,hs_,hb_,hk_⟩;refine⟨_,rfl,?_⟩;have n0_:=Aside0.mk (Kd.S_kept (by(with_reducible repeat(first|apply Kd.S_alloc|apply Kd.S_drewN|apply Kd.S_drew));exact HO_8.out) hk_ (fun k_ hk_ hs_=>absurd hs_ (Nat.not_le_of_lt hk_)));have n1_:=Aside0.mk hs_;have n2_:=Aside0.mk hb_;clear HO_8;clear HO_11;clear HB;have HO_8:=n0_;have HO_11:=n1_;have HB:=n2_;clear n0_ n1_ n2_;clear hs_ hb_ hk_;obtain⟨Ao44,co44,eo44⟩:=Kd.S_slice HO_11.out;subst eo44)|((with_reducible refine gate_callee (f:=40) rfl ?_);refine goesL_ (some 75) rfl rfl Try.func40 (by kernel_rfl) rfl #[.slice Ao44 nt604.length co44,.int .i64 1] rfl zq2 ?_;(with_reducible refine(laws_heldIntSS.calls kj25 _ _ nt604 1 t617 _ ?side1 ?side2 A38.out).mono ?_);(case side1=>repeat(first|exact(Kd.S_reads' HO_11.out).2.2|(with_reducible refine Kd.C_alloc ?_ _)|(with_reducible refine Kd.C_drewN ?_ _)|(with_reducible refine Kd.C_drew ?_)));(case side2=>exact(Kd.S_reads' HO_11.out).2.1);rintro e w' ⟨rfl,⟨nd,rfl⟩⟩;refine⟨_,rfl,?_⟩)|((with_reducible refine gate_callee (f:=25) rfl ?_);refine goesL_ (some 84) rfl rfl Try.func25 (by kernel_rfl) rfl #[.slice A1 l1.length c1] rfl zq2 ?_;(with_reducible refine(laws_toEdgeS.calls kj25 _ _ l1 t618 _ ?side1 ?side2 A41.out).mono ?_);(case side1=>repeat(first|exact(Kd.C_below HR1.out (zb0 HB))|(with_reducible refine Kd.C_alloc ?_ _)|(with_reducible refine Kd.C_drewN ?_ _)|(with_reducible refine Kd.C_drew ?_)));(case side2=>exact HC1.out);rintro e w45 ⟨v619,rfl,ho0,hb⟩;refine⟨_,rfl,?_⟩;have n0_:=Aside0.mk (Kd.S_below (by(with_reducible repeat(first|apply Kd.S_alloc|apply Kd.S_drewN|apply Kd.S_drew));exact HO_8.out) hb);have n1_:=Aside0.mk (Kd.S_below (by(with_reducible repeat(first|apply Kd.S_alloc|apply Kd.S_drewN|apply Kd.S_drew));exact HO_11.out) hb);have n2_:=Aside0.mk (Kd.R_lower ho0 (below_size (zb0 HB)));have n3_:=Aside0.mk (below_step (zb0 HB) hb);clear HO_8;clear HO_11;clear HB;have HO_8:=n0_;have HO_11:=n1_;have HO620:=n2_;have HB:=n3_;clear n0_ n1_ n2_ n3_;(try clear hb);(try clear hb2);(try clear hk);(try clear hi);(try clear ho0);obtain⟨Ao46,co46,eo46⟩:=Kd.R_slice HO620.out;subst eo46)|((with_reducible refine gate_callee (f:=37) rfl ?_);refine goesL_ (some 86) rfl rfl Try.func37 (by kernel_rfl) rfl #[.int .i64 a0,.slice Ao46 t618.length co46,.int .i64 a2] rfl zq2 ?_;(with_reducible refine(impl_TreesFor.calls kj25 a0 _ _ t618 a2 t621 t622 _ ?side1 ?side2 A42.out).mono ?_);(case side1=>repeat(first|exact(Kd.R_reads' HO620.out).2.2|(with_reducible refine Kd.C_alloc ?_ _)|(with_reducible refine Kd.C_drewN ?_ _)|(with_reducible refine Kd.C_drew ?_)));(case side2=>exact(Kd.R_reads' HO620.out).2.1);rintro e w47 ⟨v623,rfl,ho0,hb⟩;refine⟨_,rfl,?_⟩;have n0_:=Aside0.mk (Kd.S_elder' (by(with_reducible repeat(first|apply Kd.S_alloc|apply Kd.S_drewN|apply Kd.S_drew));exact HO_8.out) (Kd.S_base ho0) hb);have n1_:=Aside0.mk (Kd.S_elder' (by(with_reducible repeat(first|apply Kd.S_alloc|apply Kd.S_drewN|apply Kd.S_drew));exact HO_11.out) (Kd.S_base ho0) hb);have n2_:=Aside0.mk (Kd.R_below (zq4 HO620) hb);have n3_:=Aside0.mk (Kd.S_lower (Kd.S_new' (Kd.S_new' ho0 (Kd.S_lt (by(with_reducible repeat(first|apply Kd.S_alloc|apply Kd.S_drewN|apply Kd.S_drew));exact HO_8.out))) (Kd.S_lt (by(with_reducible repeat(first|apply Kd.S_alloc|apply Kd.S_drewN|apply Kd.S_drew));exact HO_11.out))) (below_size (zb0 HB)));have n4_:=Aside0.mk (below_step (zb0 HB) hb);clear HO_8;clear HO_11;clear HO620;clear HB;have HO_8:=n0_;have HO_11:=n1_;have HO620:=n2_;have HO624:=n3_;have HB:=n4_;clear n0_ n1_ n2_ n3_ n4_;(try clear hb);(try clear hb2);(try clear hk);(try clear hi);(try clear ho0)))
           (try simp only [Act.put,List.setIfInBounds_toArray,List.set_cons_zero,List.set_cons_succ])
           go_cut [97] (fun v97 wc=> ∃ (kq:Nat) (x97_42:Bool),v97= .bool x97_42∧Aside0 (laws_FnExactTreesFor.j2 kq nt604 t616 x97_42=some r)∧Aside0 (kq≤kj25)∧Aside0 (Kd.S (Kd.slice 3 (Kd.int .i64)) 22 wc w.heap.size (fun _=>True) (.slice Ao44 nt604.length co44) nt604)∧Aside0 (Below w.heap.size w wc))
           case first=>
            have H:=HC43.out
            clear HC43
            replace H:=Option.bind_eq_some_iff.mp H
            obtain⟨t625,A480,H⟩:=H
            replace H:(if t625=true then(laws_FnExactTreesFor.j2 kj25 nt604 t616 (t622 !=t598)) else(laws_FnExactTreesFor.j2 kj25 nt604 t616 true))=some r:=H
            have A48:=Aside0.mk A480
            clear A480
            by_cases c49:t625=true
            ·subst c49
             have H1:(laws_FnExactTreesFor.j2 kj25 nt604 t616 (t622 !=t598))=some r:=by rw [if_pos rfl] at H;exact H
             clear H
             have H:=H1
             clear H1
             have H':=Aside0.mk H
             clear H
             obtain⟨Ao50,co50,eo50⟩:=Kd.S_slice HO624.out
             subst eo50
             obtain⟨Ao51,co51,eo51⟩:=Kd.S_slice HO_8.out
             subst eo51
             go_wp2_with (first|((with_reducible refine gate_callee (f:=38) rfl ?_);refine goesL_ (some 91) rfl rfl Try.func38 (by kernel_rfl) rfl #[.slice Ao50 t621.length co50,.slice Ao51 t597.length co51] rfl zq2 ?_;(with_reducible refine(laws_eqIntSS.calls kj25 _ _ t621 _ _ t597 true _ ?side1 ?side2 ?side3 ?side4 A48.out).mono ?_);(case side1=>repeat(first|exact(Kd.S_reads' HO624.out).2.2|(with_reducible refine Kd.C_alloc ?_ _)|(with_reducible refine Kd.C_drewN ?_ _)|(with_reducible refine Kd.C_drew ?_)));(case side2=>exact(Kd.S_reads' HO624.out).2.1);(case side3=>repeat(first|exact(Kd.S_reads' HO_8.out).2.2|(with_reducible refine Kd.C_alloc ?_ _)|(with_reducible refine Kd.C_drewN ?_ _)|(with_reducible refine Kd.C_drew ?_)));(case side4=>exact(Kd.S_reads' HO_8.out).2.1);rintro e w' ⟨rfl,⟨nd,rfl⟩⟩;refine⟨_,rfl,?_⟩))
             go_meet
             case rel=>exact⟨_,((t622 !=t598)),(by first|rfl|(simp;done)|(simp [*];done)),H',⟨by have:=HJ9.out;have:=HJ25.out;first|omega|exact Nat.le_refl _⟩,⟨by(with_reducible repeat(first|apply Kd.S_alloc|apply Kd.S_drewN|apply Kd.S_drew));exact Kd.S_mono HO_11.out (fun _ hk=>trivial)⟩,⟨by repeat(first|(with_reducible first|exact HB.out|apply below_alloc|apply pw_below_drewN|apply below_drew1)|exact HB.out)⟩⟩
            ·replace c49:=Bool.eq_false_iff.mpr c49
             subst c49
             have H1:(laws_FnExactTreesFor.j2 kj25 nt604 t616 true)=some r:=by rw [if_neg (show ¬ (false=true) by decide)] at H;exact H
             clear H
             have H:=H1
             clear H1
             exact absurd (H.trans (congrArg some HRT.out)) (by cases kj25<;>simp [laws_FnExactTreesFor.j2])
           case rest=>
            clear HC43
            try clear c1
            try clear c2
            try clear p2
            try clear c3
            try clear c4
            try clear c5
            try clear c5b0
            try clear c9
            try clear c18
            try clear c21
            try clear c23
            try clear c24
            try clear c25
            try clear c27
            try clear c31
            try clear c31b0
            try clear c33
            try clear c35
            try clear c36
            try clear c37
            try clear c38
            try clear c39
            try clear c39b0
            try clear c40
            try clear c40b0
            try clear c40b1
            try clear c49
            try clear p2
            obtain⟨kq,x97_42,rfl,HA,HJ42,HO_11,HB⟩:=hcut
            cases kq with
            |zero=>exact absurd HA.out (by simp [laws_FnExactTreesFor.j2])
            |succ kj42=>
             have H:=HA.out
             clear HA
             simp only [laws_FnExactTreesFor.j2] at H
             by_cases c52:x97_42=true
             ·subst c52
              have H1:(some false)=some r:=by rw [if_pos rfl] at H;exact H
              clear H
              have H:=H1
              clear H1
              exact absurd ((Option.some.inj H).trans HRT.out) (by decide)
             ·replace c52:=Bool.eq_false_iff.mpr c52
              subst c52
              have H1:((laws_heldIntSS.f kj42 nt604 1).bind fun t626=>(if t626< 0 then(some false) else(if t626=t616 then(some true) else(some false))))=some r:=by rw [if_neg (show ¬ (false=true) by decide)] at H;exact H
              clear H
              have H:=H1
              clear H1
              replace H:=Option.bind_eq_some_iff.mp H
              obtain⟨t626,A530,H⟩:=H
              replace H:(if t626< 0 then(some false) else(if t626=t616 then(some true) else(some false)))=some r:=H
              have A53:=Aside0.mk A530
              clear A530
              by_cases c54:t626< 0
              ·rw [if_pos c54] at H
               have c54b0:decide (t626< 0)=true:=decide_eq_true c54
               clear c54
               exact absurd ((Option.some.inj H).trans HRT.out) (by decide)
              ·rw [if_neg c54] at H
               have c54b0:decide (t626< 0)=false:=decide_eq_false c54
               clear c54
               by_cases c55:t626=t616
               ·rw [if_pos c55] at H
                have c55b0:(t626==t616)=true:=beq_iff_eq.mpr c55
                have c55b1:(t626 !=t616)=false:=bne_eq_false_iff_eq.mpr c55
                clear c55
                obtain rfl:=Option.some.inj H
                go_wp2_with (first|((with_reducible refine gate_callee (f:=40) rfl ?_);refine goesL_ (some 100) rfl rfl Try.func40 (by kernel_rfl) rfl #[.slice Ao44 nt604.length co44,.int .i64 1] rfl zq2 ?_;(with_reducible refine(laws_heldIntSS.calls kj42 _ _ nt604 1 t626 _ ?side1 ?side2 A53.out).mono ?_);(case side1=>repeat(first|exact(Kd.S_reads' HO_11.out).2.2|(with_reducible refine Kd.C_alloc ?_ _)|(with_reducible refine Kd.C_drewN ?_ _)|(with_reducible refine Kd.C_drew ?_)));(case side2=>exact(Kd.S_reads' HO_11.out).2.1);rintro e w' ⟨rfl,⟨nd,rfl⟩⟩;refine⟨_,rfl,?_⟩))
                go_ret
                exact⟨by first|rfl|(simp [errW_none,errW_some]<;>rfl)|(simp [*,errW_none,errW_some]<;>rfl),by repeat(first|(with_reducible first|exact HB.out|apply below_alloc|apply pw_below_drewN|apply below_drew1)|exact HB.out)⟩
               ·rw [if_neg c55] at H
                have c55b0:(t626==t616)=false:=beq_eq_false_iff_ne.mpr c55
                have c55b1:(t626 !=t616)=true:=bne_iff_ne.mpr c55
                exact absurd ((Option.some.inj H).trans HRT.out) (by decide)
          ·rw [if_neg c40] at H
           have c40b0:(t617==t616)=false:=beq_eq_false_iff_ne.mpr c40
           have c40b1:(t617 !=t616)=true:=bne_iff_ne.mpr c40
           exact absurd ((Option.some.inj H).trans HRT.out) (by decide)
     ·replace c24:=Bool.eq_false_iff.mpr c24
      subst c24
      have H1:(some false)=some r:=by rw [if_neg (show ¬ (false=true) by decide)] at H;exact H
      clear H
      have H:=H1
      clear H1
      exact absurd ((Option.some.inj H).trans HRT.out) (by decide)
end Go.Proofs.Ytedegfbheihopaa.P

namespace Go.Proofs.Ytedegfbheihopaa.P
open Go.RowKit Go.Proofs.YtedegfbheihopaaW.PrintWords Go.Proofs.YtedegfbheihopaaW.PrintLast
def wfS81 (s : S81) : Prop := (fun n : Int => (Lit.int .i64 n).wf = true) s.f0 ∧ (fun n : Int => (Lit.int .i64 n).wf = true) s.f1 ∧ (fun n : Int => (Lit.int .i64 n).wf = true) s.f2
/-- The one pure statement of laws_FnExactTreesFor. -/
def laws_FnExactTreesFor.Pure : Prop := ∀ (a0 : Int) (l1 : List (S81)) (a2 : Int), (fun n : Int => (Lit.int .i64 n).wf = true) a0 → (fun l : List (S81) => l.length ≤ maxLen ∧ ∀ x ∈ l, wfS81 x) l1 → (fun n : Int => (Lit.int .i64 n).wf = true) a2 → ∃ k, laws_FnExactTreesFor.f k a0 l1 a2 = some true
end Go.Proofs.Ytedegfbheihopaa.P

namespace Go.Proofs.Ytedegfbheihopaa.P
open Go.RowKit Go.Proofs.YtedegfbheihopaaW.PrintWords
set_option linter.unusedVariables false
set_option linter.unusedSimpArgs false
theorem wrap_id {x : Int} (h0 : -9223372036854775808 ≤ x) (h1 : x ≤ 9223372036854775807) : wrap64 x = x := by unfold wrap64; omega
theorem Ev.succ {α : Type} {g : Nat → Option α} {r : α} (h : Ev (fun k => g (k + 1)) r) : Ev g r := Ev.step (fun _ => rfl) h
theorem Ev.some_ {α : Type} {r s : α} (h : r = s) : Ev (fun _ => some r) s := h ▸ Ev.now r
theorem getD_mid {α : Type} (d : α) (pre : List α) (x : α) (suf : List α) : (pre ++ x :: suf).getD ((pre.length : Int)).toNat d = x := by simp
theorem set_mid {α : Type} (pre : List α) (x y : α) (suf : List α) : (pre ++ x :: suf).set ((pre.length : Int)).toNat y = pre ++ y :: suf := by simp
theorem app_one {α : Type} (pre : List α) (x : α) (suf : List α) : pre ++ x :: suf = (pre ++ [x]) ++ suf := by simp
theorem len_mid {α : Type} (pre : List α) (x : α) (suf : List α) : ((pre ++ x :: suf).length : Int) = pre.length + suf.length + 1 := by simp; omega
theorem len_one {α : Type} (pre : List α) (x : α) : ((pre ++ [x]).length : Int) = pre.length + 1 := by simp
theorem nil_or_snoc {α : Type} (l : List α) : l = [] ∨ ∃ p y, l = p ++ [y] := by
 rcases List.eq_nil_or_concat l with rfl | ⟨p, y, rfl⟩
 ·exact .inl rfl
 ·exact .inr ⟨p, y, by simp⟩
end Go.Proofs.Ytedegfbheihopaa.P

namespace Go.Proofs.Ytedegfbheihopaa.P
open Go.RowKit Go.Proofs.YtedegfbheihopaaW.PrintWords Go.Proofs.YtedegfbheihopaaW.PrintLast
set_option linter.unusedVariables false
set_option linter.unusedSimpArgs false
theorem rdEdge_mid (pre : List S79) (x : S79) (suf : List S79) : rd_T79 (pre ++ x :: suf) (pre.length : Int) = x := getD_mid _ pre x suf
theorem rdLEdge_mid (pre : List S81) (x : S81) (suf : List S81) : rd_T81 (pre ++ x :: suf) (pre.length : Int) = x := getD_mid _ pre x suf
instance decEdge : DecidableEq S79 := fun a b => decidable_of_iff (a.f0 = b.f0 ∧ a.f1 = b.f1 ∧ a.f2 = b.f2) (by cases a; cases b; simp)
def cvEdge (x : S81) : S79 := ⟨x.f0, x.f1, x.f2⟩
theorem toEdgeS_l (suf : List S81) : ∀ (pre : List S81) (k : Nat), suf.length < k → (pre.length : Int) + suf.length ≤ 1099511627776 →
  laws_toEdgeS.l0 k (pre ++ suf) (pre.map cvEdge ++ List.replicate suf.length z79) (pre.length : Int) = some ((pre ++ suf).map cvEdge) := by
 induction suf with
 | nil =>
  intro pre k hk hb
  obtain ⟨k, rfl⟩ : ∃ m, k = m + 1 := ⟨k - 1, by omega⟩
  simp only [laws_toEdgeS.l0]
  rw [if_neg (by simp)]
  simp
 | cons x suf ih =>
  intro pre k hk hb
  simp only [List.length_cons] at hk hb
  obtain ⟨k, rfl⟩ : ∃ m, k = m + 1 := ⟨k - 1, by omega⟩
  have h := ih (pre ++ [x]) k (by omega) (by simp; omega)
  simp only [laws_toEdgeS.l0]
  rw [if_pos (by simp; omega), if_pos (by omega), rdLEdge_mid]
  simp only [laws_toEdge.f, Option.bind_some]
  rw [if_pos (by simp; omega), wrap_id (by omega) (by omega)]
  have e : (pre.map cvEdge ++ List.replicate (x :: suf).length z79).set ((pre.length : Int)).toNat (⟨x.f0, x.f1, x.f2⟩ : S79) = (pre ++ [x]).map cvEdge ++ List.replicate suf.length z79 := by
   simp [List.replicate_succ, cvEdge]
  rw [e]
  simpa using h
theorem toEdgeS_ev (l : List S81) (hl : l.length ≤ 1048576) : Ev (fun k => laws_toEdgeS.f k l) (l.map cvEdge) := by
 refine ⟨l.length + 1, fun k hk => ?_⟩
 have h := toEdgeS_l l [] k (by omega) (by simp; omega)
 show laws_toEdgeS.f k l = _
 unfold laws_toEdgeS.f
 rw [if_pos (by omega), if_pos (by simp; omega)]
 simpa using h
theorem eqEdge_is (a b : S79) : laws_eqEdge.f a.f0 a.f1 a.f2 b.f0 b.f1 b.f2 = some (decide (a = b)) := by
 cases a; cases b
 unfold laws_eqEdge.f
 simp only [S79.mk.injEq]
 split
 ·split
  ·split
   ·rename_i h1 h2 h3; simp [h1, h2, h3]
   ·rename_i h1 h2 h3; simp [h3]
  ·rename_i h1 h2; simp [h2]
 ·rename_i h1; simp [h1]
theorem eqEdgeS_l (s : List S79) : ∀ (t pre qre : List S79) (k : Nat), s.length < k → pre.length = qre.length → s.length = t.length → (pre.length : Int) + s.length ≤ 1099511627776 →
  laws_eqEdgeS.l0 k (pre ++ s) (qre ++ t) (pre.length : Int) = some (decide (s = t)) := by
 induction s with
 | nil =>
  intro t pre qre k hk hq hl hb
  obtain ⟨k, rfl⟩ : ∃ m, k = m + 1 := ⟨k - 1, by omega⟩
  obtain rfl : t = [] := List.eq_nil_of_length_eq_zero (by simpa using hl.symm)
  simp only [laws_eqEdgeS.l0]
  rw [if_neg (by simp)]
  simp
 | cons x s ih =>
  intro t pre qre k hk hq hl hb
  cases t with
  | nil => simp at hl
  | cons y t =>
   simp only [List.length_cons] at hk hl hb
   obtain ⟨k, rfl⟩ : ∃ m, k = m + 1 := ⟨k - 1, by omega⟩
   have h := ih t (pre ++ [x]) (qre ++ [y]) k (by omega) (by simp; omega) (by omega) (by simp; omega)
   have hy : rd_T79 (qre ++ y :: t) (pre.length : Int) = y := by rw [hq]; exact rdEdge_mid qre y t
   simp only [laws_eqEdgeS.l0]
   rw [if_pos (by simp; omega), if_pos (by omega), if_pos (by simp; omega), rdEdge_mid, hy, eqEdge_is, wrap_id (by omega) (by omega)]
   simp only [Option.bind_some]
   by_cases e : x = y
   ·subst e
    rw [if_pos (by simp)]
    simpa using h
   ·rw [if_neg (by simpa using e)]
    simp [e]
theorem eqEdgeS_ev (s t : List S79) (hs : s.length ≤ 1099511627776) : Ev (fun k => laws_eqEdgeS.f k s t) (decide (s = t)) := by
 refine ⟨s.length + 1, fun k hk => ?_⟩
 show laws_eqEdgeS.f k s t = _
 unfold laws_eqEdgeS.f
 by_cases hl : s.length = t.length
 ·rw [if_pos (by omega)]
  exact eqEdgeS_l s t [] [] k (by omega) rfl hl (by simp; omega)
 ·rw [if_neg (by omega)]
  have : s ≠ t := fun e => hl (by rw [e])
  simp [this]
theorem szEdgeS_is (l : List S81) (hl : l.length ≤ maxLen) (a : Int) (h0 : 0 ≤ a) (h1 : a ≤ 1048576) : laws_szEdgeS.f l a = some (if a - l.length < 0 then -1 else a - l.length) := by
 have hm : l.length ≤ 9223372036854775807 := by unfold maxLen at hl; exact hl
 unfold laws_szEdgeS.f
 rw [wrap_id (by omega) (by omega)]
 split <;> rfl
end Go.Proofs.Ytedegfbheihopaa.P

namespace Go.Proofs.Ytedegfbheihopaa.P
open Go.RowKit Go.Proofs.YtedegfbheihopaaW.PrintWords Go.Proofs.YtedegfbheihopaaW.PrintLast
set_option linter.unusedVariables false
set_option linter.unusedSimpArgs false
theorem rd_mid (pre : List Int) (x : Int) (suf : List Int) : rd (pre ++ x :: suf) (pre.length : Int) = x := getD_mid _ pre x suf
theorem eqIntS_l (s : List Int) : ∀ (t pre qre : List Int) (k : Nat), s.length < k → pre.length = qre.length → s.length = t.length → (pre.length : Int) + s.length ≤ 1099511627776 →
  laws_eqIntS.l0 k (pre ++ s) (qre ++ t) (pre.length : Int) = some (decide (s = t)) := by
 induction s with
 | nil =>
  intro t pre qre k hk hq hl hb
  obtain ⟨k, rfl⟩ : ∃ m, k = m + 1 := ⟨k - 1, by omega⟩
  obtain rfl : t = [] := List.eq_nil_of_length_eq_zero (by simpa using hl.symm)
  simp only [laws_eqIntS.l0]
  rw [if_neg (by simp)]
  simp
 | cons x s ih =>
  intro t pre qre k hk hq hl hb
  cases t with
  | nil => simp at hl
  | cons y t =>
   simp only [List.length_cons] at hk hl hb
   obtain ⟨k, rfl⟩ : ∃ m, k = m + 1 := ⟨k - 1, by omega⟩
   have h := ih t (pre ++ [x]) (qre ++ [y]) k (by omega) (by simp; omega) (by omega) (by simp; omega)
   have hy : rd (qre ++ y :: t) (pre.length : Int) = y := by rw [hq]; exact rd_mid qre y t
   simp only [laws_eqIntS.l0]
   rw [if_pos (by simp <;> omega), if_pos (by omega), if_pos (by simp <;> omega), rd_mid, hy, wrap_id (by omega) (by omega)]
   by_cases e : x = y
   ·subst e
    rw [if_pos rfl]
    simpa using h
   ·rw [if_neg e]
    simp [e]
theorem eqIntS_ev (s t : List Int) (hs : s.length ≤ 1099511627776) : Ev (fun k => laws_eqIntS.f k s t) (decide (s = t)) := by
 refine ⟨s.length + 1, fun k hk => ?_⟩
 show laws_eqIntS.f k s t = _
 unfold laws_eqIntS.f
 by_cases hl : s.length = t.length
 ·rw [if_pos (by omega)]
  exact eqIntS_l s t [] [] k (by omega) rfl hl (by simp; omega)
 ·rw [if_neg (by omega)]
  have : s ≠ t := fun e => hl (by rw [e])
  simp [this]
end Go.Proofs.Ytedegfbheihopaa.P

namespace Go.Proofs.Ytedegfbheihopaa.P
open Go.RowKit Go.Proofs.YtedegfbheihopaaW.PrintWords Go.Proofs.YtedegfbheihopaaW.PrintLast
set_option linter.unusedVariables false
set_option linter.unusedSimpArgs false
-- sweeps over a list of numbers, and a list taken over, both sides
theorem specIn (a b c : Int) : spec_l1In.f a b c = some (decide (b ≤ a ∧ a ≤ c)) := by
 unfold spec_l1In.f
 by_cases h : a ≥ b
 ·rw [if_pos h]
  congr 1
  by_cases h2 : a ≤ c
  ·rw [decide_eq_true h2, decide_eq_true ⟨h, h2⟩]
  ·rw [decide_eq_false h2, decide_eq_false (fun hc => h2 hc.2)]
 ·rw [if_neg h, decide_eq_false (fun hc => h hc.1)]
theorem implIn (a b c : Int) : impl_in.f a b c = some (decide (b ≤ a ∧ a ≤ c)) := specIn a b c
end Go.Proofs.Ytedegfbheihopaa.P

namespace Go.Proofs.Ytedegfbheihopaa.P
open Go.RowKit Go.Proofs.YtedegfbheihopaaW.PrintWords Go.Proofs.YtedegfbheihopaaW.PrintLast
set_option linter.unusedVariables false
set_option linter.unusedSimpArgs false
def isEdge (m : Int) (x : S79) : Bool := decide (0 ≤ x.f0 ∧ x.f0 ≤ m ∧ 0 ≤ x.f1 ∧ x.f1 ≤ m ∧ x.f0 < x.f1 ∧ 1 ≤ x.f2 ∧ x.f2 ≤ 100)
def edgeLt (y x : S79) : Bool := decide (y.f0 < x.f0 ∨ y.f0 = x.f0 ∧ y.f1 < x.f1)
def goodEF (m : Int) : Option S79 → List S79 → Bool
 | _, [] => true
 | none, x :: r => isEdge m x && goodEF m (some x) r
 | some y, x :: r => isEdge m x && (edgeLt y x && goodEF m (some x) r)
def goodE (n : Int) (l : List S79) : Bool := goodEF (wrap64 (n - 1)) none l && (decide (1 ≤ n ∧ n ≤ 12) && decide (l.length ≤ 40))
theorem isEdge_iff (m : Int) (x : S79) : isEdge m x = true ↔ (0 ≤ x.f0 ∧ x.f0 ≤ m ∧ 0 ≤ x.f1 ∧ x.f1 ≤ m ∧ x.f0 < x.f1 ∧ 1 ≤ x.f2 ∧ x.f2 ≤ 100) := by unfold isEdge; simp only [decide_eq_true_eq]
theorem specGoodE_l (n : Int) (suf : List S79) : ∀ (pre : List S79), (pre.length : Int) + suf.length ≤ 1099511627776 →
  Ev (fun k => spec_GoodEdges.l0 k n (pre ++ suf) (pre ++ suf) ((pre ++ suf).length : Int) (pre.length : Int)) (goodEF (wrap64 (n - 1)) pre.getLast? suf && (decide (1 ≤ n ∧ n ≤ 12) && decide ((pre ++ suf).length ≤ 40))) := by
 induction suf with
 | nil =>
  intro pre hb
  refine Ev.succ ?_
  simp only [spec_GoodEdges.l0]
  simp only [if_neg (show ¬ (pre.length : Int) < ((pre ++ ([] : List S79)).length : Int) by simp), specIn, Option.bind_some]
  have : goodEF (wrap64 (n - 1)) pre.getLast? [] = true := by cases pre.getLast? <;> rfl
  rw [this, Bool.true_and]
  by_cases h : 1 ≤ n ∧ n ≤ 12
  ·simp only [h, and_self, decide_true, if_true, Bool.true_and]
   refine Ev.some_ ?_
   congr 1
   simp only [eq_iff_iff]
   omega
  ·simp only [h, decide_false, Bool.false_eq_true, if_false, Bool.false_and]
   exact Ev.now _
 | cons x suf ih =>
  intro pre hb
  simp only [List.length_cons] at hb
  have c1 : (pre.length : Int) < ((pre ++ x :: suf).length : Int) := by simp <;> omega
  have c0 : (0 : Int) ≤ (pre.length : Int) := by omega
  have h := ih (pre ++ [x]) (by simp <;> omega)
  rw [← app_one, len_one, List.getLast?_concat] at h
  refine Ev.succ ?_
  simp only [spec_GoodEdges.l0]
  simp only [if_pos c1, if_pos c0, rdEdge_mid, specIn, Option.bind_some]
  generalize wrap64 (n - 1) = m at h ⊢
  generalize hfin : (decide (1 ≤ n ∧ n ≤ 12) && decide ((pre ++ x :: suf).length ≤ 40)) = fin at h ⊢
  have bad : ∀ (b : Bool), isEdge m x = false → b = true → Ev (fun k => spec_GoodEdges.j1 k n (pre ++ x :: suf) (pre.length : Int) (pre ++ x :: suf) ((pre ++ x :: suf).length : Int) (pre.length : Int) b x.f0 x.f1 x.f2) (goodEF m pre.getLast? (x :: suf) && fin) := by
   intro b he hb
   refine Ev.succ ?_
   simp only [spec_GoodEdges.j1, hb, if_true]
   refine Ev.some_ ?_
   cases pre.getLast? <;> simp [goodEF, he]
  by_cases h1 : 0 ≤ x.f0 ∧ x.f0 ≤ m
  ·simp only [h1, and_self, decide_true, if_true]
   by_cases h2 : 0 ≤ x.f1 ∧ x.f1 ≤ m
   ·simp only [h2, and_self, decide_true, if_true]
    by_cases h3 : x.f0 ≥ x.f1
    ·simp only [if_pos h3]
     refine bad true ?_ rfl
     unfold isEdge; simp only [decide_eq_false_iff_not]; omega
    ·simp only [if_neg h3]
     by_cases h4 : 1 ≤ x.f2 ∧ x.f2 ≤ 100
     ·have he : isEdge m x = true := by rw [isEdge_iff]; omega
      simp only [h4, and_self, decide_true, Bool.not_true]
      refine Ev.succ ?_
      simp only [spec_GoodEdges.j1, Bool.false_eq_true, if_false]
      rw [wrap_id (x := (pre.length : Int) + 1) (by omega) (by omega)]
      rcases nil_or_snoc pre with rfl | ⟨pre', y, rfl⟩
      ·simp only [if_neg (show ¬ (([] : List S79).length : Int) > 0 by simp)]
       have e : goodEF m ([] : List S79).getLast? (x :: suf) = goodEF m (some x) suf := by simp [goodEF, he]
       rw [e]
       exact h
      ·have hy : rd_T79 ((pre' ++ [y]) ++ x :: suf) (((pre' ++ [y]).length : Int) - 1) = y := by
        rw [show ((pre' ++ [y]) ++ x :: suf) = pre' ++ y :: (x :: suf) by simp, show (((pre' ++ [y]).length : Int) - 1) = (pre'.length : Int) by simp]
        exact rdEdge_mid _ _ _
       have q0 : (((pre' ++ [y]).length : Int)) > 0 := by simp <;> omega
       rw [wrap_id (x := ((pre' ++ [y]).length : Int) - 1) (by omega) (by omega)]
       simp only [if_pos q0, if_pos (show 0 ≤ ((pre' ++ [y]).length : Int) - 1 by omega), if_pos (show ((pre' ++ [y]).length : Int) - 1 < (((pre' ++ [y]) ++ x :: suf).length : Int) by omega), hy]
       have e : goodEF m (pre' ++ [y]).getLast? (x :: suf) = (edgeLt y x && goodEF m (some x) suf) := by simp [goodEF, he]
       rw [e]
       by_cases g1 : y.f0 > x.f0
       ·simp only [if_pos g1]
        refine Ev.some_ ?_
        have : edgeLt y x = false := by unfold edgeLt; simp only [decide_eq_false_iff_not]; omega
        rw [this]; rfl
       ·simp only [if_neg g1]
        by_cases g2 : y.f0 = x.f0
        ·simp only [if_pos g2]
         by_cases g3 : y.f1 ≥ x.f1
         ·simp only [if_pos g3]
          refine Ev.some_ ?_
          have : edgeLt y x = false := by unfold edgeLt; simp only [decide_eq_false_iff_not]; omega
          rw [this]; rfl
         ·simp only [if_neg g3]
          have : edgeLt y x = true := by unfold edgeLt; simp only [decide_eq_true_eq]; omega
          rw [this, Bool.true_and]
          exact h
        ·simp only [if_neg g2]
         have : edgeLt y x = true := by unfold edgeLt; simp only [decide_eq_true_eq]; omega
         rw [this, Bool.true_and]
         exact h
     ·simp only [h4, decide_false, Bool.not_false]
      refine bad true ?_ rfl
      unfold isEdge; simp only [decide_eq_false_iff_not]; omega
   ·simp only [h2, decide_false, Bool.false_eq_true, if_false]
    refine bad true ?_ rfl
    unfold isEdge; simp only [decide_eq_false_iff_not]; omega
  ·simp only [h1, decide_false, Bool.false_eq_true, if_false]
   refine bad true ?_ rfl
   unfold isEdge; simp only [decide_eq_false_iff_not]; omega
theorem specGoodE_ev (n : Int) (l : List S79) (hl : l.length ≤ 1048576) : Ev (fun k => spec_GoodEdges.f k n l) (goodE n l) := by
 unfold spec_GoodEdges.f
 exact specGoodE_l n l [] (by simp <;> omega)
theorem implGoodE_l (n : Int) (hm : wrap64 (n - 1) ≤ 9223372036854775807) (suf : List S79) : ∀ (pre : List S79), (pre.length : Int) + suf.length ≤ 1099511627776 → (∀ y, pre.getLast? = some y → isEdge (wrap64 (n - 1)) y = true) →
  Ev (fun k => impl_GoodEdges.l0 k n (pre ++ suf) (pre ++ suf) ((pre ++ suf).length : Int) (pre.length : Int)) (goodEF (wrap64 (n - 1)) pre.getLast? suf && (decide (1 ≤ n ∧ n ≤ 12) && decide ((pre ++ suf).length ≤ 40))) := by
 induction suf with
 | nil =>
  intro pre hb _
  refine Ev.succ ?_
  simp only [impl_GoodEdges.l0]
  simp only [if_neg (show ¬ (pre.length : Int) < ((pre ++ ([] : List S79)).length : Int) by simp), impl_isSpots.f, implIn, Option.bind_some]
  have : goodEF (wrap64 (n - 1)) pre.getLast? [] = true := by cases pre.getLast? <;> rfl
  rw [this, Bool.true_and]
  by_cases h : 1 ≤ n ∧ n ≤ 12
  ·simp only [h, and_self, decide_true, if_true, Bool.true_and]
   refine Ev.some_ ?_
   congr 1
   simp only [eq_iff_iff]
   omega
  ·simp only [h, decide_false, Bool.false_eq_true, if_false, Bool.false_and]
   exact Ev.now _
 | cons x suf ih =>
  intro pre hb hlast
  simp only [List.length_cons] at hb
  have c1 : (pre.length : Int) < ((pre ++ x :: suf).length : Int) := by simp <;> omega
  have c0 : (0 : Int) ≤ (pre.length : Int) := by omega
  have h := ih (pre ++ [x]) (by simp <;> omega)
  rw [← app_one, len_one, List.getLast?_concat] at h
  refine Ev.succ ?_
  simp only [impl_GoodEdges.l0]
  simp only [if_pos c1, if_pos c0, rdEdge_mid, implIn, Option.bind_some]
  generalize wrap64 (n - 1) = m at h hm hlast ⊢
  generalize hfin : (decide (1 ≤ n ∧ n ≤ 12) && decide ((pre ++ x :: suf).length ≤ 40)) = fin at h ⊢
  have bad : isEdge m x = false → Ev (fun k => some false) (goodEF m pre.getLast? (x :: suf) && fin) := by
   intro he
   refine Ev.some_ ?_
   cases pre.getLast? <;> simp [goodEF, he]
  by_cases h1 : 0 ≤ x.f0 ∧ x.f0 ≤ m
  ·simp only [h1, and_self, decide_true, if_true]
   by_cases h2 : 0 ≤ x.f1 ∧ x.f1 ≤ m
   ·simp only [h2, and_self, decide_true, if_true]
    by_cases h3 : x.f0 ≥ x.f1
    ·simp only [if_pos h3]
     refine bad ?_
     unfold isEdge; simp only [decide_eq_false_iff_not]; omega
    ·simp only [if_neg h3]
     by_cases h4 : 1 ≤ x.f2 ∧ x.f2 ≤ 100
     ·have he : isEdge m x = true := by rw [isEdge_iff]; omega
      have h := h (fun y hy => by cases hy; exact he)
      simp only [h4, and_self, decide_true, if_true]
      rw [wrap_id (x := (pre.length : Int) + 1) (by omega) (by omega)]
      rcases nil_or_snoc pre with rfl | ⟨pre', y, rfl⟩
      ·simp only [if_neg (show ¬ (([] : List S79).length : Int) > 0 by simp)]
       have e : goodEF m ([] : List S79).getLast? (x :: suf) = goodEF m (some x) suf := by simp [goodEF, he]
       rw [e]
       exact h
      ·have hy : rd_T79 ((pre' ++ [y]) ++ x :: suf) (((pre' ++ [y]).length : Int) - 1) = y := by
        rw [show ((pre' ++ [y]) ++ x :: suf) = pre' ++ y :: (x :: suf) by simp, show (((pre' ++ [y]).length : Int) - 1) = (pre'.length : Int) by simp]
        exact rdEdge_mid _ _ _
       have hye := (isEdge_iff m y).1 (hlast y (by simp))
       have hxe := (isEdge_iff m x).1 he
       have q0 : (((pre' ++ [y]).length : Int)) > 0 := by simp <;> omega
       rw [wrap_id (x := ((pre' ++ [y]).length : Int) - 1) (by omega) (by omega)]
       simp only [if_pos q0, if_pos (show 0 ≤ ((pre' ++ [y]).length : Int) - 1 by omega), if_pos (show ((pre' ++ [y]).length : Int) - 1 < (((pre' ++ [y]) ++ x :: suf).length : Int) by omega), hy]
       have e : goodEF m (pre' ++ [y]).getLast? (x :: suf) = (edgeLt y x && goodEF m (some x) suf) := by simp [goodEF, he]
       rw [e]
       have eb : impl_byEnds.f y.f0 y.f1 y.f2 x.f0 x.f1 x.f2 = some (if y.f0 = x.f0 then y.f1 - x.f1 else y.f0 - x.f0) := by
        unfold impl_byEnds.f
        split
        ·rw [wrap_id (by omega) (by omega)]
        ·rw [wrap_id (by omega) (by omega)]
       simp only [eb, Option.bind_some]
       by_cases g : edgeLt y x = true
       ·have g' : (y.f0 < x.f0 ∨ y.f0 = x.f0 ∧ y.f1 < x.f1) := by unfold edgeLt at g; simpa only [decide_eq_true_eq] using g
        rw [g, Bool.true_and]
        simp only [if_neg (show ¬ (if y.f0 = x.f0 then y.f1 - x.f1 else y.f0 - x.f0) ≥ 0 by split <;> omega)]
        exact h
       ·have g' : ¬ (y.f0 < x.f0 ∨ y.f0 = x.f0 ∧ y.f1 < x.f1) := by unfold edgeLt at g; simpa only [decide_eq_true_eq] using g
        simp only [if_pos (show (if y.f0 = x.f0 then y.f1 - x.f1 else y.f0 - x.f0) ≥ 0 by split <;> omega)]
        refine Ev.some_ ?_
        rw [Bool.not_eq_true] at g
        rw [g]; rfl
     ·simp only [h4, decide_false, Bool.false_eq_true, if_false]
      refine bad ?_
      unfold isEdge; simp only [decide_eq_false_iff_not]; omega
   ·simp only [h2, decide_false, Bool.false_eq_true, if_false]
    refine bad ?_
    unfold isEdge; simp only [decide_eq_false_iff_not]; omega
  ·simp only [h1, decide_false, Bool.false_eq_true, if_false]
   refine bad ?_
   unfold isEdge; simp only [decide_eq_false_iff_not]; omega
theorem wrap_top (x : Int) : -9223372036854775808 ≤ wrap64 x ∧ wrap64 x ≤ 9223372036854775807 := by unfold wrap64; omega
theorem implGoodE_ev (n : Int) (l : List S79) (hl : l.length ≤ 1048576) : Ev (fun k => impl_GoodEdges.f k n l) (goodE n l) := by
 unfold impl_GoodEdges.f
 exact implGoodE_l n (wrap_top _).2 l [] (by simp <;> omega) (fun y hy => by simp at hy)
/-- What good edges are. -/
theorem goodE_n {n : Int} {l : List S79} (h : goodE n l = true) : 1 ≤ n ∧ n ≤ 12 ∧ l.length ≤ 40 := by
 unfold goodE at h
 simp only [Bool.and_eq_true, decide_eq_true_eq] at h
 exact ⟨h.2.1.1, h.2.1.2, h.2.2⟩
theorem goodEF_all {m : Int} : ∀ (l : List S79) (o : Option S79), goodEF m o l = true → ∀ x ∈ l, isEdge m x = true
 | [], _, _, x, hx => by simp at hx
 | y :: r, o, h, x, hx => by
  have h2 : isEdge m y = true ∧ goodEF m (some y) r = true := by
   cases o with
   | none => simpa [goodEF] using h
   | some z =>
    simp only [goodEF, Bool.and_eq_true] at h
    exact ⟨h.1, h.2.2⟩
  rcases List.mem_cons.1 hx with rfl | hx
  ·exact h2.1
  ·exact goodEF_all r _ h2.2 x hx
theorem goodE_edge {n : Int} {l : List S79} (h : goodE n l = true) : ∀ x ∈ l, 0 ≤ x.f0 ∧ x.f0 < x.f1 ∧ x.f1 < n ∧ 1 ≤ x.f2 ∧ x.f2 ≤ 100 := by
 have hn := goodE_n h
 intro x hx
 unfold goodE at h
 simp only [Bool.and_eq_true] at h
 have := (isEdge_iff _ _).1 (goodEF_all l none h.1 x hx)
 rw [wrap_id (by omega) (by omega)] at this
 omega
end Go.Proofs.Ytedegfbheihopaa.P

namespace Go.Proofs.Ytedegfbheihopaa.P
open Go.RowKit Go.Proofs.YtedegfbheihopaaW.PrintWords Go.Proofs.YtedegfbheihopaaW.PrintLast
set_option linter.unusedVariables false
set_option linter.unusedSimpArgs false
/-- The spots' own numbers. -/
def own0 (n : Nat) : List Int := (List.range n).map fun (i : Nat) => (i : Int)
theorem own0_len (n : Nat) : (own0 n).length = n := by simp [own0]
end Go.Proofs.Ytedegfbheihopaa.P

namespace Go.Proofs.Ytedegfbheihopaa.P
open Go.RowKit Go.Proofs.YtedegfbheihopaaW.PrintWords Go.Proofs.YtedegfbheihopaaW.PrintLast
set_option linter.unusedVariables false
set_option linter.unusedSimpArgs false
-- sweeps over a list of numbers; the least of two
theorem least_is (a b : Int) : spec_l1Least.f a b = some (min a b) := by
 unfold spec_l1Least.f
 split
 ·rw [Int.min_eq_left (by omega)]
 ·rw [Int.min_eq_right (by omega)]
theorem mn_is (a b : Int) : mn a b = min a b := by
 unfold mn
 split
 ·rw [Int.min_eq_right (by omega)]
 ·rw [Int.min_eq_left (by omega)]
theorem own0_succ (n : Nat) : own0 (n + 1) = own0 n ++ [(n : Int)] := by
 unfold own0
 rw [List.range_succ, List.map_append]
 rfl
theorem mx_is (a b : Int) : mx a b = max a b := by
 unfold mx
 split <;> omega
theorem own0_mem (n : Nat) (x : Int) : x ∈ own0 n ↔ 0 ≤ x ∧ x < n := by
 unfold own0
 rw [List.mem_map]
 constructor
 ·rintro ⟨i, hi, rfl⟩
  have := List.mem_range.1 hi
  omega
 ·intro ⟨h0, h1⟩
  exact ⟨x.toNat, List.mem_range.2 (by omega), by omega⟩
theorem own0_sorted : ∀ (n : Nat), (own0 n).Pairwise (· < ·)
 | 0 => by simp [own0]
 | n + 1 => by
  rw [own0_succ]
  refine List.pairwise_append.2 ⟨own0_sorted n, by simp, fun a ha b hb => ?_⟩
  have := (own0_mem n a).1 ha
  simp only [List.mem_singleton] at hb
  omega
end Go.Proofs.Ytedegfbheihopaa.P

namespace Go.Proofs.Ytedegfbheihopaa.P
open Go.RowKit Go.Proofs.YtedegfbheihopaaW.PrintWords Go.Proofs.YtedegfbheihopaaW.PrintLast
set_option linter.unusedVariables false
set_option linter.unusedSimpArgs false
-- one round of shortening, both sides
def relStep (old out : List Int) (e : S79) : List Int := (out.set e.f0.toNat (min (rd out e.f0) (wrap64 (rd old e.f1 + e.f2)))).set e.f1.toNat (min (rd (out.set e.f0.toNat (min (rd out e.f0) (wrap64 (rd old e.f1 + e.f2)))) e.f1) (wrap64 (rd old e.f0 + e.f2)))
theorem relStep_len (old out : List Int) (e : S79) : (relStep old out e).length = out.length := by simp [relStep]
def relaxM (l : List S79) (old : List Int) : List Int := l.foldl (relStep old) old
theorem relFold_len (old : List Int) : ∀ (l : List S79) (out : List Int), (l.foldl (relStep old) out).length = out.length
 | [], _ => rfl
 | e :: l, out => by rw [List.foldl_cons, relFold_len old l, relStep_len]
theorem relaxM_len (l : List S79) (old : List Int) : (relaxM l old).length = old.length := relFold_len old l old
theorem specRelax_l (old : List Int) (suf : List S79) : ∀ (pre : List S79) (out : List Int), ((pre ++ suf).length : Int) ≤ 1099511627776 → out.length = old.length → (∀ x ∈ suf, 0 ≤ x.f0 ∧ x.f0 < x.f1 ∧ x.f1 < old.length) →
  Ev (fun k => spec_l9Relax.l0 k old out (pre ++ suf) ((pre ++ suf).length : Int) pre.length) (suf.foldl (relStep old) out) := by
 induction suf with
 | nil =>
  intro pre out h ho hx
  refine Ev.succ ?_
  simp only [spec_l9Relax.l0, List.append_nil, Int.lt_irrefl, if_false, List.foldl_nil]
  exact Ev.now _
 | cons e suf ih =>
  intro pre out h ho hx
  refine Ev.succ ?_
  rw [len_mid] at h ⊢
  have hs := relStep_len old out e
  have := ih (pre ++ [e]) (relStep old out e) (by rw [← app_one, len_mid]; exact h) (by omega) (fun x hm => hx x (List.mem_cons_of_mem _ hm))
  rw [← app_one, len_mid, len_one] at this
  have he := hx e (List.mem_cons_self ..)
  simp only [spec_l9Relax.l0, List.foldl_cons]
  simp only [if_pos (show ((pre.length : Int) < pre.length + suf.length + 1) by omega), if_pos (show (0 : Int) ≤ pre.length by omega), len_mid, rdEdge_mid, wrap_id (show (-9223372036854775808 : Int) ≤ pre.length + 1 by omega) (show ((pre.length : Int) + 1 ≤ 9223372036854775807) by omega), if_pos he.1, if_pos (show e.f0 < (out.length : Int) by omega), if_pos (show 0 ≤ e.f1 by omega), if_pos he.2.2, if_pos (show e.f1 < (out.length : Int) by omega), if_pos (show e.f0 < (old.length : Int) by omega), least_is, Option.bind_some]
  exact this
theorem implRelax_l (old : List Int) (suf : List S79) : ∀ (pre : List S79) (out : List Int), ((pre ++ suf).length : Int) ≤ 1099511627776 → out.length = old.length → (∀ x ∈ suf, 0 ≤ x.f0 ∧ x.f0 < x.f1 ∧ x.f1 < old.length) →
  Ev (fun k => impl_relaxed.l0 k old out (pre ++ suf) ((pre ++ suf).length : Int) pre.length) (suf.foldl (relStep old) out) := by
 induction suf with
 | nil =>
  intro pre out h ho hx
  refine Ev.succ ?_
  simp only [impl_relaxed.l0, List.append_nil, Int.lt_irrefl, if_false, List.foldl_nil]
  exact Ev.now _
 | cons e suf ih =>
  intro pre out h ho hx
  refine Ev.succ ?_
  rw [len_mid] at h ⊢
  have hs := relStep_len old out e
  have := ih (pre ++ [e]) (relStep old out e) (by rw [← app_one, len_mid]; exact h) (by omega) (fun x hm => hx x (List.mem_cons_of_mem _ hm))
  rw [← app_one, len_mid, len_one] at this
  have he := hx e (List.mem_cons_self ..)
  simp only [impl_relaxed.l0, List.foldl_cons]
  simp only [if_pos (show ((pre.length : Int) < pre.length + suf.length + 1) by omega), if_pos (show (0 : Int) ≤ pre.length by omega), len_mid, rdEdge_mid, wrap_id (show (-9223372036854775808 : Int) ≤ pre.length + 1 by omega) (show ((pre.length : Int) + 1 ≤ 9223372036854775807) by omega), if_pos he.1, if_pos (show e.f0 < (out.length : Int) by omega), if_pos (show 0 ≤ e.f1 by omega), if_pos he.2.2, if_pos (show e.f1 < (out.length : Int) by omega), if_pos (show e.f0 < (old.length : Int) by omega), mn_is, Option.bind_some]
  exact this
theorem specRelax_ev (l : List S79) (old : List Int) (hb : (l.length : Int) ≤ 1099511627776) (ho : old.length ≤ 1048576) (hx : ∀ x ∈ l, 0 ≤ x.f0 ∧ x.f0 < x.f1 ∧ x.f1 < old.length) : Ev (fun k => spec_l9Relax.f k l old) (relaxM l old) := by
 unfold spec_l9Relax.f
 simp only [Option.bind_some, List.length_nil, Nat.zero_add, List.nil_append, if_pos (show old.length < 17592186044416 by omega)]
 have := specRelax_l old l [] old hb rfl hx
 exact this
theorem implRelax_ev (l : List S79) (old : List Int) (hb : (l.length : Int) ≤ 1099511627776) (ho : old.length ≤ 1048576) (hx : ∀ x ∈ l, 0 ≤ x.f0 ∧ x.f0 < x.f1 ∧ x.f1 < old.length) : Ev (fun k => impl_relaxed.f k l old) (relaxM l old) := by
 unfold impl_relaxed.f
 simp only [Option.bind_some, List.length_nil, Nat.zero_add, List.nil_append, if_pos (show old.length < 17592186044416 by omega)]
 have := implRelax_l old l [] old hb rfl hx
 exact this
end Go.Proofs.Ytedegfbheihopaa.P
