/- Functions, walks and plain lemmas that the law FnLeastTree reaches, part 5. -/
import Derived.Test.YtedegfbheihopaaCFnLeastTree4
import Derived.Below
import Derived.Deep.Draws
import Derived.Deep.AppendLies
import Derived.Maps.AppendAt
import Derived.OwnWalk
import Derived.Laws.BytesArg
import Derived.Laws.MakeOwn
import Derived.Laws.OwnMore
import Derived.Deep.OwnRows
import Derived.Tactics
import Derived.Lib.ConvBytes
import Derived.Laws.Slices
import Derived.WalkKit
import Derived.KernelRfl
import Derived.RowKit3
import Derived.Deep.LoopGhost
import Derived.Deep.QuietTactic
import Derived.BigQuiet
import Derived.WideLaws
import Derived.Deep.DeepCutAuto
import Derived.Deep.CutBlock
import Derived.Deep.RegionHeld3
import Derived.Laws.Rows
import Derived.Lib.AppendStr
import Derived.ArgAppend
import Derived.Laws.IdiomCopy
import Derived.OrdersHeld
import Derived.Laws.BitsLemmas
import Derived.RowKit
import Derived.WalkSpells
import Derived.Lib.SliceRun
import Derived.Shelf.Abstract
import Derived.Maps.OwnSet
import Derived.Maps.OwnOps
import Derived.ProofKit
import Derived.OpenShut
import Derived.ShutString
import Derived.ChangeOld
import Derived.SizedLaws
namespace Go.Proofs.Ytedegfbheihopaa.P
open Go.RowKit Go.Proofs.YtedegfbheihopaaW.PrintWords Go.Proofs.YtedegfbheihopaaW.PrintLast Go.Proofs.YtedegfbheihopaaW.PrintMore
attribute [local go_sem] max2_int min2_int max_two min_two max_three min_three max_four min_four   -- for this text's walks alone
set_option linter.unusedVariables false
set_option linter.unusedSimpArgs false
def impl_hops.l0:Nat→List (S79)→Int→List Int→List Int→List Int→Int→Int→Option (List Int)
 | 0,_,_,_,_,_,_,_=>none
 |k+1,x1,x2,x3,x9,x15,x16,x17=>if x17<x16 then(if 0≤x17 then(if x17< (x15.length:Int) then(if 0≤x2 then(if x2< (x3.length:Int) then(if (rd x3 x2)< 100000 then(if 0≤ (rd x15 x17) then(if (rd x15 x17)< (x3.length:Int) then((impl_cost.f k x1 x2 (rd x15 x17)).bind fun t562=>(if (wrap64 ((rd x3 (rd x15 x17))+t562))= (rd x3 x2) then(if x9.length< 17592186044416 then(impl_hops.l0 k x1 x2 x3 (x9++ [rd x15 x17]) x15 x16 (wrap64 (x17+1))) else(none)) else(impl_hops.l0 k x1 x2 x3 x9 x15 x16 (wrap64 (x17+1))))) else(none)) else(none)) else(impl_hops.l0 k x1 x2 x3 x9 x15 x16 (wrap64 (x17+1)))) else(none)) else(none)) else(none)) else(none)) else(some x9)
def impl_hops.f (k:Nat) (a0:Int) (l1:List (S79)) (a2:Int) (l3:List Int):Option (List Int):=(impl_near.f k a0 l1 a2).bind fun t556=>(impl_hops.l0 k l1 a2 l3 ([] :List Int) t556 (t556.length:Int) 0)
def impl_hops.T5:Bool × List (List Nat × List Nat):=(true,[([],[]),([],[]),([0,1],[0,1]),([2],[2]),([3],[3]),([4],[4]),([5],[5]),([5],[5]),([6,7,5],[5,6,7]),([8,5],[5,8]),([5],[5]),([5],[5]),([5],[5]),([10,11,12,5,5],[5,10,11,12]),([9,13,5],[5,9,13]),([5],[5]),([5],[5]),([15,16,5],[5,15,16]),([17,5],[5,17]),([14,18,5],[5,14,18]),([5,19],[5,19])])
def impl_hops.B5:List Nat:= [0,0,3,7,15,31,63,63,255,511,63,63,63,7231,16383,63,63,98367,229439,524287,1048575]
theorem impl_hops.tab5:rtab .any (opsOf Try.f98 5)=impl_hops.T5:=by kernel_rfl
theorem impl_hops.bits5:waitsOk impl_hops.T5.2 impl_hops.B5=true:=by kernel_rfl
set_option maxHeartbeats 8000000 in
set_option maxRecDepth 100000 in
theorem impl_hops.calls (k:Nat) (a0:Int) (A1:Option Addr) (c1:Nat) (l1:List (S79)) (a2:Int) (A3:Option Addr) (c3:Nat) (l3:List Int) (r:List Int) (w:World) (hr1:Kd.C k79 w A1 l1.length l1) (hc1:l1.length≤c1) (hr3:Kd.C (Kd.int .i64) w A3 l3.length l3) (hc3:l3.length≤c3) (h:impl_hops.f k a0 l1 a2 l3=some r):
  Calls Try.prog 98 #[.int .i64 a0,.slice A1 l1.length c1,.int .i64 a2,.slice A3 l3.length c3] w fun e w'=> ∃ v0_:Value,e= .returned (v0_)∧Kd.R (Kd.int .i64) 3 w' w.heap.size (fun _=>True) v0_ r∧Below w.heap.size w w':=by
 have HR1:=Aside0.mk hr1
 have HC1:=Aside0.mk hc1
 clear hr1 hc1
 have HR3:=Aside0.mk hr3
 have HC3:=Aside0.mk hc3
 clear hr3 hc3
 have HB:=Aside0.mk (Below.refl w.heap.size w)
 have H:((impl_near.f k a0 l1 a2).bind fun t556=>(impl_hops.l0 k l1 a2 l3 ([] :List Int) t556 (t556.length:Int) 0))=some r:=h
 clear h
 replace H:=Option.bind_eq_some_iff.mp H
 obtain⟨t556,A50,H⟩:=H
 replace H:(impl_hops.l0 k l1 a2 l3 ([] :List Int) t556 (t556.length:Int) 0)=some r:=H
 have A5:=Aside0.mk A50
 clear A50
 have H':=Aside0.mk H
 clear H
 go_enter Try.func98,Try.ntmps98
 go_wp2_with (first|((with_reducible refine gate_callee (f:=107) rfl ?_);refine goesL_ (some 15) rfl rfl Try.func107 (by kernel_rfl) rfl #[.int .i64 a0,.slice A1 l1.length c1,.int .i64 a2] rfl zq2 ?_;(with_reducible refine(impl_near.calls k a0 _ _ l1 a2 t556 _ ?side1 ?side2 A5.out).mono ?_);(case side1=>exact zcc (HR1.out));(case side2=>exact HC1.out);rintro e w6 ⟨v557,rfl,ho0,hb⟩;refine⟨_,rfl,?_⟩;have HO558:=Aside0.mk (Kd.R_lower ho0 (below_size (by exact zk1 HB)));replace HB:=Aside0.mk (below_step (by exact zk1 HB) hb);(try clear hb);(try clear hb2);(try clear hk);(try clear hi);(try clear ho0);obtain⟨Ao7,co7,eo7⟩:=Kd.R_slice HO558.out;subst eo7))
 go_loopg [9,17] k (fun kq v9 v17 w'=> ∃ (x9_1:List Int) (x17_1:Int),v17= .int .i64 x17_1∧Aside0 (impl_hops.l0 kq l1 a2 l3 x9_1 t556 (t556.length:Int) x17_1=some r)∧Aside0 (kq≤k)∧Aside0 (Kd.R (Kd.int .i64) 3 w' w.heap.size (fun k_=>some k_≠ ((.slice Ao7 t556.length co7):Value).ownBlock) v9 x9_1)∧Aside0 (Kd.R (Kd.int .i64) 3 w' w.heap.size (fun k_=>some k_≠ (v9:Value).ownBlock) (.slice Ao7 t556.length co7) t556)∧Aside0 (Below w.heap.size w w'))
 case atStart=>exact⟨(([] :List Int)),(0),zrs,H',⟨Nat.le_refl _⟩,⟨by first|exact Kd.R_nil _ _ _ _ _|exact Kd.N_nil _ _ _ _ _|exact Kd.V_nil _ _ _ _ _|exact Kd.Q_nil _ _ _ _ _|exact Kd.S_nil _ _ _ _ _⟩,⟨by(with_reducible repeat(first|apply Kd.R_alloc|apply Kd.R_drewN|apply Kd.R_drew));exact Kd.R_mono HO558.out (fun _ hk=>(by simp [Value.ownBlock]))⟩,⟨by exact zk1 HB⟩⟩
 case round=>
  clear H'
  try clear c1
  try clear p2
  try clear c3
  obtain⟨x9_1,x17_1,rfl,HA,HK1,HO_9,HO_15,HB⟩:=hrel
  cases gk with
  |zero=>exact absurd HA.out (by simp [impl_hops.l0])
  |succ k1=>
   have H:=HA.out
   clear HA
   simp only [impl_hops.l0] at H
   by_cases c8:x17_1< (t556.length:Int)
   ·rw [if_pos c8] at H
    have c8b0:decide (x17_1< (t556.length:Int))=true:=decide_eq_true c8
    clear c8
    by_cases c9: 0≤x17_1
    case neg=>exact znn c9 H
    rw [if_pos c9] at H
    have c9b0:decide (0≤x17_1)=true:=decide_eq_true c9
    clear c9
    by_cases c10:x17_1< (t556.length:Int)
    case neg=>exact znn c10 H
    rw [if_pos c10] at H
    have c10b0:decide (x17_1< (t556.length:Int))=true:=decide_eq_true c10
    clear c10
    by_cases c11: 0≤a2
    case neg=>exact znn c11 H
    rw [if_pos c11] at H
    have c11b0:decide (0≤a2)=true:=decide_eq_true c11
    clear c11
    by_cases c12:a2< (l3.length:Int)
    case neg=>exact znn c12 H
    rw [if_pos c12] at H
    have c12b0:decide (a2< (l3.length:Int))=true:=decide_eq_true c12
    clear c12
    by_cases c13:(rd l3 a2)< 100000
    ·rw [if_pos c13] at H
     have c13b0:decide ((rd l3 a2)< 100000)=true:=decide_eq_true c13
     clear c13
     by_cases c14: 0≤ (rd t556 x17_1)
     case neg=>exact znn c14 H
     rw [if_pos c14] at H
     have c14b0:decide (0≤ (rd t556 x17_1))=true:=decide_eq_true c14
     clear c14
     by_cases c15:(rd t556 x17_1)< (l3.length:Int)
     case neg=>exact znn c15 H
     rw [if_pos c15] at H
     have c15b0:decide ((rd t556 x17_1)< (l3.length:Int))=true:=decide_eq_true c15
     clear c15
     replace H:=Option.bind_eq_some_iff.mp H
     obtain⟨t562,A160,H⟩:=H
     replace H:(if (wrap64 ((rd l3 (rd t556 x17_1))+t562))= (rd l3 a2) then(if x9_1.length< 17592186044416 then(impl_hops.l0 k1 l1 a2 l3 (x9_1++ [rd t556 x17_1]) t556 (t556.length:Int) (wrap64 (x17_1+1))) else(none)) else(impl_hops.l0 k1 l1 a2 l3 x9_1 t556 (t556.length:Int) (wrap64 (x17_1+1))))=some r:=H
     have A16:=Aside0.mk A160
     clear A160
     by_cases c17:(wrap64 ((rd l3 (rd t556 x17_1))+t562))= (rd l3 a2)
     ·rw [if_pos c17] at H
      have c17b0:((wrap64 ((rd l3 (rd t556 x17_1))+t562))== (rd l3 a2))=true:=beq_iff_eq.mpr c17
      have c17b1:((wrap64 ((rd l3 (rd t556 x17_1))+t562)) != (rd l3 a2))=false:=bne_eq_false_iff_eq.mpr c17
      clear c17
      by_cases c18:x9_1.length< 17592186044416
      case neg=>exact znn c18 H
      rw [if_pos c18] at H
      have LMc18:=Aside0.mk c18
      clear c18
      obtain⟨y564,hy564⟩ :∃ y_:List Int,y_= (x9_1++ [rd t556 x17_1]):=⟨_,rfl⟩
      replace H:(impl_hops.l0 k1 l1 a2 l3 y564 t556 (t556.length:Int) (wrap64 (x17_1+1)))=some r:=zfh hy564 H
      have Ny564:=Aside0.mk hy564
      clear hy564
      have H':=Aside0.mk H
      clear H
      have p559: 0≤ (x17_1:Int):=of_decide_eq_true zq1
      have q559:x17_1< (t556.length:Int):=of_decide_eq_true zq1
      obtain⟨ad559,e559,hx559_0⟩:=Kd.at_int (Kd.R_reads' HO_15.out).2.2 x17_1 p559 q559
      cases e559
      replace p559:=eq_true p559
      replace q559:=eq_true q559
      try go_wp2
      replace HO_9:=Aside0.mk (Kd.R_drew HO_9.out)
      replace HO_15:=Aside0.mk (Kd.R_drew HO_15.out)
      replace HB:=Aside0.mk (below_drew1 HB.out)
      have p560: 0≤ (a2:Int):=of_decide_eq_true zq1
      have q560:a2< (l3.length:Int):=of_decide_eq_true zq1
      obtain⟨ad560,e560,hx560_0⟩:=Kd.at_int HR3.out a2 p560 q560
      have hw560_0:=hx560_0
      cases e560
      replace hx560_0:=zhx HB hx560_0
      replace p560:=eq_true p560
      replace q560:=eq_true q560
      have p561: 0≤ ((rd t556 x17_1):Int):=of_decide_eq_true zq1
      have q561:(rd t556 x17_1)< (l3.length:Int):=of_decide_eq_true zq1
      obtain⟨ad561,e561,hx561_0⟩:=Kd.at_int HR3.out (rd t556 x17_1) p561 q561
      have hw561_0:=hx561_0
      obtain rfl:ad560=ad561:=(by injection e561)
      replace hx561_0:=zhx HB hx561_0
      replace p561:=eq_true p561
      replace q561:=eq_true q561
      have p563: 0≤ (a2:Int):=of_decide_eq_true zq1
      have q563:a2< (l3.length:Int):=of_decide_eq_true zq1
      obtain⟨ad563,e563,hx563_0⟩:=Kd.at_int HR3.out a2 p563 q563
      have hw563_0:=hx563_0
      obtain rfl:ad560=ad563:=(by injection e563)
      replace hx563_0:=zhx HB hx563_0
      replace p563:=eq_true p563
      replace q563:=eq_true q563
      refine start_ (n:=21) (S:=fun w'=>w'.cell? (ad560.add (a2).toNat)=some (.int .i64 (rd l3 a2))∧w'.cell? (ad560.add ((rd t556 x17_1)).toNat)=some (.int .i64 (rd l3 (rd t556 x17_1)))∧w'.cell? (ad560.add (a2).toNat)=some (.int .i64 (rd l3 a2))) (ds:= []) (mb' 21 0) (by kernel_rfl) rfl rfl ⟨((zhx HB hw560_0).trans rfl),((zhx HB hw561_0).trans rfl),((zhx HB hw563_0).trans rfl)⟩ (fun hHeld=>?_);refine with_tabW impl_hops.tab5 impl_hops.bits5 (fun HT_ HW_=>?_)
      generalize wr.drew=w19 at HO_9 HO_15 HB hx560_0 hx561_0 hx563_0 hHeld ⊢
      refine zp1 HT_ 0 21 (mb' 21 1) rfl ?_
      refine zp1 HT_ 1 22 (mb' 21 3) rfl ?_
      refine zp1 HT_ 2 23 (mb' 21 7) rfl ?_
      refine zt1 HT_ HW_ (v:=?_) (a':=?_) 3 24 (mb' 21 15) rfl ?_ hHeld ?_ ?_;rotate_left;(rintro w' ⟨s0,s1,s2⟩;go_simp;with_reducible rfl);rotate_left;exact zpa
      refine zp1 HT_ 4 25 (mb' 21 31) rfl ?_
      refine zp1 HT_ 5 26 (mb' 21 63) rfl ?_
      refine zp1 HT_ 6 27 (mb' 21 127) rfl ?_
      refine zp1 HT_ 7 28 (mb' 21 255) rfl ?_
      refine zp1 HT_ 8 29 (mb' 21 511) rfl ?_
      refine zp1 HT_ 10 31 (mb' 21 1535) rfl ?_
      refine zp1 HT_ 11 32 (mb' 21 3583) rfl ?_
      refine zp1 HT_ 12 33 (mb' 21 7679) rfl ?_
      refine zp1 HT_ 15 36 (mb' 21 40447) rfl ?_
      refine zp1 HT_ 16 37 (mb' 21 105983) rfl ?_
      refine zp1 HT_ 17 38 (mb' 21 237055) rfl ?_
      refine zt1 HT_ HW_ (v:=?_) (a':=?_) 9 30 (mb' 21 237567) rfl ?_ hHeld ?_ ?_;rotate_left;(rintro w' ⟨s0,s1,s2⟩;go_simp;with_reducible rfl);rotate_left;exact zpa
      refine zt1 HT_ HW_ (v:=?_) (a':=?_) 18 39 (mb' 21 499711) rfl ?_ hHeld ?_ ?_;rotate_left;(rintro w' ⟨s0,s1,s2⟩;go_simp;with_reducible rfl);rotate_left;exact zpa
      refine one_ (i:=13) (N:=some 34) (mb' 21 507903) rfl rfl (one_of HT_.out (by kernel_rfl)) (by decide) (fun K hK=>?_)
      refine goes_ Try.func70 (by kernel_rfl) rfl #[.slice A1 l1.length c1,.int .i64 a2,.int .i64 (rd t556 x17_1)] (by rfl) rfl rfl zq2 ?_
      with_reducible refine(impl_cost.calls k1 _ _ l1 a2 (rd t556 x17_1) t562 _ ?side1 ?side2 A16.out).mono ?_
      (case side1=>exact zcc ((Kd.C_below HR1.out HB.out)))
      (case side2=>exact HC1.out)
      rintro e w20 ⟨rfl,hb⟩
      refine⟨_,rfl,?_⟩
      replace HO_9:=Aside0.mk (Kd.R_below (zq4 HO_9) hb)
      replace HO_15:=Aside0.mk (Kd.R_below (zq4 HO_15) hb)
      replace HB:=Aside0.mk (below_step (by exact zk1 HB) hb)
      (try clear hb)
      (try clear hb2)
      (try clear hk)
      (try clear hi)
      refine hK.out _ _ ⟨((zhx HB hw560_0).trans rfl),((zhx HB hw561_0).trans rfl),((zhx HB hw563_0).trans rfl)⟩ (fun hHeld=>?_)
      clear hK K
      refine norm_ (a':=?_) ?_ ?_
      rotate_left
      ·show Act.put _ (some 34) _=_
       simp only [Act.put,List.setIfInBounds_toArray,List.set_cons_zero,List.set_cons_succ,i64_w,i32_w]
       rfl
      refine zp1 HT_ 14 35 (mb' 21 524287) rfl ?_
      refine zp1 HT_ 19 40 (mb' 21 1048575) rfl ?_
      refine zp1 HT_ 20 41 (mb' 21 2097151) rfl ?_
      refine done_ (done_of HT_.out (by kernel_rfl)) ?_
      try go_wp2_with (first|((with_reducible refine gate_builtin (b:= .append) (xs:= #[.tmp 42,.tmp 44]) rfl ?_);at_builtin;refine Kd.R_append (Kd.int .i64) (w0:=w) w.heap.size rfl (.tmp 42) (.tmp 44) 22 3 (.int .i64 0) 8 rfl Try.underlying22 info3 rfl (by decide) (by omega) u9 x9_1 (rd t556 x17_1) [.int .i64 (rd t556 x17_1)] (fun k_=>some k_≠ (.slice (some ad559) t556.length co7:Value).ownBlock) (fun _=>False) rfl rfl ?aP (fun _ hk=>hk.elim) ?aF ?aO ?aB ?aS ?aL ?_;(case aP=>exact rfl);(case aB=>exact(by exact zk1 HB));(case aF=>exact(fun k_ hk=>Kd.fresh' (Kd.R_lt (zq4 HO_15)) k_ hk));(case aO=>exact(zq4 HO_9));(case aS=>exact(below_size (by exact zk1 HB)));(case aL=>have:=LMc18.out;omega);intro v565 w21 ho hb hg hat;rw [← Ny564.out] at ho;have HO566:=Aside0.mk (ho);replace HO_15:=Aside0.mk (Kd.R_after (ok:=(fun _=>True)) (by(with_reducible repeat(first|apply Kd.R_alloc|apply Kd.R_drewN|apply Kd.R_drew));exact Kd.R_mono HO_15.out (fun _ hk=>⟨trivial,hk⟩)) hg hat);replace HB:=Aside0.mk (hb);clear HO_9;clear ho hb hg hat))
      go_roundg k1
      case measure=>have:=HK1.out;omega
      case rel=>exact⟨(y564),(wrap64 (x17_1+1)),zrs,H',⟨by have:=HK1.out;omega⟩,⟨zdr HO566⟩,⟨by(with_reducible repeat(first|apply Kd.R_alloc|apply Kd.R_drewN|apply Kd.R_drew));exact Kd.R_mono HO_15.out (fun _ hk=>hk.2)⟩,⟨by exact zk1 HB⟩⟩
     ·rw [if_neg c17] at H
      have c17b0:((wrap64 ((rd l3 (rd t556 x17_1))+t562))== (rd l3 a2))=false:=beq_eq_false_iff_ne.mpr c17
      have c17b1:((wrap64 ((rd l3 (rd t556 x17_1))+t562)) != (rd l3 a2))=true:=bne_iff_ne.mpr c17
      have H':=Aside0.mk H
      clear H
      have p559: 0≤ (x17_1:Int):=of_decide_eq_true zq1
      have q559:x17_1< (t556.length:Int):=of_decide_eq_true zq1
      obtain⟨ad559,e559,hx559_0⟩:=Kd.at_int (Kd.R_reads' HO_15.out).2.2 x17_1 p559 q559
      cases e559
      replace p559:=eq_true p559
      replace q559:=eq_true q559
      try go_wp2
      replace HO_9:=Aside0.mk (Kd.R_drew HO_9.out)
      replace HO_15:=Aside0.mk (Kd.R_drew HO_15.out)
      replace HB:=Aside0.mk (below_drew1 HB.out)
      have p560: 0≤ (a2:Int):=of_decide_eq_true zq1
      have q560:a2< (l3.length:Int):=of_decide_eq_true zq1
      obtain⟨ad560,e560,hx560_0⟩:=Kd.at_int HR3.out a2 p560 q560
      have hw560_0:=hx560_0
      cases e560
      replace hx560_0:=zhx HB hx560_0
      replace p560:=eq_true p560
      replace q560:=eq_true q560
      have p561: 0≤ ((rd t556 x17_1):Int):=of_decide_eq_true zq1
      have q561:(rd t556 x17_1)< (l3.length:Int):=of_decide_eq_true zq1
      obtain⟨ad561,e561,hx561_0⟩:=Kd.at_int HR3.out (rd t556 x17_1) p561 q561
      have hw561_0:=hx561_0
      obtain rfl:ad560=ad561:=(by injection e561)
      replace hx561_0:=zhx HB hx561_0
      replace p561:=eq_true p561
      replace q561:=eq_true q561
      have p563: 0≤ (a2:Int):=of_decide_eq_true zq1
      have q563:a2< (l3.length:Int):=of_decide_eq_true zq1
      obtain⟨ad563,e563,hx563_0⟩:=Kd.at_int HR3.out a2 p563 q563
      have hw563_0:=hx563_0
      obtain rfl:ad560=ad563:=(by injection e563)
      replace hx563_0:=zhx HB hx563_0
      replace p563:=eq_true p563
      replace q563:=eq_true q563
      refine start_ (n:=21) (S:=fun w'=>w'.cell? (ad560.add (a2).toNat)=some (.int .i64 (rd l3 a2))∧w'.cell? (ad560.add ((rd t556 x17_1)).toNat)=some (.int .i64 (rd l3 (rd t556 x17_1)))∧w'.cell? (ad560.add (a2).toNat)=some (.int .i64 (rd l3 a2))) (ds:= []) (mb' 21 0) (by kernel_rfl) rfl rfl ⟨((zhx HB hw560_0).trans rfl),((zhx HB hw561_0).trans rfl),((zhx HB hw563_0).trans rfl)⟩ (fun hHeld=>?_);refine with_tabW impl_hops.tab5 impl_hops.bits5 (fun HT_ HW_=>?_)
      generalize wr.drew=w22 at HO_9 HO_15 HB hx560_0 hx561_0 hx563_0 hHeld ⊢
      refine zp1 HT_ 0 21 (mb' 21 1) rfl ?_
      refine zp1 HT_ 1 22 (mb' 21 3) rfl ?_
      refine zp1 HT_ 2 23 (mb' 21 7) rfl ?_
      refine zt1 HT_ HW_ (v:=?_) (a':=?_) 3 24 (mb' 21 15) rfl ?_ hHeld ?_ ?_;rotate_left;(rintro w' ⟨s0,s1,s2⟩;go_simp;with_reducible rfl);rotate_left;exact zpa
      refine zp1 HT_ 4 25 (mb' 21 31) rfl ?_
      refine zp1 HT_ 5 26 (mb' 21 63) rfl ?_
      refine zp1 HT_ 6 27 (mb' 21 127) rfl ?_
      refine zp1 HT_ 7 28 (mb' 21 255) rfl ?_
      refine zp1 HT_ 8 29 (mb' 21 511) rfl ?_
      refine zp1 HT_ 10 31 (mb' 21 1535) rfl ?_
      refine zp1 HT_ 11 32 (mb' 21 3583) rfl ?_
      refine zp1 HT_ 12 33 (mb' 21 7679) rfl ?_
      refine zp1 HT_ 15 36 (mb' 21 40447) rfl ?_
      refine zp1 HT_ 16 37 (mb' 21 105983) rfl ?_
      refine zp1 HT_ 17 38 (mb' 21 237055) rfl ?_
      refine zt1 HT_ HW_ (v:=?_) (a':=?_) 9 30 (mb' 21 237567) rfl ?_ hHeld ?_ ?_;rotate_left;(rintro w' ⟨s0,s1,s2⟩;go_simp;with_reducible rfl);rotate_left;exact zpa
      refine zt1 HT_ HW_ (v:=?_) (a':=?_) 18 39 (mb' 21 499711) rfl ?_ hHeld ?_ ?_;rotate_left;(rintro w' ⟨s0,s1,s2⟩;go_simp;with_reducible rfl);rotate_left;exact zpa
      refine one_ (i:=13) (N:=some 34) (mb' 21 507903) rfl rfl (one_of HT_.out (by kernel_rfl)) (by decide) (fun K hK=>?_)
      refine goes_ Try.func70 (by kernel_rfl) rfl #[.slice A1 l1.length c1,.int .i64 a2,.int .i64 (rd t556 x17_1)] (by rfl) rfl rfl zq2 ?_
      with_reducible refine(impl_cost.calls k1 _ _ l1 a2 (rd t556 x17_1) t562 _ ?side1 ?side2 A16.out).mono ?_
      (case side1=>exact zcc ((Kd.C_below HR1.out HB.out)))
      (case side2=>exact HC1.out)
      rintro e w23 ⟨rfl,hb⟩
      refine⟨_,rfl,?_⟩
      replace HO_9:=Aside0.mk (Kd.R_below (zq4 HO_9) hb)
      replace HO_15:=Aside0.mk (Kd.R_below (zq4 HO_15) hb)
      replace HB:=Aside0.mk (below_step (by exact zk1 HB) hb)
      (try clear hb)
      (try clear hb2)
      (try clear hk)
      (try clear hi)
      refine hK.out _ _ ⟨((zhx HB hw560_0).trans rfl),((zhx HB hw561_0).trans rfl),((zhx HB hw563_0).trans rfl)⟩ (fun hHeld=>?_)
      clear hK K
      refine norm_ (a':=?_) ?_ ?_
      rotate_left
      ·show Act.put _ (some 34) _=_
       simp only [Act.put,List.setIfInBounds_toArray,List.set_cons_zero,List.set_cons_succ,i64_w,i32_w]
       rfl
      refine zp1 HT_ 14 35 (mb' 21 524287) rfl ?_
      refine zp1 HT_ 19 40 (mb' 21 1048575) rfl ?_
      refine zp1 HT_ 20 41 (mb' 21 2097151) rfl ?_
      refine done_ (done_of HT_.out (by kernel_rfl)) ?_
      try go_wp2
      go_roundg k1
      case measure=>have:=HK1.out;omega
      case rel=>exact⟨(x9_1),(wrap64 (x17_1+1)),zrs,H',⟨by have:=HK1.out;omega⟩,⟨zdr HO_9⟩,⟨zdr HO_15⟩,⟨by exact zk1 HB⟩⟩
    ·rw [if_neg c13] at H
     have c13b0:decide ((rd l3 a2)< 100000)=false:=decide_eq_false c13
     clear c13
     have H':=Aside0.mk H
     clear H
     have p559: 0≤ (x17_1:Int):=of_decide_eq_true zq1
     have q559:x17_1< (t556.length:Int):=of_decide_eq_true zq1
     obtain⟨ad559,e559,hx559_0⟩:=Kd.at_int (Kd.R_reads' HO_15.out).2.2 x17_1 p559 q559
     cases e559
     replace p559:=eq_true p559
     replace q559:=eq_true q559
     try go_wp2
     replace HO_9:=Aside0.mk (Kd.R_drew HO_9.out)
     replace HO_15:=Aside0.mk (Kd.R_drew HO_15.out)
     replace HB:=Aside0.mk (below_drew1 HB.out)
     have p560: 0≤ (a2:Int):=of_decide_eq_true zq1
     have q560:a2< (l3.length:Int):=of_decide_eq_true zq1
     obtain⟨ad560,e560,hx560_0⟩:=Kd.at_int HR3.out a2 p560 q560
     have hw560_0:=hx560_0
     cases e560
     replace hx560_0:=zhx HB hx560_0
     replace p560:=eq_true p560
     replace q560:=eq_true q560
     refine start_ (n:=21) (S:=fun w'=>w'.cell? (ad560.add (a2).toNat)=some (.int .i64 (rd l3 a2))) (ds:= []) (mb' 21 0) (by kernel_rfl) rfl rfl (((zhx HB hw560_0).trans rfl)) (fun hHeld=>?_);refine with_tabW impl_hops.tab5 impl_hops.bits5 (fun HT_ HW_=>?_)
     generalize wr.drew=w24 at HO_9 HO_15 HB hx560_0 hHeld ⊢
     refine zp1 HT_ 0 21 (mb' 21 1) rfl ?_
     refine zp1 HT_ 1 22 (mb' 21 3) rfl ?_
     refine zp1 HT_ 2 23 (mb' 21 7) rfl ?_
     refine zt1 HT_ HW_ (v:=?_) (a':=?_) 3 24 (mb' 21 15) rfl ?_ hHeld ?_ ?_;rotate_left;(intro w' s0;go_simp;with_reducible rfl);rotate_left;exact zpa
     refine zp1 HT_ 4 25 (mb' 21 31) rfl ?_
     refine zp1 HT_ 5 26 (mb' 21 63) rfl ?_
     refine zp2 HT_ 6 27 (mb' 21 127) rfl ?_
     refine zp2 HT_ 7 28 (mb' 21 255) rfl ?_
     refine zp2 HT_ 8 29 (mb' 21 511) rfl ?_
     refine zp2 HT_ 9 30 (mb' 21 1023) rfl ?_
     refine zp2 HT_ 10 31 (mb' 21 2047) rfl ?_
     refine zp2 HT_ 11 32 (mb' 21 4095) rfl ?_
     refine zp2 HT_ 12 33 (mb' 21 8191) rfl ?_
     refine zp2 HT_ 13 34 (mb' 21 16383) rfl ?_
     refine zp2 HT_ 14 35 (mb' 21 32767) rfl ?_
     refine zp2 HT_ 15 36 (mb' 21 65535) rfl ?_
     refine zp2 HT_ 16 37 (mb' 21 131071) rfl ?_
     refine zp2 HT_ 17 38 (mb' 21 262143) rfl ?_
     refine zp2 HT_ 18 39 (mb' 21 524287) rfl ?_
     refine zp2 HT_ 19 40 (mb' 21 1048575) rfl ?_
     refine zp1 HT_ 20 41 (mb' 21 2097151) rfl ?_
     refine done_ (done_of HT_.out (by kernel_rfl)) ?_
     try go_wp2
     go_roundg k1
     case measure=>have:=HK1.out;omega
     case rel=>exact⟨(x9_1),(wrap64 (x17_1+1)),zrs,H',⟨by have:=HK1.out;omega⟩,⟨zdr HO_9⟩,⟨zdr HO_15⟩,⟨by exact zk1 HB⟩⟩
   ·rw [if_neg c8] at H
    have c8b0:decide (x17_1< (t556.length:Int))=false:=decide_eq_false c8
    clear c8
    obtain rfl:=Option.some.inj H
    go_wp2
    go_ret
    exact⟨_,zer,by(with_reducible repeat(first|apply Kd.R_alloc|apply Kd.R_drewN|apply Kd.R_drew));exact Kd.R_mono HO_9.out (fun _ hk=>trivial),by exact zk1 HB⟩
def impl_treeAt.l0:Nat→Int→List (S79)→Int→List Int→List Int→Int→Int→Option (List Int)
 | 0,_,_,_,_,_,_,_=>none
 |k+1,x0,x1,x2,x7,x8,x18,x19=>if x19<x18 then(if 0≤x19 then(if x19< (x8.length:Int) then((some (x8.set (x19:Int).toNat (-1):List Int)).bind fun y573=>((impl_hops.f k x0 x1 x19 x7).bind fun t574=>(if x19=x2 then(impl_treeAt.l0 k x0 x1 x2 x7 y573 x18 (wrap64 (x19+1))) else(if (t574.length:Int) > 0 then(if 0< (t574.length:Int) then(impl_treeAt.l0 k x0 x1 x2 x7 (y573.set (x19:Int).toNat (rd t574 0)) x18 (wrap64 (x19+1))) else(none)) else(impl_treeAt.l0 k x0 x1 x2 x7 y573 x18 (wrap64 (x19+1))))))) else(none)) else(none)) else(some x8)
def impl_treeAt.f (k:Nat) (a0:Int) (l1:List (S79)) (a2:Int):Option (List Int):=(impl_fars.f k a0 l1 a2).bind fun t567=>(if 0≤a0 then(if (a0:Int).toNat≤35184372088832 then((some (List.replicate (a0:Int).toNat 0:List Int)).bind fun y570=>(impl_treeAt.l0 k a0 l1 a2 t567 y570 (y570.length:Int) 0)) else(none)) else(none))
set_option maxHeartbeats 8000000 in
set_option maxRecDepth 100000 in
theorem impl_treeAt.calls (k:Nat) (a0:Int) (A1:Option Addr) (c1:Nat) (l1:List (S79)) (a2:Int) (r:List Int) (w:World) (hr1:Kd.C k79 w A1 l1.length l1) (hc1:l1.length≤c1) (h:impl_treeAt.f k a0 l1 a2=some r):
  Calls Try.prog 77 #[.int .i64 a0,.slice A1 l1.length c1,.int .i64 a2] w fun e w'=> ∃ v0_:Value,e= .returned (v0_)∧Kd.R (Kd.int .i64) 3 w' w.heap.size (fun _=>True) v0_ r∧Below w.heap.size w w':=by
 have HR1:=Aside0.mk hr1
 have HC1:=Aside0.mk hc1
 clear hr1 hc1
 have HB:=Aside0.mk (Below.refl w.heap.size w)
 have H:((impl_fars.f k a0 l1 a2).bind fun t567=>(if 0≤a0 then(if (a0:Int).toNat≤35184372088832 then((some (List.replicate (a0:Int).toNat 0:List Int)).bind fun y570=>(impl_treeAt.l0 k a0 l1 a2 t567 y570 (y570.length:Int) 0)) else(none)) else(none)))=some r:=h
 clear h
 replace H:=Option.bind_eq_some_iff.mp H
 obtain⟨t567,A40,H⟩:=H
 replace H:(if 0≤a0 then(if (a0:Int).toNat≤35184372088832 then((some (List.replicate (a0:Int).toNat 0:List Int)).bind fun y570=>(impl_treeAt.l0 k a0 l1 a2 t567 y570 (y570.length:Int) 0)) else(none)) else(none))=some r:=H
 have A4:=Aside0.mk A40
 clear A40
 by_cases c5: 0≤a0
 case neg=>exact znn c5 H
 rw [if_pos c5] at H
 have c5b0:=eq_true c5
 have c5b1:decide (0≤a0)=true:=decide_eq_true c5
 clear c5
 by_cases c6:(a0:Int).toNat≤35184372088832
 case neg=>exact znn c6 H
 rw [if_pos c6] at H
 have c6b0:=eq_true c6
 have c6b1:decide ((a0:Int).toNat≤35184372088832)=true:=decide_eq_true c6
 clear c6
 obtain⟨y570,hy570⟩ :∃ y_:List Int,y_= (List.replicate (a0:Int).toNat 0):=⟨_,rfl⟩
 replace H:(impl_treeAt.l0 k a0 l1 a2 t567 y570 (y570.length:Int) 0)=some r:=zfh hy570 H
 have Ny570:=Aside0.mk hy570
 clear hy570
 have H':=Aside0.mk H
 clear H
 go_enter Try.func77,Try.ntmps77
 go_wp2_with (first|((with_reducible refine gate_callee (f:=85) rfl ?_);refine goesL_ (some 14) rfl rfl Try.func85 (by kernel_rfl) rfl #[.int .i64 a0,.slice A1 l1.length c1,.int .i64 a2] rfl zq2 ?_;(with_reducible refine(impl_fars.calls k a0 _ _ l1 a2 t567 _ ?side1 ?side2 A4.out).mono ?_);(case side1=>exact zcc (HR1.out));(case side2=>exact HC1.out);rintro e w7 ⟨v568,rfl,ho0,hb⟩;refine⟨_,rfl,?_⟩;have HO569:=Aside0.mk (Kd.R_lower ho0 (below_size (by exact zk1 HB)));replace HB:=Aside0.mk (below_step (by exact zk1 HB) hb);(try clear hb);(try clear hb2);(try clear hk);(try clear hi);(try clear ho0))|((with_reducible refine gate_dst (N:=16) rfl ?_);(try(refine gate_guard (by rfl) ?_;dsimp only));refine Kd.R_make (Kd.int .i64) _ 3 rfl (N:=16) rfl 22 _ _ rfl a0 rfl rfl Try.underlying22 (.int .i64 0) 8 info3 rfl (by decide) (by omega) 0 (ok:=fun _=>True) (okp:=fun _=>True) rfl (fun _ hk=>hk) trivial (of_decide_eq_true zq1) (Nat.le_trans (Nat.mul_le_mul_right _ (of_decide_eq_true zq1:a0.toNat≤35184372088832)) (by omega)) (Below.refl _ _) (Nat.le_refl _) ?_;intro v571 w8 ho9 hb hg_ hnew_;clear hg_ hnew_;(first|rw [← Ny570.out] at ho9|(simp only [Int.reduceToNat] at ho9;rw [← Ny570.out] at ho9));have HO572:=Aside0.mk (Kd.R_lower (Kd.R_new' ho9 (Kd.R_lt (zq4 HO569))) (below_size (by exact zk1 HB)));replace HO569:=Aside0.mk (Kd.R_elder' (zq4 HO569) (Kd.R_base ho9) hb);replace HB:=Aside0.mk (below_step (by exact zk1 HB) hb);clear hb ho9;obtain⟨Ao10,co10,eo10⟩:=Kd.R_slice HO572.out;subst eo10))
 go_loopg [19] k (fun kq v19 w'=> ∃ (x8_1:List Int) (x19_1:Int),v19= .int .i64 x19_1∧Aside0 (impl_treeAt.l0 kq a0 l1 a2 t567 x8_1 (y570.length:Int) x19_1=some r)∧Aside0 (kq≤k)∧Aside0 (Kd.R (Kd.int .i64) 3 w' w.heap.size (fun k_=>some k_≠ ((.slice Ao10 y570.length co10):Value).ownBlock) v568 t567)∧Aside0 (Kd.R (Kd.int .i64) 3 w' w.heap.size (fun k_=>some k_≠ (v568:Value).ownBlock) (.slice Ao10 y570.length co10) x8_1)∧Aside0 (Below w.heap.size w w'))
 case atStart=>exact⟨(y570),(0),zrs,H',⟨Nat.le_refl _⟩,⟨by(with_reducible repeat(first|apply Kd.R_alloc|apply Kd.R_drewN|apply Kd.R_drew));exact Kd.R_mono HO569.out (fun _ hk=>hk.2)⟩,⟨by(with_reducible repeat(first|apply Kd.R_alloc|apply Kd.R_drewN|apply Kd.R_drew));exact Kd.R_mono HO572.out (fun _ hk=>hk.2)⟩,⟨by exact zk1 HB⟩⟩
 case round=>
  clear H'
  try clear c1
  try clear p2
  try clear c5
  try clear c5b0
  try clear c5b1
  try clear c6
  try clear c6b0
  try clear c6b1
  try clear c7
  try clear c8
  obtain⟨x8_1,x19_1,rfl,HA,HK1,HO_7,HO_8,HB⟩:=hrel
  have hl8_1:=(Kd.R_reads' HO_8.out).1
  rw [hl8_1] at HO_8
  (try simp only [hl8_1])
  (try simp only [hl8_1] at HO_7)
  cases gk with
  |zero=>exact absurd HA.out (by simp [impl_treeAt.l0])
  |succ k1=>
   have H:=HA.out
   clear HA
   simp only [impl_treeAt.l0] at H
   by_cases c11:x19_1< (y570.length:Int)
   ·rw [if_pos c11] at H
    have c11b0:decide (x19_1< (y570.length:Int))=true:=decide_eq_true c11
    (try(have c11b0L:=c11b0;simp only [hl8_1] at c11b0L))
    clear c11
    by_cases c12: 0≤x19_1
    case neg=>exact znn c12 H
    rw [if_pos c12] at H
    have c12b0:decide (0≤x19_1)=true:=decide_eq_true c12
    clear c12
    by_cases c13:x19_1< (x8_1.length:Int)
    case neg=>exact znn c13 H
    rw [if_pos c13] at H
    have c13b0:decide (x19_1< (x8_1.length:Int))=true:=decide_eq_true c13
    (try(have c13b0L:=c13b0;simp only [hl8_1] at c13b0L))
    clear c13
    obtain⟨y573,hy573⟩ :∃ y_:List Int,y_= (x8_1.set (x19_1:Int).toNat (-1)):=⟨_,rfl⟩
    replace H:((impl_hops.f k1 a0 l1 x19_1 t567).bind fun t574=>(if x19_1=a2 then(impl_treeAt.l0 k1 a0 l1 a2 t567 y573 (y570.length:Int) (wrap64 (x19_1+1))) else(if (t574.length:Int) > 0 then(if 0< (t574.length:Int) then(impl_treeAt.l0 k1 a0 l1 a2 t567 (y573.set (x19_1:Int).toNat (rd t574 0)) (y570.length:Int) (wrap64 (x19_1+1))) else(none)) else(impl_treeAt.l0 k1 a0 l1 a2 t567 y573 (y570.length:Int) (wrap64 (x19_1+1))))))=some r:=zfh hy573 H
    have Ny573:=Aside0.mk hy573
    clear hy573
    replace H:=Option.bind_eq_some_iff.mp H
    obtain⟨t574,A150,H⟩:=H
    replace H:(if x19_1=a2 then(impl_treeAt.l0 k1 a0 l1 a2 t567 y573 (y570.length:Int) (wrap64 (x19_1+1))) else(if (t574.length:Int) > 0 then(if 0< (t574.length:Int) then(impl_treeAt.l0 k1 a0 l1 a2 t567 (y573.set (x19_1:Int).toNat (rd t574 0)) (y570.length:Int) (wrap64 (x19_1+1))) else(none)) else(impl_treeAt.l0 k1 a0 l1 a2 t567 y573 (y570.length:Int) (wrap64 (x19_1+1)))))=some r:=H
    have A15:=Aside0.mk A150
    clear A150
    by_cases c16:x19_1=a2
    ·rw [if_pos c16] at H
     have c16b0:(x19_1==a2)=true:=beq_iff_eq.mpr c16
     have c16b1:(x19_1 !=a2)=false:=bne_eq_false_iff_eq.mpr c16
     clear c16
     have H':=Aside0.mk H
     clear H
     have p14: 0≤ (x19_1:Int):=of_decide_eq_true zq1
     have q14:(x19_1:Int)< ((x8_1.length:Int):Int):=of_decide_eq_true zq1
     obtain⟨go14,co14,eo14,gb14,gl14,cl14,HG14⟩:=Kd.R_form HO_8.out (by omega)
     (first|cases eo14|(injection eo14 with ea_ en_ ec_;(first|subst ea_|(injection ea_ with ea_;subst ea_));subst ec_;clear en_))
     have GB14:=Aside0.mk gb14
     have GG14:=Aside0.mk HG14
     clear gb14 gl14 HG14
     obtain⟨hx14_0,hf14_0⟩:=Kd.R_celln 0 HO_8.out (x19_1:Int) p14 q14
     replace p14:=eq_true p14
     replace q14:=eq_true q14
     have HP17:=Kd.R_putg HO_8.out (x19_1:Int) (-1)
     go_wp2_with (first|((with_reducible refine gate_store (t:=3) (p:=24) rfl ?_);refine store_event (t:=3) (p:=24) (v:=?vo_w18) (w1:=(wr.setCell ⟨go14,(x19_1:Int).toNat,none⟩ (.int .i64 (-1)))) ?hg ?ho ?hn ?hr ?_;(case ho=>rfl);(case hg=>rfl);(case hn=>rfl);(case hr=>first|(go_simp;done)|(go_simp;rfl));intro w18 hw;have hg:wr.grownBy w18 (some go14):=(by rw [hw];exact HP17.2);have hp_:Kd.R (Kd.int .i64) 3 w18 w.heap.size (fun k_=>some k_≠ (v568:Value).ownBlock) (.slice (some ⟨go14,0,none⟩) x8_1.length co10) y573:=(by rw [hw,Ny573.out];exact HP17.1);clear HP17;replace HO_7:=Aside0.mk (Kd.R_after (v:=(.slice (some ⟨go14,0,none⟩) x8_1.length co10)) (v1:=(.slice (some ⟨go14,0,none⟩) x8_1.length co10)) (ok:=(fun _=>True)) (by(with_reducible repeat(first|apply Kd.R_alloc|apply Kd.R_drewN|apply Kd.R_drew));exact Kd.R_mono HO_7.out (fun _ hk=>⟨trivial,hk⟩)) hg (.inl rfl));replace HO_8:=Aside0.mk (hp_);replace HB:=Aside0.mk ((by rw [hw];exact below_set (HB.out) GB14.out:Below w.heap.size w w18));clear hg hw hp_;obtain⟨Ao19,co19,eo19⟩:=Kd.R_slice HO_7.out;subst eo19)|((with_reducible refine gate_callee (f:=98) rfl ?_);refine goesL_ (some 29) rfl rfl Try.func98 (by kernel_rfl) rfl #[.int .i64 a0,.slice A1 l1.length c1,.int .i64 x19_1,.slice Ao19 t567.length co19] rfl zq2 ?_;(with_reducible refine(impl_hops.calls k1 a0 _ _ l1 x19_1 _ _ t567 t574 _ ?side1 ?side2 ?side3 ?side4 A15.out).mono ?_);(case side1=>exact zcc ((Kd.C_below HR1.out HB.out)));(case side2=>exact HC1.out);(case side3=>exact zcc ((Kd.R_reads' HO_7.out).2.2));(case side4=>exact(Kd.R_reads' HO_7.out).2.1);rintro e w20 ⟨v575,rfl,ho0,hb⟩;refine⟨_,rfl,?_⟩;have HO576:=Aside0.mk (Kd.R_lower (Kd.R_new' (Kd.R_new' ho0 (Kd.R_lt (zq4 HO_7))) (Kd.R_lt (zq4 HO_8))) (below_size (by exact zk1 HB)));replace HO_7:=Aside0.mk (Kd.R_elder' (zq4 HO_7) (Kd.R_base ho0) hb);replace HO_8:=Aside0.mk (Kd.R_elder' (zq4 HO_8) (Kd.R_base ho0) hb);replace HB:=Aside0.mk (below_step (by exact zk1 HB) hb);(try clear hb);(try clear hb2);(try clear hk);(try clear hi);(try clear ho0)))
     (try simp only [← hl8_1])
     go_roundg k1
     case measure=>have:=HK1.out;omega
     case rel=>exact⟨(y573),(wrap64 (x19_1+1)),zrs,H',⟨by have:=HK1.out;omega⟩,⟨by(try simp only [hl8_1]);(with_reducible repeat(first|apply Kd.R_alloc|apply Kd.R_drewN|apply Kd.R_drew));exact Kd.R_mono HO_7.out (fun _ hk=>hk.1.2)⟩,⟨by(try simp only [hl8_1]);(with_reducible repeat(first|apply Kd.R_alloc|apply Kd.R_drewN|apply Kd.R_drew));exact Kd.R_mono HO_8.out (fun _ hk=>hk.1)⟩,⟨by exact zk1 HB⟩⟩
    ·rw [if_neg c16] at H
     have c16b0:(x19_1==a2)=false:=beq_eq_false_iff_ne.mpr c16
     have c16b1:(x19_1 !=a2)=true:=bne_iff_ne.mpr c16
     by_cases c21:(t574.length:Int) > 0
     ·rw [if_pos c21] at H
      have c21b0:decide (0< (t574.length:Int))=true:=decide_eq_true c21
      (try(have c21b0L:=c21b0;simp only [hl8_1] at c21b0L))
      have c21b1:decide (0<t574.length)=true:=decide_eq_true (by omega)
      clear c21
      by_cases c22: 0< (t574.length:Int)
      case neg=>exact znn c22 H
      rw [if_pos c22] at H
      have c22b0:decide (0< (t574.length:Int))=true:=decide_eq_true c22
      (try(have c22b0L:=c22b0;simp only [hl8_1] at c22b0L))
      have c22b1:decide (0<t574.length)=true:=decide_eq_true (by omega)
      clear c22
      obtain⟨y578,hy578⟩ :∃ y_:List Int,y_= (y573.set (x19_1:Int).toNat (rd t574 0)):=⟨_,rfl⟩
      replace H:(impl_treeAt.l0 k1 a0 l1 a2 t567 y578 (y570.length:Int) (wrap64 (x19_1+1)))=some r:=zfh hy578 H
      have Ny578:=Aside0.mk hy578
      clear hy578
      have H':=Aside0.mk H
      clear H
      have p14: 0≤ (x19_1:Int):=of_decide_eq_true zq1
      have q14:(x19_1:Int)< ((x8_1.length:Int):Int):=of_decide_eq_true zq1
      obtain⟨go14,co14,eo14,gb14,gl14,cl14,HG14⟩:=Kd.R_form HO_8.out (by omega)
      (first|cases eo14|(injection eo14 with ea_ en_ ec_;(first|subst ea_|(injection ea_ with ea_;subst ea_));subst ec_;clear en_))
      have GB14:=Aside0.mk gb14
      have GG14:=Aside0.mk HG14
      clear gb14 gl14 HG14
      obtain⟨hx14_0,hf14_0⟩:=Kd.R_celln 0 HO_8.out (x19_1:Int) p14 q14
      replace p14:=eq_true p14
      replace q14:=eq_true q14
      have HP24:=Kd.R_putg HO_8.out (x19_1:Int) (-1)
      go_wp2_with (first|((with_reducible refine gate_store (t:=3) (p:=24) rfl ?_);refine store_event (t:=3) (p:=24) (v:=?vo_w25) (w1:=(wr.setCell ⟨go14,(x19_1:Int).toNat,none⟩ (.int .i64 (-1)))) ?hg ?ho ?hn ?hr ?_;(case ho=>rfl);(case hg=>rfl);(case hn=>rfl);(case hr=>first|(go_simp;done)|(go_simp;rfl));intro w25 hw;have hg:wr.grownBy w25 (some go14):=(by rw [hw];exact HP24.2);have hp_:Kd.R (Kd.int .i64) 3 w25 w.heap.size (fun k_=>some k_≠ (v568:Value).ownBlock) (.slice (some ⟨go14,0,none⟩) x8_1.length co10) y573:=(by rw [hw,Ny573.out];exact HP24.1);clear HP24;replace HO_7:=Aside0.mk (Kd.R_after (v:=(.slice (some ⟨go14,0,none⟩) x8_1.length co10)) (v1:=(.slice (some ⟨go14,0,none⟩) x8_1.length co10)) (ok:=(fun _=>True)) (by(with_reducible repeat(first|apply Kd.R_alloc|apply Kd.R_drewN|apply Kd.R_drew));exact Kd.R_mono HO_7.out (fun _ hk=>⟨trivial,hk⟩)) hg (.inl rfl));replace HO_8:=Aside0.mk (hp_);replace HB:=Aside0.mk ((by rw [hw];exact below_set (HB.out) GB14.out:Below w.heap.size w w25));clear hg hw hp_;obtain⟨Ao26,co26,eo26⟩:=Kd.R_slice HO_7.out;subst eo26)|((with_reducible refine gate_callee (f:=98) rfl ?_);refine goesL_ (some 29) rfl rfl Try.func98 (by kernel_rfl) rfl #[.int .i64 a0,.slice A1 l1.length c1,.int .i64 x19_1,.slice Ao26 t567.length co26] rfl zq2 ?_;(with_reducible refine(impl_hops.calls k1 a0 _ _ l1 x19_1 _ _ t567 t574 _ ?side1 ?side2 ?side3 ?side4 A15.out).mono ?_);(case side1=>exact zcc ((Kd.C_below HR1.out HB.out)));(case side2=>exact HC1.out);(case side3=>exact zcc ((Kd.R_reads' HO_7.out).2.2));(case side4=>exact(Kd.R_reads' HO_7.out).2.1);rintro e w27 ⟨v575,rfl,ho0,hb⟩;refine⟨_,rfl,?_⟩;have HO576:=Aside0.mk (Kd.R_lower (Kd.R_new' (Kd.R_new' ho0 (Kd.R_lt (zq4 HO_7))) (Kd.R_lt (zq4 HO_8))) (below_size (by exact zk1 HB)));replace HO_7:=Aside0.mk (Kd.R_elder' (zq4 HO_7) (Kd.R_base ho0) hb);replace HO_8:=Aside0.mk (Kd.R_elder' (zq4 HO_8) (Kd.R_base ho0) hb);replace HB:=Aside0.mk (below_step (by exact zk1 HB) hb);(try clear hb);(try clear hb2);(try clear hk);(try clear hi);(try clear ho0);obtain⟨Ao28,co28,eo28⟩:=Kd.R_slice HO576.out;subst eo28;have p577: 0≤ (0:Int):=(by omega);have q577: 0< (t574.length:Int):=of_decide_eq_true zq1;obtain⟨ad577,e577,hx577_0⟩:=Kd.at_int (Kd.R_reads' HO576.out).2.2 0 p577 q577;cases e577;have qi577:(0<t574.length)=True:=eq_true (by omega);(try rw [show ((0:Int)).toNat=0 from rfl] at hx577_0);(try rw [Addr.add_zero'] at hx577_0);replace p577:=eq_true p577;replace q577:=eq_true q577;have p23: 0≤ (x19_1:Int):=of_decide_eq_true zq1;have q23:(x19_1:Int)< ((x8_1.length:Int):Int):=of_decide_eq_true zq1;obtain⟨hx23_0,hf23_0⟩:=Kd.R_celln 0 HO_8.out (x19_1:Int) p23 q23;replace p23:=eq_true p23;replace q23:=eq_true q23;obtain⟨hy29_,hz29_⟩:=Kd.R_celln 0 HO_8.out (x19_1:Int) (of_decide_eq_true zq1) (of_decide_eq_true zq1);have HP29:=Kd.R_putg HO_8.out (x19_1:Int) (rd t574 0))|((with_reducible refine gate_store (t:=3) (p:=43) rfl ?_);refine store_event (t:=3) (p:=43) (v:=?vo_w30) (w1:=(w27.setCell ⟨go14,(x19_1:Int).toNat,none⟩ (.int .i64 (rd t574 0)))) ?hg ?ho ?hn ?hr ?_;(case ho=>rfl);(case hg=>rfl);(case hn=>rfl);(case hr=>first|(go_simp;done)|(go_simp;rfl));intro w30 hw;have hg:w27.grownBy w30 (some go14):=(by rw [hw];exact HP29.2);have hp_:Kd.R (Kd.int .i64) 3 w30 w.heap.size (fun k_=>some k_≠ (.slice Ao26 t567.length co26:Value).ownBlock∧some k_≠ (.slice (some ad577) t574.length co28:Value).ownBlock) (.slice (some ⟨go14,0,none⟩) x8_1.length co10) y578:=(by rw [hw,Ny578.out];exact HP29.1);clear HP29;replace HO_7:=Aside0.mk (Kd.R_after (v:=(.slice (some ⟨go14,0,none⟩) x8_1.length co10)) (v1:=(.slice (some ⟨go14,0,none⟩) x8_1.length co10)) (ok:=(fun k_=>some k_≠ (.slice (some ad577) t574.length co28:Value).ownBlock)) (by(with_reducible repeat(first|apply Kd.R_alloc|apply Kd.R_drewN|apply Kd.R_drew));exact Kd.R_mono HO_7.out (fun _ hk=>⟨hk.2,hk.1.2⟩)) hg (.inl rfl));replace HO_8:=Aside0.mk (hp_);replace HO576:=Aside0.mk (Kd.R_after (v:=(.slice (some ⟨go14,0,none⟩) x8_1.length co10)) (v1:=(.slice (some ⟨go14,0,none⟩) x8_1.length co10)) (ok:=(fun k_=>some k_≠ (.slice Ao26 t567.length co26:Value).ownBlock)) (by(with_reducible repeat(first|apply Kd.R_alloc|apply Kd.R_drewN|apply Kd.R_drew));exact Kd.R_mono HO576.out (fun _ hk=>⟨hk.1.2,hk.2⟩)) hg (.inl rfl));replace HB:=Aside0.mk ((by rw [hw];exact below_set (HB.out) GB14.out:Below w.heap.size w w30));clear hg hw hp_))
      (try simp only [← hl8_1])
      go_roundg k1
      case measure=>have:=HK1.out;omega
      case rel=>exact⟨(y578),(wrap64 (x19_1+1)),zrs,H',⟨by have:=HK1.out;omega⟩,⟨by(try simp only [hl8_1]);(with_reducible repeat(first|apply Kd.R_alloc|apply Kd.R_drewN|apply Kd.R_drew));exact Kd.R_mono HO_7.out (fun _ hk=>hk.2)⟩,⟨by(try simp only [hl8_1]);(with_reducible repeat(first|apply Kd.R_alloc|apply Kd.R_drewN|apply Kd.R_drew));exact Kd.R_mono HO_8.out (fun _ hk=>hk.1)⟩,⟨by exact zk1 HB⟩⟩
     ·rw [if_neg c21] at H
      have c21b0:decide (0< (t574.length:Int))=false:=decide_eq_false c21
      (try(have c21b0L:=c21b0;simp only [hl8_1] at c21b0L))
      have c21b1:decide (0<t574.length)=false:=decide_eq_false (by omega)
      clear c21
      have H':=Aside0.mk H
      clear H
      have p14: 0≤ (x19_1:Int):=of_decide_eq_true zq1
      have q14:(x19_1:Int)< ((x8_1.length:Int):Int):=of_decide_eq_true zq1
      obtain⟨go14,co14,eo14,gb14,gl14,cl14,HG14⟩:=Kd.R_form HO_8.out (by omega)
      (first|cases eo14|(injection eo14 with ea_ en_ ec_;(first|subst ea_|(injection ea_ with ea_;subst ea_));subst ec_;clear en_))
      have GB14:=Aside0.mk gb14
      have GG14:=Aside0.mk HG14
      clear gb14 gl14 HG14
      obtain⟨hx14_0,hf14_0⟩:=Kd.R_celln 0 HO_8.out (x19_1:Int) p14 q14
      replace p14:=eq_true p14
      replace q14:=eq_true q14
      have HP31:=Kd.R_putg HO_8.out (x19_1:Int) (-1)
      go_wp2_with (first|((with_reducible refine gate_store (t:=3) (p:=24) rfl ?_);refine store_event (t:=3) (p:=24) (v:=?vo_w32) (w1:=(wr.setCell ⟨go14,(x19_1:Int).toNat,none⟩ (.int .i64 (-1)))) ?hg ?ho ?hn ?hr ?_;(case ho=>rfl);(case hg=>rfl);(case hn=>rfl);(case hr=>first|(go_simp;done)|(go_simp;rfl));intro w32 hw;have hg:wr.grownBy w32 (some go14):=(by rw [hw];exact HP31.2);have hp_:Kd.R (Kd.int .i64) 3 w32 w.heap.size (fun k_=>some k_≠ (v568:Value).ownBlock) (.slice (some ⟨go14,0,none⟩) x8_1.length co10) y573:=(by rw [hw,Ny573.out];exact HP31.1);clear HP31;replace HO_7:=Aside0.mk (Kd.R_after (v:=(.slice (some ⟨go14,0,none⟩) x8_1.length co10)) (v1:=(.slice (some ⟨go14,0,none⟩) x8_1.length co10)) (ok:=(fun _=>True)) (by(with_reducible repeat(first|apply Kd.R_alloc|apply Kd.R_drewN|apply Kd.R_drew));exact Kd.R_mono HO_7.out (fun _ hk=>⟨trivial,hk⟩)) hg (.inl rfl));replace HO_8:=Aside0.mk (hp_);replace HB:=Aside0.mk ((by rw [hw];exact below_set (HB.out) GB14.out:Below w.heap.size w w32));clear hg hw hp_;obtain⟨Ao33,co33,eo33⟩:=Kd.R_slice HO_7.out;subst eo33)|((with_reducible refine gate_callee (f:=98) rfl ?_);refine goesL_ (some 29) rfl rfl Try.func98 (by kernel_rfl) rfl #[.int .i64 a0,.slice A1 l1.length c1,.int .i64 x19_1,.slice Ao33 t567.length co33] rfl zq2 ?_;(with_reducible refine(impl_hops.calls k1 a0 _ _ l1 x19_1 _ _ t567 t574 _ ?side1 ?side2 ?side3 ?side4 A15.out).mono ?_);(case side1=>exact zcc ((Kd.C_below HR1.out HB.out)));(case side2=>exact HC1.out);(case side3=>exact zcc ((Kd.R_reads' HO_7.out).2.2));(case side4=>exact(Kd.R_reads' HO_7.out).2.1);rintro e w34 ⟨v575,rfl,ho0,hb⟩;refine⟨_,rfl,?_⟩;have HO576:=Aside0.mk (Kd.R_lower (Kd.R_new' (Kd.R_new' ho0 (Kd.R_lt (zq4 HO_7))) (Kd.R_lt (zq4 HO_8))) (below_size (by exact zk1 HB)));replace HO_7:=Aside0.mk (Kd.R_elder' (zq4 HO_7) (Kd.R_base ho0) hb);replace HO_8:=Aside0.mk (Kd.R_elder' (zq4 HO_8) (Kd.R_base ho0) hb);replace HB:=Aside0.mk (below_step (by exact zk1 HB) hb);(try clear hb);(try clear hb2);(try clear hk);(try clear hi);(try clear ho0);obtain⟨Ao35,co35,eo35⟩:=Kd.R_slice HO576.out;subst eo35))
      (try simp only [← hl8_1])
      go_roundg k1
      case measure=>have:=HK1.out;omega
      case rel=>exact⟨(y573),(wrap64 (x19_1+1)),zrs,H',⟨by have:=HK1.out;omega⟩,⟨by(try simp only [hl8_1]);(with_reducible repeat(first|apply Kd.R_alloc|apply Kd.R_drewN|apply Kd.R_drew));exact Kd.R_mono HO_7.out (fun _ hk=>hk.1.2)⟩,⟨by(try simp only [hl8_1]);(with_reducible repeat(first|apply Kd.R_alloc|apply Kd.R_drewN|apply Kd.R_drew));exact Kd.R_mono HO_8.out (fun _ hk=>hk.1)⟩,⟨by exact zk1 HB⟩⟩
   ·rw [if_neg c11] at H
    have c11b0:decide (x19_1< (y570.length:Int))=false:=decide_eq_false c11
    (try(have c11b0L:=c11b0;simp only [hl8_1] at c11b0L))
    clear c11
    obtain rfl:=Option.some.inj H
    go_wp2
    go_ret
    exact⟨_,zer,by(with_reducible repeat(first|apply Kd.R_alloc|apply Kd.R_drewN|apply Kd.R_drew));exact Kd.R_mono HO_8.out (fun _ hk=>trivial),by exact zk1 HB⟩
mutual
def spec_TreesFor.j0:Nat→Int→List (S79)→Int→Bool→Option ((List (List Int)) × Bool)
 | 0,_,_,_,_=>none
 |k+1,x0,x1,x2,x19=>if x19=true then(some (([] :List (List Int)),false)) else(spec_TreesFor.l0 k x0 x1 x2 ([] :List (List Int)) 0)
def spec_TreesFor.l0:Nat→Int→List (S79)→Int→List (List Int)→Int→Option ((List (List Int)) × Bool)
 | 0,_,_,_,_,_=>none
 |k+1,x0,x1,x2,x8,x9=>if x9<x2 then((spec_l10At.f k x0 x1 x9).bind fun t626=>(if x8.length< 5864062014805 then(spec_TreesFor.l0 k x0 x1 x2 (x8++ [t626]) (wrap64 (x9+1))) else(none))) else(some (x8,true))
end
def spec_TreesFor.f (k:Nat) (a0:Int) (l1:List (S79)) (a2:Int):Option ((List (List Int)) × Bool):=(spec_GoodEdges.f k a0 l1).bind fun t624=>(if t624=true then((spec_l1In.f a2 0 a0).bind fun t625=>(spec_TreesFor.j0 k a0 l1 a2 (!t625))) else(spec_TreesFor.j0 k a0 l1 a2 true))
set_option maxHeartbeats 8000000 in
set_option maxRecDepth 100000 in
theorem spec_TreesFor.calls (k:Nat) (a0:Int) (A1:Option Addr) (c1:Nat) (l1:List (S79)) (a2:Int) (r1:List (List Int)) (r2:Bool) (w:World) (hr1:Kd.C k79 w A1 l1.length l1) (hc1:l1.length≤c1) (h:spec_TreesFor.f k a0 l1 a2=some (r1,r2)):
  Calls Try.prog 36 #[.int .i64 a0,.slice A1 l1.length c1,.int .i64 a2] w fun e w'=> ∃ v0_:Value,e= .returned (.tuple #[v0_,.bool r2])∧Kd.S (Kd.slice 3 (Kd.int .i64)) 22 w' w.heap.size (fun _=>True) v0_ r1∧Below w.heap.size w w':=by
 have HR1:=Aside0.mk hr1
 have HC1:=Aside0.mk hc1
 clear hr1 hc1
 have HB:=Aside0.mk (Below.refl w.heap.size w)
 have H:((spec_GoodEdges.f k a0 l1).bind fun t624=>(if t624=true then((spec_l1In.f a2 0 a0).bind fun t625=>(spec_TreesFor.j0 k a0 l1 a2 (!t625))) else(spec_TreesFor.j0 k a0 l1 a2 true)))=some (r1,r2):=h
 clear h
 have HC4:=Aside0.mk H
 clear H
 go_enter Try.func36,Try.ntmps36
 go_upto_region 1 with (fail)
 go_cut [19] (fun v19 wc=> ∃ (kq:Nat) (x19_3:Bool),v19= .bool x19_3∧Aside0 (spec_TreesFor.j0 kq a0 l1 a2 x19_3=some (r1,r2))∧Aside0 (kq≤k)∧Aside0 (Below w.heap.size w wc))
 case first=>
  have H:=HC4.out
  clear HC4
  replace H:=Option.bind_eq_some_iff.mp H
  obtain⟨t624,A50,H⟩:=H
  replace H:(if t624=true then((spec_l1In.f a2 0 a0).bind fun t625=>(spec_TreesFor.j0 k a0 l1 a2 (!t625))) else(spec_TreesFor.j0 k a0 l1 a2 true))=some (r1,r2):=H
  have A5:=Aside0.mk A50
  clear A50
  by_cases c6:t624=true
  ·subst c6
   have H1:((spec_l1In.f a2 0 a0).bind fun t625=>(spec_TreesFor.j0 k a0 l1 a2 (!t625)))=some (r1,r2):=by rw [if_pos rfl] at H;exact H
   clear H
   have H:=H1
   clear H1
   replace H:=Option.bind_eq_some_iff.mp H
   obtain⟨t625,A70,H⟩:=H
   replace H:(spec_TreesFor.j0 k a0 l1 a2 (!t625))=some (r1,r2):=H
   have A7:=Aside0.mk A70
   clear A70
   have H':=Aside0.mk H
   clear H
   go_wp2_with (first|((with_reducible refine gate_callee (f:=66) rfl ?_);refine goesL_ (some 12) rfl rfl Try.func66 (by kernel_rfl) rfl #[.int .i64 a0,.slice A1 l1.length c1] rfl zq2 ?_;(with_reducible refine(spec_GoodEdges.calls k a0 _ _ l1 true _ ?side1 ?side2 A5.out).mono ?_);(case side1=>exact zcc ((Kd.C_below HR1.out HB.out)));(case side2=>exact HC1.out);rintro e w8 ⟨rfl,hb⟩;refine⟨_,rfl,?_⟩;replace HB:=Aside0.mk (below_step (by exact zk1 HB) hb);(try clear hb);(try clear hb2);(try clear hk);(try clear hi))|(go_at_call 59;(with_reducible refine(spec_l1In.calls a2 0 a0 t625 _ A7.out).mono ?_);rintro e w' ⟨rfl,⟨nd,rfl⟩⟩))
   go_meet
   case rel=>exact⟨_,(!t625),zrs,H',⟨by first|omega|exact Nat.le_refl _⟩,⟨by exact zk1 HB⟩⟩
  ·replace c6:=Bool.eq_false_iff.mpr c6
   subst c6
   have H1:(spec_TreesFor.j0 k a0 l1 a2 true)=some (r1,r2):=by rw [if_neg (show ¬ (false=true) by decide)] at H;exact H
   clear H
   have H:=H1
   clear H1
   have H':=Aside0.mk H
   clear H
   go_wp2_with (first|((with_reducible refine gate_callee (f:=66) rfl ?_);refine goesL_ (some 12) rfl rfl Try.func66 (by kernel_rfl) rfl #[.int .i64 a0,.slice A1 l1.length c1] rfl zq2 ?_;(with_reducible refine(spec_GoodEdges.calls k a0 _ _ l1 false _ ?side1 ?side2 A5.out).mono ?_);(case side1=>exact zcc ((Kd.C_below HR1.out HB.out)));(case side2=>exact HC1.out);rintro e w9 ⟨rfl,hb⟩;refine⟨_,rfl,?_⟩;replace HB:=Aside0.mk (below_step (by exact zk1 HB) hb);(try clear hb);(try clear hb2);(try clear hk);(try clear hi)))
   go_meet
   case rel=>exact⟨_,(true),zrs,H',⟨by first|omega|exact Nat.le_refl _⟩,⟨by exact zk1 HB⟩⟩
 case rest=>
  clear HC4
  try clear c1
  try clear p2
  try clear c3
  try clear c6
  obtain⟨kq,x19_3,rfl,HA,HJ3,HB⟩:=hcut
  cases kq with
  |zero=>exact absurd HA.out (by simp [spec_TreesFor.j0])
  |succ kj3=>
   have H:=HA.out
   clear HA
   simp only [spec_TreesFor.j0] at H
   by_cases c10:x19_3=true
   ·subst c10
    have H1:(some (([] :List (List Int)),false))=some (r1,r2):=by rw [if_pos rfl] at H;exact H
    clear H
    have H:=H1
    clear H1
    simp only [Option.some.injEq,Prod.mk.injEq] at H
    obtain⟨rfl,rfl⟩:=H
    go_wp2
    go_ret2
    exact⟨_,zer,by first|exact Kd.S_nil _ _ _ _ _|exact Kd.N_nil _ _ _ _ _|exact Kd.V_nil _ _ _ _ _|exact Kd.Q_nil _ _ _ _ _|exact Kd.R_nil _ _ _ _ _,by exact zk1 HB⟩
   ·replace c10:=Bool.eq_false_iff.mpr c10
    subst c10
    have H1:(spec_TreesFor.l0 kj3 a0 l1 a2 ([] :List (List Int)) 0)=some (r1,r2):=by rw [if_neg (show ¬ (false=true) by decide)] at H;exact H
    clear H
    have H:=H1
    clear H1
    have H':=Aside0.mk H
    clear H
    go_wp2
    go_loopg [8,9] kj3 (fun kq v8 v9 w'=> ∃ (x8_2:List (List Int)) (x9_2:Int),v9= .int .i64 x9_2∧Aside0 (spec_TreesFor.l0 kq a0 l1 a2 x8_2 x9_2=some (r1,r2))∧Aside0 (kq≤kj3)∧Aside0 (Kd.S (Kd.slice 3 (Kd.int .i64)) 22 w' w.heap.size (fun _=>True) v8 x8_2)∧Aside0 (Below w.heap.size w w'))
    case atStart=>exact⟨(([] :List (List Int))),(0),zrs,H',⟨Nat.le_refl _⟩,⟨by first|exact Kd.S_nil _ _ _ _ _|exact Kd.N_nil _ _ _ _ _|exact Kd.V_nil _ _ _ _ _|exact Kd.Q_nil _ _ _ _ _|exact Kd.R_nil _ _ _ _ _⟩,⟨by exact zk1 HB⟩⟩
    case round=>
     clear H'
     try clear c1
     try clear p2
     try clear c3
     try clear c6
     try clear c10
     try clear p2
     obtain⟨x8_2,x9_2,rfl,HA,HK2,HO_8,HB⟩:=hrel
     cases gk with
     |zero=>exact absurd HA.out (by simp [spec_TreesFor.l0])
     |succ k2=>
      have H:=HA.out
      clear HA
      simp only [spec_TreesFor.l0] at H
      by_cases c11:x9_2<a2
      ·rw [if_pos c11] at H
       have c11b0:decide (x9_2<a2)=true:=decide_eq_true c11
       clear c11
       replace H:=Option.bind_eq_some_iff.mp H
       obtain⟨t626,A120,H⟩:=H
       replace H:(if x8_2.length< 5864062014805 then(spec_TreesFor.l0 k2 a0 l1 a2 (x8_2++ [t626]) (wrap64 (x9_2+1))) else(none))=some (r1,r2):=H
       have A12:=Aside0.mk A120
       clear A120
       by_cases c13:x8_2.length< 5864062014805
       case neg=>exact znn c13 H
       rw [if_pos c13] at H
       have LMc13:=Aside0.mk c13
       clear c13
       obtain⟨y629,hy629⟩ :∃ y_:List (List Int),y_= (x8_2++ [t626]):=⟨_,rfl⟩
       replace H:(spec_TreesFor.l0 k2 a0 l1 a2 y629 (wrap64 (x9_2+1)))=some (r1,r2):=zfh hy629 H
       have Ny629:=Aside0.mk hy629
       clear hy629
       have H':=Aside0.mk H
       clear H
       go_wp2_with (first|((with_reducible refine gate_callee (f:=75) rfl ?_);refine goesL_ (some 29) rfl rfl Try.func75 (by kernel_rfl) rfl #[.int .i64 a0,.slice A1 l1.length c1,.int .i64 x9_2] rfl zq2 ?_;(with_reducible refine(spec_l10At.calls k2 a0 _ _ l1 x9_2 t626 _ ?side1 ?side2 A12.out).mono ?_);(case side1=>exact zcc ((Kd.C_below HR1.out HB.out)));(case side2=>exact HC1.out);rintro e w14 ⟨v627,rfl,ho0,hb⟩;refine⟨_,rfl,?_⟩;have HO628:=Aside0.mk (Kd.R_lower ho0 (below_size (by exact zk1 HB)));replace HO_8:=Aside0.mk (Kd.S_elder' (by(with_reducible repeat(first|apply Kd.S_alloc|apply Kd.S_drewN|apply Kd.S_drew));exact HO_8.out) (Kd.R_base ho0) hb);replace HB:=Aside0.mk (below_step (by exact zk1 HB) hb);(try clear hb);(try clear hb2);(try clear hk);(try clear hi);(try clear ho0);obtain⟨Ao16,co16,eo16⟩:=Kd.R_slice HO628.out;subst eo16)|((with_reducible refine gate_builtin (b:= .append) (xs:= #[.tmp 25,.tmp 30]) rfl ?_);at_builtin;refine Kd.S_append (Kd.slice 3 (Kd.int .i64)) (w0:=w) w.heap.size rfl (.tmp 25) (.tmp 30) 48 22 (.slice none 0 0) 24 rfl Try.underlying48 info22 rfl (by decide) (by omega) u8 x8_2 t626 [.slice Ao16 t626.length co16] (fun _=>True) (fun k_=>some k_= (.slice Ao16 t626.length co16:Value).ownBlock) rfl rfl ?aP (fun k_ hk_=>((Kd.R_mono (ok':=fun k_=>((fun _=>True)) k_∧some k_≠ (u8:Value).ownBlock) (Kd.R_apart' (HO628.out) (Kd.S_typed HO_8.out) (by decide)) (fun k_ hk=>⟨trivial,hk.2⟩))).1 k_ hk_.symm) ?aF ?aO ?aB ?aS ?aL ?_;(case aP=>exact Kd.M_row (Kd.R_mono (Kd.R_tight rfl (Kd.R_mono (ok':=fun k_=>((fun _=>True)) k_∧some k_≠ (u8:Value).ownBlock) (Kd.R_apart' (HO628.out) (Kd.S_typed HO_8.out) (by decide)) (fun k_ hk=>⟨trivial,hk.2⟩))) (fun _ h_=>h_)));(case aB=>exact(by exact zk1 HB));(case aF=>exact(fun _ _=>trivial));(case aO=>exact(by(with_reducible repeat(first|apply Kd.S_alloc|apply Kd.S_drewN|apply Kd.S_drew));exact Kd.S_mono HO_8.out (fun k_ hk=>⟨trivial,fun e_=>hk.2 e_⟩)));(case aS=>exact(below_size (by exact zk1 HB)));(case aL=>have:=LMc13.out;omega);intro v630 w15 ho hb hg hat;rw [← Ny629.out] at ho;have HO631:=Aside0.mk (ho);replace HB:=Aside0.mk (hb);clear HO_8 HO628;clear ho hb hg hat))
       go_roundg k2
       case measure=>have:=HJ3.out;have:=HK2.out;omega
       case rel=>exact⟨(y629),(wrap64 (x9_2+1)),zrs,H',⟨by have:=HJ3.out;have:=HK2.out;omega⟩,⟨by(with_reducible repeat(first|apply Kd.S_alloc|apply Kd.S_drewN|apply Kd.S_drew));exact HO631.out⟩,⟨by exact zk1 HB⟩⟩
      ·rw [if_neg c11] at H
       have c11b0:decide (x9_2<a2)=false:=decide_eq_false c11
       clear c11
       simp only [Option.some.injEq,Prod.mk.injEq] at H
       obtain⟨rfl,rfl⟩:=H
       go_wp2
       go_ret2
       exact⟨_,zer,by(with_reducible repeat(first|apply Kd.S_alloc|apply Kd.S_drewN|apply Kd.S_drew));exact HO_8.out,by exact zk1 HB⟩
mutual
def impl_TreesFor.j0:Nat→Int→List (S79)→Int→Bool→Option ((List (List Int)) × Bool)
 | 0,_,_,_,_=>none
 |k+1,x0,x1,x2,x19=>if x19=true then(some (([] :List (List Int)),false)) else(impl_TreesFor.l0 k x0 x1 ([] :List (List Int)) x2 0)
def impl_TreesFor.l0:Nat→Int→List (S79)→List (List Int)→Int→Int→Option ((List (List Int)) × Bool)
 | 0,_,_,_,_,_=>none
 |k+1,x0,x1,x8,x20,x21=>if x21<x20 then((impl_treeAt.f k x0 x1 x21).bind fun t634=>(if x8.length< 5864062014805 then(impl_TreesFor.l0 k x0 x1 (x8++ [t634]) x20 (wrap64 (x21+1))) else(none))) else(some (x8,true))
end
def impl_TreesFor.f (k:Nat) (a0:Int) (l1:List (S79)) (a2:Int):Option ((List (List Int)) × Bool):=(impl_GoodEdges.f k a0 l1).bind fun t632=>(if t632=true then((impl_in.f a2 0 a0).bind fun t633=>(impl_TreesFor.j0 k a0 l1 a2 (!t633))) else(impl_TreesFor.j0 k a0 l1 a2 true))
set_option maxHeartbeats 8000000 in
set_option maxRecDepth 100000 in
theorem impl_TreesFor.calls (k:Nat) (a0:Int) (A1:Option Addr) (c1:Nat) (l1:List (S79)) (a2:Int) (r1:List (List Int)) (r2:Bool) (w:World) (hr1:Kd.C k79 w A1 l1.length l1) (hc1:l1.length≤c1) (h:impl_TreesFor.f k a0 l1 a2=some (r1,r2)):
  Calls Try.prog 37 #[.int .i64 a0,.slice A1 l1.length c1,.int .i64 a2] w fun e w'=> ∃ v0_:Value,e= .returned (.tuple #[v0_,.bool r2])∧Kd.S (Kd.slice 3 (Kd.int .i64)) 22 w' w.heap.size (fun _=>True) v0_ r1∧Below w.heap.size w w':=by
 have HR1:=Aside0.mk hr1
 have HC1:=Aside0.mk hc1
 clear hr1 hc1
 have HB:=Aside0.mk (Below.refl w.heap.size w)
 have H:((impl_GoodEdges.f k a0 l1).bind fun t632=>(if t632=true then((impl_in.f a2 0 a0).bind fun t633=>(impl_TreesFor.j0 k a0 l1 a2 (!t633))) else(impl_TreesFor.j0 k a0 l1 a2 true)))=some (r1,r2):=h
 clear h
 have HC4:=Aside0.mk H
 clear H
 go_enter Try.func37,Try.ntmps37
 go_upto_region 1 with (fail)
 go_cut [19] (fun v19 wc=> ∃ (kq:Nat) (x19_3:Bool),v19= .bool x19_3∧Aside0 (impl_TreesFor.j0 kq a0 l1 a2 x19_3=some (r1,r2))∧Aside0 (kq≤k)∧Aside0 (Below w.heap.size w wc))
 case first=>
  have H:=HC4.out
  clear HC4
  replace H:=Option.bind_eq_some_iff.mp H
  obtain⟨t632,A50,H⟩:=H
  replace H:(if t632=true then((impl_in.f a2 0 a0).bind fun t633=>(impl_TreesFor.j0 k a0 l1 a2 (!t633))) else(impl_TreesFor.j0 k a0 l1 a2 true))=some (r1,r2):=H
  have A5:=Aside0.mk A50
  clear A50
  by_cases c6:t632=true
  ·subst c6
   have H1:((impl_in.f a2 0 a0).bind fun t633=>(impl_TreesFor.j0 k a0 l1 a2 (!t633)))=some (r1,r2):=by rw [if_pos rfl] at H;exact H
   clear H
   have H:=H1
   clear H1
   replace H:=Option.bind_eq_some_iff.mp H
   obtain⟨t633,A70,H⟩:=H
   replace H:(impl_TreesFor.j0 k a0 l1 a2 (!t633))=some (r1,r2):=H
   have A7:=Aside0.mk A70
   clear A70
   have H':=Aside0.mk H
   clear H
   go_wp2_with (first|((with_reducible refine gate_callee (f:=69) rfl ?_);refine goesL_ (some 12) rfl rfl Try.func69 (by kernel_rfl) rfl #[.int .i64 a0,.slice A1 l1.length c1] rfl zq2 ?_;(with_reducible refine(impl_GoodEdges.calls k a0 _ _ l1 true _ ?side1 ?side2 A5.out).mono ?_);(case side1=>exact zcc ((Kd.C_below HR1.out HB.out)));(case side2=>exact HC1.out);rintro e w8 ⟨rfl,hb⟩;refine⟨_,rfl,?_⟩;replace HB:=Aside0.mk (below_step (by exact zk1 HB) hb);(try clear hb);(try clear hb2);(try clear hk);(try clear hi))|(go_at_call 78;(with_reducible refine(impl_in.calls a2 0 a0 t633 _ A7.out).mono ?_);rintro e w' ⟨rfl,⟨nd,rfl⟩⟩))
   go_meet
   case rel=>exact⟨_,(!t633),zrs,H',⟨by first|omega|exact Nat.le_refl _⟩,⟨by exact zk1 HB⟩⟩
  ·replace c6:=Bool.eq_false_iff.mpr c6
   subst c6
   have H1:(impl_TreesFor.j0 k a0 l1 a2 true)=some (r1,r2):=by rw [if_neg (show ¬ (false=true) by decide)] at H;exact H
   clear H
   have H:=H1
   clear H1
   have H':=Aside0.mk H
   clear H
   go_wp2_with (first|((with_reducible refine gate_callee (f:=69) rfl ?_);refine goesL_ (some 12) rfl rfl Try.func69 (by kernel_rfl) rfl #[.int .i64 a0,.slice A1 l1.length c1] rfl zq2 ?_;(with_reducible refine(impl_GoodEdges.calls k a0 _ _ l1 false _ ?side1 ?side2 A5.out).mono ?_);(case side1=>exact zcc ((Kd.C_below HR1.out HB.out)));(case side2=>exact HC1.out);rintro e w9 ⟨rfl,hb⟩;refine⟨_,rfl,?_⟩;replace HB:=Aside0.mk (below_step (by exact zk1 HB) hb);(try clear hb);(try clear hb2);(try clear hk);(try clear hi)))
   go_meet
   case rel=>exact⟨_,(true),zrs,H',⟨by first|omega|exact Nat.le_refl _⟩,⟨by exact zk1 HB⟩⟩
 case rest=>
  clear HC4
  try clear c1
  try clear p2
  try clear c3
  try clear c6
  obtain⟨kq,x19_3,rfl,HA,HJ3,HB⟩:=hcut
  cases kq with
  |zero=>exact absurd HA.out (by simp [impl_TreesFor.j0])
  |succ kj3=>
   have H:=HA.out
   clear HA
   simp only [impl_TreesFor.j0] at H
   by_cases c10:x19_3=true
   ·subst c10
    have H1:(some (([] :List (List Int)),false))=some (r1,r2):=by rw [if_pos rfl] at H;exact H
    clear H
    have H:=H1
    clear H1
    simp only [Option.some.injEq,Prod.mk.injEq] at H
    obtain⟨rfl,rfl⟩:=H
    go_wp2
    go_ret2
    exact⟨_,zer,by first|exact Kd.S_nil _ _ _ _ _|exact Kd.N_nil _ _ _ _ _|exact Kd.V_nil _ _ _ _ _|exact Kd.Q_nil _ _ _ _ _|exact Kd.R_nil _ _ _ _ _,by exact zk1 HB⟩
   ·replace c10:=Bool.eq_false_iff.mpr c10
    subst c10
    have H1:(impl_TreesFor.l0 kj3 a0 l1 ([] :List (List Int)) a2 0)=some (r1,r2):=by rw [if_neg (show ¬ (false=true) by decide)] at H;exact H
    clear H
    have H:=H1
    clear H1
    have H':=Aside0.mk H
    clear H
    go_wp2
    go_loopg [8,21] kj3 (fun kq v8 v21 w'=> ∃ (x8_2:List (List Int)) (x21_2:Int),v21= .int .i64 x21_2∧Aside0 (impl_TreesFor.l0 kq a0 l1 x8_2 a2 x21_2=some (r1,r2))∧Aside0 (kq≤kj3)∧Aside0 (Kd.S (Kd.slice 3 (Kd.int .i64)) 22 w' w.heap.size (fun _=>True) v8 x8_2)∧Aside0 (Below w.heap.size w w'))
    case atStart=>exact⟨(([] :List (List Int))),(0),zrs,H',⟨Nat.le_refl _⟩,⟨by first|exact Kd.S_nil _ _ _ _ _|exact Kd.N_nil _ _ _ _ _|exact Kd.V_nil _ _ _ _ _|exact Kd.Q_nil _ _ _ _ _|exact Kd.R_nil _ _ _ _ _⟩,⟨by exact zk1 HB⟩⟩
    case round=>
     clear H'
     try clear c1
     try clear p2
     try clear c3
     try clear c6
     try clear c10
     try clear p2
     obtain⟨x8_2,x21_2,rfl,HA,HK2,HO_8,HB⟩:=hrel
     cases gk with
     |zero=>exact absurd HA.out (by simp [impl_TreesFor.l0])
     |succ k2=>
      have H:=HA.out
      clear HA
      simp only [impl_TreesFor.l0] at H
      by_cases c11:x21_2<a2
      ·rw [if_pos c11] at H
       have c11b0:decide (x21_2<a2)=true:=decide_eq_true c11
       clear c11
       replace H:=Option.bind_eq_some_iff.mp H
       obtain⟨t634,A120,H⟩:=H
       replace H:(if x8_2.length< 5864062014805 then(impl_TreesFor.l0 k2 a0 l1 (x8_2++ [t634]) a2 (wrap64 (x21_2+1))) else(none))=some (r1,r2):=H
       have A12:=Aside0.mk A120
       clear A120
       by_cases c13:x8_2.length< 5864062014805
       case neg=>exact znn c13 H
       rw [if_pos c13] at H
       have LMc13:=Aside0.mk c13
       clear c13
       obtain⟨y637,hy637⟩ :∃ y_:List (List Int),y_= (x8_2++ [t634]):=⟨_,rfl⟩
       replace H:(impl_TreesFor.l0 k2 a0 l1 y637 a2 (wrap64 (x21_2+1)))=some (r1,r2):=zfh hy637 H
       have Ny637:=Aside0.mk hy637
       clear hy637
       have H':=Aside0.mk H
       clear H
       go_wp2_with (first|((with_reducible refine gate_callee (f:=77) rfl ?_);refine goesL_ (some 28) rfl rfl Try.func77 (by kernel_rfl) rfl #[.int .i64 a0,.slice A1 l1.length c1,.int .i64 x21_2] rfl zq2 ?_;(with_reducible refine(impl_treeAt.calls k2 a0 _ _ l1 x21_2 t634 _ ?side1 ?side2 A12.out).mono ?_);(case side1=>exact zcc ((Kd.C_below HR1.out HB.out)));(case side2=>exact HC1.out);rintro e w14 ⟨v635,rfl,ho0,hb⟩;refine⟨_,rfl,?_⟩;have HO636:=Aside0.mk (Kd.R_lower ho0 (below_size (by exact zk1 HB)));replace HO_8:=Aside0.mk (Kd.S_elder' (by(with_reducible repeat(first|apply Kd.S_alloc|apply Kd.S_drewN|apply Kd.S_drew));exact HO_8.out) (Kd.R_base ho0) hb);replace HB:=Aside0.mk (below_step (by exact zk1 HB) hb);(try clear hb);(try clear hb2);(try clear hk);(try clear hi);(try clear ho0);obtain⟨Ao16,co16,eo16⟩:=Kd.R_slice HO636.out;subst eo16)|((with_reducible refine gate_builtin (b:= .append) (xs:= #[.tmp 24,.tmp 29]) rfl ?_);at_builtin;refine Kd.S_append (Kd.slice 3 (Kd.int .i64)) (w0:=w) w.heap.size rfl (.tmp 24) (.tmp 29) 48 22 (.slice none 0 0) 24 rfl Try.underlying48 info22 rfl (by decide) (by omega) u8 x8_2 t634 [.slice Ao16 t634.length co16] (fun _=>True) (fun k_=>some k_= (.slice Ao16 t634.length co16:Value).ownBlock) rfl rfl ?aP (fun k_ hk_=>((Kd.R_mono (ok':=fun k_=>((fun _=>True)) k_∧some k_≠ (u8:Value).ownBlock) (Kd.R_apart' (HO636.out) (Kd.S_typed HO_8.out) (by decide)) (fun k_ hk=>⟨trivial,hk.2⟩))).1 k_ hk_.symm) ?aF ?aO ?aB ?aS ?aL ?_;(case aP=>exact Kd.M_row (Kd.R_mono (Kd.R_tight rfl (Kd.R_mono (ok':=fun k_=>((fun _=>True)) k_∧some k_≠ (u8:Value).ownBlock) (Kd.R_apart' (HO636.out) (Kd.S_typed HO_8.out) (by decide)) (fun k_ hk=>⟨trivial,hk.2⟩))) (fun _ h_=>h_)));(case aB=>exact(by exact zk1 HB));(case aF=>exact(fun _ _=>trivial));(case aO=>exact(by(with_reducible repeat(first|apply Kd.S_alloc|apply Kd.S_drewN|apply Kd.S_drew));exact Kd.S_mono HO_8.out (fun k_ hk=>⟨trivial,fun e_=>hk.2 e_⟩)));(case aS=>exact(below_size (by exact zk1 HB)));(case aL=>have:=LMc13.out;omega);intro v638 w15 ho hb hg hat;rw [← Ny637.out] at ho;have HO639:=Aside0.mk (ho);replace HB:=Aside0.mk (hb);clear HO_8 HO636;clear ho hb hg hat))
       go_roundg k2
       case measure=>have:=HJ3.out;have:=HK2.out;omega
       case rel=>exact⟨(y637),(wrap64 (x21_2+1)),zrs,H',⟨by have:=HJ3.out;have:=HK2.out;omega⟩,⟨by(with_reducible repeat(first|apply Kd.S_alloc|apply Kd.S_drewN|apply Kd.S_drew));exact HO639.out⟩,⟨by exact zk1 HB⟩⟩
      ·rw [if_neg c11] at H
       have c11b0:decide (x21_2<a2)=false:=decide_eq_false c11
       clear c11
       simp only [Option.some.injEq,Prod.mk.injEq] at H
       obtain⟨rfl,rfl⟩:=H
       go_wp2
       go_ret2
       exact⟨_,zer,by(with_reducible repeat(first|apply Kd.S_alloc|apply Kd.S_drewN|apply Kd.S_drew));exact HO_8.out,by exact zk1 HB⟩
mutual
def spec_l8Groups.l0:Nat→Int→List (S79)→List Int→Int→Option (List Int)
 | 0,_,_,_,_=>none
 |k+1,x0,x1,x5,x6=>if x6<x0 then(if x5.length< 17592186044416 then(spec_l8Groups.l0 k x0 x1 (x5++ [x6]) (wrap64 (x6+1))) else(none)) else(spec_l8Groups.l1 k x1 x5 (x5.length:Int) 0)
def spec_l8Groups.l1:Nat→List (S79)→List Int→Int→Int→Option (List Int)
 | 0,_,_,_,_=>none
 |k+1,x1,x5,x20,x21=>if x21<x20 then(spec_l8Groups.l2 k x1 x5 x20 x21 x1 (x1.length:Int) 0) else(some x5)
def spec_l8Groups.l2:Nat→List (S79)→List Int→Int→Int→List (S79)→Int→Int→Option (List Int)
 | 0,_,_,_,_,_,_,_=>none
 |k+1,x1,x5,x20,x21,x23,x24,x25=>if x25<x24 then(if 0≤x25 then(if x25< (x23.length:Int) then(if 0≤ ((rd_T79 x23 x25).f0) then(if ((rd_T79 x23 x25).f0)< (x5.length:Int) then(if 0≤ ((rd_T79 x23 x25).f1) then(if ((rd_T79 x23 x25).f1)< (x5.length:Int) then((spec_l1Least.f (rd x5 ((rd_T79 x23 x25).f0)) (rd x5 ((rd_T79 x23 x25).f1))).bind fun t686=>(spec_l8Groups.l2 k x1 ((x5.set (((rd_T79 x23 x25).f0):Int).toNat t686).set (((rd_T79 x23 x25).f1):Int).toNat t686) x20 x21 x23 x24 (wrap64 (x25+1)))) else(none)) else(none)) else(none)) else(none)) else(none)) else(none)) else(spec_l8Groups.l1 k x1 x5 x20 (wrap64 (x21+1)))
end
def spec_l8Groups.f (k:Nat) (a0:Int) (l1:List (S79)):Option (List Int):=spec_l8Groups.l0 k a0 l1 ([] :List Int) 0
set_option maxHeartbeats 8000000 in
set_option maxRecDepth 100000 in
theorem spec_l8Groups.calls (k:Nat) (a0:Int) (A1:Option Addr) (c1:Nat) (l1:List (S79)) (r:List Int) (w:World) (hr1:Kd.C k79 w A1 l1.length l1) (hc1:l1.length≤c1) (h:spec_l8Groups.f k a0 l1=some r):
  Calls Try.prog 79 #[.int .i64 a0,.slice A1 l1.length c1] w fun e w'=> ∃ v0_:Value,e= .returned (v0_)∧Kd.R (Kd.int .i64) 3 w' w.heap.size (fun _=>True) v0_ r∧Below w.heap.size w w':=by
 have hu79:=Try.underlying79
 have HR1:=Aside0.mk hr1
 have HC1:=Aside0.mk hc1
 clear hr1 hc1
 have HB:=Aside0.mk (Below.refl w.heap.size w)
 have H:(spec_l8Groups.l0 k a0 l1 ([] :List Int) 0)=some r:=h
 clear h
 have H':=Aside0.mk H
 clear H
 go_enter Try.func79,Try.ntmps79
 go_wp2
 repeat(go_quiet (fail);try go_wp2)
 go_loopg [5,6] k (fun kq v5 v6 w'=> ∃ (x5_1:List Int) (x6_1:Int),v6= .int .i64 x6_1∧Aside0 (spec_l8Groups.l0 kq a0 l1 x5_1 x6_1=some r)∧Aside0 (kq≤k)∧Aside0 (Kd.R (Kd.int .i64) 3 w' w.heap.size (fun _=>True) v5 x5_1)∧Aside0 (Below w.heap.size w w'))
 case atStart=>exact⟨(([] :List Int)),(0),zrs,H',⟨Nat.le_refl _⟩,⟨by first|exact Kd.R_nil _ _ _ _ _|exact Kd.N_nil _ _ _ _ _|exact Kd.V_nil _ _ _ _ _|exact Kd.Q_nil _ _ _ _ _|exact Kd.S_nil _ _ _ _ _⟩,⟨by exact zk1 HB⟩⟩
 case round=>
  clear H'
  try clear c1
  try clear p2
  obtain⟨x5_1,x6_1,rfl,HA,HK1,HO_5,HB⟩:=hrel
  cases gk with
  |zero=>exact absurd HA.out (by simp [spec_l8Groups.l0])
  |succ k1=>
   have H:=HA.out
   clear HA
   simp only [spec_l8Groups.l0] at H
   by_cases c3:x6_1<a0
   ·rw [if_pos c3] at H
    have c3b0:decide (x6_1<a0)=true:=decide_eq_true c3
    clear c3
    by_cases c4:x5_1.length< 17592186044416
    case neg=>exact znn c4 H
    rw [if_pos c4] at H
    have LMc4:=Aside0.mk c4
    clear c4
    obtain⟨y679,hy679⟩ :∃ y_:List Int,y_= (x5_1++ [x6_1]):=⟨_,rfl⟩
    replace H:(spec_l8Groups.l0 k1 a0 l1 y679 (wrap64 (x6_1+1)))=some r:=zfh hy679 H
    have Ny679:=Aside0.mk hy679
    clear hy679
    have H':=Aside0.mk H
    clear H
    go_wp2_with (first|((with_reducible refine gate_builtin (b:= .append) (xs:= #[.tmp 15,.tmp 17]) rfl ?_);at_builtin;refine Kd.R_append (Kd.int .i64) (w0:=w) w.heap.size rfl (.tmp 15) (.tmp 17) 22 3 (.int .i64 0) 8 rfl Try.underlying22 info3 rfl (by decide) (by omega) u5 x5_1 x6_1 [.int .i64 x6_1] (fun _=>True) (fun _=>False) rfl rfl ?aP (fun _ hk=>hk.elim) ?aF ?aO ?aB ?aS ?aL ?_;(case aP=>exact rfl);(case aB=>exact(by exact zk1 HB));(case aF=>exact(fun _ _=>trivial));(case aO=>exact(zq4 HO_5));(case aS=>exact(below_size (by exact zk1 HB)));(case aL=>have:=LMc4.out;omega);intro v680 w5 ho hb hg hat;rw [← Ny679.out] at ho;have HO681:=Aside0.mk (ho);replace HB:=Aside0.mk (hb);clear HO_5;clear ho hb hg hat))
    repeat(go_quiet (first|((with_reducible refine gate_builtin (b:= .append) (xs:= #[.tmp 15,.tmp 17]) rfl ?_);at_builtin;refine Kd.R_append (Kd.int .i64) (w0:=w) w.heap.size rfl (.tmp 15) (.tmp 17) 22 3 (.int .i64 0) 8 rfl Try.underlying22 info3 rfl (by decide) (by omega) u5 x5_1 x6_1 [.int .i64 x6_1] (fun _=>True) (fun _=>False) rfl rfl ?aP (fun _ hk=>hk.elim) ?aF ?aO ?aB ?aS ?aL ?_;(case aP=>exact rfl);(case aB=>exact(by exact zk1 HB));(case aF=>exact(fun _ _=>trivial));(case aO=>exact(zq4 HO_5));(case aS=>exact(below_size (by exact zk1 HB)));(case aL=>have:=LMc4.out;omega);intro v680 w5 ho hb hg hat;rw [← Ny679.out] at ho;have HO681:=Aside0.mk (ho);replace HB:=Aside0.mk (hb);clear HO_5;clear ho hb hg hat));try go_wp2_with (first|((with_reducible refine gate_builtin (b:= .append) (xs:= #[.tmp 15,.tmp 17]) rfl ?_);at_builtin;refine Kd.R_append (Kd.int .i64) (w0:=w) w.heap.size rfl (.tmp 15) (.tmp 17) 22 3 (.int .i64 0) 8 rfl Try.underlying22 info3 rfl (by decide) (by omega) u5 x5_1 x6_1 [.int .i64 x6_1] (fun _=>True) (fun _=>False) rfl rfl ?aP (fun _ hk=>hk.elim) ?aF ?aO ?aB ?aS ?aL ?_;(case aP=>exact rfl);(case aB=>exact(by exact zk1 HB));(case aF=>exact(fun _ _=>trivial));(case aO=>exact(zq4 HO_5));(case aS=>exact(below_size (by exact zk1 HB)));(case aL=>have:=LMc4.out;omega);intro v680 w5 ho hb hg hat;rw [← Ny679.out] at ho;have HO681:=Aside0.mk (ho);replace HB:=Aside0.mk (hb);clear HO_5;clear ho hb hg hat)))
    go_roundg k1
    case measure=>have:=HK1.out;omega
    case rel=>exact⟨(y679),(wrap64 (x6_1+1)),zrs,H',⟨by have:=HK1.out;omega⟩,⟨zdr HO681⟩,⟨by exact zk1 HB⟩⟩
   ·rw [if_neg c3] at H
    have c3b0:decide (x6_1<a0)=false:=decide_eq_false c3
    clear c3
    have H':=Aside0.mk H
    clear H
    obtain⟨Ao6,co6,eo6⟩:=Kd.R_slice HO_5.out
    subst eo6
    go_wp2
    repeat(go_quiet (fail);try go_wp2)
    go_loopg [21] k1 (fun kq v21 w'=> ∃ (x5_2:List Int) (x21_2:Int),v21= .int .i64 x21_2∧Aside0 (spec_l8Groups.l1 kq l1 x5_2 (x5_1.length:Int) x21_2=some r)∧Aside0 (kq≤k1)∧Aside0 (Kd.R (Kd.int .i64) 3 w' w.heap.size (fun _=>True) (.slice Ao6 x5_1.length co6) x5_2)∧Aside0 (Below w.heap.size w w'))
    case atStart=>exact⟨(x5_1),(0),zrs,H',⟨Nat.le_refl _⟩,⟨zdr HO_5⟩,⟨by exact zk1 HB⟩⟩
    case round=>
     clear H'
     try clear c1
     try clear p2
     try clear c3
     try clear c3b0
     try clear c4
     try clear p6
     try clear p2
     obtain⟨x5_2,x21_2,rfl,HA,HK2,HO_5,HB⟩:=hrel
     have hl5_2:=(Kd.R_reads' HO_5.out).1
     rw [hl5_2] at HO_5
     (try simp only [hl5_2])
     cases gk with
     |zero=>exact absurd HA.out (by simp [spec_l8Groups.l1])
     |succ k2=>
      have H:=HA.out
      clear HA
      simp only [spec_l8Groups.l1] at H
      by_cases c7:x21_2< (x5_1.length:Int)
      ·rw [if_pos c7] at H
       have c7b0:decide (x21_2< (x5_1.length:Int))=true:=decide_eq_true c7
       (try(have c7b0L:=c7b0;simp only [hl5_2] at c7b0L))
       clear c7
       have H':=Aside0.mk H
       clear H
       go_wp2
       repeat(go_quiet (fail);try go_wp2)
       go_loopg [25] k2 (fun kq v25 w'=> ∃ (x5_3:List Int) (x25_3:Int),v25= .int .i64 x25_3∧Aside0 (spec_l8Groups.l2 kq l1 x5_3 (x5_1.length:Int) x21_2 l1 (l1.length:Int) x25_3=some r)∧Aside0 (kq≤k2)∧Aside0 (Kd.R (Kd.int .i64) 3 w' w.heap.size (fun _=>True) (.slice Ao6 x5_2.length co6) x5_3)∧Aside0 (Below w.heap.size w w'))
       case atStart=>exact⟨(x5_2),(0),zrs,H',⟨Nat.le_refl _⟩,⟨by(try simp only [hl5_2]);(with_reducible repeat(first|apply Kd.R_alloc|apply Kd.R_drewN|apply Kd.R_drew));exact HO_5.out⟩,⟨by exact zk1 HB⟩⟩
       case round=>
        clear H'
        try clear c1
        try clear p2
        try clear c3
        try clear c3b0
        try clear c4
        try clear p6
        try clear c7
        try clear c7b0
        try clear p2
        try clear p6
        obtain⟨x5_3,x25_3,rfl,HA,HK3,HO_5,HB⟩:=hrel
        have hl5_3:=(Kd.R_reads' HO_5.out).1
        rw [hl5_3] at HO_5
        (try simp only [hl5_3])
        cases gk with
        |zero=>exact absurd HA.out (by simp [spec_l8Groups.l2])
        |succ k3=>
         have H:=HA.out
         clear HA
         simp only [spec_l8Groups.l2] at H
         by_cases c8:x25_3< (l1.length:Int)
         ·rw [if_pos c8] at H
          have c8b0:decide (x25_3< (l1.length:Int))=true:=decide_eq_true c8
          (try(have c8b0L:=c8b0;simp only [hl5_2] at c8b0L))
          (try(have c8b0L:=c8b0;simp only [hl5_3] at c8b0L))
          clear c8
          by_cases c9: 0≤x25_3
          case neg=>exact znn c9 H
          rw [if_pos c9] at H
          have c9b0:decide (0≤x25_3)=true:=decide_eq_true c9
          clear c9
          by_cases c10:x25_3< (l1.length:Int)
          case neg=>exact znn c10 H
          rw [if_pos c10] at H
          have c10b0:decide (x25_3< (l1.length:Int))=true:=decide_eq_true c10
          (try(have c10b0L:=c10b0;simp only [hl5_2] at c10b0L))
          (try(have c10b0L:=c10b0;simp only [hl5_3] at c10b0L))
          clear c10
          by_cases c11: 0≤ ((rd_T79 l1 x25_3).f0)
          case neg=>exact znn c11 H
          rw [if_pos c11] at H
          have c11b0:decide (0≤ ((rd_T79 l1 x25_3).f0))=true:=decide_eq_true c11
          clear c11
          by_cases c12:((rd_T79 l1 x25_3).f0)< (x5_3.length:Int)
          case neg=>exact znn c12 H
          rw [if_pos c12] at H
          have c12b0:decide (((rd_T79 l1 x25_3).f0)< (x5_3.length:Int))=true:=decide_eq_true c12
          (try(have c12b0L:=c12b0;simp only [hl5_2] at c12b0L))
          (try(have c12b0L:=c12b0;simp only [hl5_3] at c12b0L))
          clear c12
          by_cases c13: 0≤ ((rd_T79 l1 x25_3).f1)
          case neg=>exact znn c13 H
          rw [if_pos c13] at H
          have c13b0:decide (0≤ ((rd_T79 l1 x25_3).f1))=true:=decide_eq_true c13
          clear c13
          by_cases c14:((rd_T79 l1 x25_3).f1)< (x5_3.length:Int)
          case neg=>exact znn c14 H
          rw [if_pos c14] at H
          have c14b0:decide (((rd_T79 l1 x25_3).f1)< (x5_3.length:Int))=true:=decide_eq_true c14
          (try(have c14b0L:=c14b0;simp only [hl5_2] at c14b0L))
          (try(have c14b0L:=c14b0;simp only [hl5_3] at c14b0L))
          clear c14
          replace H:=Option.bind_eq_some_iff.mp H
          obtain⟨t686,A150,H⟩:=H
          replace H:(spec_l8Groups.l2 k3 l1 ((x5_3.set (((rd_T79 l1 x25_3).f0):Int).toNat t686).set (((rd_T79 l1 x25_3).f1):Int).toNat t686) (x5_1.length:Int) x21_2 l1 (l1.length:Int) (wrap64 (x25_3+1)))=some r:=H
          have A15:=Aside0.mk A150
          clear A150
          obtain⟨y687,hy687⟩ :∃ y_:List Int,y_= (x5_3.set (((rd_T79 l1 x25_3).f0):Int).toNat t686):=⟨_,rfl⟩
          replace H:(spec_l8Groups.l2 k3 l1 (y687.set (((rd_T79 l1 x25_3).f1):Int).toNat t686) (x5_1.length:Int) x21_2 l1 (l1.length:Int) (wrap64 (x25_3+1)))=some r:=zfh hy687 H
          have Ny687:=Aside0.mk hy687
          clear hy687
          obtain⟨y688,hy688⟩ :∃ y_:List Int,y_= (y687.set (((rd_T79 l1 x25_3).f1):Int).toNat t686):=⟨_,rfl⟩
          replace H:(spec_l8Groups.l2 k3 l1 y688 (x5_1.length:Int) x21_2 l1 (l1.length:Int) (wrap64 (x25_3+1)))=some r:=zfh hy688 H
          have Ny688:=Aside0.mk hy688
          clear hy688
          have H':=Aside0.mk H
          clear H
          have p682: 0≤ (x25_3:Int):=of_decide_eq_true zq1
          have q682:x25_3< (l1.length:Int):=of_decide_eq_true zq1
          obtain⟨ad682,e682,hx682_0,hx682_1,hx682_2⟩:=at_T79 HR1.out x25_3 p682 q682
          cases e682
          replace hx682_0:=zhx HB hx682_0
          replace hx682_1:=zhx HB hx682_1
          replace hx682_2:=zhx HB hx682_2
          replace p682:=eq_true p682
          replace q682:=eq_true q682
          go_wp2_with (first|((with_reducible refine gate_dst (N:=8) rfl ?_);refine box_event ?hg (N:=8) ?hd (cs:= #[.int .i64 0,.int .i64 0,.int .i64 0]) (t:=79) ?hr ?_;(case hd=>rfl);(case hg=>rfl);(case hr=>first|(go_simp;done)|(go_simp;rfl));intro gb683 hg w18 hbox hb;have BK683:=Aside0.mk (hbox);have GW683:=Aside0.mk ((by rw [hg];exact(below_size (by exact zk1 HB)):w.heap.size≤gb683));have GE683:=GW683;replace HO_5:=Aside0.mk (Kd.R_below (zq4 HO_5) hb);replace HB:=Aside0.mk (below_step (by exact zk1 HB) hb);clear hb hbox hg;have hcz19_0:=zcz BK683 0 (.int .i64 0);have hcz19_1:=zcz BK683 1 (.int .i64 0);have hcz19_2:=zcz BK683 2 (.int .i64 0);have hfz19_0:=blk_frozen BK683.out 0;have hfz19_1:=blk_frozen BK683.out 1;have hfz19_2:=blk_frozen BK683.out 2)|((with_reducible refine gate_store (t:=79) (p:=8) rfl ?_);(try(rw [drewN_self w18];generalize hq_:World.drewN w18 _=w18;have n0_:=Aside0.mk (Kd.R_at hq_ HO_5.out);have n1_:=Aside0.mk (blk_at hq_ BK683.out);have n2_:=Aside0.mk (below_at hq_ HB.out);clear hq_ HO_5 BK683 HB;have HO_5:=n0_;have BK683:=n1_;have HB:=n2_;clear n0_ n1_ n2_));refine store_event (t:=79) (p:=8) (v:=?vo_w20) (w1:=(((w18.setCell ⟨gb683,0,none⟩ (.int .i64 ((rd_T79 l1 x25_3).f0))).setCell ⟨gb683,1,none⟩ (.int .i64 ((rd_T79 l1 x25_3).f1))).setCell ⟨gb683,2,none⟩ (.int .i64 ((rd_T79 l1 x25_3).f2)))) ?hg ?ho ?hn ?hr ?_;(case ho=>rfl);(case hg=>rfl);(case hn=>rfl);(case hr=>first|(go_simp;done)|(go_simp;rfl));intro w20 hw;have n0_:Aside0 (Kd.R (Kd.int .i64) 3 w20 w.heap.size (fun _=>True) (.slice Ao6 x5_3.length co6) x5_3):=⟨(by rw [hw];exact(by(with_reducible repeat(first|apply Kd.R_alloc|apply Kd.R_drewN|apply Kd.R_drew));exact Kd.R_mono (Kd.R_far (p:=⟨gb683,2,none⟩) (Kd.R_far (p:=⟨gb683,1,none⟩) (Kd.R_far (p:=⟨gb683,0,none⟩) (Kd.R_types HO_5.out BK683.out (by decide)) (fun _ hk=>hk.2) (.int .i64 ((rd_T79 l1 x25_3).f0))) (fun _ hk=>hk.2) (.int .i64 ((rd_T79 l1 x25_3).f1))) (fun _ hk=>hk.2) (.int .i64 ((rd_T79 l1 x25_3).f2))) (fun _ hk=>trivial)))⟩;have n1_:Aside0 (w20.heap[gb683]?=some (.cells #[.int .i64 ((rd_T79 l1 x25_3).f0),.int .i64 ((rd_T79 l1 x25_3).f1),.int .i64 ((rd_T79 l1 x25_3).f2)] 79 (0,0))):=⟨(by rw [hw];exact(by(with_reducible repeat(first|refine blk_drewN ?_ _|refine blk_drew ?_ |refine blk_alloc ?_ _));refine blk_put (cs:= #[.int .i64 ((rd_T79 l1 x25_3).f0),.int .i64 ((rd_T79 l1 x25_3).f1),.int .i64 0]) ?_ 2 _ rfl;(with_reducible repeat(first|refine blk_drewN ?_ _|refine blk_drew ?_ |refine blk_alloc ?_ _));refine blk_put (cs:= #[.int .i64 ((rd_T79 l1 x25_3).f0),.int .i64 0,.int .i64 0]) ?_ 1 _ rfl;(with_reducible repeat(first|refine blk_drewN ?_ _|refine blk_drew ?_ |refine blk_alloc ?_ _));refine blk_put (cs:= #[.int .i64 0,.int .i64 0,.int .i64 0]) ?_ 0 _ rfl;(with_reducible repeat(first|refine blk_drewN ?_ _|refine blk_drew ?_ |refine blk_alloc ?_ _));exact BK683.out))⟩;have n2_:Aside0 (Below w.heap.size w w20):=⟨(by rw [hw];exact(by exact zk2 HB GE683.out))⟩;clear hw;clear HO_5;clear BK683;clear HB;have HO_5:=n0_;have BK683:=n1_;have HB:=n2_;clear n0_ n1_ n2_;have hcz21_0:=zcz BK683 0 (.int .i64 ((rd_T79 l1 x25_3).f0));have hcz21_1:=zcz BK683 1 (.int .i64 ((rd_T79 l1 x25_3).f1));have hcz21_2:=zcz BK683 2 (.int .i64 ((rd_T79 l1 x25_3).f2));have hfz21_0:=blk_frozen BK683.out 0;have hfz21_1:=blk_frozen BK683.out 1;have hfz21_2:=blk_frozen BK683.out 2;have p684: 0≤ (((rd_T79 l1 x25_3).f0):Int):=of_decide_eq_true zq1;have q684:((rd_T79 l1 x25_3).f0)< (x5_3.length:Int):=of_decide_eq_true zq1;obtain⟨ad684,e684,hx684_0⟩:=Kd.at_int (Kd.R_reads' HO_5.out).2.2 ((rd_T79 l1 x25_3).f0) p684 q684;cases e684;replace p684:=eq_true p684;replace q684:=eq_true q684;have p685: 0≤ (((rd_T79 l1 x25_3).f1):Int):=of_decide_eq_true zq1;have q685:((rd_T79 l1 x25_3).f1)< (x5_3.length:Int):=of_decide_eq_true zq1;obtain⟨ad685,e685,hx685_0⟩:=Kd.at_int (Kd.R_reads' HO_5.out).2.2 ((rd_T79 l1 x25_3).f1) p685 q685;obtain rfl:ad684=ad685:=(by injection e685);replace p685:=eq_true p685;replace q685:=eq_true q685)|(go_at_call 99;(with_reducible refine(spec_l1Least.calls (rd x5_3 ((rd_T79 l1 x25_3).f0)) (rd x5_3 ((rd_T79 l1 x25_3).f1)) t686 _ A15.out).mono ?_);rintro e w' ⟨rfl,⟨nd,rfl⟩⟩;(try first|exact⟨rfl,_,World.drewN_drewN _ _ _⟩|exact⟨rfl,_,Eq.trans (World.drewN_drewN _ _ _) (congrArg (World.drewN _) (Nat.add_assoc _ _ _))⟩);have p16: 0≤ (((rd_T79 l1 x25_3).f0):Int):=of_decide_eq_true zq1;have q16:(((rd_T79 l1 x25_3).f0):Int)< ((x5_3.length:Int):Int):=of_decide_eq_true zq1;obtain⟨go16,co16,eo16,gb16,gl16,cl16,HG16⟩:=Kd.R_form HO_5.out (by omega);(first|cases eo16|(injection eo16 with ea_ en_ ec_;(first|subst ea_|(injection ea_ with ea_;subst ea_));subst ec_;clear en_));have GB16:=Aside0.mk gb16;have GG16:=Aside0.mk HG16;clear gb16 gl16 HG16;(first|simp only [add_plain] at hx684_0|skip);(first|simp only [add_plain] at hx685_0|skip);obtain⟨hx16_0,hf16_0⟩:=Kd.R_celln 0 HO_5.out (((rd_T79 l1 x25_3).f0):Int) p16 q16;replace p16:=eq_true p16;replace q16:=eq_true q16;obtain⟨hy22_,hz22_⟩:=Kd.R_celln 0 HO_5.out (((rd_T79 l1 x25_3).f0):Int) (of_decide_eq_true zq1) (of_decide_eq_true zq1);have HP22:=Kd.R_putg HO_5.out (((rd_T79 l1 x25_3).f0):Int) t686)|((with_reducible refine gate_store (t:=3) (p:=44) rfl ?_);(try(rw [drewN_self w20];generalize hq_:World.drewN w20 _=w20;have n0_:=Aside0.mk (Kd.R_at hq_ HO_5.out);have n1_:=Aside0.mk (blk_at hq_ BK683.out);have n2_:=Aside0.mk (below_at hq_ HB.out);clear hq_ HO_5 BK683 HB;have HO_5:=n0_;have BK683:=n1_;have HB:=n2_;clear n0_ n1_ n2_;(try(obtain⟨hy22_,hz22_⟩:=Kd.R_celln 0 HO_5.out (((rd_T79 l1 x25_3).f0):Int) (of_decide_eq_true zq1) (of_decide_eq_true zq1)));(try(have HP22:=Kd.R_putg HO_5.out (((rd_T79 l1 x25_3).f0):Int) t686))));refine store_event (t:=3) (p:=44) (v:=?vo_w23) (w1:=(w20.setCell ⟨go16,(((rd_T79 l1 x25_3).f0):Int).toNat,none⟩ (.int .i64 t686))) ?hg ?ho ?hn ?hr ?_;(case ho=>rfl);(case hg=>rfl);(case hn=>rfl);(case hr=>first|(go_simp;done)|(go_simp;rfl));intro w23 hw;have hg:w20.grownBy w23 (some go16):=(by rw [hw];exact HP22.2);have hp_:Kd.R (Kd.int .i64) 3 w23 w.heap.size (fun _=>True) (.slice (some ⟨go16,0,none⟩) x5_3.length co6) y687:=(by rw [hw,Ny687.out];exact HP22.1);clear HP22;replace BK683:=Aside0.mk (blk_grown (g:=gb683) (o:= .cells #[.int .i64 ((rd_T79 l1 x25_3).f0),.int .i64 ((rd_T79 l1 x25_3).f1),.int .i64 ((rd_T79 l1 x25_3).f2)] 79 (0,0)) (zq3 BK683) hg (Kd.R_ne HO_5.out BK683.out (by decide)));replace HO_5:=Aside0.mk (hp_);replace HB:=Aside0.mk ((by rw [hw];exact below_set (HB.out) GB16.out:Below w.heap.size w w23));clear hg hw hp_;have hcz24_0:=zcz BK683 0 (.int .i64 ((rd_T79 l1 x25_3).f0));have hcz24_1:=zcz BK683 1 (.int .i64 ((rd_T79 l1 x25_3).f1));have hcz24_2:=zcz BK683 2 (.int .i64 ((rd_T79 l1 x25_3).f2));have hfz24_0:=blk_frozen BK683.out 0;have hfz24_1:=blk_frozen BK683.out 1;have hfz24_2:=blk_frozen BK683.out 2;have p17: 0≤ (((rd_T79 l1 x25_3).f1):Int):=of_decide_eq_true zq1;have q17:(((rd_T79 l1 x25_3).f1):Int)< ((x5_3.length:Int):Int):=of_decide_eq_true zq1;obtain⟨hx17_0,hf17_0⟩:=Kd.R_celln 0 HO_5.out (((rd_T79 l1 x25_3).f1):Int) p17 q17;replace p17:=eq_true p17;replace q17:=eq_true q17;obtain⟨hy25_,hz25_⟩:=Kd.R_celln 0 HO_5.out (((rd_T79 l1 x25_3).f1):Int) (of_decide_eq_true zq1) (of_decide_eq_true zq1);have HP25:=Kd.R_putg HO_5.out (((rd_T79 l1 x25_3).f1):Int) t686)|((with_reducible refine gate_store (t:=3) (p:=49) rfl ?_);(try(rw [drewN_self w23];generalize hq_:World.drewN w23 _=w23;have n0_:=Aside0.mk (Kd.R_at hq_ HO_5.out);have n1_:=Aside0.mk (blk_at hq_ BK683.out);have n2_:=Aside0.mk (below_at hq_ HB.out);clear hq_ HO_5 BK683 HB;have HO_5:=n0_;have BK683:=n1_;have HB:=n2_;clear n0_ n1_ n2_;(try(obtain⟨hy25_,hz25_⟩:=Kd.R_celln 0 HO_5.out (((rd_T79 l1 x25_3).f1):Int) (of_decide_eq_true zq1) (of_decide_eq_true zq1)));(try(have HP25:=Kd.R_putg HO_5.out (((rd_T79 l1 x25_3).f1):Int) t686))));refine store_event (t:=3) (p:=49) (v:=?vo_w26) (w1:=(w23.setCell ⟨go16,(((rd_T79 l1 x25_3).f1):Int).toNat,none⟩ (.int .i64 t686))) ?hg ?ho ?hn ?hr ?_;(case ho=>rfl);(case hg=>rfl);(case hn=>rfl);(case hr=>first|(go_simp;done)|(go_simp;rfl));intro w26 hw;have hg:w23.grownBy w26 (some go16):=(by rw [hw];exact HP25.2);have hp_:Kd.R (Kd.int .i64) 3 w26 w.heap.size (fun _=>True) (.slice (some ⟨go16,0,none⟩) x5_3.length co6) y688:=(by rw [hw,Ny688.out];exact HP25.1);clear HP25;replace BK683:=Aside0.mk (blk_grown (g:=gb683) (o:= .cells #[.int .i64 ((rd_T79 l1 x25_3).f0),.int .i64 ((rd_T79 l1 x25_3).f1),.int .i64 ((rd_T79 l1 x25_3).f2)] 79 (0,0)) (zq3 BK683) hg (Kd.R_ne HO_5.out BK683.out (by decide)));replace HO_5:=Aside0.mk (hp_);replace HB:=Aside0.mk ((by rw [hw];exact below_set (HB.out) GB16.out:Below w.heap.size w w26));clear hg hw hp_))
          repeat(go_quiet (first|((with_reducible refine gate_dst (N:=8) rfl ?_);refine box_event ?hg (N:=8) ?hd (cs:= #[.int .i64 0,.int .i64 0,.int .i64 0]) (t:=79) ?hr ?_;(case hd=>rfl);(case hg=>rfl);(case hr=>first|(go_simp;done)|(go_simp;rfl));intro gb683 hg w18 hbox hb;have BK683:=Aside0.mk (hbox);have GW683:=Aside0.mk ((by rw [hg];exact(below_size (by exact zk1 HB)):w.heap.size≤gb683));have GE683:=GW683;replace HO_5:=Aside0.mk (Kd.R_below (zq4 HO_5) hb);replace HB:=Aside0.mk (below_step (by exact zk1 HB) hb);clear hb hbox hg;have hcz19_0:=zcz BK683 0 (.int .i64 0);have hcz19_1:=zcz BK683 1 (.int .i64 0);have hcz19_2:=zcz BK683 2 (.int .i64 0);have hfz19_0:=blk_frozen BK683.out 0;have hfz19_1:=blk_frozen BK683.out 1;have hfz19_2:=blk_frozen BK683.out 2)|((with_reducible refine gate_store (t:=79) (p:=8) rfl ?_);(try(rw [drewN_self w18];generalize hq_:World.drewN w18 _=w18;have n0_:=Aside0.mk (Kd.R_at hq_ HO_5.out);have n1_:=Aside0.mk (blk_at hq_ BK683.out);have n2_:=Aside0.mk (below_at hq_ HB.out);clear hq_ HO_5 BK683 HB;have HO_5:=n0_;have BK683:=n1_;have HB:=n2_;clear n0_ n1_ n2_));refine store_event (t:=79) (p:=8) (v:=?vo_w20) (w1:=(((w18.setCell ⟨gb683,0,none⟩ (.int .i64 ((rd_T79 l1 x25_3).f0))).setCell ⟨gb683,1,none⟩ (.int .i64 ((rd_T79 l1 x25_3).f1))).setCell ⟨gb683,2,none⟩ (.int .i64 ((rd_T79 l1 x25_3).f2)))) ?hg ?ho ?hn ?hr ?_;(case ho=>rfl);(case hg=>rfl);(case hn=>rfl);(case hr=>first|(go_simp;done)|(go_simp;rfl));intro w20 hw;have n0_:Aside0 (Kd.R (Kd.int .i64) 3 w20 w.heap.size (fun _=>True) (.slice Ao6 x5_3.length co6) x5_3):=⟨(by rw [hw];exact(by(with_reducible repeat(first|apply Kd.R_alloc|apply Kd.R_drewN|apply Kd.R_drew));exact Kd.R_mono (Kd.R_far (p:=⟨gb683,2,none⟩) (Kd.R_far (p:=⟨gb683,1,none⟩) (Kd.R_far (p:=⟨gb683,0,none⟩) (Kd.R_types HO_5.out BK683.out (by decide)) (fun _ hk=>hk.2) (.int .i64 ((rd_T79 l1 x25_3).f0))) (fun _ hk=>hk.2) (.int .i64 ((rd_T79 l1 x25_3).f1))) (fun _ hk=>hk.2) (.int .i64 ((rd_T79 l1 x25_3).f2))) (fun _ hk=>trivial)))⟩;have n1_:Aside0 (w20.heap[gb683]?=some (.cells #[.int .i64 ((rd_T79 l1 x25_3).f0),.int .i64 ((rd_T79 l1 x25_3).f1),.int .i64 ((rd_T79 l1 x25_3).f2)] 79 (0,0))):=⟨(by rw [hw];exact(by(with_reducible repeat(first|refine blk_drewN ?_ _|refine blk_drew ?_ |refine blk_alloc ?_ _));refine blk_put (cs:= #[.int .i64 ((rd_T79 l1 x25_3).f0),.int .i64 ((rd_T79 l1 x25_3).f1),.int .i64 0]) ?_ 2 _ rfl;(with_reducible repeat(first|refine blk_drewN ?_ _|refine blk_drew ?_ |refine blk_alloc ?_ _));refine blk_put (cs:= #[.int .i64 ((rd_T79 l1 x25_3).f0),.int .i64 0,.int .i64 0]) ?_ 1 _ rfl;(with_reducible repeat(first|refine blk_drewN ?_ _|refine blk_drew ?_ |refine blk_alloc ?_ _));refine blk_put (cs:= #[.int .i64 0,.int .i64 0,.int .i64 0]) ?_ 0 _ rfl;(with_reducible repeat(first|refine blk_drewN ?_ _|refine blk_drew ?_ |refine blk_alloc ?_ _));exact BK683.out))⟩;have n2_:Aside0 (Below w.heap.size w w20):=⟨(by rw [hw];exact(by exact zk2 HB GE683.out))⟩;clear hw;clear HO_5;clear BK683;clear HB;have HO_5:=n0_;have BK683:=n1_;have HB:=n2_;clear n0_ n1_ n2_;have hcz21_0:=zcz BK683 0 (.int .i64 ((rd_T79 l1 x25_3).f0));have hcz21_1:=zcz BK683 1 (.int .i64 ((rd_T79 l1 x25_3).f1));have hcz21_2:=zcz BK683 2 (.int .i64 ((rd_T79 l1 x25_3).f2));have hfz21_0:=blk_frozen BK683.out 0;have hfz21_1:=blk_frozen BK683.out 1;have hfz21_2:=blk_frozen BK683.out 2;have p684: 0≤ (((rd_T79 l1 x25_3).f0):Int):=of_decide_eq_true zq1;have q684:((rd_T79 l1 x25_3).f0)< (x5_3.length:Int):=of_decide_eq_true zq1;obtain⟨ad684,e684,hx684_0⟩:=Kd.at_int (Kd.R_reads' HO_5.out).2.2 ((rd_T79 l1 x25_3).f0) p684 q684;cases e684;replace p684:=eq_true p684;replace q684:=eq_true q684;have p685: 0≤ (((rd_T79 l1 x25_3).f1):Int):=of_decide_eq_true zq1;have q685:((rd_T79 l1 x25_3).f1)< (x5_3.length:Int):=of_decide_eq_true zq1;obtain⟨ad685,e685,hx685_0⟩:=Kd.at_int (Kd.R_reads' HO_5.out).2.2 ((rd_T79 l1 x25_3).f1) p685 q685;obtain rfl:ad684=ad685:=(by injection e685);replace p685:=eq_true p685;replace q685:=eq_true q685)|(go_at_call 99;(with_reducible refine(spec_l1Least.calls (rd x5_3 ((rd_T79 l1 x25_3).f0)) (rd x5_3 ((rd_T79 l1 x25_3).f1)) t686 _ A15.out).mono ?_);rintro e w' ⟨rfl,⟨nd,rfl⟩⟩;(try first|exact⟨rfl,_,World.drewN_drewN _ _ _⟩|exact⟨rfl,_,Eq.trans (World.drewN_drewN _ _ _) (congrArg (World.drewN _) (Nat.add_assoc _ _ _))⟩);have p16: 0≤ (((rd_T79 l1 x25_3).f0):Int):=of_decide_eq_true zq1;have q16:(((rd_T79 l1 x25_3).f0):Int)< ((x5_3.length:Int):Int):=of_decide_eq_true zq1;obtain⟨go16,co16,eo16,gb16,gl16,cl16,HG16⟩:=Kd.R_form HO_5.out (by omega);(first|cases eo16|(injection eo16 with ea_ en_ ec_;(first|subst ea_|(injection ea_ with ea_;subst ea_));subst ec_;clear en_));have GB16:=Aside0.mk gb16;have GG16:=Aside0.mk HG16;clear gb16 gl16 HG16;(first|simp only [add_plain] at hx684_0|skip);(first|simp only [add_plain] at hx685_0|skip);obtain⟨hx16_0,hf16_0⟩:=Kd.R_celln 0 HO_5.out (((rd_T79 l1 x25_3).f0):Int) p16 q16;replace p16:=eq_true p16;replace q16:=eq_true q16;obtain⟨hy22_,hz22_⟩:=Kd.R_celln 0 HO_5.out (((rd_T79 l1 x25_3).f0):Int) (of_decide_eq_true zq1) (of_decide_eq_true zq1);have HP22:=Kd.R_putg HO_5.out (((rd_T79 l1 x25_3).f0):Int) t686)|((with_reducible refine gate_store (t:=3) (p:=44) rfl ?_);(try(rw [drewN_self w20];generalize hq_:World.drewN w20 _=w20;have n0_:=Aside0.mk (Kd.R_at hq_ HO_5.out);have n1_:=Aside0.mk (blk_at hq_ BK683.out);have n2_:=Aside0.mk (below_at hq_ HB.out);clear hq_ HO_5 BK683 HB;have HO_5:=n0_;have BK683:=n1_;have HB:=n2_;clear n0_ n1_ n2_;(try(obtain⟨hy22_,hz22_⟩:=Kd.R_celln 0 HO_5.out (((rd_T79 l1 x25_3).f0):Int) (of_decide_eq_true zq1) (of_decide_eq_true zq1)));(try(have HP22:=Kd.R_putg HO_5.out (((rd_T79 l1 x25_3).f0):Int) t686))));refine store_event (t:=3) (p:=44) (v:=?vo_w23) (w1:=(w20.setCell ⟨go16,(((rd_T79 l1 x25_3).f0):Int).toNat,none⟩ (.int .i64 t686))) ?hg ?ho ?hn ?hr ?_;(case ho=>rfl);(case hg=>rfl);(case hn=>rfl);(case hr=>first|(go_simp;done)|(go_simp;rfl));intro w23 hw;have hg:w20.grownBy w23 (some go16):=(by rw [hw];exact HP22.2);have hp_:Kd.R (Kd.int .i64) 3 w23 w.heap.size (fun _=>True) (.slice (some ⟨go16,0,none⟩) x5_3.length co6) y687:=(by rw [hw,Ny687.out];exact HP22.1);clear HP22;replace BK683:=Aside0.mk (blk_grown (g:=gb683) (o:= .cells #[.int .i64 ((rd_T79 l1 x25_3).f0),.int .i64 ((rd_T79 l1 x25_3).f1),.int .i64 ((rd_T79 l1 x25_3).f2)] 79 (0,0)) (zq3 BK683) hg (Kd.R_ne HO_5.out BK683.out (by decide)));replace HO_5:=Aside0.mk (hp_);replace HB:=Aside0.mk ((by rw [hw];exact below_set (HB.out) GB16.out:Below w.heap.size w w23));clear hg hw hp_;have hcz24_0:=zcz BK683 0 (.int .i64 ((rd_T79 l1 x25_3).f0));have hcz24_1:=zcz BK683 1 (.int .i64 ((rd_T79 l1 x25_3).f1));have hcz24_2:=zcz BK683 2 (.int .i64 ((rd_T79 l1 x25_3).f2));have hfz24_0:=blk_frozen BK683.out 0;have hfz24_1:=blk_frozen BK683.out 1;have hfz24_2:=blk_frozen BK683.out 2;have p17: 0≤ (((rd_T79 l1 x25_3).f1):Int):=of_decide_eq_true zq1;have q17:(((rd_T79 l1 x25_3).f1):Int)< ((x5_3.length:Int):Int):=of_decide_eq_true zq1;obtain⟨hx17_0,hf17_0⟩:=Kd.R_celln 0 HO_5.out (((rd_T79 l1 x25_3).f1):Int) p17 q17;replace p17:=eq_true p17;replace q17:=eq_true q17;obtain⟨hy25_,hz25_⟩:=Kd.R_celln 0 HO_5.out (((rd_T79 l1 x25_3).f1):Int) (of_decide_eq_true zq1) (of_decide_eq_true zq1);have HP25:=Kd.R_putg HO_5.out (((rd_T79 l1 x25_3).f1):Int) t686)|((with_reducible refine gate_store (t:=3) (p:=49) rfl ?_);(try(rw [drewN_self w23];generalize hq_:World.drewN w23 _=w23;have n0_:=Aside0.mk (Kd.R_at hq_ HO_5.out);have n1_:=Aside0.mk (blk_at hq_ BK683.out);have n2_:=Aside0.mk (below_at hq_ HB.out);clear hq_ HO_5 BK683 HB;have HO_5:=n0_;have BK683:=n1_;have HB:=n2_;clear n0_ n1_ n2_;(try(obtain⟨hy25_,hz25_⟩:=Kd.R_celln 0 HO_5.out (((rd_T79 l1 x25_3).f1):Int) (of_decide_eq_true zq1) (of_decide_eq_true zq1)));(try(have HP25:=Kd.R_putg HO_5.out (((rd_T79 l1 x25_3).f1):Int) t686))));refine store_event (t:=3) (p:=49) (v:=?vo_w26) (w1:=(w23.setCell ⟨go16,(((rd_T79 l1 x25_3).f1):Int).toNat,none⟩ (.int .i64 t686))) ?hg ?ho ?hn ?hr ?_;(case ho=>rfl);(case hg=>rfl);(case hn=>rfl);(case hr=>first|(go_simp;done)|(go_simp;rfl));intro w26 hw;have hg:w23.grownBy w26 (some go16):=(by rw [hw];exact HP25.2);have hp_:Kd.R (Kd.int .i64) 3 w26 w.heap.size (fun _=>True) (.slice (some ⟨go16,0,none⟩) x5_3.length co6) y688:=(by rw [hw,Ny688.out];exact HP25.1);clear HP25;replace BK683:=Aside0.mk (blk_grown (g:=gb683) (o:= .cells #[.int .i64 ((rd_T79 l1 x25_3).f0),.int .i64 ((rd_T79 l1 x25_3).f1),.int .i64 ((rd_T79 l1 x25_3).f2)] 79 (0,0)) (zq3 BK683) hg (Kd.R_ne HO_5.out BK683.out (by decide)));replace HO_5:=Aside0.mk (hp_);replace HB:=Aside0.mk ((by rw [hw];exact below_set (HB.out) GB16.out:Below w.heap.size w w26));clear hg hw hp_));try go_wp2_with (first|((with_reducible refine gate_dst (N:=8) rfl ?_);refine box_event ?hg (N:=8) ?hd (cs:= #[.int .i64 0,.int .i64 0,.int .i64 0]) (t:=79) ?hr ?_;(case hd=>rfl);(case hg=>rfl);(case hr=>first|(go_simp;done)|(go_simp;rfl));intro gb683 hg w18 hbox hb;have BK683:=Aside0.mk (hbox);have GW683:=Aside0.mk ((by rw [hg];exact(below_size (by exact zk1 HB)):w.heap.size≤gb683));have GE683:=GW683;replace HO_5:=Aside0.mk (Kd.R_below (zq4 HO_5) hb);replace HB:=Aside0.mk (below_step (by exact zk1 HB) hb);clear hb hbox hg;have hcz19_0:=zcz BK683 0 (.int .i64 0);have hcz19_1:=zcz BK683 1 (.int .i64 0);have hcz19_2:=zcz BK683 2 (.int .i64 0);have hfz19_0:=blk_frozen BK683.out 0;have hfz19_1:=blk_frozen BK683.out 1;have hfz19_2:=blk_frozen BK683.out 2)|((with_reducible refine gate_store (t:=79) (p:=8) rfl ?_);(try(rw [drewN_self w18];generalize hq_:World.drewN w18 _=w18;have n0_:=Aside0.mk (Kd.R_at hq_ HO_5.out);have n1_:=Aside0.mk (blk_at hq_ BK683.out);have n2_:=Aside0.mk (below_at hq_ HB.out);clear hq_ HO_5 BK683 HB;have HO_5:=n0_;have BK683:=n1_;have HB:=n2_;clear n0_ n1_ n2_));refine store_event (t:=79) (p:=8) (v:=?vo_w20) (w1:=(((w18.setCell ⟨gb683,0,none⟩ (.int .i64 ((rd_T79 l1 x25_3).f0))).setCell ⟨gb683,1,none⟩ (.int .i64 ((rd_T79 l1 x25_3).f1))).setCell ⟨gb683,2,none⟩ (.int .i64 ((rd_T79 l1 x25_3).f2)))) ?hg ?ho ?hn ?hr ?_;(case ho=>rfl);(case hg=>rfl);(case hn=>rfl);(case hr=>first|(go_simp;done)|(go_simp;rfl));intro w20 hw;have n0_:Aside0 (Kd.R (Kd.int .i64) 3 w20 w.heap.size (fun _=>True) (.slice Ao6 x5_3.length co6) x5_3):=⟨(by rw [hw];exact(by(with_reducible repeat(first|apply Kd.R_alloc|apply Kd.R_drewN|apply Kd.R_drew));exact Kd.R_mono (Kd.R_far (p:=⟨gb683,2,none⟩) (Kd.R_far (p:=⟨gb683,1,none⟩) (Kd.R_far (p:=⟨gb683,0,none⟩) (Kd.R_types HO_5.out BK683.out (by decide)) (fun _ hk=>hk.2) (.int .i64 ((rd_T79 l1 x25_3).f0))) (fun _ hk=>hk.2) (.int .i64 ((rd_T79 l1 x25_3).f1))) (fun _ hk=>hk.2) (.int .i64 ((rd_T79 l1 x25_3).f2))) (fun _ hk=>trivial)))⟩;have n1_:Aside0 (w20.heap[gb683]?=some (.cells #[.int .i64 ((rd_T79 l1 x25_3).f0),.int .i64 ((rd_T79 l1 x25_3).f1),.int .i64 ((rd_T79 l1 x25_3).f2)] 79 (0,0))):=⟨(by rw [hw];exact(by(with_reducible repeat(first|refine blk_drewN ?_ _|refine blk_drew ?_ |refine blk_alloc ?_ _));refine blk_put (cs:= #[.int .i64 ((rd_T79 l1 x25_3).f0),.int .i64 ((rd_T79 l1 x25_3).f1),.int .i64 0]) ?_ 2 _ rfl;(with_reducible repeat(first|refine blk_drewN ?_ _|refine blk_drew ?_ |refine blk_alloc ?_ _));refine blk_put (cs:= #[.int .i64 ((rd_T79 l1 x25_3).f0),.int .i64 0,.int .i64 0]) ?_ 1 _ rfl;(with_reducible repeat(first|refine blk_drewN ?_ _|refine blk_drew ?_ |refine blk_alloc ?_ _));refine blk_put (cs:= #[.int .i64 0,.int .i64 0,.int .i64 0]) ?_ 0 _ rfl;(with_reducible repeat(first|refine blk_drewN ?_ _|refine blk_drew ?_ |refine blk_alloc ?_ _));exact BK683.out))⟩;have n2_:Aside0 (Below w.heap.size w w20):=⟨(by rw [hw];exact(by exact zk2 HB GE683.out))⟩;clear hw;clear HO_5;clear BK683;clear HB;have HO_5:=n0_;have BK683:=n1_;have HB:=n2_;clear n0_ n1_ n2_;have hcz21_0:=zcz BK683 0 (.int .i64 ((rd_T79 l1 x25_3).f0));have hcz21_1:=zcz BK683 1 (.int .i64 ((rd_T79 l1 x25_3).f1));have hcz21_2:=zcz BK683 2 (.int .i64 ((rd_T79 l1 x25_3).f2));have hfz21_0:=blk_frozen BK683.out 0;have hfz21_1:=blk_frozen BK683.out 1;have hfz21_2:=blk_frozen BK683.out 2;have p684: 0≤ (((rd_T79 l1 x25_3).f0):Int):=of_decide_eq_true zq1;have q684:((rd_T79 l1 x25_3).f0)< (x5_3.length:Int):=of_decide_eq_true zq1;obtain⟨ad684,e684,hx684_0⟩:=Kd.at_int (Kd.R_reads' HO_5.out).2.2 ((rd_T79 l1 x25_3).f0) p684 q684;cases e684;replace p684:=eq_true p684;replace q684:=eq_true q684;have p685: 0≤ (((rd_T79 l1 x25_3).f1):Int):=of_decide_eq_true zq1;have q685:((rd_T79 l1 x25_3).f1)< (x5_3.length:Int):=of_decide_eq_true zq1;obtain⟨ad685,e685,hx685_0⟩:=Kd.at_int (Kd.R_reads' HO_5.out).2.2 ((rd_T79 l1 x25_3).f1) p685 q685;obtain rfl:ad684=ad685:=(by injection e685);replace p685:=eq_true p685;replace q685:=eq_true q685)|(go_at_call 99;(with_reducible refine(spec_l1Least.calls (rd x5_3 ((rd_T79 l1 x25_3).f0)) (rd x5_3 ((rd_T79 l1 x25_3).f1)) t686 _ A15.out).mono ?_);rintro e w' ⟨rfl,⟨nd,rfl⟩⟩;(try first|exact⟨rfl,_,World.drewN_drewN _ _ _⟩|exact⟨rfl,_,Eq.trans (World.drewN_drewN _ _ _) (congrArg (World.drewN _) (Nat.add_assoc _ _ _))⟩);have p16: 0≤ (((rd_T79 l1 x25_3).f0):Int):=of_decide_eq_true zq1;have q16:(((rd_T79 l1 x25_3).f0):Int)< ((x5_3.length:Int):Int):=of_decide_eq_true zq1;obtain⟨go16,co16,eo16,gb16,gl16,cl16,HG16⟩:=Kd.R_form HO_5.out (by omega);(first|cases eo16|(injection eo16 with ea_ en_ ec_;(first|subst ea_|(injection ea_ with ea_;subst ea_));subst ec_;clear en_));have GB16:=Aside0.mk gb16;have GG16:=Aside0.mk HG16;clear gb16 gl16 HG16;(first|simp only [add_plain] at hx684_0|skip);(first|simp only [add_plain] at hx685_0|skip);obtain⟨hx16_0,hf16_0⟩:=Kd.R_celln 0 HO_5.out (((rd_T79 l1 x25_3).f0):Int) p16 q16;replace p16:=eq_true p16;replace q16:=eq_true q16;obtain⟨hy22_,hz22_⟩:=Kd.R_celln 0 HO_5.out (((rd_T79 l1 x25_3).f0):Int) (of_decide_eq_true zq1) (of_decide_eq_true zq1);have HP22:=Kd.R_putg HO_5.out (((rd_T79 l1 x25_3).f0):Int) t686)|((with_reducible refine gate_store (t:=3) (p:=44) rfl ?_);(try(rw [drewN_self w20];generalize hq_:World.drewN w20 _=w20;have n0_:=Aside0.mk (Kd.R_at hq_ HO_5.out);have n1_:=Aside0.mk (blk_at hq_ BK683.out);have n2_:=Aside0.mk (below_at hq_ HB.out);clear hq_ HO_5 BK683 HB;have HO_5:=n0_;have BK683:=n1_;have HB:=n2_;clear n0_ n1_ n2_;(try(obtain⟨hy22_,hz22_⟩:=Kd.R_celln 0 HO_5.out (((rd_T79 l1 x25_3).f0):Int) (of_decide_eq_true zq1) (of_decide_eq_true zq1)));(try(have HP22:=Kd.R_putg HO_5.out (((rd_T79 l1 x25_3).f0):Int) t686))));refine store_event (t:=3) (p:=44) (v:=?vo_w23) (w1:=(w20.setCell ⟨go16,(((rd_T79 l1 x25_3).f0):Int).toNat,none⟩ (.int .i64 t686))) ?hg ?ho ?hn ?hr ?_;(case ho=>rfl);(case hg=>rfl);(case hn=>rfl);(case hr=>first|(go_simp;done)|(go_simp;rfl));intro w23 hw;have hg:w20.grownBy w23 (some go16):=(by rw [hw];exact HP22.2);have hp_:Kd.R (Kd.int .i64) 3 w23 w.heap.size (fun _=>True) (.slice (some ⟨go16,0,none⟩) x5_3.length co6) y687:=(by rw [hw,Ny687.out];exact HP22.1);clear HP22;replace BK683:=Aside0.mk (blk_grown (g:=gb683) (o:= .cells #[.int .i64 ((rd_T79 l1 x25_3).f0),.int .i64 ((rd_T79 l1 x25_3).f1),.int .i64 ((rd_T79 l1 x25_3).f2)] 79 (0,0)) (zq3 BK683) hg (Kd.R_ne HO_5.out BK683.out (by decide)));replace HO_5:=Aside0.mk (hp_);replace HB:=Aside0.mk ((by rw [hw];exact below_set (HB.out) GB16.out:Below w.heap.size w w23));clear hg hw hp_;have hcz24_0:=zcz BK683 0 (.int .i64 ((rd_T79 l1 x25_3).f0));have hcz24_1:=zcz BK683 1 (.int .i64 ((rd_T79 l1 x25_3).f1));have hcz24_2:=zcz BK683 2 (.int .i64 ((rd_T79 l1 x25_3).f2));have hfz24_0:=blk_frozen BK683.out 0;have hfz24_1:=blk_frozen BK683.out 1;have hfz24_2:=blk_frozen BK683.out 2;have p17: 0≤ (((rd_T79 l1 x25_3).f1):Int):=of_decide_eq_true zq1;have q17:(((rd_T79 l1 x25_3).f1):Int)< ((x5_3.length:Int):Int):=of_decide_eq_true zq1;obtain⟨hx17_0,hf17_0⟩:=Kd.R_celln 0 HO_5.out (((rd_T79 l1 x25_3).f1):Int) p17 q17;replace p17:=eq_true p17;replace q17:=eq_true q17;obtain⟨hy25_,hz25_⟩:=Kd.R_celln 0 HO_5.out (((rd_T79 l1 x25_3).f1):Int) (of_decide_eq_true zq1) (of_decide_eq_true zq1);have HP25:=Kd.R_putg HO_5.out (((rd_T79 l1 x25_3).f1):Int) t686)|((with_reducible refine gate_store (t:=3) (p:=49) rfl ?_);(try(rw [drewN_self w23];generalize hq_:World.drewN w23 _=w23;have n0_:=Aside0.mk (Kd.R_at hq_ HO_5.out);have n1_:=Aside0.mk (blk_at hq_ BK683.out);have n2_:=Aside0.mk (below_at hq_ HB.out);clear hq_ HO_5 BK683 HB;have HO_5:=n0_;have BK683:=n1_;have HB:=n2_;clear n0_ n1_ n2_;(try(obtain⟨hy25_,hz25_⟩:=Kd.R_celln 0 HO_5.out (((rd_T79 l1 x25_3).f1):Int) (of_decide_eq_true zq1) (of_decide_eq_true zq1)));(try(have HP25:=Kd.R_putg HO_5.out (((rd_T79 l1 x25_3).f1):Int) t686))));refine store_event (t:=3) (p:=49) (v:=?vo_w26) (w1:=(w23.setCell ⟨go16,(((rd_T79 l1 x25_3).f1):Int).toNat,none⟩ (.int .i64 t686))) ?hg ?ho ?hn ?hr ?_;(case ho=>rfl);(case hg=>rfl);(case hn=>rfl);(case hr=>first|(go_simp;done)|(go_simp;rfl));intro w26 hw;have hg:w23.grownBy w26 (some go16):=(by rw [hw];exact HP25.2);have hp_:Kd.R (Kd.int .i64) 3 w26 w.heap.size (fun _=>True) (.slice (some ⟨go16,0,none⟩) x5_3.length co6) y688:=(by rw [hw,Ny688.out];exact HP25.1);clear HP25;replace BK683:=Aside0.mk (blk_grown (g:=gb683) (o:= .cells #[.int .i64 ((rd_T79 l1 x25_3).f0),.int .i64 ((rd_T79 l1 x25_3).f1),.int .i64 ((rd_T79 l1 x25_3).f2)] 79 (0,0)) (zq3 BK683) hg (Kd.R_ne HO_5.out BK683.out (by decide)));replace HO_5:=Aside0.mk (hp_);replace HB:=Aside0.mk ((by rw [hw];exact below_set (HB.out) GB16.out:Below w.heap.size w w26));clear hg hw hp_)))
          (try simp only [← hl5_3])
          go_roundg k3
          case measure=>have:=HK1.out;have:=HK2.out;have:=HK3.out;omega
          case rel=>exact⟨(y688),(wrap64 (x25_3+1)),zrs,H',⟨by have:=HK1.out;have:=HK2.out;have:=HK3.out;omega⟩,⟨by(try simp only [hl5_2]);(try simp only [hl5_3]);(with_reducible repeat(first|apply Kd.R_alloc|apply Kd.R_drewN|apply Kd.R_drew));exact HO_5.out⟩,⟨by exact zk2 HB GE683.out⟩⟩
         ·rw [if_neg c8] at H
          have c8b0:decide (x25_3< (l1.length:Int))=false:=decide_eq_false c8
          (try(have c8b0L:=c8b0;simp only [hl5_2] at c8b0L))
          (try(have c8b0L:=c8b0;simp only [hl5_3] at c8b0L))
          clear c8
          have H':=Aside0.mk H
          clear H
          go_wp2
          repeat(go_quiet (fail);try go_wp2)
          (try simp only [← hl5_2,← hl5_3])
          go_roundg k3
          case measure=>have:=HK1.out;have:=HK2.out;have:=HK3.out;omega
          case rel=>exact⟨(x5_3),(wrap64 (x21_2+1)),zrs,H',⟨by have:=HK1.out;have:=HK2.out;have:=HK3.out;omega⟩,⟨by(try simp only [hl5_2]);(try simp only [hl5_3]);(with_reducible repeat(first|apply Kd.R_alloc|apply Kd.R_drewN|apply Kd.R_drew));exact HO_5.out⟩,⟨by exact zk1 HB⟩⟩
      ·rw [if_neg c7] at H
       have c7b0:decide (x21_2< (x5_1.length:Int))=false:=decide_eq_false c7
       (try(have c7b0L:=c7b0;simp only [hl5_2] at c7b0L))
       (try(have c7b0L:=c7b0;simp only [hl5_3] at c7b0L))
       clear c7
       obtain rfl:=Option.some.inj H
       go_wp2
       repeat(go_quiet (fail);try go_wp2)
       go_ret
       exact⟨_,zer,zdr HO_5,by exact zk1 HB⟩
mutual
def spec_LeastTree.l0:Nat→Int→List (S79)→List (S79)→Int→Int→Option ((List (S79)) × Int × Bool)
 | 0,_,_,_,_,_=>none
 |k+1,x0,x1,x7,x8,x9=>if x9≤100 then(spec_LeastTree.l1 k x0 x1 x7 x8 x9 x1 (x1.length:Int) 0) else(some (x7,x8,true))
def spec_LeastTree.l1:Nat→Int→List (S79)→List (S79)→Int→Int→List (S79)→Int→Int→Option ((List (S79)) × Int × Bool)
 | 0,_,_,_,_,_,_,_,_=>none
 |k+1,x0,x1,x7,x8,x9,x21,x22,x23=>if x23<x22 then(if 0≤x23 then(if x23< (x21.length:Int) then((spec_l8Groups.f k x0 x7).bind fun t692=>(if ((rd_T79 x21 x23).f2)=x9 then(if 0≤ ((rd_T79 x21 x23).f0) then(if ((rd_T79 x21 x23).f0)< (t692.length:Int) then(if 0≤ ((rd_T79 x21 x23).f1) then(if ((rd_T79 x21 x23).f1)< (t692.length:Int) then(if (rd t692 ((rd_T79 x21 x23).f0))= (rd t692 ((rd_T79 x21 x23).f1)) then(spec_LeastTree.l1 k x0 x1 x7 x8 x9 x21 x22 (wrap64 (x23+1))) else(if x7.length< 5864062014805 then(spec_LeastTree.l1 k x0 x1 (x7++ [(⟨(rd_T79 x21 x23).f0,(rd_T79 x21 x23).f1,(rd_T79 x21 x23).f2⟩ :S79)]) (wrap64 (x8+x9)) x9 x21 x22 (wrap64 (x23+1))) else(none))) else(none)) else(none)) else(none)) else(none)) else(spec_LeastTree.l1 k x0 x1 x7 x8 x9 x21 x22 (wrap64 (x23+1))))) else(none)) else(none)) else(spec_LeastTree.l0 k x0 x1 x7 x8 (wrap64 (x9+1)))
end
def spec_LeastTree.f (k:Nat) (a0:Int) (l1:List (S79)):Option ((List (S79)) × Int × Bool):=(spec_GoodEdges.f k a0 l1).bind fun t689=>(if t689=true then(spec_LeastTree.l0 k a0 l1 ([] :List (S79)) 0 1) else(some (([] :List (S79)),0,false)))
set_option maxHeartbeats 8000000 in
set_option maxRecDepth 100000 in
theorem spec_LeastTree.calls (k:Nat) (a0:Int) (A1:Option Addr) (c1:Nat) (l1:List (S79)) (r1:List (S79)) (r2:Int) (r3:Bool) (w:World) (hr1:Kd.C k79 w A1 l1.length l1) (hc1:l1.length≤c1) (h:spec_LeastTree.f k a0 l1=some (r1,r2,r3)):
  Calls Try.prog 41 #[.int .i64 a0,.slice A1 l1.length c1] w fun e w'=> ∃ v0_:Value,e= .returned (.tuple #[v0_,.int .i64 r2,.bool r3])∧Kd.R k79 79 w' w.heap.size (fun _=>True) v0_ r1∧Below w.heap.size w w':=by
 have hu79:=Try.underlying79
 have HR1:=Aside0.mk hr1
 have HC1:=Aside0.mk hc1
 clear hr1 hc1
 have HB:=Aside0.mk (Below.refl w.heap.size w)
 have H:((spec_GoodEdges.f k a0 l1).bind fun t689=>(if t689=true then(spec_LeastTree.l0 k a0 l1 ([] :List (S79)) 0 1) else(some (([] :List (S79)),0,false))))=some (r1,r2,r3):=h
 clear h
 replace H:=Option.bind_eq_some_iff.mp H
 obtain⟨t689,A30,H⟩:=H
 replace H:(if t689=true then(spec_LeastTree.l0 k a0 l1 ([] :List (S79)) 0 1) else(some (([] :List (S79)),0,false)))=some (r1,r2,r3):=H
 have A3:=Aside0.mk A30
 clear A30
 by_cases c4:t689=true
 ·subst c4
  have H1:(spec_LeastTree.l0 k a0 l1 ([] :List (S79)) 0 1)=some (r1,r2,r3):=by rw [if_pos rfl] at H;exact H
  clear H
  have H:=H1
  clear H1
  have H':=Aside0.mk H
  clear H
  go_enter Try.func41,Try.ntmps41
  go_wp2_with (first|(go_at_call 66;(with_reducible refine(spec_GoodEdges.calls k a0 _ _ l1 true _ ?side1 ?side2 A3.out).mono ?_);(case side1=>exact zcc (HR1.out));(case side2=>exact HC1.out);rintro e w5 ⟨rfl,hb⟩;replace HB:=Aside0.mk (below_step (by exact zk1 HB) hb);(try clear hb);(try clear hb2);(try clear hk);(try clear hi)))
  repeat(go_quiet (first|(go_at_call 66;(with_reducible refine(spec_GoodEdges.calls k a0 _ _ l1 true _ ?side1 ?side2 A3.out).mono ?_);(case side1=>exact zcc (HR1.out));(case side2=>exact HC1.out);rintro e w5 ⟨rfl,hb⟩;replace HB:=Aside0.mk (below_step (by exact zk1 HB) hb);(try clear hb);(try clear hb2);(try clear hk);(try clear hi)));try go_wp2_with (first|(go_at_call 66;(with_reducible refine(spec_GoodEdges.calls k a0 _ _ l1 true _ ?side1 ?side2 A3.out).mono ?_);(case side1=>exact zcc (HR1.out));(case side2=>exact HC1.out);rintro e w5 ⟨rfl,hb⟩;replace HB:=Aside0.mk (below_step (by exact zk1 HB) hb);(try clear hb);(try clear hb2);(try clear hk);(try clear hi))))
  go_loopg [7,8,9] k (fun kq v7 v8 v9 w'=> ∃ (x7_1:List (S79)) (x8_1:Int) (x9_1:Int),v8= .int .i64 x8_1∧v9= .int .i64 x9_1∧Aside0 (spec_LeastTree.l0 kq a0 l1 x7_1 x8_1 x9_1=some (r1,r2,r3))∧Aside0 (kq≤k)∧Aside0 (Kd.R k79 79 w' w.heap.size (fun _=>True) v7 x7_1)∧Aside0 (Below w.heap.size w w'))
  case atStart=>exact⟨(([] :List (S79))),(0),(1),zrs,zrs,H',⟨Nat.le_refl _⟩,⟨by first|exact Kd.R_nil _ _ _ _ _|exact Kd.N_nil _ _ _ _ _|exact Kd.V_nil _ _ _ _ _|exact Kd.Q_nil _ _ _ _ _|exact Kd.S_nil _ _ _ _ _⟩,⟨by exact zk1 HB⟩⟩
  case round=>
   clear H'
   try clear c1
   try clear p2
   try clear c4
   obtain⟨x7_1,x8_1,x9_1,rfl,rfl,HA,HK1,HO_7,HB⟩:=hrel
   cases gk with
   |zero=>exact absurd HA.out (by simp [spec_LeastTree.l0])
   |succ k1=>
    have H:=HA.out
    clear HA
    simp only [spec_LeastTree.l0] at H
    by_cases c6:x9_1≤100
    ·rw [if_pos c6] at H
     have c6b0:decide (x9_1≤100)=true:=decide_eq_true c6
     clear c6
     have H':=Aside0.mk H
     clear H
     go_wp2
     repeat(go_quiet (fail);try go_wp2)
     go_loopg [7,8,23] k1 (fun kq v7 v8 v23 w'=> ∃ (x7_2:List (S79)) (x8_2:Int) (x23_2:Int),v8= .int .i64 x8_2∧v23= .int .i64 x23_2∧Aside0 (spec_LeastTree.l1 kq a0 l1 x7_2 x8_2 x9_1 l1 (l1.length:Int) x23_2=some (r1,r2,r3))∧Aside0 (kq≤k1)∧Aside0 (Kd.R k79 79 w' w.heap.size (fun _=>True) v7 x7_2)∧Aside0 (Below w.heap.size w w'))
     case atStart=>exact⟨(x7_1),(x8_1),(0),zrs,zrs,H',⟨Nat.le_refl _⟩,⟨zdr HO_7⟩,⟨by exact zk1 HB⟩⟩
     case round=>
      clear H'
      try clear c1
      try clear p2
      try clear c4
      try clear c6
      try clear c6b0
      try clear p2
      obtain⟨x7_2,x8_2,x23_2,rfl,rfl,HA,HK2,HO_7,HB⟩:=hrel
      cases gk with
      |zero=>exact absurd HA.out (by simp [spec_LeastTree.l1])
      |succ k2=>
       have H:=HA.out
       clear HA
       simp only [spec_LeastTree.l1] at H
       by_cases c7:x23_2< (l1.length:Int)
       ·rw [if_pos c7] at H
        have c7b0:decide (x23_2< (l1.length:Int))=true:=decide_eq_true c7
        clear c7
        by_cases c8: 0≤x23_2
        case neg=>exact znn c8 H
        rw [if_pos c8] at H
        have c8b0:decide (0≤x23_2)=true:=decide_eq_true c8
        clear c8
        by_cases c9:x23_2< (l1.length:Int)
        case neg=>exact znn c9 H
        rw [if_pos c9] at H
        have c9b0:decide (x23_2< (l1.length:Int))=true:=decide_eq_true c9
        clear c9
        replace H:=Option.bind_eq_some_iff.mp H
        obtain⟨t692,A100,H⟩:=H
        replace H:(if ((rd_T79 l1 x23_2).f2)=x9_1 then(if 0≤ ((rd_T79 l1 x23_2).f0) then(if ((rd_T79 l1 x23_2).f0)< (t692.length:Int) then(if 0≤ ((rd_T79 l1 x23_2).f1) then(if ((rd_T79 l1 x23_2).f1)< (t692.length:Int) then(if (rd t692 ((rd_T79 l1 x23_2).f0))= (rd t692 ((rd_T79 l1 x23_2).f1)) then(spec_LeastTree.l1 k2 a0 l1 x7_2 x8_2 x9_1 l1 (l1.length:Int) (wrap64 (x23_2+1))) else(if x7_2.length< 5864062014805 then(spec_LeastTree.l1 k2 a0 l1 (x7_2++ [(⟨(rd_T79 l1 x23_2).f0,(rd_T79 l1 x23_2).f1,(rd_T79 l1 x23_2).f2⟩ :S79)]) (wrap64 (x8_2+x9_1)) x9_1 l1 (l1.length:Int) (wrap64 (x23_2+1))) else(none))) else(none)) else(none)) else(none)) else(none)) else(spec_LeastTree.l1 k2 a0 l1 x7_2 x8_2 x9_1 l1 (l1.length:Int) (wrap64 (x23_2+1))))=some (r1,r2,r3):=H
        have A10:=Aside0.mk A100
        clear A100
        by_cases c11:((rd_T79 l1 x23_2).f2)=x9_1
        ·rw [if_pos c11] at H
         have c11b0:(((rd_T79 l1 x23_2).f2)==x9_1)=true:=beq_iff_eq.mpr c11
         have c11b1:(((rd_T79 l1 x23_2).f2) !=x9_1)=false:=bne_eq_false_iff_eq.mpr c11
         clear c11
         by_cases c12: 0≤ ((rd_T79 l1 x23_2).f0)
         case neg=>exact znn c12 H
         rw [if_pos c12] at H
         have c12b0:decide (0≤ ((rd_T79 l1 x23_2).f0))=true:=decide_eq_true c12
         clear c12
         by_cases c13:((rd_T79 l1 x23_2).f0)< (t692.length:Int)
         case neg=>exact znn c13 H
         rw [if_pos c13] at H
         have c13b0:decide (((rd_T79 l1 x23_2).f0)< (t692.length:Int))=true:=decide_eq_true c13
         clear c13
         by_cases c14: 0≤ ((rd_T79 l1 x23_2).f1)
         case neg=>exact znn c14 H
         rw [if_pos c14] at H
         have c14b0:decide (0≤ ((rd_T79 l1 x23_2).f1))=true:=decide_eq_true c14
         clear c14
         by_cases c15:((rd_T79 l1 x23_2).f1)< (t692.length:Int)
         case neg=>exact znn c15 H
         rw [if_pos c15] at H
         have c15b0:decide (((rd_T79 l1 x23_2).f1)< (t692.length:Int))=true:=decide_eq_true c15
         clear c15
         by_cases c16:(rd t692 ((rd_T79 l1 x23_2).f0))= (rd t692 ((rd_T79 l1 x23_2).f1))
         ·rw [if_pos c16] at H
          have c16b0:((rd t692 ((rd_T79 l1 x23_2).f0))== (rd t692 ((rd_T79 l1 x23_2).f1)))=true:=beq_iff_eq.mpr c16
          have c16b1:((rd t692 ((rd_T79 l1 x23_2).f0)) != (rd t692 ((rd_T79 l1 x23_2).f1)))=false:=bne_eq_false_iff_eq.mpr c16
          clear c16
          have H':=Aside0.mk H
          clear H
          have p690: 0≤ (x23_2:Int):=of_decide_eq_true zq1
          have q690:x23_2< (l1.length:Int):=of_decide_eq_true zq1
          obtain⟨ad690,e690,hx690_0,hx690_1,hx690_2⟩:=at_T79 HR1.out x23_2 p690 q690
          cases e690
          replace hx690_0:=zhx HB hx690_0
          replace hx690_1:=zhx HB hx690_1
          replace hx690_2:=zhx HB hx690_2
          replace p690:=eq_true p690
          replace q690:=eq_true q690
          go_wp2_with (first|((with_reducible refine gate_dst (N:=11) rfl ?_);refine box_event ?hg (N:=11) ?hd (cs:= #[.int .i64 0,.int .i64 0,.int .i64 0]) (t:=79) ?hr ?_;(case hd=>rfl);(case hg=>rfl);(case hr=>first|(go_simp;done)|(go_simp;rfl));intro gb691 hg w17 hbox hb;have BK691:=Aside0.mk (hbox);have GW691:=Aside0.mk ((by rw [hg];exact(below_size (by exact zk1 HB)):w.heap.size≤gb691));have GE691:=GW691;replace HO_7:=Aside0.mk (Kd.R_below (Kd.R_elderB (zq4 HO_7) gb691 (Nat.le_of_eq hg.symm)) hb);replace HB:=Aside0.mk (below_step (by exact zk1 HB) hb);clear hb hbox hg;have hcz18_0:=zcz BK691 0 (.int .i64 0);have hcz18_1:=zcz BK691 1 (.int .i64 0);have hcz18_2:=zcz BK691 2 (.int .i64 0);have hfz18_0:=blk_frozen BK691.out 0;have hfz18_1:=blk_frozen BK691.out 1;have hfz18_2:=blk_frozen BK691.out 2;obtain⟨Ao19,co19,eo19⟩:=Kd.R_slice HO_7.out;subst eo19)|(go_at_call 79;(with_reducible refine(spec_l8Groups.calls k2 a0 _ _ x7_2 t692 _ ?side1 ?side2 A10.out).mono ?_);(case side1=>refine(Kd.R_reads' (e:=79) (base:=w.heap.size) (ok:=fun k_=>(True∧k_≠gb691)) (n:=x7_2.length) (c:=co19) ?_).2.2;exact(by(with_reducible repeat(first|apply Kd.R_alloc|apply Kd.R_drewN|apply Kd.R_drew));exact(Kd.R_mono (Kd.R_far (p:=⟨gb691,2,none⟩) (Kd.R_far (p:=⟨gb691,1,none⟩) (Kd.R_far (p:=⟨gb691,0,none⟩) (Kd.R_mono HO_7.out (fun k_ hk=>(⟨hk,hk.2⟩ :_∧k_≠gb691))) (fun _ hk=>hk.2) (.int .i64 ((rd_T79 l1 x23_2).f0))) (fun _ hk=>hk.2) (.int .i64 ((rd_T79 l1 x23_2).f1))) (fun _ hk=>hk.2) (.int .i64 ((rd_T79 l1 x23_2).f2))) (fun _ h_=>h_.1))));(case side2=>exact(Kd.R_reads' HO_7.out).2.1);rintro e w20 ⟨v693,rfl,ho0,hb⟩;have HO694:=Aside0.mk (Kd.R_lower ho0 (below_size (by exact zk2 HB GE691.out)));replace HO_7:=Aside0.mk (Kd.R_below (by(with_reducible repeat(first|apply Kd.R_alloc|apply Kd.R_drewN|apply Kd.R_drew));exact(Kd.R_mono (Kd.R_far (p:=⟨gb691,2,none⟩) (Kd.R_far (p:=⟨gb691,1,none⟩) (Kd.R_far (p:=⟨gb691,0,none⟩) (Kd.R_mono HO_7.out (fun k_ hk=>(⟨hk,hk.2⟩ :_∧k_≠gb691))) (fun _ hk=>hk.2) (.int .i64 ((rd_T79 l1 x23_2).f0))) (fun _ hk=>hk.2) (.int .i64 ((rd_T79 l1 x23_2).f1))) (fun _ hk=>hk.2) (.int .i64 ((rd_T79 l1 x23_2).f2))) (fun _ h_=>h_.1))) hb);replace BK691:=Aside0.mk (blk_below (g:=gb691) (o:= .cells #[.int .i64 ((rd_T79 l1 x23_2).f0),.int .i64 ((rd_T79 l1 x23_2).f1),.int .i64 ((rd_T79 l1 x23_2).f2)] 79 (0,0)) (by(with_reducible repeat(first|refine blk_drewN ?_ _|refine blk_drew ?_ |refine blk_alloc ?_ _));refine blk_put (cs:= #[.int .i64 ((rd_T79 l1 x23_2).f0),.int .i64 ((rd_T79 l1 x23_2).f1),.int .i64 0]) ?_ 2 _ rfl;(with_reducible repeat(first|refine blk_drewN ?_ _|refine blk_drew ?_ |refine blk_alloc ?_ _));refine blk_put (cs:= #[.int .i64 ((rd_T79 l1 x23_2).f0),.int .i64 0,.int .i64 0]) ?_ 1 _ rfl;(with_reducible repeat(first|refine blk_drewN ?_ _|refine blk_drew ?_ |refine blk_alloc ?_ _));refine blk_put (cs:= #[.int .i64 0,.int .i64 0,.int .i64 0]) ?_ 0 _ rfl;(with_reducible repeat(first|refine blk_drewN ?_ _|refine blk_drew ?_ |refine blk_alloc ?_ _));exact BK691.out) hb);replace HB:=Aside0.mk (below_step (by exact zk2 HB GE691.out) hb);(try clear hb);(try clear hb2);(try clear hk);(try clear hi);(try clear ho0);have hcz21_0:=zcz BK691 0 (.int .i64 ((rd_T79 l1 x23_2).f0));have hcz21_1:=zcz BK691 1 (.int .i64 ((rd_T79 l1 x23_2).f1));have hcz21_2:=zcz BK691 2 (.int .i64 ((rd_T79 l1 x23_2).f2));have hfz21_0:=blk_frozen BK691.out 0;have hfz21_1:=blk_frozen BK691.out 1;have hfz21_2:=blk_frozen BK691.out 2;obtain⟨Ao22,co22,eo22⟩:=Kd.R_slice HO694.out;subst eo22;have p695: 0≤ (((rd_T79 l1 x23_2).f0):Int):=of_decide_eq_true zq1;have q695:((rd_T79 l1 x23_2).f0)< (t692.length:Int):=of_decide_eq_true zq1;obtain⟨ad695,e695,hx695_0⟩:=Kd.at_int (Kd.R_reads' HO694.out).2.2 ((rd_T79 l1 x23_2).f0) p695 q695;cases e695;replace p695:=eq_true p695;replace q695:=eq_true q695;have p696: 0≤ (((rd_T79 l1 x23_2).f1):Int):=of_decide_eq_true zq1;have q696:((rd_T79 l1 x23_2).f1)< (t692.length:Int):=of_decide_eq_true zq1;obtain⟨ad696,e696,hx696_0⟩:=Kd.at_int (Kd.R_reads' HO694.out).2.2 ((rd_T79 l1 x23_2).f1) p696 q696;obtain rfl:ad695=ad696:=(by injection e696);replace p696:=eq_true p696;replace q696:=eq_true q696))
          repeat(go_quiet (first|((with_reducible refine gate_dst (N:=11) rfl ?_);refine box_event ?hg (N:=11) ?hd (cs:= #[.int .i64 0,.int .i64 0,.int .i64 0]) (t:=79) ?hr ?_;(case hd=>rfl);(case hg=>rfl);(case hr=>first|(go_simp;done)|(go_simp;rfl));intro gb691 hg w17 hbox hb;have BK691:=Aside0.mk (hbox);have GW691:=Aside0.mk ((by rw [hg];exact(below_size (by exact zk1 HB)):w.heap.size≤gb691));have GE691:=GW691;replace HO_7:=Aside0.mk (Kd.R_below (Kd.R_elderB (zq4 HO_7) gb691 (Nat.le_of_eq hg.symm)) hb);replace HB:=Aside0.mk (below_step (by exact zk1 HB) hb);clear hb hbox hg;have hcz18_0:=zcz BK691 0 (.int .i64 0);have hcz18_1:=zcz BK691 1 (.int .i64 0);have hcz18_2:=zcz BK691 2 (.int .i64 0);have hfz18_0:=blk_frozen BK691.out 0;have hfz18_1:=blk_frozen BK691.out 1;have hfz18_2:=blk_frozen BK691.out 2;obtain⟨Ao19,co19,eo19⟩:=Kd.R_slice HO_7.out;subst eo19)|(go_at_call 79;(with_reducible refine(spec_l8Groups.calls k2 a0 _ _ x7_2 t692 _ ?side1 ?side2 A10.out).mono ?_);(case side1=>refine(Kd.R_reads' (e:=79) (base:=w.heap.size) (ok:=fun k_=>(True∧k_≠gb691)) (n:=x7_2.length) (c:=co19) ?_).2.2;exact(by(with_reducible repeat(first|apply Kd.R_alloc|apply Kd.R_drewN|apply Kd.R_drew));exact(Kd.R_mono (Kd.R_far (p:=⟨gb691,2,none⟩) (Kd.R_far (p:=⟨gb691,1,none⟩) (Kd.R_far (p:=⟨gb691,0,none⟩) (Kd.R_mono HO_7.out (fun k_ hk=>(⟨hk,hk.2⟩ :_∧k_≠gb691))) (fun _ hk=>hk.2) (.int .i64 ((rd_T79 l1 x23_2).f0))) (fun _ hk=>hk.2) (.int .i64 ((rd_T79 l1 x23_2).f1))) (fun _ hk=>hk.2) (.int .i64 ((rd_T79 l1 x23_2).f2))) (fun _ h_=>h_.1))));(case side2=>exact(Kd.R_reads' HO_7.out).2.1);rintro e w20 ⟨v693,rfl,ho0,hb⟩;have HO694:=Aside0.mk (Kd.R_lower ho0 (below_size (by exact zk2 HB GE691.out)));replace HO_7:=Aside0.mk (Kd.R_below (by(with_reducible repeat(first|apply Kd.R_alloc|apply Kd.R_drewN|apply Kd.R_drew));exact(Kd.R_mono (Kd.R_far (p:=⟨gb691,2,none⟩) (Kd.R_far (p:=⟨gb691,1,none⟩) (Kd.R_far (p:=⟨gb691,0,none⟩) (Kd.R_mono HO_7.out (fun k_ hk=>(⟨hk,hk.2⟩ :_∧k_≠gb691))) (fun _ hk=>hk.2) (.int .i64 ((rd_T79 l1 x23_2).f0))) (fun _ hk=>hk.2) (.int .i64 ((rd_T79 l1 x23_2).f1))) (fun _ hk=>hk.2) (.int .i64 ((rd_T79 l1 x23_2).f2))) (fun _ h_=>h_.1))) hb);replace BK691:=Aside0.mk (blk_below (g:=gb691) (o:= .cells #[.int .i64 ((rd_T79 l1 x23_2).f0),.int .i64 ((rd_T79 l1 x23_2).f1),.int .i64 ((rd_T79 l1 x23_2).f2)] 79 (0,0)) (by(with_reducible repeat(first|refine blk_drewN ?_ _|refine blk_drew ?_ |refine blk_alloc ?_ _));refine blk_put (cs:= #[.int .i64 ((rd_T79 l1 x23_2).f0),.int .i64 ((rd_T79 l1 x23_2).f1),.int .i64 0]) ?_ 2 _ rfl;(with_reducible repeat(first|refine blk_drewN ?_ _|refine blk_drew ?_ |refine blk_alloc ?_ _));refine blk_put (cs:= #[.int .i64 ((rd_T79 l1 x23_2).f0),.int .i64 0,.int .i64 0]) ?_ 1 _ rfl;(with_reducible repeat(first|refine blk_drewN ?_ _|refine blk_drew ?_ |refine blk_alloc ?_ _));refine blk_put (cs:= #[.int .i64 0,.int .i64 0,.int .i64 0]) ?_ 0 _ rfl;(with_reducible repeat(first|refine blk_drewN ?_ _|refine blk_drew ?_ |refine blk_alloc ?_ _));exact BK691.out) hb);replace HB:=Aside0.mk (below_step (by exact zk2 HB GE691.out) hb);(try clear hb);(try clear hb2);(try clear hk);(try clear hi);(try clear ho0);have hcz21_0:=zcz BK691 0 (.int .i64 ((rd_T79 l1 x23_2).f0));have hcz21_1:=zcz BK691 1 (.int .i64 ((rd_T79 l1 x23_2).f1));have hcz21_2:=zcz BK691 2 (.int .i64 ((rd_T79 l1 x23_2).f2));have hfz21_0:=blk_frozen BK691.out 0;have hfz21_1:=blk_frozen BK691.out 1;have hfz21_2:=blk_frozen BK691.out 2;obtain⟨Ao22,co22,eo22⟩:=Kd.R_slice HO694.out;subst eo22;have p695: 0≤ (((rd_T79 l1 x23_2).f0):Int):=of_decide_eq_true zq1;have q695:((rd_T79 l1 x23_2).f0)< (t692.length:Int):=of_decide_eq_true zq1;obtain⟨ad695,e695,hx695_0⟩:=Kd.at_int (Kd.R_reads' HO694.out).2.2 ((rd_T79 l1 x23_2).f0) p695 q695;cases e695;replace p695:=eq_true p695;replace q695:=eq_true q695;have p696: 0≤ (((rd_T79 l1 x23_2).f1):Int):=of_decide_eq_true zq1;have q696:((rd_T79 l1 x23_2).f1)< (t692.length:Int):=of_decide_eq_true zq1;obtain⟨ad696,e696,hx696_0⟩:=Kd.at_int (Kd.R_reads' HO694.out).2.2 ((rd_T79 l1 x23_2).f1) p696 q696;obtain rfl:ad695=ad696:=(by injection e696);replace p696:=eq_true p696;replace q696:=eq_true q696));try go_wp2_with (first|((with_reducible refine gate_dst (N:=11) rfl ?_);refine box_event ?hg (N:=11) ?hd (cs:= #[.int .i64 0,.int .i64 0,.int .i64 0]) (t:=79) ?hr ?_;(case hd=>rfl);(case hg=>rfl);(case hr=>first|(go_simp;done)|(go_simp;rfl));intro gb691 hg w17 hbox hb;have BK691:=Aside0.mk (hbox);have GW691:=Aside0.mk ((by rw [hg];exact(below_size (by exact zk1 HB)):w.heap.size≤gb691));have GE691:=GW691;replace HO_7:=Aside0.mk (Kd.R_below (Kd.R_elderB (zq4 HO_7) gb691 (Nat.le_of_eq hg.symm)) hb);replace HB:=Aside0.mk (below_step (by exact zk1 HB) hb);clear hb hbox hg;have hcz18_0:=zcz BK691 0 (.int .i64 0);have hcz18_1:=zcz BK691 1 (.int .i64 0);have hcz18_2:=zcz BK691 2 (.int .i64 0);have hfz18_0:=blk_frozen BK691.out 0;have hfz18_1:=blk_frozen BK691.out 1;have hfz18_2:=blk_frozen BK691.out 2;obtain⟨Ao19,co19,eo19⟩:=Kd.R_slice HO_7.out;subst eo19)|(go_at_call 79;(with_reducible refine(spec_l8Groups.calls k2 a0 _ _ x7_2 t692 _ ?side1 ?side2 A10.out).mono ?_);(case side1=>refine(Kd.R_reads' (e:=79) (base:=w.heap.size) (ok:=fun k_=>(True∧k_≠gb691)) (n:=x7_2.length) (c:=co19) ?_).2.2;exact(by(with_reducible repeat(first|apply Kd.R_alloc|apply Kd.R_drewN|apply Kd.R_drew));exact(Kd.R_mono (Kd.R_far (p:=⟨gb691,2,none⟩) (Kd.R_far (p:=⟨gb691,1,none⟩) (Kd.R_far (p:=⟨gb691,0,none⟩) (Kd.R_mono HO_7.out (fun k_ hk=>(⟨hk,hk.2⟩ :_∧k_≠gb691))) (fun _ hk=>hk.2) (.int .i64 ((rd_T79 l1 x23_2).f0))) (fun _ hk=>hk.2) (.int .i64 ((rd_T79 l1 x23_2).f1))) (fun _ hk=>hk.2) (.int .i64 ((rd_T79 l1 x23_2).f2))) (fun _ h_=>h_.1))));(case side2=>exact(Kd.R_reads' HO_7.out).2.1);rintro e w20 ⟨v693,rfl,ho0,hb⟩;have HO694:=Aside0.mk (Kd.R_lower ho0 (below_size (by exact zk2 HB GE691.out)));replace HO_7:=Aside0.mk (Kd.R_below (by(with_reducible repeat(first|apply Kd.R_alloc|apply Kd.R_drewN|apply Kd.R_drew));exact(Kd.R_mono (Kd.R_far (p:=⟨gb691,2,none⟩) (Kd.R_far (p:=⟨gb691,1,none⟩) (Kd.R_far (p:=⟨gb691,0,none⟩) (Kd.R_mono HO_7.out (fun k_ hk=>(⟨hk,hk.2⟩ :_∧k_≠gb691))) (fun _ hk=>hk.2) (.int .i64 ((rd_T79 l1 x23_2).f0))) (fun _ hk=>hk.2) (.int .i64 ((rd_T79 l1 x23_2).f1))) (fun _ hk=>hk.2) (.int .i64 ((rd_T79 l1 x23_2).f2))) (fun _ h_=>h_.1))) hb);replace BK691:=Aside0.mk (blk_below (g:=gb691) (o:= .cells #[.int .i64 ((rd_T79 l1 x23_2).f0),.int .i64 ((rd_T79 l1 x23_2).f1),.int .i64 ((rd_T79 l1 x23_2).f2)] 79 (0,0)) (by(with_reducible repeat(first|refine blk_drewN ?_ _|refine blk_drew ?_ |refine blk_alloc ?_ _));refine blk_put (cs:= #[.int .i64 ((rd_T79 l1 x23_2).f0),.int .i64 ((rd_T79 l1 x23_2).f1),.int .i64 0]) ?_ 2 _ rfl;(with_reducible repeat(first|refine blk_drewN ?_ _|refine blk_drew ?_ |refine blk_alloc ?_ _));refine blk_put (cs:= #[.int .i64 ((rd_T79 l1 x23_2).f0),.int .i64 0,.int .i64 0]) ?_ 1 _ rfl;(with_reducible repeat(first|refine blk_drewN ?_ _|refine blk_drew ?_ |refine blk_alloc ?_ _));refine blk_put (cs:= #[.int .i64 0,.int .i64 0,.int .i64 0]) ?_ 0 _ rfl;(with_reducible repeat(first|refine blk_drewN ?_ _|refine blk_drew ?_ |refine blk_alloc ?_ _));exact BK691.out) hb);replace HB:=Aside0.mk (below_step (by exact zk2 HB GE691.out) hb);(try clear hb);(try clear hb2);(try clear hk);(try clear hi);(try clear ho0);have hcz21_0:=zcz BK691 0 (.int .i64 ((rd_T79 l1 x23_2).f0));have hcz21_1:=zcz BK691 1 (.int .i64 ((rd_T79 l1 x23_2).f1));have hcz21_2:=zcz BK691 2 (.int .i64 ((rd_T79 l1 x23_2).f2));have hfz21_0:=blk_frozen BK691.out 0;have hfz21_1:=blk_frozen BK691.out 1;have hfz21_2:=blk_frozen BK691.out 2;obtain⟨Ao22,co22,eo22⟩:=Kd.R_slice HO694.out;subst eo22;have p695: 0≤ (((rd_T79 l1 x23_2).f0):Int):=of_decide_eq_true zq1;have q695:((rd_T79 l1 x23_2).f0)< (t692.length:Int):=of_decide_eq_true zq1;obtain⟨ad695,e695,hx695_0⟩:=Kd.at_int (Kd.R_reads' HO694.out).2.2 ((rd_T79 l1 x23_2).f0) p695 q695;cases e695;replace p695:=eq_true p695;replace q695:=eq_true q695;have p696: 0≤ (((rd_T79 l1 x23_2).f1):Int):=of_decide_eq_true zq1;have q696:((rd_T79 l1 x23_2).f1)< (t692.length:Int):=of_decide_eq_true zq1;obtain⟨ad696,e696,hx696_0⟩:=Kd.at_int (Kd.R_reads' HO694.out).2.2 ((rd_T79 l1 x23_2).f1) p696 q696;obtain rfl:ad695=ad696:=(by injection e696);replace p696:=eq_true p696;replace q696:=eq_true q696)))
          go_roundg k2
          case measure=>have:=HK1.out;have:=HK2.out;omega
          case rel=>exact⟨(x7_2),(x8_2),(wrap64 (x23_2+1)),zrs,zrs,H',⟨by have:=HK1.out;have:=HK2.out;omega⟩,⟨by(with_reducible repeat(first|apply Kd.R_alloc|apply Kd.R_drewN|apply Kd.R_drew));exact Kd.R_mono HO_7.out (fun _ hk=>trivial)⟩,⟨by exact zk2 HB GE691.out⟩⟩
         ·rw [if_neg c16] at H
          have c16b0:((rd t692 ((rd_T79 l1 x23_2).f0))== (rd t692 ((rd_T79 l1 x23_2).f1)))=false:=beq_eq_false_iff_ne.mpr c16
          have c16b1:((rd t692 ((rd_T79 l1 x23_2).f0)) != (rd t692 ((rd_T79 l1 x23_2).f1)))=true:=bne_iff_ne.mpr c16
          by_cases c23:x7_2.length< 5864062014805
          case neg=>exact znn c23 H
          rw [if_pos c23] at H
          have LMc23:=Aside0.mk c23
          clear c23
          obtain⟨y697,hy697⟩ :∃ y_:List (S79),y_= (x7_2++ [(⟨(rd_T79 l1 x23_2).f0,(rd_T79 l1 x23_2).f1,(rd_T79 l1 x23_2).f2⟩ :S79)]):=⟨_,rfl⟩
          replace H:(spec_LeastTree.l1 k2 a0 l1 y697 (wrap64 (x8_2+x9_1)) x9_1 l1 (l1.length:Int) (wrap64 (x23_2+1)))=some (r1,r2,r3):=zfh hy697 H
          have Ny697:=Aside0.mk hy697
          clear hy697
          have H':=Aside0.mk H
          clear H
          have p690: 0≤ (x23_2:Int):=of_decide_eq_true zq1
          have q690:x23_2< (l1.length:Int):=of_decide_eq_true zq1
          obtain⟨ad690,e690,hx690_0,hx690_1,hx690_2⟩:=at_T79 HR1.out x23_2 p690 q690
          cases e690
          replace hx690_0:=zhx HB hx690_0
          replace hx690_1:=zhx HB hx690_1
          replace hx690_2:=zhx HB hx690_2
          replace p690:=eq_true p690
          replace q690:=eq_true q690
          go_wp2_with (first|((with_reducible refine gate_dst (N:=11) rfl ?_);refine box_event ?hg (N:=11) ?hd (cs:= #[.int .i64 0,.int .i64 0,.int .i64 0]) (t:=79) ?hr ?_;(case hd=>rfl);(case hg=>rfl);(case hr=>first|(go_simp;done)|(go_simp;rfl));intro gb691 hg w24 hbox hb;have BK691:=Aside0.mk (hbox);have GW691:=Aside0.mk ((by rw [hg];exact(below_size (by exact zk1 HB)):w.heap.size≤gb691));have GE691:=GW691;replace HO_7:=Aside0.mk (Kd.R_below (Kd.R_elderB (zq4 HO_7) gb691 (Nat.le_of_eq hg.symm)) hb);replace HB:=Aside0.mk (below_step (by exact zk1 HB) hb);clear hb hbox hg;have hcz25_0:=zcz BK691 0 (.int .i64 0);have hcz25_1:=zcz BK691 1 (.int .i64 0);have hcz25_2:=zcz BK691 2 (.int .i64 0);have hfz25_0:=blk_frozen BK691.out 0;have hfz25_1:=blk_frozen BK691.out 1;have hfz25_2:=blk_frozen BK691.out 2;obtain⟨Ao26,co26,eo26⟩:=Kd.R_slice HO_7.out;subst eo26)|(go_at_call 79;(with_reducible refine(spec_l8Groups.calls k2 a0 _ _ x7_2 t692 _ ?side1 ?side2 A10.out).mono ?_);(case side1=>refine(Kd.R_reads' (e:=79) (base:=w.heap.size) (ok:=fun k_=>(True∧k_≠gb691)) (n:=x7_2.length) (c:=co26) ?_).2.2;exact(by(with_reducible repeat(first|apply Kd.R_alloc|apply Kd.R_drewN|apply Kd.R_drew));exact(Kd.R_mono (Kd.R_far (p:=⟨gb691,2,none⟩) (Kd.R_far (p:=⟨gb691,1,none⟩) (Kd.R_far (p:=⟨gb691,0,none⟩) (Kd.R_mono HO_7.out (fun k_ hk=>(⟨hk,hk.2⟩ :_∧k_≠gb691))) (fun _ hk=>hk.2) (.int .i64 ((rd_T79 l1 x23_2).f0))) (fun _ hk=>hk.2) (.int .i64 ((rd_T79 l1 x23_2).f1))) (fun _ hk=>hk.2) (.int .i64 ((rd_T79 l1 x23_2).f2))) (fun _ h_=>h_.1))));(case side2=>exact(Kd.R_reads' HO_7.out).2.1);rintro e w27 ⟨v693,rfl,ho0,hb⟩;have HO694:=Aside0.mk (Kd.R_lower ho0 (below_size (by exact zk2 HB GE691.out)));replace HO_7:=Aside0.mk (Kd.R_below (by(with_reducible repeat(first|apply Kd.R_alloc|apply Kd.R_drewN|apply Kd.R_drew));exact(Kd.R_mono (Kd.R_far (p:=⟨gb691,2,none⟩) (Kd.R_far (p:=⟨gb691,1,none⟩) (Kd.R_far (p:=⟨gb691,0,none⟩) (Kd.R_mono HO_7.out (fun k_ hk=>(⟨hk,hk.2⟩ :_∧k_≠gb691))) (fun _ hk=>hk.2) (.int .i64 ((rd_T79 l1 x23_2).f0))) (fun _ hk=>hk.2) (.int .i64 ((rd_T79 l1 x23_2).f1))) (fun _ hk=>hk.2) (.int .i64 ((rd_T79 l1 x23_2).f2))) (fun _ h_=>h_.1))) hb);replace BK691:=Aside0.mk (blk_below (g:=gb691) (o:= .cells #[.int .i64 ((rd_T79 l1 x23_2).f0),.int .i64 ((rd_T79 l1 x23_2).f1),.int .i64 ((rd_T79 l1 x23_2).f2)] 79 (0,0)) (by(with_reducible repeat(first|refine blk_drewN ?_ _|refine blk_drew ?_ |refine blk_alloc ?_ _));refine blk_put (cs:= #[.int .i64 ((rd_T79 l1 x23_2).f0),.int .i64 ((rd_T79 l1 x23_2).f1),.int .i64 0]) ?_ 2 _ rfl;(with_reducible repeat(first|refine blk_drewN ?_ _|refine blk_drew ?_ |refine blk_alloc ?_ _));refine blk_put (cs:= #[.int .i64 ((rd_T79 l1 x23_2).f0),.int .i64 0,.int .i64 0]) ?_ 1 _ rfl;(with_reducible repeat(first|refine blk_drewN ?_ _|refine blk_drew ?_ |refine blk_alloc ?_ _));refine blk_put (cs:= #[.int .i64 0,.int .i64 0,.int .i64 0]) ?_ 0 _ rfl;(with_reducible repeat(first|refine blk_drewN ?_ _|refine blk_drew ?_ |refine blk_alloc ?_ _));exact BK691.out) hb);replace HB:=Aside0.mk (below_step (by exact zk2 HB GE691.out) hb);(try clear hb);(try clear hb2);(try clear hk);(try clear hi);(try clear ho0);have hcz28_0:=zcz BK691 0 (.int .i64 ((rd_T79 l1 x23_2).f0));have hcz28_1:=zcz BK691 1 (.int .i64 ((rd_T79 l1 x23_2).f1));have hcz28_2:=zcz BK691 2 (.int .i64 ((rd_T79 l1 x23_2).f2));have hfz28_0:=blk_frozen BK691.out 0;have hfz28_1:=blk_frozen BK691.out 1;have hfz28_2:=blk_frozen BK691.out 2;obtain⟨Ao29,co29,eo29⟩:=Kd.R_slice HO694.out;subst eo29;have p695: 0≤ (((rd_T79 l1 x23_2).f0):Int):=of_decide_eq_true zq1;have q695:((rd_T79 l1 x23_2).f0)< (t692.length:Int):=of_decide_eq_true zq1;obtain⟨ad695,e695,hx695_0⟩:=Kd.at_int (Kd.R_reads' HO694.out).2.2 ((rd_T79 l1 x23_2).f0) p695 q695;cases e695;replace p695:=eq_true p695;replace q695:=eq_true q695;have p696: 0≤ (((rd_T79 l1 x23_2).f1):Int):=of_decide_eq_true zq1;have q696:((rd_T79 l1 x23_2).f1)< (t692.length:Int):=of_decide_eq_true zq1;obtain⟨ad696,e696,hx696_0⟩:=Kd.at_int (Kd.R_reads' HO694.out).2.2 ((rd_T79 l1 x23_2).f1) p696 q696;obtain rfl:ad695=ad696:=(by injection e696);replace p696:=eq_true p696;replace q696:=eq_true q696)|((with_reducible refine gate_builtin (b:= .append) (xs:= #[.tmp 47,.tmp 49]) rfl ?_);at_builtin;refine Kd.R_append k79 (w0:=w) w.heap.size rfl (.tmp 47) (.tmp 49) 35 79 (.agg #[(.int .i64 0),(.int .i64 0),(.int .i64 0)]) 24 rfl Try.underlying35 info79 rfl (by decide) (by omega) (.slice Ao26 x7_2.length co26) x7_2 (⟨(rd_T79 l1 x23_2).f0,(rd_T79 l1 x23_2).f1,(rd_T79 l1 x23_2).f2⟩ :S79) [.int .i64 ((rd_T79 l1 x23_2).f0),.int .i64 ((rd_T79 l1 x23_2).f1),.int .i64 ((rd_T79 l1 x23_2).f2)] (fun k_=>k_≠gb691) (fun _=>False) rfl rfl ?aP (fun _ hk=>hk.elim) ?aF ?aO ?aB ?aS ?aL ?_;(case aP=>exact k79_mkM _ _ _ (⟨(rd_T79 l1 x23_2).f0,(rd_T79 l1 x23_2).f1,(rd_T79 l1 x23_2).f2⟩ :S79));(case aB=>exact(by exact zk2 HB GE691.out));(case aF=>exact(fun k_ hk=>Kd.freshB (g:=gb691) (o:= .cells #[.int .i64 ((rd_T79 l1 x23_2).f0),.int .i64 ((rd_T79 l1 x23_2).f1),.int .i64 ((rd_T79 l1 x23_2).f2)] 79 (0,0)) (zq3 BK691) k_ hk));(case aO=>exact(by(with_reducible repeat(first|apply Kd.R_alloc|apply Kd.R_drewN|apply Kd.R_drew));exact Kd.R_mono HO_7.out (fun _ hk=>hk.2)));(case aS=>exact(below_size (by exact zk2 HB GE691.out)));(case aL=>have:=LMc23.out;omega);intro v698 w30 ho hb hg hat;rw [← Ny697.out] at ho;have HO699:=Aside0.mk (ho);replace BK691:=Aside0.mk (blk_grown (g:=gb691) (o:= .cells #[.int .i64 ((rd_T79 l1 x23_2).f0),.int .i64 ((rd_T79 l1 x23_2).f1),.int .i64 ((rd_T79 l1 x23_2).f2)] 79 (0,0)) (zq3 BK691) hg (Kd.R_away HO_7.out (fun _ hk=>hk.2)));replace HO694:=Aside0.mk (Kd.R_over' (zq4 HO694) (Kd.R_typed (zq4 HO_7)) (by decide) hg);replace HB:=Aside0.mk (hb);clear HO_7;clear ho hb hg hat))
          repeat(go_quiet (first|((with_reducible refine gate_dst (N:=11) rfl ?_);refine box_event ?hg (N:=11) ?hd (cs:= #[.int .i64 0,.int .i64 0,.int .i64 0]) (t:=79) ?hr ?_;(case hd=>rfl);(case hg=>rfl);(case hr=>first|(go_simp;done)|(go_simp;rfl));intro gb691 hg w24 hbox hb;have BK691:=Aside0.mk (hbox);have GW691:=Aside0.mk ((by rw [hg];exact(below_size (by exact zk1 HB)):w.heap.size≤gb691));have GE691:=GW691;replace HO_7:=Aside0.mk (Kd.R_below (Kd.R_elderB (zq4 HO_7) gb691 (Nat.le_of_eq hg.symm)) hb);replace HB:=Aside0.mk (below_step (by exact zk1 HB) hb);clear hb hbox hg;have hcz25_0:=zcz BK691 0 (.int .i64 0);have hcz25_1:=zcz BK691 1 (.int .i64 0);have hcz25_2:=zcz BK691 2 (.int .i64 0);have hfz25_0:=blk_frozen BK691.out 0;have hfz25_1:=blk_frozen BK691.out 1;have hfz25_2:=blk_frozen BK691.out 2;obtain⟨Ao26,co26,eo26⟩:=Kd.R_slice HO_7.out;subst eo26)|(go_at_call 79;(with_reducible refine(spec_l8Groups.calls k2 a0 _ _ x7_2 t692 _ ?side1 ?side2 A10.out).mono ?_);(case side1=>refine(Kd.R_reads' (e:=79) (base:=w.heap.size) (ok:=fun k_=>(True∧k_≠gb691)) (n:=x7_2.length) (c:=co26) ?_).2.2;exact(by(with_reducible repeat(first|apply Kd.R_alloc|apply Kd.R_drewN|apply Kd.R_drew));exact(Kd.R_mono (Kd.R_far (p:=⟨gb691,2,none⟩) (Kd.R_far (p:=⟨gb691,1,none⟩) (Kd.R_far (p:=⟨gb691,0,none⟩) (Kd.R_mono HO_7.out (fun k_ hk=>(⟨hk,hk.2⟩ :_∧k_≠gb691))) (fun _ hk=>hk.2) (.int .i64 ((rd_T79 l1 x23_2).f0))) (fun _ hk=>hk.2) (.int .i64 ((rd_T79 l1 x23_2).f1))) (fun _ hk=>hk.2) (.int .i64 ((rd_T79 l1 x23_2).f2))) (fun _ h_=>h_.1))));(case side2=>exact(Kd.R_reads' HO_7.out).2.1);rintro e w27 ⟨v693,rfl,ho0,hb⟩;have HO694:=Aside0.mk (Kd.R_lower ho0 (below_size (by exact zk2 HB GE691.out)));replace HO_7:=Aside0.mk (Kd.R_below (by(with_reducible repeat(first|apply Kd.R_alloc|apply Kd.R_drewN|apply Kd.R_drew));exact(Kd.R_mono (Kd.R_far (p:=⟨gb691,2,none⟩) (Kd.R_far (p:=⟨gb691,1,none⟩) (Kd.R_far (p:=⟨gb691,0,none⟩) (Kd.R_mono HO_7.out (fun k_ hk=>(⟨hk,hk.2⟩ :_∧k_≠gb691))) (fun _ hk=>hk.2) (.int .i64 ((rd_T79 l1 x23_2).f0))) (fun _ hk=>hk.2) (.int .i64 ((rd_T79 l1 x23_2).f1))) (fun _ hk=>hk.2) (.int .i64 ((rd_T79 l1 x23_2).f2))) (fun _ h_=>h_.1))) hb);replace BK691:=Aside0.mk (blk_below (g:=gb691) (o:= .cells #[.int .i64 ((rd_T79 l1 x23_2).f0),.int .i64 ((rd_T79 l1 x23_2).f1),.int .i64 ((rd_T79 l1 x23_2).f2)] 79 (0,0)) (by(with_reducible repeat(first|refine blk_drewN ?_ _|refine blk_drew ?_ |refine blk_alloc ?_ _));refine blk_put (cs:= #[.int .i64 ((rd_T79 l1 x23_2).f0),.int .i64 ((rd_T79 l1 x23_2).f1),.int .i64 0]) ?_ 2 _ rfl;(with_reducible repeat(first|refine blk_drewN ?_ _|refine blk_drew ?_ |refine blk_alloc ?_ _));refine blk_put (cs:= #[.int .i64 ((rd_T79 l1 x23_2).f0),.int .i64 0,.int .i64 0]) ?_ 1 _ rfl;(with_reducible repeat(first|refine blk_drewN ?_ _|refine blk_drew ?_ |refine blk_alloc ?_ _));refine blk_put (cs:= #[.int .i64 0,.int .i64 0,.int .i64 0]) ?_ 0 _ rfl;(with_reducible repeat(first|refine blk_drewN ?_ _|refine blk_drew ?_ |refine blk_alloc ?_ _));exact BK691.out) hb);replace HB:=Aside0.mk (below_step (by exact zk2 HB GE691.out) hb);(try clear hb);(try clear hb2);(try clear hk);(try clear hi);(try clear ho0);have hcz28_0:=zcz BK691 0 (.int .i64 ((rd_T79 l1 x23_2).f0));have hcz28_1:=zcz BK691 1 (.int .i64 ((rd_T79 l1 x23_2).f1));have hcz28_2:=zcz BK691 2 (.int .i64 ((rd_T79 l1 x23_2).f2));have hfz28_0:=blk_frozen BK691.out 0;have hfz28_1:=blk_frozen BK691.out 1;have hfz28_2:=blk_frozen BK691.out 2;obtain⟨Ao29,co29,eo29⟩:=Kd.R_slice HO694.out;subst eo29;have p695: 0≤ (((rd_T79 l1 x23_2).f0):Int):=of_decide_eq_true zq1;have q695:((rd_T79 l1 x23_2).f0)< (t692.length:Int):=of_decide_eq_true zq1;obtain⟨ad695,e695,hx695_0⟩:=Kd.at_int (Kd.R_reads' HO694.out).2.2 ((rd_T79 l1 x23_2).f0) p695 q695;cases e695;replace p695:=eq_true p695;replace q695:=eq_true q695;have p696: 0≤ (((rd_T79 l1 x23_2).f1):Int):=of_decide_eq_true zq1;have q696:((rd_T79 l1 x23_2).f1)< (t692.length:Int):=of_decide_eq_true zq1;obtain⟨ad696,e696,hx696_0⟩:=Kd.at_int (Kd.R_reads' HO694.out).2.2 ((rd_T79 l1 x23_2).f1) p696 q696;obtain rfl:ad695=ad696:=(by injection e696);replace p696:=eq_true p696;replace q696:=eq_true q696)|((with_reducible refine gate_builtin (b:= .append) (xs:= #[.tmp 47,.tmp 49]) rfl ?_);at_builtin;refine Kd.R_append k79 (w0:=w) w.heap.size rfl (.tmp 47) (.tmp 49) 35 79 (.agg #[(.int .i64 0),(.int .i64 0),(.int .i64 0)]) 24 rfl Try.underlying35 info79 rfl (by decide) (by omega) (.slice Ao26 x7_2.length co26) x7_2 (⟨(rd_T79 l1 x23_2).f0,(rd_T79 l1 x23_2).f1,(rd_T79 l1 x23_2).f2⟩ :S79) [.int .i64 ((rd_T79 l1 x23_2).f0),.int .i64 ((rd_T79 l1 x23_2).f1),.int .i64 ((rd_T79 l1 x23_2).f2)] (fun k_=>k_≠gb691) (fun _=>False) rfl rfl ?aP (fun _ hk=>hk.elim) ?aF ?aO ?aB ?aS ?aL ?_;(case aP=>exact k79_mkM _ _ _ (⟨(rd_T79 l1 x23_2).f0,(rd_T79 l1 x23_2).f1,(rd_T79 l1 x23_2).f2⟩ :S79));(case aB=>exact(by exact zk2 HB GE691.out));(case aF=>exact(fun k_ hk=>Kd.freshB (g:=gb691) (o:= .cells #[.int .i64 ((rd_T79 l1 x23_2).f0),.int .i64 ((rd_T79 l1 x23_2).f1),.int .i64 ((rd_T79 l1 x23_2).f2)] 79 (0,0)) (zq3 BK691) k_ hk));(case aO=>exact(by(with_reducible repeat(first|apply Kd.R_alloc|apply Kd.R_drewN|apply Kd.R_drew));exact Kd.R_mono HO_7.out (fun _ hk=>hk.2)));(case aS=>exact(below_size (by exact zk2 HB GE691.out)));(case aL=>have:=LMc23.out;omega);intro v698 w30 ho hb hg hat;rw [← Ny697.out] at ho;have HO699:=Aside0.mk (ho);replace BK691:=Aside0.mk (blk_grown (g:=gb691) (o:= .cells #[.int .i64 ((rd_T79 l1 x23_2).f0),.int .i64 ((rd_T79 l1 x23_2).f1),.int .i64 ((rd_T79 l1 x23_2).f2)] 79 (0,0)) (zq3 BK691) hg (Kd.R_away HO_7.out (fun _ hk=>hk.2)));replace HO694:=Aside0.mk (Kd.R_over' (zq4 HO694) (Kd.R_typed (zq4 HO_7)) (by decide) hg);replace HB:=Aside0.mk (hb);clear HO_7;clear ho hb hg hat));try go_wp2_with (first|((with_reducible refine gate_dst (N:=11) rfl ?_);refine box_event ?hg (N:=11) ?hd (cs:= #[.int .i64 0,.int .i64 0,.int .i64 0]) (t:=79) ?hr ?_;(case hd=>rfl);(case hg=>rfl);(case hr=>first|(go_simp;done)|(go_simp;rfl));intro gb691 hg w24 hbox hb;have BK691:=Aside0.mk (hbox);have GW691:=Aside0.mk ((by rw [hg];exact(below_size (by exact zk1 HB)):w.heap.size≤gb691));have GE691:=GW691;replace HO_7:=Aside0.mk (Kd.R_below (Kd.R_elderB (zq4 HO_7) gb691 (Nat.le_of_eq hg.symm)) hb);replace HB:=Aside0.mk (below_step (by exact zk1 HB) hb);clear hb hbox hg;have hcz25_0:=zcz BK691 0 (.int .i64 0);have hcz25_1:=zcz BK691 1 (.int .i64 0);have hcz25_2:=zcz BK691 2 (.int .i64 0);have hfz25_0:=blk_frozen BK691.out 0;have hfz25_1:=blk_frozen BK691.out 1;have hfz25_2:=blk_frozen BK691.out 2;obtain⟨Ao26,co26,eo26⟩:=Kd.R_slice HO_7.out;subst eo26)|(go_at_call 79;(with_reducible refine(spec_l8Groups.calls k2 a0 _ _ x7_2 t692 _ ?side1 ?side2 A10.out).mono ?_);(case side1=>refine(Kd.R_reads' (e:=79) (base:=w.heap.size) (ok:=fun k_=>(True∧k_≠gb691)) (n:=x7_2.length) (c:=co26) ?_).2.2;exact(by(with_reducible repeat(first|apply Kd.R_alloc|apply Kd.R_drewN|apply Kd.R_drew));exact(Kd.R_mono (Kd.R_far (p:=⟨gb691,2,none⟩) (Kd.R_far (p:=⟨gb691,1,none⟩) (Kd.R_far (p:=⟨gb691,0,none⟩) (Kd.R_mono HO_7.out (fun k_ hk=>(⟨hk,hk.2⟩ :_∧k_≠gb691))) (fun _ hk=>hk.2) (.int .i64 ((rd_T79 l1 x23_2).f0))) (fun _ hk=>hk.2) (.int .i64 ((rd_T79 l1 x23_2).f1))) (fun _ hk=>hk.2) (.int .i64 ((rd_T79 l1 x23_2).f2))) (fun _ h_=>h_.1))));(case side2=>exact(Kd.R_reads' HO_7.out).2.1);rintro e w27 ⟨v693,rfl,ho0,hb⟩;have HO694:=Aside0.mk (Kd.R_lower ho0 (below_size (by exact zk2 HB GE691.out)));replace HO_7:=Aside0.mk (Kd.R_below (by(with_reducible repeat(first|apply Kd.R_alloc|apply Kd.R_drewN|apply Kd.R_drew));exact(Kd.R_mono (Kd.R_far (p:=⟨gb691,2,none⟩) (Kd.R_far (p:=⟨gb691,1,none⟩) (Kd.R_far (p:=⟨gb691,0,none⟩) (Kd.R_mono HO_7.out (fun k_ hk=>(⟨hk,hk.2⟩ :_∧k_≠gb691))) (fun _ hk=>hk.2) (.int .i64 ((rd_T79 l1 x23_2).f0))) (fun _ hk=>hk.2) (.int .i64 ((rd_T79 l1 x23_2).f1))) (fun _ hk=>hk.2) (.int .i64 ((rd_T79 l1 x23_2).f2))) (fun _ h_=>h_.1))) hb);replace BK691:=Aside0.mk (blk_below (g:=gb691) (o:= .cells #[.int .i64 ((rd_T79 l1 x23_2).f0),.int .i64 ((rd_T79 l1 x23_2).f1),.int .i64 ((rd_T79 l1 x23_2).f2)] 79 (0,0)) (by(with_reducible repeat(first|refine blk_drewN ?_ _|refine blk_drew ?_ |refine blk_alloc ?_ _));refine blk_put (cs:= #[.int .i64 ((rd_T79 l1 x23_2).f0),.int .i64 ((rd_T79 l1 x23_2).f1),.int .i64 0]) ?_ 2 _ rfl;(with_reducible repeat(first|refine blk_drewN ?_ _|refine blk_drew ?_ |refine blk_alloc ?_ _));refine blk_put (cs:= #[.int .i64 ((rd_T79 l1 x23_2).f0),.int .i64 0,.int .i64 0]) ?_ 1 _ rfl;(with_reducible repeat(first|refine blk_drewN ?_ _|refine blk_drew ?_ |refine blk_alloc ?_ _));refine blk_put (cs:= #[.int .i64 0,.int .i64 0,.int .i64 0]) ?_ 0 _ rfl;(with_reducible repeat(first|refine blk_drewN ?_ _|refine blk_drew ?_ |refine blk_alloc ?_ _));exact BK691.out) hb);replace HB:=Aside0.mk (below_step (by exact zk2 HB GE691.out) hb);(try clear hb);(try clear hb2);(try clear hk);(try clear hi);(try clear ho0);have hcz28_0:=zcz BK691 0 (.int .i64 ((rd_T79 l1 x23_2).f0));have hcz28_1:=zcz BK691 1 (.int .i64 ((rd_T79 l1 x23_2).f1));have hcz28_2:=zcz BK691 2 (.int .i64 ((rd_T79 l1 x23_2).f2));have hfz28_0:=blk_frozen BK691.out 0;have hfz28_1:=blk_frozen BK691.out 1;have hfz28_2:=blk_frozen BK691.out 2;obtain⟨Ao29,co29,eo29⟩:=Kd.R_slice HO694.out;subst eo29;have p695: 0≤ (((rd_T79 l1 x23_2).f0):Int):=of_decide_eq_true zq1;have q695:((rd_T79 l1 x23_2).f0)< (t692.length:Int):=of_decide_eq_true zq1;obtain⟨ad695,e695,hx695_0⟩:=Kd.at_int (Kd.R_reads' HO694.out).2.2 ((rd_T79 l1 x23_2).f0) p695 q695;cases e695;replace p695:=eq_true p695;replace q695:=eq_true q695;have p696: 0≤ (((rd_T79 l1 x23_2).f1):Int):=of_decide_eq_true zq1;have q696:((rd_T79 l1 x23_2).f1)< (t692.length:Int):=of_decide_eq_true zq1;obtain⟨ad696,e696,hx696_0⟩:=Kd.at_int (Kd.R_reads' HO694.out).2.2 ((rd_T79 l1 x23_2).f1) p696 q696;obtain rfl:ad695=ad696:=(by injection e696);replace p696:=eq_true p696;replace q696:=eq_true q696)|((with_reducible refine gate_builtin (b:= .append) (xs:= #[.tmp 47,.tmp 49]) rfl ?_);at_builtin;refine Kd.R_append k79 (w0:=w) w.heap.size rfl (.tmp 47) (.tmp 49) 35 79 (.agg #[(.int .i64 0),(.int .i64 0),(.int .i64 0)]) 24 rfl Try.underlying35 info79 rfl (by decide) (by omega) (.slice Ao26 x7_2.length co26) x7_2 (⟨(rd_T79 l1 x23_2).f0,(rd_T79 l1 x23_2).f1,(rd_T79 l1 x23_2).f2⟩ :S79) [.int .i64 ((rd_T79 l1 x23_2).f0),.int .i64 ((rd_T79 l1 x23_2).f1),.int .i64 ((rd_T79 l1 x23_2).f2)] (fun k_=>k_≠gb691) (fun _=>False) rfl rfl ?aP (fun _ hk=>hk.elim) ?aF ?aO ?aB ?aS ?aL ?_;(case aP=>exact k79_mkM _ _ _ (⟨(rd_T79 l1 x23_2).f0,(rd_T79 l1 x23_2).f1,(rd_T79 l1 x23_2).f2⟩ :S79));(case aB=>exact(by exact zk2 HB GE691.out));(case aF=>exact(fun k_ hk=>Kd.freshB (g:=gb691) (o:= .cells #[.int .i64 ((rd_T79 l1 x23_2).f0),.int .i64 ((rd_T79 l1 x23_2).f1),.int .i64 ((rd_T79 l1 x23_2).f2)] 79 (0,0)) (zq3 BK691) k_ hk));(case aO=>exact(by(with_reducible repeat(first|apply Kd.R_alloc|apply Kd.R_drewN|apply Kd.R_drew));exact Kd.R_mono HO_7.out (fun _ hk=>hk.2)));(case aS=>exact(below_size (by exact zk2 HB GE691.out)));(case aL=>have:=LMc23.out;omega);intro v698 w30 ho hb hg hat;rw [← Ny697.out] at ho;have HO699:=Aside0.mk (ho);replace BK691:=Aside0.mk (blk_grown (g:=gb691) (o:= .cells #[.int .i64 ((rd_T79 l1 x23_2).f0),.int .i64 ((rd_T79 l1 x23_2).f1),.int .i64 ((rd_T79 l1 x23_2).f2)] 79 (0,0)) (zq3 BK691) hg (Kd.R_away HO_7.out (fun _ hk=>hk.2)));replace HO694:=Aside0.mk (Kd.R_over' (zq4 HO694) (Kd.R_typed (zq4 HO_7)) (by decide) hg);replace HB:=Aside0.mk (hb);clear HO_7;clear ho hb hg hat)))
          go_roundg k2
          case measure=>have:=HK1.out;have:=HK2.out;omega
          case rel=>exact⟨(y697),(wrap64 (x8_2+x9_1)),(wrap64 (x23_2+1)),zrs,zrs,H',⟨by have:=HK1.out;have:=HK2.out;omega⟩,⟨by(with_reducible repeat(first|apply Kd.R_alloc|apply Kd.R_drewN|apply Kd.R_drew));exact Kd.R_mono HO699.out (fun _ hk=>trivial)⟩,⟨by exact zk2 HB GE691.out⟩⟩
        ·rw [if_neg c11] at H
         have c11b0:(((rd_T79 l1 x23_2).f2)==x9_1)=false:=beq_eq_false_iff_ne.mpr c11
         have c11b1:(((rd_T79 l1 x23_2).f2) !=x9_1)=true:=bne_iff_ne.mpr c11
         have H':=Aside0.mk H
         clear H
         have p690: 0≤ (x23_2:Int):=of_decide_eq_true zq1
         have q690:x23_2< (l1.length:Int):=of_decide_eq_true zq1
         obtain⟨ad690,e690,hx690_0,hx690_1,hx690_2⟩:=at_T79 HR1.out x23_2 p690 q690
         cases e690
         replace hx690_0:=zhx HB hx690_0
         replace hx690_1:=zhx HB hx690_1
         replace hx690_2:=zhx HB hx690_2
         replace p690:=eq_true p690
         replace q690:=eq_true q690
         go_wp2_with (first|((with_reducible refine gate_dst (N:=11) rfl ?_);refine box_event ?hg (N:=11) ?hd (cs:= #[.int .i64 0,.int .i64 0,.int .i64 0]) (t:=79) ?hr ?_;(case hd=>rfl);(case hg=>rfl);(case hr=>first|(go_simp;done)|(go_simp;rfl));intro gb691 hg w31 hbox hb;have BK691:=Aside0.mk (hbox);have GW691:=Aside0.mk ((by rw [hg];exact(below_size (by exact zk1 HB)):w.heap.size≤gb691));have GE691:=GW691;replace HO_7:=Aside0.mk (Kd.R_below (Kd.R_elderB (zq4 HO_7) gb691 (Nat.le_of_eq hg.symm)) hb);replace HB:=Aside0.mk (below_step (by exact zk1 HB) hb);clear hb hbox hg;have hcz32_0:=zcz BK691 0 (.int .i64 0);have hcz32_1:=zcz BK691 1 (.int .i64 0);have hcz32_2:=zcz BK691 2 (.int .i64 0);have hfz32_0:=blk_frozen BK691.out 0;have hfz32_1:=blk_frozen BK691.out 1;have hfz32_2:=blk_frozen BK691.out 2;obtain⟨Ao33,co33,eo33⟩:=Kd.R_slice HO_7.out;subst eo33)|(go_at_call 79;(with_reducible refine(spec_l8Groups.calls k2 a0 _ _ x7_2 t692 _ ?side1 ?side2 A10.out).mono ?_);(case side1=>refine(Kd.R_reads' (e:=79) (base:=w.heap.size) (ok:=fun k_=>(True∧k_≠gb691)) (n:=x7_2.length) (c:=co33) ?_).2.2;exact(by(with_reducible repeat(first|apply Kd.R_alloc|apply Kd.R_drewN|apply Kd.R_drew));exact(Kd.R_mono (Kd.R_far (p:=⟨gb691,2,none⟩) (Kd.R_far (p:=⟨gb691,1,none⟩) (Kd.R_far (p:=⟨gb691,0,none⟩) (Kd.R_mono HO_7.out (fun k_ hk=>(⟨hk,hk.2⟩ :_∧k_≠gb691))) (fun _ hk=>hk.2) (.int .i64 ((rd_T79 l1 x23_2).f0))) (fun _ hk=>hk.2) (.int .i64 ((rd_T79 l1 x23_2).f1))) (fun _ hk=>hk.2) (.int .i64 ((rd_T79 l1 x23_2).f2))) (fun _ h_=>h_.1))));(case side2=>exact(Kd.R_reads' HO_7.out).2.1);rintro e w34 ⟨v693,rfl,ho0,hb⟩;have HO694:=Aside0.mk (Kd.R_lower ho0 (below_size (by exact zk2 HB GE691.out)));replace HO_7:=Aside0.mk (Kd.R_below (by(with_reducible repeat(first|apply Kd.R_alloc|apply Kd.R_drewN|apply Kd.R_drew));exact(Kd.R_mono (Kd.R_far (p:=⟨gb691,2,none⟩) (Kd.R_far (p:=⟨gb691,1,none⟩) (Kd.R_far (p:=⟨gb691,0,none⟩) (Kd.R_mono HO_7.out (fun k_ hk=>(⟨hk,hk.2⟩ :_∧k_≠gb691))) (fun _ hk=>hk.2) (.int .i64 ((rd_T79 l1 x23_2).f0))) (fun _ hk=>hk.2) (.int .i64 ((rd_T79 l1 x23_2).f1))) (fun _ hk=>hk.2) (.int .i64 ((rd_T79 l1 x23_2).f2))) (fun _ h_=>h_.1))) hb);replace BK691:=Aside0.mk (blk_below (g:=gb691) (o:= .cells #[.int .i64 ((rd_T79 l1 x23_2).f0),.int .i64 ((rd_T79 l1 x23_2).f1),.int .i64 ((rd_T79 l1 x23_2).f2)] 79 (0,0)) (by(with_reducible repeat(first|refine blk_drewN ?_ _|refine blk_drew ?_ |refine blk_alloc ?_ _));refine blk_put (cs:= #[.int .i64 ((rd_T79 l1 x23_2).f0),.int .i64 ((rd_T79 l1 x23_2).f1),.int .i64 0]) ?_ 2 _ rfl;(with_reducible repeat(first|refine blk_drewN ?_ _|refine blk_drew ?_ |refine blk_alloc ?_ _));refine blk_put (cs:= #[.int .i64 ((rd_T79 l1 x23_2).f0),.int .i64 0,.int .i64 0]) ?_ 1 _ rfl;(with_reducible repeat(first|refine blk_drewN ?_ _|refine blk_drew ?_ |refine blk_alloc ?_ _));refine blk_put (cs:= #[.int .i64 0,.int .i64 0,.int .i64 0]) ?_ 0 _ rfl;(with_reducible repeat(first|refine blk_drewN ?_ _|refine blk_drew ?_ |refine blk_alloc ?_ _));exact BK691.out) hb);replace HB:=Aside0.mk (below_step (by exact zk2 HB GE691.out) hb);(try clear hb);(try clear hb2);(try clear hk);(try clear hi);(try clear ho0);have hcz35_0:=zcz BK691 0 (.int .i64 ((rd_T79 l1 x23_2).f0));have hcz35_1:=zcz BK691 1 (.int .i64 ((rd_T79 l1 x23_2).f1));have hcz35_2:=zcz BK691 2 (.int .i64 ((rd_T79 l1 x23_2).f2));have hfz35_0:=blk_frozen BK691.out 0;have hfz35_1:=blk_frozen BK691.out 1;have hfz35_2:=blk_frozen BK691.out 2))
         repeat(go_quiet (first|((with_reducible refine gate_dst (N:=11) rfl ?_);refine box_event ?hg (N:=11) ?hd (cs:= #[.int .i64 0,.int .i64 0,.int .i64 0]) (t:=79) ?hr ?_;(case hd=>rfl);(case hg=>rfl);(case hr=>first|(go_simp;done)|(go_simp;rfl));intro gb691 hg w31 hbox hb;have BK691:=Aside0.mk (hbox);have GW691:=Aside0.mk ((by rw [hg];exact(below_size (by exact zk1 HB)):w.heap.size≤gb691));have GE691:=GW691;replace HO_7:=Aside0.mk (Kd.R_below (Kd.R_elderB (zq4 HO_7) gb691 (Nat.le_of_eq hg.symm)) hb);replace HB:=Aside0.mk (below_step (by exact zk1 HB) hb);clear hb hbox hg;have hcz32_0:=zcz BK691 0 (.int .i64 0);have hcz32_1:=zcz BK691 1 (.int .i64 0);have hcz32_2:=zcz BK691 2 (.int .i64 0);have hfz32_0:=blk_frozen BK691.out 0;have hfz32_1:=blk_frozen BK691.out 1;have hfz32_2:=blk_frozen BK691.out 2;obtain⟨Ao33,co33,eo33⟩:=Kd.R_slice HO_7.out;subst eo33)|(go_at_call 79;(with_reducible refine(spec_l8Groups.calls k2 a0 _ _ x7_2 t692 _ ?side1 ?side2 A10.out).mono ?_);(case side1=>refine(Kd.R_reads' (e:=79) (base:=w.heap.size) (ok:=fun k_=>(True∧k_≠gb691)) (n:=x7_2.length) (c:=co33) ?_).2.2;exact(by(with_reducible repeat(first|apply Kd.R_alloc|apply Kd.R_drewN|apply Kd.R_drew));exact(Kd.R_mono (Kd.R_far (p:=⟨gb691,2,none⟩) (Kd.R_far (p:=⟨gb691,1,none⟩) (Kd.R_far (p:=⟨gb691,0,none⟩) (Kd.R_mono HO_7.out (fun k_ hk=>(⟨hk,hk.2⟩ :_∧k_≠gb691))) (fun _ hk=>hk.2) (.int .i64 ((rd_T79 l1 x23_2).f0))) (fun _ hk=>hk.2) (.int .i64 ((rd_T79 l1 x23_2).f1))) (fun _ hk=>hk.2) (.int .i64 ((rd_T79 l1 x23_2).f2))) (fun _ h_=>h_.1))));(case side2=>exact(Kd.R_reads' HO_7.out).2.1);rintro e w34 ⟨v693,rfl,ho0,hb⟩;have HO694:=Aside0.mk (Kd.R_lower ho0 (below_size (by exact zk2 HB GE691.out)));replace HO_7:=Aside0.mk (Kd.R_below (by(with_reducible repeat(first|apply Kd.R_alloc|apply Kd.R_drewN|apply Kd.R_drew));exact(Kd.R_mono (Kd.R_far (p:=⟨gb691,2,none⟩) (Kd.R_far (p:=⟨gb691,1,none⟩) (Kd.R_far (p:=⟨gb691,0,none⟩) (Kd.R_mono HO_7.out (fun k_ hk=>(⟨hk,hk.2⟩ :_∧k_≠gb691))) (fun _ hk=>hk.2) (.int .i64 ((rd_T79 l1 x23_2).f0))) (fun _ hk=>hk.2) (.int .i64 ((rd_T79 l1 x23_2).f1))) (fun _ hk=>hk.2) (.int .i64 ((rd_T79 l1 x23_2).f2))) (fun _ h_=>h_.1))) hb);replace BK691:=Aside0.mk (blk_below (g:=gb691) (o:= .cells #[.int .i64 ((rd_T79 l1 x23_2).f0),.int .i64 ((rd_T79 l1 x23_2).f1),.int .i64 ((rd_T79 l1 x23_2).f2)] 79 (0,0)) (by(with_reducible repeat(first|refine blk_drewN ?_ _|refine blk_drew ?_ |refine blk_alloc ?_ _));refine blk_put (cs:= #[.int .i64 ((rd_T79 l1 x23_2).f0),.int .i64 ((rd_T79 l1 x23_2).f1),.int .i64 0]) ?_ 2 _ rfl;(with_reducible repeat(first|refine blk_drewN ?_ _|refine blk_drew ?_ |refine blk_alloc ?_ _));refine blk_put (cs:= #[.int .i64 ((rd_T79 l1 x23_2).f0),.int .i64 0,.int .i64 0]) ?_ 1 _ rfl;(with_reducible repeat(first|refine blk_drewN ?_ _|refine blk_drew ?_ |refine blk_alloc ?_ _));refine blk_put (cs:= #[.int .i64 0,.int .i64 0,.int .i64 0]) ?_ 0 _ rfl;(with_reducible repeat(first|refine blk_drewN ?_ _|refine blk_drew ?_ |refine blk_alloc ?_ _));exact BK691.out) hb);replace HB:=Aside0.mk (below_step (by exact zk2 HB GE691.out) hb);(try clear hb);(try clear hb2);(try clear hk);(try clear hi);(try clear ho0);have hcz35_0:=zcz BK691 0 (.int .i64 ((rd_T79 l1 x23_2).f0));have hcz35_1:=zcz BK691 1 (.int .i64 ((rd_T79 l1 x23_2).f1));have hcz35_2:=zcz BK691 2 (.int .i64 ((rd_T79 l1 x23_2).f2));have hfz35_0:=blk_frozen BK691.out 0;have hfz35_1:=blk_frozen BK691.out 1;have hfz35_2:=blk_frozen BK691.out 2));try go_wp2_with (first|((with_reducible refine gate_dst (N:=11) rfl ?_);refine box_event ?hg (N:=11) ?hd (cs:= #[.int .i64 0,.int .i64 0,.int .i64 0]) (t:=79) ?hr ?_;(case hd=>rfl);(case hg=>rfl);(case hr=>first|(go_simp;done)|(go_simp;rfl));intro gb691 hg w31 hbox hb;have BK691:=Aside0.mk (hbox);have GW691:=Aside0.mk ((by rw [hg];exact(below_size (by exact zk1 HB)):w.heap.size≤gb691));have GE691:=GW691;replace HO_7:=Aside0.mk (Kd.R_below (Kd.R_elderB (zq4 HO_7) gb691 (Nat.le_of_eq hg.symm)) hb);replace HB:=Aside0.mk (below_step (by exact zk1 HB) hb);clear hb hbox hg;have hcz32_0:=zcz BK691 0 (.int .i64 0);have hcz32_1:=zcz BK691 1 (.int .i64 0);have hcz32_2:=zcz BK691 2 (.int .i64 0);have hfz32_0:=blk_frozen BK691.out 0;have hfz32_1:=blk_frozen BK691.out 1;have hfz32_2:=blk_frozen BK691.out 2;obtain⟨Ao33,co33,eo33⟩:=Kd.R_slice HO_7.out;subst eo33)|(go_at_call 79;(with_reducible refine(spec_l8Groups.calls k2 a0 _ _ x7_2 t692 _ ?side1 ?side2 A10.out).mono ?_);(case side1=>refine(Kd.R_reads' (e:=79) (base:=w.heap.size) (ok:=fun k_=>(True∧k_≠gb691)) (n:=x7_2.length) (c:=co33) ?_).2.2;exact(by(with_reducible repeat(first|apply Kd.R_alloc|apply Kd.R_drewN|apply Kd.R_drew));exact(Kd.R_mono (Kd.R_far (p:=⟨gb691,2,none⟩) (Kd.R_far (p:=⟨gb691,1,none⟩) (Kd.R_far (p:=⟨gb691,0,none⟩) (Kd.R_mono HO_7.out (fun k_ hk=>(⟨hk,hk.2⟩ :_∧k_≠gb691))) (fun _ hk=>hk.2) (.int .i64 ((rd_T79 l1 x23_2).f0))) (fun _ hk=>hk.2) (.int .i64 ((rd_T79 l1 x23_2).f1))) (fun _ hk=>hk.2) (.int .i64 ((rd_T79 l1 x23_2).f2))) (fun _ h_=>h_.1))));(case side2=>exact(Kd.R_reads' HO_7.out).2.1);rintro e w34 ⟨v693,rfl,ho0,hb⟩;have HO694:=Aside0.mk (Kd.R_lower ho0 (below_size (by exact zk2 HB GE691.out)));replace HO_7:=Aside0.mk (Kd.R_below (by(with_reducible repeat(first|apply Kd.R_alloc|apply Kd.R_drewN|apply Kd.R_drew));exact(Kd.R_mono (Kd.R_far (p:=⟨gb691,2,none⟩) (Kd.R_far (p:=⟨gb691,1,none⟩) (Kd.R_far (p:=⟨gb691,0,none⟩) (Kd.R_mono HO_7.out (fun k_ hk=>(⟨hk,hk.2⟩ :_∧k_≠gb691))) (fun _ hk=>hk.2) (.int .i64 ((rd_T79 l1 x23_2).f0))) (fun _ hk=>hk.2) (.int .i64 ((rd_T79 l1 x23_2).f1))) (fun _ hk=>hk.2) (.int .i64 ((rd_T79 l1 x23_2).f2))) (fun _ h_=>h_.1))) hb);replace BK691:=Aside0.mk (blk_below (g:=gb691) (o:= .cells #[.int .i64 ((rd_T79 l1 x23_2).f0),.int .i64 ((rd_T79 l1 x23_2).f1),.int .i64 ((rd_T79 l1 x23_2).f2)] 79 (0,0)) (by(with_reducible repeat(first|refine blk_drewN ?_ _|refine blk_drew ?_ |refine blk_alloc ?_ _));refine blk_put (cs:= #[.int .i64 ((rd_T79 l1 x23_2).f0),.int .i64 ((rd_T79 l1 x23_2).f1),.int .i64 0]) ?_ 2 _ rfl;(with_reducible repeat(first|refine blk_drewN ?_ _|refine blk_drew ?_ |refine blk_alloc ?_ _));refine blk_put (cs:= #[.int .i64 ((rd_T79 l1 x23_2).f0),.int .i64 0,.int .i64 0]) ?_ 1 _ rfl;(with_reducible repeat(first|refine blk_drewN ?_ _|refine blk_drew ?_ |refine blk_alloc ?_ _));refine blk_put (cs:= #[.int .i64 0,.int .i64 0,.int .i64 0]) ?_ 0 _ rfl;(with_reducible repeat(first|refine blk_drewN ?_ _|refine blk_drew ?_ |refine blk_alloc ?_ _));exact BK691.out) hb);replace HB:=Aside0.mk (below_step (by exact zk2 HB GE691.out) hb);(try clear hb);(try clear hb2);(try clear hk);(try clear hi);(try clear ho0);have hcz35_0:=zcz BK691 0 (.int .i64 ((rd_T79 l1 x23_2).f0));have hcz35_1:=zcz BK691 1 (.int .i64 ((rd_T79 l1 x23_2).f1));have hcz35_2:=zcz BK691 2 (.int .i64 ((rd_T79 l1 x23_2).f2));have hfz35_0:=blk_frozen BK691.out 0;have hfz35_1:=blk_frozen BK691.out 1;have hfz35_2:=blk_frozen BK691.out 2)))
         go_roundg k2
         case measure=>have:=HK1.out;have:=HK2.out;omega
         case rel=>exact⟨(x7_2),(x8_2),(wrap64 (x23_2+1)),zrs,zrs,H',⟨by have:=HK1.out;have:=HK2.out;omega⟩,⟨by(with_reducible repeat(first|apply Kd.R_alloc|apply Kd.R_drewN|apply Kd.R_drew));exact Kd.R_mono HO_7.out (fun _ hk=>trivial)⟩,⟨by exact zk2 HB GE691.out⟩⟩
       ·rw [if_neg c7] at H
        have c7b0:decide (x23_2< (l1.length:Int))=false:=decide_eq_false c7
        clear c7
        have H':=Aside0.mk H
        clear H
        go_wp2
        repeat(go_quiet (fail);try go_wp2)
        go_roundg k2
        case measure=>have:=HK1.out;have:=HK2.out;omega
        case rel=>exact⟨(x7_2),(x8_2),(wrap64 (x9_1+1)),zrs,zrs,H',⟨by have:=HK1.out;have:=HK2.out;omega⟩,⟨zdr HO_7⟩,⟨by exact zk1 HB⟩⟩
    ·rw [if_neg c6] at H
     have c6b0:decide (x9_1≤100)=false:=decide_eq_false c6
     clear c6
     simp only [Option.some.injEq,Prod.mk.injEq] at H
     obtain⟨rfl,rfl,rfl⟩:=H
     go_wp2
     repeat(go_quiet (fail);try go_wp2)
     go_ret3
     exact⟨_,zer,zdr HO_7,by exact zk1 HB⟩
 ·replace c4:=Bool.eq_false_iff.mpr c4
  subst c4
  have H1:(some (([] :List (S79)),0,false))=some (r1,r2,r3):=by rw [if_neg (show ¬ (false=true) by decide)] at H;exact H
  clear H
  have H:=H1
  clear H1
  simp only [Option.some.injEq,Prod.mk.injEq] at H
  obtain⟨rfl,rfl,rfl⟩:=H
  go_enter Try.func41,Try.ntmps41
  go_wp2_with (first|(go_at_call 66;(with_reducible refine(spec_GoodEdges.calls k a0 _ _ l1 false _ ?side1 ?side2 A3.out).mono ?_);(case side1=>exact zcc (HR1.out));(case side2=>exact HC1.out);rintro e w36 ⟨rfl,hb⟩;replace HB:=Aside0.mk (below_step (by exact zk1 HB) hb);(try clear hb);(try clear hb2);(try clear hk);(try clear hi)))
  repeat(go_quiet (first|(go_at_call 66;(with_reducible refine(spec_GoodEdges.calls k a0 _ _ l1 false _ ?side1 ?side2 A3.out).mono ?_);(case side1=>exact zcc (HR1.out));(case side2=>exact HC1.out);rintro e w36 ⟨rfl,hb⟩;replace HB:=Aside0.mk (below_step (by exact zk1 HB) hb);(try clear hb);(try clear hb2);(try clear hk);(try clear hi)));try go_wp2_with (first|(go_at_call 66;(with_reducible refine(spec_GoodEdges.calls k a0 _ _ l1 false _ ?side1 ?side2 A3.out).mono ?_);(case side1=>exact zcc (HR1.out));(case side2=>exact HC1.out);rintro e w36 ⟨rfl,hb⟩;replace HB:=Aside0.mk (below_step (by exact zk1 HB) hb);(try clear hb);(try clear hb2);(try clear hk);(try clear hi))))
  go_ret3
  exact⟨_,zer,by first|exact Kd.R_nil _ _ _ _ _|exact Kd.N_nil _ _ _ _ _|exact Kd.V_nil _ _ _ _ _|exact Kd.Q_nil _ _ _ _ _|exact Kd.S_nil _ _ _ _ _,by exact zk1 HB⟩
def slices_Clone_Edge.f (l0:List S79):Option (List S79):=if l0.length< 5864062014805 then some l0 else none
set_option maxHeartbeats 8000000 in
set_option maxRecDepth 100000 in
theorem slices_Clone_Edge.calls (A0:Option Addr) (c0:Nat) (l0:List (S79)) (r:List (S79)) (w:World) (hr0:Kd.C k79 w A0 l0.length l0) (hc0:l0.length≤c0) (h:slices_Clone_Edge.f l0=some r):
  Calls Try.prog 80 #[.slice A0 l0.length c0] w fun e w'=> ∃ v0_:Value,e= .returned (v0_)∧Kd.R k79 79 w' w.heap.size (fun _=>True) v0_ r∧Below w.heap.size w w':=by
 have HB:=Aside0.mk (Below.refl w.heap.size w)
 unfold slices_Clone_Edge.f at h
 by_cases c4:l0.length< 5864062014805
 ·rw [if_pos c4] at h
  obtain rfl:=Option.some.inj h
  clear h
  have hnil:=fun(W:World) (a:Option Addr) (n c:Nat)=>Lib.run_eql_slice_nil (P:=Try.prog) W 35 79 a n c 0 0 Try.underlying35
  cases A0 with
  |none=>
   have hz:l0= []:=by
    rcases Nat.eq_zero_or_pos l0.length with h0|h0
    ·exact List.eq_nil_of_length_eq_zero h0
    ·obtain⟨ad,he,_⟩:=hr0.2.2 h0
     cases he
   subst hz
   clear hr0
   go_enter Try.func80,Try.ntmps80
   go_wp2
   go_ret
   exact⟨_,rfl,Kd.R_nil _ _ _ _ _,by exact zk1 HB⟩
  |some ad=>
   have HR0:=Aside0.mk hr0
   have HC0:=Aside0.mk hc0
   have LMc4:=Aside0.mk c4
   clear hr0 hc0 c4
   obtain⟨y293,hy293⟩ :∃ y_:List (S79),y_= (([] :List (S79))):=⟨_,rfl⟩
   have Ny293:=Aside0.mk hy293
   obtain⟨y296,hy296⟩ :∃ y_:List (S79),y_= (y293++l0):=⟨_,rfl⟩
   have Ny296:=Aside0.mk hy296
   have Eq296:=Aside0.mk (show y296=l0 by rw [hy296,hy293];rfl)
   clear hy293 hy296
   go_enter Try.func80,Try.ntmps80
   go_wp2_with (first|((with_reducible refine gate_dst (N:=5) rfl ?_);refine Kd.R_lit k79 _ 79 ?hg (N:=5) ?hd (xs:=([] :List (S79))) (inner:= []) (ok:=fun _=>True) (okp:=fun _=>True) ?hr ?hp (fun _ hk=>hk) trivial (Below.refl _ _) (Nat.le_refl _) (by simp) ?_;(case hd=>rfl);(case hg=>rfl);(case hr=>first|(go_simp;done)|(go_simp;rfl));(case hp=>exact(Reps.none _ _));intro v294 w14 ho15 hb hg_ hnew_;clear hg_ hnew_;(first|rw [← Ny293.out] at ho15|(simp only [Int.reduceToNat] at ho15;rw [← Ny293.out] at ho15));have HO295:=Aside0.mk (Kd.R_lower ho15 (below_size (by exact zk1 HB)));replace HB:=Aside0.mk (below_step (by exact zk1 HB) hb);clear hb ho15)|((with_reducible refine gate_builtin (b:= .append) (xs:= #[.tmp 5,.tmp 6]) rfl ?_);at_builtin;refine Kd.R_append_rows k79 (w0:=w) w.heap.size rfl (.tmp 5) (.tmp 6) 35 79 (.agg #[(.int .i64 0),(.int .i64 0),(.int .i64 0)]) 24 rfl Try.underlying35 info79 rfl (by decide) (by omega) v294 y293 l0 _ _ _ (fun _=>True) (fun _=>False) rfl rfl ?aO ?aR (fun _ _ h=>h) (fun _ h=>h.elim) ?aF ?aB ?aS ?aL ?_;(case aR=>exact zcc ((Kd.C_below HR0.out HB.out)));(case aB=>exact(by exact zk1 HB));(case aF=>exact(fun _ _=>trivial));(case aO=>exact(zq4 HO295));(case aS=>exact(below_size (by exact zk1 HB)));(case aL=>have:=LMc4.out;have h293:=Ny293.out;subst h293;simp only [List.length_nil];omega);intro v297 w16 ho hb hg hat;rw [← Ny296.out,Eq296.out] at ho;have HO298:=Aside0.mk (ho);replace HB:=Aside0.mk (hb);clear HO295;clear ho hb hg hat))
   go_ret
   exact⟨_,rfl,zdr HO298,by exact zk1 HB⟩
 ·rw [if_neg c4] at h
  cases h
end Go.Proofs.Ytedegfbheihopaa.P
