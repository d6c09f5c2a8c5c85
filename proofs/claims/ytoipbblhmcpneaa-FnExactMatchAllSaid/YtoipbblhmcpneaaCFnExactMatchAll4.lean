/- Functions, walks and plain lemmas that the law FnExactMatchAll reaches, part 4. -/
import Derived.Test.YtoipbblhmcpneaaCFnExactMatchAll3
import Derived.WalkKit
import Derived.ProofKit
import Derived.OpenShut
import Derived.ChangeOld
import Derived.Below
import Derived.SizedLaws
import Derived.ChangeArms
import Derived.DataElems
import Derived.Deep.Draws
import Derived.Deep.AppendLies
import Derived.Maps.AppendAt
import Derived.OwnWalk
import Derived.Laws.BytesArg
import Derived.Laws.MakeOwn
import Derived.Laws.OwnMore
import Derived.Deep.OwnRows
import Derived.Tactics
import Derived.Lib.ConvBytes
import Derived.Laws.Slices
import Derived.KernelRfl
import Derived.RowKit3
import Derived.Deep.LoopGhost
import Derived.Deep.QuietTactic
import Derived.BigQuiet
import Derived.WideLaws
import Derived.Deep.DeepCutAuto
import Derived.Deep.CutBlock
import Derived.Deep.RegionHeld3
import Derived.Laws.Rows
import Derived.Lib.AppendStr
import Derived.ArgAppend
import Derived.Laws.IdiomCopy
import Derived.OrdersHeld
import Derived.Laws.BitsLemmas
import Derived.RowKit
import Derived.WalkSpells
import Derived.Lib.SliceRun
import Derived.Shelf.Abstract
import Derived.ShutString
namespace Go.Proofs.Ytoipbblhmcpneaa.P
open Go.RowKit Go.Proofs.YtoipbblhmcpneaaW.PrintWords Go.Proofs.YtoipbblhmcpneaaW.PrintLast Go.Proofs.YtoipbblhmcpneaaW.PrintMore
attribute [local go_sem] max2_int min2_int max_two min_two max_three min_three max_four min_four   -- for this text's walks alone
set_option linter.unusedVariables false
set_option linter.unusedSimpArgs false
def impl_takes.f (k:Nat) (l0_0:List (List Int)) (l0_1:List (List Int)) (l0_2:List Int) (l1:List Int) (a2:Int) (a3:Int):Option (Int × Bool):=(impl_loads.f k l0_0 l0_1 l0_2 l1).bind fun t515=>(if 0≤a2 then(if a2< (t515.length:Int) then(if a2< (l0_2.length:Int) then(if (rd t515 a2)< (rd l0_2 a2) then(some ((-1),true)) else((impl_last.f k l0_0 l0_1 l0_2 l1 a2).bind fun t520=>(if t520< 0 then(some ((-1),false)) else(if a2< (l0_1.length:Int) then((slices_Index_int.f k (rd_L1 l0_1 a2) t520).bind fun t522=>((slices_Index_int.f k (rd_L1 l0_1 a2) a3).bind fun t524=>(if t522<t524 then(some ((-1),false)) else(some (t520,true))))) else(none))))) else(none)) else(none)) else(none))
def impl_takes.T1:Bool × List (List Nat × List Nat):=(true,[([],[]),([],[]),([0,1],[0,1]),([],[]),([2,3],[2,3]),([4],[4]),([],[]),([6],[6]),([],[]),([7,8],[7,8]),([9],[9]),([5,10],[5,10])])
def impl_takes.B1:List Nat:= [0,0,3,0,15,31,0,64,0,448,960,2047]
theorem impl_takes.tab1:rtab .any (opsOf Try.f63 1)=impl_takes.T1:=by kernel_rfl
theorem impl_takes.bits1:waitsOk impl_takes.T1.2 impl_takes.B1=true:=by kernel_rfl
def impl_takes.T4:Bool × List (List Nat × List Nat):=(true,[([],[]),([0],[0]),([1],[1]),([2],[2]),([3,2],[2,3]),([2],[2]),([4,5,2],[2,4,5]),([6,2],[2,6]),([2],[2]),([7,8,2,2],[2,7,8]),([2],[2]),([10,2],[2,10]),([2],[2]),([11,12,2],[2,11,12]),([13,2],[2,13]),([2],[2]),([14,15,9,2],[2,14,15]),([9,16,2],[2,9,16]),([2,17],[2,17])])
def impl_takes.B4:List Nat:= [0,1,3,7,15,7,63,127,7,511,7,1031,7,7175,15367,7,65535,131071,262143]
theorem impl_takes.tab4:rtab .any (opsOf Try.f63 4)=impl_takes.T4:=by kernel_rfl
theorem impl_takes.bits4:waitsOk impl_takes.T4.2 impl_takes.B4=true:=by kernel_rfl
set_option maxHeartbeats 8000000 in
set_option maxRecDepth 100000 in
theorem impl_takes.calls (k:Nat) (A0_0:Option Addr) (c0_0:Nat) (l0_0:List (List Int)) (A0_1:Option Addr) (c0_1:Nat) (l0_1:List (List Int)) (A0_2:Option Addr) (c0_2:Nat) (l0_2:List Int) (A1:Option Addr) (c1:Nat) (l1:List Int) (a2:Int) (a3:Int) (r1:Int) (r2:Bool) (w:World) (hr0_0:Kd.C (Kd.slice 3 (Kd.int .i64)) w A0_0 l0_0.length l0_0) (hc0_0:l0_0.length≤c0_0) (hr0_1:Kd.C (Kd.slice 3 (Kd.int .i64)) w A0_1 l0_1.length l0_1) (hc0_1:l0_1.length≤c0_1) (hr0_2:Kd.C (Kd.int .i64) w A0_2 l0_2.length l0_2) (hc0_2:l0_2.length≤c0_2) (hr1:Kd.C (Kd.int .i64) w A1 l1.length l1) (hc1:l1.length≤c1) (h:impl_takes.f k l0_0 l0_1 l0_2 l1 a2 a3=some (r1,r2)):
  Calls Try.prog 63 #[.agg #[.slice A0_0 l0_0.length c0_0,.slice A0_1 l0_1.length c0_1,.slice A0_2 l0_2.length c0_2],.slice A1 l1.length c1,.int .i64 a2,.int .i64 a3] w fun e w'=>e= .returned (.tuple #[.int .i64 r1,.bool r2])∧Below w.heap.size w w':=by
 have hu33:=Try.underlying33
 have HR0_0:=Aside0.mk hr0_0
 have HC0_0:=Aside0.mk hc0_0
 clear hr0_0 hc0_0
 have HR0_1:=Aside0.mk hr0_1
 have HC0_1:=Aside0.mk hc0_1
 clear hr0_1 hc0_1
 have HR0_2:=Aside0.mk hr0_2
 have HC0_2:=Aside0.mk hc0_2
 clear hr0_2 hc0_2
 have HR1:=Aside0.mk hr1
 have HC1:=Aside0.mk hc1
 clear hr1 hc1
 have HB:=Aside0.mk (Below.refl w.heap.size w)
 have H:((impl_loads.f k l0_0 l0_1 l0_2 l1).bind fun t515=>(if 0≤a2 then(if a2< (t515.length:Int) then(if a2< (l0_2.length:Int) then(if (rd t515 a2)< (rd l0_2 a2) then(some ((-1),true)) else((impl_last.f k l0_0 l0_1 l0_2 l1 a2).bind fun t520=>(if t520< 0 then(some ((-1),false)) else(if a2< (l0_1.length:Int) then((slices_Index_int.f k (rd_L1 l0_1 a2) t520).bind fun t522=>((slices_Index_int.f k (rd_L1 l0_1 a2) a3).bind fun t524=>(if t522<t524 then(some ((-1),false)) else(some (t520,true))))) else(none))))) else(none)) else(none)) else(none)))=some (r1,r2):=h
 clear h
 replace H:=Option.bind_eq_some_iff.mp H
 obtain⟨t515,A50,H⟩:=H
 replace H:(if 0≤a2 then(if a2< (t515.length:Int) then(if a2< (l0_2.length:Int) then(if (rd t515 a2)< (rd l0_2 a2) then(some ((-1),true)) else((impl_last.f k l0_0 l0_1 l0_2 l1 a2).bind fun t520=>(if t520< 0 then(some ((-1),false)) else(if a2< (l0_1.length:Int) then((slices_Index_int.f k (rd_L1 l0_1 a2) t520).bind fun t522=>((slices_Index_int.f k (rd_L1 l0_1 a2) a3).bind fun t524=>(if t522<t524 then(some ((-1),false)) else(some (t520,true))))) else(none))))) else(none)) else(none)) else(none))=some (r1,r2):=H
 have A5:=Aside0.mk A50
 clear A50
 by_cases c6: 0≤a2
 ·rw [if_pos c6] at H
  have c6b0:decide (0≤a2)=true:=decide_eq_true c6
  clear c6
  by_cases c7:a2< (t515.length:Int)
  ·rw [if_pos c7] at H
   have c7b0:decide (a2< (t515.length:Int))=true:=decide_eq_true c7
   clear c7
   by_cases c8:a2< (l0_2.length:Int)
   ·rw [if_pos c8] at H
    have c8b0:decide (a2< (l0_2.length:Int))=true:=decide_eq_true c8
    clear c8
    by_cases c9:(rd t515 a2)< (rd l0_2 a2)
    ·rw [if_pos c9] at H
     have c9b0:decide ((rd t515 a2)< (rd l0_2 a2))=true:=decide_eq_true c9
     clear c9
     simp only [Option.some.injEq,Prod.mk.injEq] at H
     obtain⟨rfl,rfl⟩:=H
     go_enter Try.func63,Try.ntmps63
     try go_wp2_with (first|((with_reducible refine gate_dst (N:=4) rfl ?_);refine box_event ?hg (N:=4) ?hd (cs:= #[.slice A0_0 l0_0.length c0_0,.slice A0_1 l0_1.length c0_1,.slice A0_2 l0_2.length c0_2]) (t:=33) ?hr ?_;(case hd=>rfl);(case hg=>rfl);(case hr=>first|(go_simp;done)|(go_simp;rfl));intro gb514 hg w10 hbox hb;have n0_:=Aside0.mk (below_step (zb0 HB) hb);have n1_:=Aside0.mk (hbox);have n2_:=Aside0.mk ((by rw [hg];exact(below_size (zb0 HB)):w.heap.size≤gb514));have n3_:=Aside0.mk ((by rw [hg];exact(below_size (zb0 HB)):w.heap.size≤gb514));clear HB;have HB:=n0_;have BK514:=n1_;have GW514:=n2_;have GE514:=n3_;clear n0_ n1_ n2_ n3_;clear hb hbox hg))
     have n0_:=Aside0.mk (blk_drew BK514.out)
     have n1_:=Aside0.mk (below_drew1 HB.out)
     clear BK514
     clear HB
     have BK514:=n0_
     have HB:=n1_
     clear n0_ n1_
     have p519: 0≤ (a2:Int):=of_decide_eq_true zq1
     have q519:a2< (l0_2.length:Int):=of_decide_eq_true zq1
     obtain⟨ad519,e519,hx519_0⟩:=Kd.at_int HR0_2.out a2 p519 q519
     have hw519_0:=hx519_0
     cases e519
     replace hx519_0:=(HB.out.cell (World.block_lt_of_cell? w _ hx519_0)).trans hx519_0
     replace p519:=eq_true p519
     replace q519:=eq_true q519
     refine start_ (n:=12) (S:=fun w'=>w'.cell? ⟨gb514,0,none⟩=some (.slice A0_0 l0_0.length c0_0)∧w'.cell? ⟨gb514,1,none⟩=some (.slice A0_1 l0_1.length c0_1)∧w'.cell? ⟨gb514,2,none⟩=some (.slice (some ad519) l0_2.length c0_2)∧w'.cell? (ad519.add (a2).toNat)=some (.int .i64 (rd l0_2 a2))∧True) (ds:= []) #[f',f',f',f',f',f',f',f',f',f',f',f'] (by kernel_rfl) rfl rfl ⟨(blk_cell BK514.out 0).trans rfl,(blk_cell BK514.out 1).trans rfl,(blk_cell BK514.out 2).trans rfl,((HB.out.cell (World.block_lt_of_cell? w _ hw519_0)).trans hw519_0),trivial⟩ (fun hHeld=>?_);refine with_tabW impl_takes.tab1 impl_takes.bits1 (fun HT_ HW_=>?_)
     generalize w10.drew=w11 at BK514 HB hx519_0 hHeld ⊢
     refine pure_ (i:=1) (N:=some 12) (v:=?_) (a':=?_) #[f',t',f',f',f',f',f',f',f',f',f',f'] rfl rfl (any_of HT_.out (by kernel_rfl)) (fun _ _ _ h=>h) (Or.inl ⟨by rfl,?_⟩) ?_ ?_
     rotate_left
     ·intro w'
      go_simp
      with_reducible rfl
     rotate_left
     ·simp only [Act.put,zq5,zq6,zq7,i64_w,i32_w]
      rfl
     refine pure_ (i:=3) (N:=some 14) (v:=?_) (a':=?_) #[f',t',f',t',f',f',f',f',f',f',f',f'] rfl rfl (any_of HT_.out (by kernel_rfl)) (fun _ _ _ h=>h) (Or.inl ⟨by rfl,?_⟩) ?_ ?_
     rotate_left
     ·intro w'
      go_simp
      with_reducible rfl
     rotate_left
     ·simp only [Act.put,zq5,zq6,zq7,i64_w,i32_w]
      rfl
     refine pure_ (i:=6) (N:=some 17) (v:=?_) (a':=?_) #[f',t',f',t',f',f',t',f',f',f',f',f'] rfl rfl (any_of HT_.out (by kernel_rfl)) (fun _ _ _ h=>h) (Or.inl ⟨by rfl,?_⟩) ?_ ?_
     rotate_left
     ·intro w'
      go_simp
      with_reducible rfl
     rotate_left
     ·simp only [Act.put,zq5,zq6,zq7,i64_w,i32_w]
      rfl
     refine pure_ (i:=8) (N:=some 19) (v:=?_) (a':=?_) #[f',t',f',t',f',f',t',f',t',f',f',f'] rfl rfl (any_of HT_.out (by kernel_rfl)) (fun _ _ _ h=>h) (Or.inl ⟨by rfl,?_⟩) ?_ ?_
     rotate_left
     ·intro w'
      go_simp
      with_reducible rfl
     rotate_left
     ·simp only [Act.put,zq5,zq6,zq7,i64_w,i32_w]
      rfl
     refine take_ (i:=0) (N:=some 11) (v:=?_) (a':=?_) #[t',t',f',t',f',f',t',f',t',f',f',f'] rfl rfl (take_ofW HT_.out HW_.out (by kernel_rfl)) (fun _ _ _ h=>h) (Or.inl ⟨by rfl,?_⟩) hHeld ?_ ?_
     rotate_left
     ·rintro w' ⟨s0,s1,s2,s3,s4⟩
      go_simp
      with_reducible rfl
     rotate_left
     ·simp only [Act.put,zq5,zq6,zq7,i64_w,i32_w]
      rfl
     refine take_ (i:=7) (N:=some 18) (v:=?_) (a':=?_) #[t',t',f',t',f',f',t',t',t',f',f',f'] rfl rfl (take_ofW HT_.out HW_.out (by kernel_rfl)) (fun _ _ _ h=>h) (Or.inl ⟨by rfl,?_⟩) hHeld ?_ ?_
     rotate_left
     ·rintro w' ⟨s0,s1,s2,s3,s4⟩
      go_simp
      with_reducible rfl
     rotate_left
     ·simp only [Act.put,zq5,zq6,zq7,i64_w,i32_w]
      rfl
     refine pure_ (i:=9) (N:=some 20) (v:=?_) (a':=?_) #[t',t',f',t',f',f',t',t',t',t',f',f'] rfl rfl (any_of HT_.out (by kernel_rfl)) (fun _ _ _ h=>h) (Or.inl ⟨by rfl,?_⟩) ?_ ?_
     rotate_left
     ·intro w'
      go_simp
      with_reducible rfl
     rotate_left
     ·simp only [Act.put,zq5,zq6,zq7,i64_w,i32_w]
      rfl
     refine take_ (i:=10) (N:=some 21) (v:=?_) (a':=?_) #[t',t',f',t',f',f',t',t',t',t',t',f'] rfl rfl (take_ofW HT_.out HW_.out (by kernel_rfl)) (fun _ _ _ h=>h) (Or.inl ⟨by rfl,?_⟩) hHeld ?_ ?_
     rotate_left
     ·rintro w' ⟨s0,s1,s2,s3,s4⟩
      go_simp
      with_reducible rfl
     rotate_left
     ·simp only [Act.put,zq5,zq6,zq7,i64_w,i32_w]
      rfl
     refine one_ (i:=2) (N:=some 13) #[t',t',t',t',f',f',t',t',t',t',t',f'] rfl rfl (one_of HT_.out (by kernel_rfl)) (by decide) (fun K hK=>?_)
     refine goes_ Try.func56 (by kernel_rfl) rfl #[.agg #[.slice A0_0 l0_0.length c0_0,.slice A0_1 l0_1.length c0_1,.slice (some ad519) l0_2.length c0_2],.slice A1 l1.length c1] (by rfl) rfl rfl zq2 ?_
     with_reducible refine(impl_loads.calls k _ _ l0_0 _ _ l0_1 _ _ l0_2 _ _ l1 t515 _ ?side1 ?side2 ?side3 ?side4 ?side5 ?side6 ?side7 ?side8 A5.out).mono ?_
     (case side1=>repeat(first|exact(Kd.C_below HR0_0.out HB.out)|(with_reducible refine Kd.C_alloc ?_ _)|(with_reducible refine Kd.C_drewN ?_ _)|(with_reducible refine Kd.C_drew ?_)))
     (case side2=>exact HC0_0.out)
     (case side3=>repeat(first|exact(Kd.C_below HR0_1.out HB.out)|(with_reducible refine Kd.C_alloc ?_ _)|(with_reducible refine Kd.C_drewN ?_ _)|(with_reducible refine Kd.C_drew ?_)))
     (case side4=>exact HC0_1.out)
     (case side5=>repeat(first|exact(Kd.C_below HR0_2.out HB.out)|(with_reducible refine Kd.C_alloc ?_ _)|(with_reducible refine Kd.C_drewN ?_ _)|(with_reducible refine Kd.C_drew ?_)))
     (case side6=>exact HC0_2.out)
     (case side7=>repeat(first|exact(Kd.C_below HR1.out HB.out)|(with_reducible refine Kd.C_alloc ?_ _)|(with_reducible refine Kd.C_drewN ?_ _)|(with_reducible refine Kd.C_drew ?_)))
     (case side8=>exact HC1.out)
     rintro e w12 ⟨v516,rfl,ho0,hb⟩
     refine⟨_,rfl,?_⟩
     have n0_:=Aside0.mk (Kd.R_lower ho0 (below_size (zb1 HB GE514)))
     have n1_:=Aside0.mk (blk_below (g:=gb514) (o:= .cells #[.slice A0_0 l0_0.length c0_0,.slice A0_1 l0_1.length c0_1,.slice (some ad519) l0_2.length c0_2] 33 (0,0)) (zq3 BK514) hb)
     have n2_:=Aside0.mk (below_step (zb1 HB GE514) hb)
     clear BK514
     clear HB
     have HO517:=n0_
     have BK514:=n1_
     have HB:=n2_
     clear n0_ n1_ n2_
     (try clear hb)
     (try clear hb2)
     (try clear hk)
     (try clear hi)
     (try clear ho0)
     obtain⟨Ao13,co13,eo13⟩:=Kd.R_slice HO517.out
     (first|subst eo13|(injection eo13 with f1_ f2_ f3_;have f4_:=f1_.symm;have f5_:=f3_.symm;clear f1_ f2_ f3_;subst f4_;subst f5_))
     have p518: 0≤ (a2:Int):=of_decide_eq_true zq1
     have q518:a2< (t515.length:Int):=of_decide_eq_true zq1
     obtain⟨ad518,e518,hx518_0⟩:=Kd.at_int (Kd.R_reads' HO517.out).2.2 a2 p518 q518
     cases e518
     replace p518:=eq_true p518
     replace q518:=eq_true q518
     refine hK.out _ _ ⟨(blk_cell BK514.out 0).trans rfl,(blk_cell BK514.out 1).trans rfl,(blk_cell BK514.out 2).trans rfl,((HB.out.cell (World.block_lt_of_cell? w _ hw519_0)).trans hw519_0),trivial⟩ (fun hHeld=>?_)
     clear hK K
     refine norm_ (a':=?_) ?_ ?_
     rotate_left
     ·show Act.put _ (some 13) _=_
      simp only [Act.put,zq5,zq6,zq7,i64_w,i32_w]
      rfl
     refine pure_ (i:=4) (N:=some 15) (v:=?_) (a':=?_) #[t',t',t',t',t',f',t',t',t',t',t',f'] rfl rfl (any_of HT_.out (by kernel_rfl)) (fun _ _ _ h=>h) (Or.inl ⟨by rfl,?_⟩) ?_ ?_
     rotate_left
     ·intro w'
      go_simp
      with_reducible rfl
     rotate_left
     ·simp only [Act.put,zq5,zq6,zq7,i64_w,i32_w]
      rfl
     refine one_ (i:=5) (N:=some 16) #[t',t',t',t',t',t',t',t',t',t',t',f'] rfl rfl (one_of HT_.out (by kernel_rfl)) (by decide) (fun K hK=>?_)
     refine value_ (v:= .int .i64 (rd t515 a2)) (w1:=w12) (by rfl) rfl ?_ ?_
     ·go_simp
      try with_reducible rfl
     refine hK.out _ _ ⟨(blk_cell BK514.out 0).trans rfl,(blk_cell BK514.out 1).trans rfl,(blk_cell BK514.out 2).trans rfl,((HB.out.cell (World.block_lt_of_cell? w _ hw519_0)).trans hw519_0),trivial⟩ (fun hHeld=>?_)
     clear hK K
     refine norm_ (a':=?_) ?_ ?_
     rotate_left
     ·show Act.put _ (some 16) _=_
      simp only [Act.put,zq5,zq6,zq7,i64_w,i32_w]
      rfl
     refine pure_ (i:=11) (N:=some 22) (v:=?_) (a':=?_) #[t',t',t',t',t',t',t',t',t',t',t',t'] rfl rfl (any_of HT_.out (by kernel_rfl)) (fun _ _ _ h=>h) (Or.inl ⟨by rfl,?_⟩) ?_ ?_
     rotate_left
     ·intro w'
      go_simp
      with_reducible rfl
     rotate_left
     ·simp only [Act.put,zq5,zq6,zq7,i64_w,i32_w]
      rfl
     refine done_ (done_of HT_.out (by kernel_rfl)) ?_
     try go_wp2
     go_ret2
     exact⟨by first|rfl|(simp [errW_none,errW_some]<;>rfl)|(simp [*,errW_none,errW_some]<;>rfl),by repeat(first|(with_reducible first|exact HB.out|apply below_alloc|apply pw_below_drewN|apply below_drew1|refine below_set ?_ GE514.out)|exact HB.out)⟩
    ·rw [if_neg c9] at H
     have c9b0:decide ((rd t515 a2)< (rd l0_2 a2))=false:=decide_eq_false c9
     clear c9
     replace H:=Option.bind_eq_some_iff.mp H
     obtain⟨t520,A140,H⟩:=H
     replace H:(if t520< 0 then(some ((-1),false)) else(if a2< (l0_1.length:Int) then((slices_Index_int.f k (rd_L1 l0_1 a2) t520).bind fun t522=>((slices_Index_int.f k (rd_L1 l0_1 a2) a3).bind fun t524=>(if t522<t524 then(some ((-1),false)) else(some (t520,true))))) else(none)))=some (r1,r2):=H
     have A14:=Aside0.mk A140
     clear A140
     by_cases c15:t520< 0
     ·rw [if_pos c15] at H
      have c15b0:decide (t520< 0)=true:=decide_eq_true c15
      clear c15
      simp only [Option.some.injEq,Prod.mk.injEq] at H
      obtain⟨rfl,rfl⟩:=H
      go_enter Try.func63,Try.ntmps63
      try go_wp2_with (first|((with_reducible refine gate_dst (N:=4) rfl ?_);refine box_event ?hg (N:=4) ?hd (cs:= #[.slice A0_0 l0_0.length c0_0,.slice A0_1 l0_1.length c0_1,.slice A0_2 l0_2.length c0_2]) (t:=33) ?hr ?_;(case hd=>rfl);(case hg=>rfl);(case hr=>first|(go_simp;done)|(go_simp;rfl));intro gb514 hg w16 hbox hb;have n0_:=Aside0.mk (below_step (zb0 HB) hb);have n1_:=Aside0.mk (hbox);have n2_:=Aside0.mk ((by rw [hg];exact(below_size (zb0 HB)):w.heap.size≤gb514));have n3_:=Aside0.mk ((by rw [hg];exact(below_size (zb0 HB)):w.heap.size≤gb514));clear HB;have HB:=n0_;have BK514:=n1_;have GW514:=n2_;have GE514:=n3_;clear n0_ n1_ n2_ n3_;clear hb hbox hg))
      have n0_:=Aside0.mk (blk_drew BK514.out)
      have n1_:=Aside0.mk (below_drew1 HB.out)
      clear BK514
      clear HB
      have BK514:=n0_
      have HB:=n1_
      clear n0_ n1_
      have p519: 0≤ (a2:Int):=of_decide_eq_true zq1
      have q519:a2< (l0_2.length:Int):=of_decide_eq_true zq1
      obtain⟨ad519,e519,hx519_0⟩:=Kd.at_int HR0_2.out a2 p519 q519
      have hw519_0:=hx519_0
      cases e519
      replace hx519_0:=(HB.out.cell (World.block_lt_of_cell? w _ hx519_0)).trans hx519_0
      replace p519:=eq_true p519
      replace q519:=eq_true q519
      refine start_ (n:=12) (S:=fun w'=>w'.cell? ⟨gb514,0,none⟩=some (.slice A0_0 l0_0.length c0_0)∧w'.cell? ⟨gb514,1,none⟩=some (.slice A0_1 l0_1.length c0_1)∧w'.cell? ⟨gb514,2,none⟩=some (.slice (some ad519) l0_2.length c0_2)∧w'.cell? (ad519.add (a2).toNat)=some (.int .i64 (rd l0_2 a2))∧True) (ds:= []) #[f',f',f',f',f',f',f',f',f',f',f',f'] (by kernel_rfl) rfl rfl ⟨(blk_cell BK514.out 0).trans rfl,(blk_cell BK514.out 1).trans rfl,(blk_cell BK514.out 2).trans rfl,((HB.out.cell (World.block_lt_of_cell? w _ hw519_0)).trans hw519_0),trivial⟩ (fun hHeld=>?_);refine with_tabW impl_takes.tab1 impl_takes.bits1 (fun HT_ HW_=>?_)
      generalize w16.drew=w17 at BK514 HB hx519_0 hHeld ⊢
      refine pure_ (i:=1) (N:=some 12) (v:=?_) (a':=?_) #[f',t',f',f',f',f',f',f',f',f',f',f'] rfl rfl (any_of HT_.out (by kernel_rfl)) (fun _ _ _ h=>h) (Or.inl ⟨by rfl,?_⟩) ?_ ?_
      rotate_left
      ·intro w'
       go_simp
       with_reducible rfl
      rotate_left
      ·simp only [Act.put,zq5,zq6,zq7,i64_w,i32_w]
       rfl
      refine pure_ (i:=3) (N:=some 14) (v:=?_) (a':=?_) #[f',t',f',t',f',f',f',f',f',f',f',f'] rfl rfl (any_of HT_.out (by kernel_rfl)) (fun _ _ _ h=>h) (Or.inl ⟨by rfl,?_⟩) ?_ ?_
      rotate_left
      ·intro w'
       go_simp
       with_reducible rfl
      rotate_left
      ·simp only [Act.put,zq5,zq6,zq7,i64_w,i32_w]
       rfl
      refine pure_ (i:=6) (N:=some 17) (v:=?_) (a':=?_) #[f',t',f',t',f',f',t',f',f',f',f',f'] rfl rfl (any_of HT_.out (by kernel_rfl)) (fun _ _ _ h=>h) (Or.inl ⟨by rfl,?_⟩) ?_ ?_
      rotate_left
      ·intro w'
       go_simp
       with_reducible rfl
      rotate_left
      ·simp only [Act.put,zq5,zq6,zq7,i64_w,i32_w]
       rfl
      refine pure_ (i:=8) (N:=some 19) (v:=?_) (a':=?_) #[f',t',f',t',f',f',t',f',t',f',f',f'] rfl rfl (any_of HT_.out (by kernel_rfl)) (fun _ _ _ h=>h) (Or.inl ⟨by rfl,?_⟩) ?_ ?_
      rotate_left
      ·intro w'
       go_simp
       with_reducible rfl
      rotate_left
      ·simp only [Act.put,zq5,zq6,zq7,i64_w,i32_w]
       rfl
      refine take_ (i:=0) (N:=some 11) (v:=?_) (a':=?_) #[t',t',f',t',f',f',t',f',t',f',f',f'] rfl rfl (take_ofW HT_.out HW_.out (by kernel_rfl)) (fun _ _ _ h=>h) (Or.inl ⟨by rfl,?_⟩) hHeld ?_ ?_
      rotate_left
      ·rintro w' ⟨s0,s1,s2,s3,s4⟩
       go_simp
       with_reducible rfl
      rotate_left
      ·simp only [Act.put,zq5,zq6,zq7,i64_w,i32_w]
       rfl
      refine take_ (i:=7) (N:=some 18) (v:=?_) (a':=?_) #[t',t',f',t',f',f',t',t',t',f',f',f'] rfl rfl (take_ofW HT_.out HW_.out (by kernel_rfl)) (fun _ _ _ h=>h) (Or.inl ⟨by rfl,?_⟩) hHeld ?_ ?_
      rotate_left
      ·rintro w' ⟨s0,s1,s2,s3,s4⟩
       go_simp
       with_reducible rfl
      rotate_left
      ·simp only [Act.put,zq5,zq6,zq7,i64_w,i32_w]
       rfl
      refine pure_ (i:=9) (N:=some 20) (v:=?_) (a':=?_) #[t',t',f',t',f',f',t',t',t',t',f',f'] rfl rfl (any_of HT_.out (by kernel_rfl)) (fun _ _ _ h=>h) (Or.inl ⟨by rfl,?_⟩) ?_ ?_
      rotate_left
      ·intro w'
       go_simp
       with_reducible rfl
      rotate_left
      ·simp only [Act.put,zq5,zq6,zq7,i64_w,i32_w]
       rfl
      refine take_ (i:=10) (N:=some 21) (v:=?_) (a':=?_) #[t',t',f',t',f',f',t',t',t',t',t',f'] rfl rfl (take_ofW HT_.out HW_.out (by kernel_rfl)) (fun _ _ _ h=>h) (Or.inl ⟨by rfl,?_⟩) hHeld ?_ ?_
      rotate_left
      ·rintro w' ⟨s0,s1,s2,s3,s4⟩
       go_simp
       with_reducible rfl
      rotate_left
      ·simp only [Act.put,zq5,zq6,zq7,i64_w,i32_w]
       rfl
      refine one_ (i:=2) (N:=some 13) #[t',t',t',t',f',f',t',t',t',t',t',f'] rfl rfl (one_of HT_.out (by kernel_rfl)) (by decide) (fun K hK=>?_)
      refine goes_ Try.func56 (by kernel_rfl) rfl #[.agg #[.slice A0_0 l0_0.length c0_0,.slice A0_1 l0_1.length c0_1,.slice (some ad519) l0_2.length c0_2],.slice A1 l1.length c1] (by rfl) rfl rfl zq2 ?_
      with_reducible refine(impl_loads.calls k _ _ l0_0 _ _ l0_1 _ _ l0_2 _ _ l1 t515 _ ?side1 ?side2 ?side3 ?side4 ?side5 ?side6 ?side7 ?side8 A5.out).mono ?_
      (case side1=>repeat(first|exact(Kd.C_below HR0_0.out HB.out)|(with_reducible refine Kd.C_alloc ?_ _)|(with_reducible refine Kd.C_drewN ?_ _)|(with_reducible refine Kd.C_drew ?_)))
      (case side2=>exact HC0_0.out)
      (case side3=>repeat(first|exact(Kd.C_below HR0_1.out HB.out)|(with_reducible refine Kd.C_alloc ?_ _)|(with_reducible refine Kd.C_drewN ?_ _)|(with_reducible refine Kd.C_drew ?_)))
      (case side4=>exact HC0_1.out)
      (case side5=>repeat(first|exact(Kd.C_below HR0_2.out HB.out)|(with_reducible refine Kd.C_alloc ?_ _)|(with_reducible refine Kd.C_drewN ?_ _)|(with_reducible refine Kd.C_drew ?_)))
      (case side6=>exact HC0_2.out)
      (case side7=>repeat(first|exact(Kd.C_below HR1.out HB.out)|(with_reducible refine Kd.C_alloc ?_ _)|(with_reducible refine Kd.C_drewN ?_ _)|(with_reducible refine Kd.C_drew ?_)))
      (case side8=>exact HC1.out)
      rintro e w18 ⟨v516,rfl,ho0,hb⟩
      refine⟨_,rfl,?_⟩
      have n0_:=Aside0.mk (Kd.R_lower ho0 (below_size (zb1 HB GE514)))
      have n1_:=Aside0.mk (blk_below (g:=gb514) (o:= .cells #[.slice A0_0 l0_0.length c0_0,.slice A0_1 l0_1.length c0_1,.slice (some ad519) l0_2.length c0_2] 33 (0,0)) (zq3 BK514) hb)
      have n2_:=Aside0.mk (below_step (zb1 HB GE514) hb)
      clear BK514
      clear HB
      have HO517:=n0_
      have BK514:=n1_
      have HB:=n2_
      clear n0_ n1_ n2_
      (try clear hb)
      (try clear hb2)
      (try clear hk)
      (try clear hi)
      (try clear ho0)
      obtain⟨Ao19,co19,eo19⟩:=Kd.R_slice HO517.out
      (first|subst eo19|(injection eo19 with f1_ f2_ f3_;have f4_:=f1_.symm;have f5_:=f3_.symm;clear f1_ f2_ f3_;subst f4_;subst f5_))
      have p518: 0≤ (a2:Int):=of_decide_eq_true zq1
      have q518:a2< (t515.length:Int):=of_decide_eq_true zq1
      obtain⟨ad518,e518,hx518_0⟩:=Kd.at_int (Kd.R_reads' HO517.out).2.2 a2 p518 q518
      cases e518
      replace p518:=eq_true p518
      replace q518:=eq_true q518
      refine hK.out _ _ ⟨(blk_cell BK514.out 0).trans rfl,(blk_cell BK514.out 1).trans rfl,(blk_cell BK514.out 2).trans rfl,((HB.out.cell (World.block_lt_of_cell? w _ hw519_0)).trans hw519_0),trivial⟩ (fun hHeld=>?_)
      clear hK K
      refine norm_ (a':=?_) ?_ ?_
      rotate_left
      ·show Act.put _ (some 13) _=_
       simp only [Act.put,zq5,zq6,zq7,i64_w,i32_w]
       rfl
      refine pure_ (i:=4) (N:=some 15) (v:=?_) (a':=?_) #[t',t',t',t',t',f',t',t',t',t',t',f'] rfl rfl (any_of HT_.out (by kernel_rfl)) (fun _ _ _ h=>h) (Or.inl ⟨by rfl,?_⟩) ?_ ?_
      rotate_left
      ·intro w'
       go_simp
       with_reducible rfl
      rotate_left
      ·simp only [Act.put,zq5,zq6,zq7,i64_w,i32_w]
       rfl
      refine one_ (i:=5) (N:=some 16) #[t',t',t',t',t',t',t',t',t',t',t',f'] rfl rfl (one_of HT_.out (by kernel_rfl)) (by decide) (fun K hK=>?_)
      refine value_ (v:= .int .i64 (rd t515 a2)) (w1:=w18) (by rfl) rfl ?_ ?_
      ·go_simp
       try with_reducible rfl
      refine hK.out _ _ ⟨(blk_cell BK514.out 0).trans rfl,(blk_cell BK514.out 1).trans rfl,(blk_cell BK514.out 2).trans rfl,((HB.out.cell (World.block_lt_of_cell? w _ hw519_0)).trans hw519_0),trivial⟩ (fun hHeld=>?_)
      clear hK K
      refine norm_ (a':=?_) ?_ ?_
      rotate_left
      ·show Act.put _ (some 16) _=_
       simp only [Act.put,zq5,zq6,zq7,i64_w,i32_w]
       rfl
      refine pure_ (i:=11) (N:=some 22) (v:=?_) (a':=?_) #[t',t',t',t',t',t',t',t',t',t',t',t'] rfl rfl (any_of HT_.out (by kernel_rfl)) (fun _ _ _ h=>h) (Or.inl ⟨by rfl,?_⟩) ?_ ?_
      rotate_left
      ·intro w'
       go_simp
       with_reducible rfl
      rotate_left
      ·simp only [Act.put,zq5,zq6,zq7,i64_w,i32_w]
       rfl
      refine done_ (done_of HT_.out (by kernel_rfl)) ?_
      have hcz20_0:w18.cell? ⟨gb514,0,none⟩=some (.slice A0_0 l0_0.length c0_0):=(blk_cell BK514.out 0).trans rfl
      have hcz20_1:w18.cell? ⟨gb514,1,none⟩=some (.slice A0_1 l0_1.length c0_1):=(blk_cell BK514.out 1).trans rfl
      have hcz20_2:w18.cell? ⟨gb514,2,none⟩=some (.slice (some ad519) l0_2.length c0_2):=(blk_cell BK514.out 2).trans rfl
      have hfz20_0:=blk_frozen BK514.out 0
      have hfz20_1:=blk_frozen BK514.out 1
      have hfz20_2:=blk_frozen BK514.out 2
      try go_wp2_with (first|((with_reducible refine gate_callee (f:=71) rfl ?_);refine goesL_ (some 26) rfl rfl Try.func71 (by kernel_rfl) rfl #[.agg #[.slice A0_0 l0_0.length c0_0,.slice A0_1 l0_1.length c0_1,.slice (some ad519) l0_2.length c0_2],.slice A1 l1.length c1,.int .i64 a2] rfl zq2 ?_;(with_reducible refine(impl_last.calls k _ _ l0_0 _ _ l0_1 _ _ l0_2 _ _ l1 a2 t520 _ ?side1 ?side2 ?side3 ?side4 ?side5 ?side6 ?side7 ?side8 A14.out).mono ?_);(case side1=>repeat(first|exact(Kd.C_below HR0_0.out HB.out)|(with_reducible refine Kd.C_alloc ?_ _)|(with_reducible refine Kd.C_drewN ?_ _)|(with_reducible refine Kd.C_drew ?_)));(case side2=>exact HC0_0.out);(case side3=>repeat(first|exact(Kd.C_below HR0_1.out HB.out)|(with_reducible refine Kd.C_alloc ?_ _)|(with_reducible refine Kd.C_drewN ?_ _)|(with_reducible refine Kd.C_drew ?_)));(case side4=>exact HC0_1.out);(case side5=>repeat(first|exact(Kd.C_below HR0_2.out HB.out)|(with_reducible refine Kd.C_alloc ?_ _)|(with_reducible refine Kd.C_drewN ?_ _)|(with_reducible refine Kd.C_drew ?_)));(case side6=>exact HC0_2.out);(case side7=>repeat(first|exact(Kd.C_below HR1.out HB.out)|(with_reducible refine Kd.C_alloc ?_ _)|(with_reducible refine Kd.C_drewN ?_ _)|(with_reducible refine Kd.C_drew ?_)));(case side8=>exact HC1.out);rintro e w21 ⟨rfl,hb⟩;refine⟨_,rfl,?_⟩;have n0_:=Aside0.mk (Kd.R_below (zq4 HO517) hb);have n1_:=Aside0.mk (blk_below (g:=gb514) (o:= .cells #[.slice A0_0 l0_0.length c0_0,.slice A0_1 l0_1.length c0_1,.slice (some ad519) l0_2.length c0_2] 33 (0,0)) (zq3 BK514) hb);have n2_:=Aside0.mk (below_step (zb1 HB GE514) hb);clear HO517;clear BK514;clear HB;have HO517:=n0_;have BK514:=n1_;have HB:=n2_;clear n0_ n1_ n2_;(try clear hb);(try clear hb2);(try clear hk);(try clear hi)))
      have n0_:=Aside0.mk (Kd.R_drew HO517.out)
      have n1_:=Aside0.mk (blk_drew BK514.out)
      have n2_:=Aside0.mk (below_drew1 HB.out)
      clear HO517
      clear BK514
      clear HB
      have HO517:=n0_
      have BK514:=n1_
      have HB:=n2_
      clear n0_ n1_ n2_
      refine start_ (n:=19) (S:=fun w'=>True) (ds:= []) #[f',f',f',f',f',f',f',f',f',f',f',f',f',f',f',f',f',f',f'] (by kernel_rfl) rfl rfl trivial (fun hHeld=>?_);refine with_tabW impl_takes.tab4 impl_takes.bits4 (fun HT_ HW_=>?_)
      generalize w21.drew=w22 at HO517 BK514 HB hHeld ⊢
      refine pure_ (i:=0) (N:=some 27) (v:=?_) (a':=?_) #[t',f',f',f',f',f',f',f',f',f',f',f',f',f',f',f',f',f',f'] rfl rfl (any_of HT_.out (by kernel_rfl)) (fun _ _ _ h=>h) (Or.inl ⟨by rfl,?_⟩) ?_ ?_
      rotate_left
      ·intro w'
       go_simp
       with_reducible rfl
      rotate_left
      ·simp only [Act.put,zq5,zq6,zq7,i64_w,i32_w]
       rfl
      refine pure_ (i:=1) (N:=some 28) (v:=?_) (a':=?_) #[t',t',f',f',f',f',f',f',f',f',f',f',f',f',f',f',f',f',f'] rfl rfl (any_of HT_.out (by kernel_rfl)) (fun _ _ _ h=>h) (Or.inl ⟨by rfl,?_⟩) ?_ ?_
      rotate_left
      ·intro w'
       go_simp
       with_reducible rfl
      rotate_left
      ·simp only [Act.put,zq5,zq6,zq7,i64_w,i32_w]
       rfl
      refine pure_ (i:=2) (N:=some 29) (v:=?_) (a':=?_) #[t',t',t',f',f',f',f',f',f',f',f',f',f',f',f',f',f',f',f'] rfl rfl (any_of HT_.out (by kernel_rfl)) (fun _ _ _ h=>h) (Or.inl ⟨by rfl,?_⟩) ?_ ?_
      rotate_left
      ·intro w'
       go_simp
       with_reducible rfl
      rotate_left
      ·simp only [Act.put,zq5,zq6,zq7,i64_w,i32_w]
       rfl
      refine pure_ (i:=3) (N:=some 30) (v:=undef) (a':=?_) #[t',t',t',t',f',f',f',f',f',f',f',f',f',f',f',f',f',f',f'] rfl rfl (any_of HT_.out (by kernel_rfl)) (fun _ _ _ h=>h) (Or.inr ⟨by rfl,rfl⟩) ?_ ?_
      rotate_left
      ·simp only [Act.put,zq5,zq6,zq7,i64_w,i32_w]
       rfl
      refine pure_ (i:=4) (N:=some 31) (v:=undef) (a':=?_) #[t',t',t',t',t',f',f',f',f',f',f',f',f',f',f',f',f',f',f'] rfl rfl (any_of HT_.out (by kernel_rfl)) (fun _ _ _ h=>h) (Or.inr ⟨by rfl,rfl⟩) ?_ ?_
      rotate_left
      ·simp only [Act.put,zq5,zq6,zq7,i64_w,i32_w]
       rfl
      refine pure_ (i:=5) (N:=some 32) (v:=undef) (a':=?_) #[t',t',t',t',t',t',f',f',f',f',f',f',f',f',f',f',f',f',f'] rfl rfl (any_of HT_.out (by kernel_rfl)) (fun _ _ _ h=>h) (Or.inr ⟨by rfl,rfl⟩) ?_ ?_
      rotate_left
      ·simp only [Act.put,zq5,zq6,zq7,i64_w,i32_w]
       rfl
      refine pure_ (i:=6) (N:=some 33) (v:=undef) (a':=?_) #[t',t',t',t',t',t',t',f',f',f',f',f',f',f',f',f',f',f',f'] rfl rfl (any_of HT_.out (by kernel_rfl)) (fun _ _ _ h=>h) (Or.inr ⟨by rfl,rfl⟩) ?_ ?_
      rotate_left
      ·simp only [Act.put,zq5,zq6,zq7,i64_w,i32_w]
       rfl
      refine pure_ (i:=7) (N:=some 34) (v:=undef) (a':=?_) #[t',t',t',t',t',t',t',t',f',f',f',f',f',f',f',f',f',f',f'] rfl rfl (any_of HT_.out (by kernel_rfl)) (fun _ _ _ h=>h) (Or.inr ⟨by rfl,rfl⟩) ?_ ?_
      rotate_left
      ·simp only [Act.put,zq5,zq6,zq7,i64_w,i32_w]
       rfl
      refine pure_ (i:=8) (N:=some 35) (v:=undef) (a':=?_) #[t',t',t',t',t',t',t',t',t',f',f',f',f',f',f',f',f',f',f'] rfl rfl (any_of HT_.out (by kernel_rfl)) (fun _ _ _ h=>h) (Or.inr ⟨by rfl,rfl⟩) ?_ ?_
      rotate_left
      ·simp only [Act.put,zq5,zq6,zq7,i64_w,i32_w]
       rfl
      refine pure_ (i:=9) (N:=some 36) (v:=undef) (a':=?_) #[t',t',t',t',t',t',t',t',t',t',f',f',f',f',f',f',f',f',f'] rfl rfl (any_of HT_.out (by kernel_rfl)) (fun _ _ _ h=>h) (Or.inr ⟨by rfl,rfl⟩) ?_ ?_
      rotate_left
      ·simp only [Act.put,zq5,zq6,zq7,i64_w,i32_w]
       rfl
      refine pure_ (i:=10) (N:=some 37) (v:=undef) (a':=?_) #[t',t',t',t',t',t',t',t',t',t',t',f',f',f',f',f',f',f',f'] rfl rfl (any_of HT_.out (by kernel_rfl)) (fun _ _ _ h=>h) (Or.inr ⟨by rfl,rfl⟩) ?_ ?_
      rotate_left
      ·simp only [Act.put,zq5,zq6,zq7,i64_w,i32_w]
       rfl
      refine pure_ (i:=11) (N:=some 38) (v:=undef) (a':=?_) #[t',t',t',t',t',t',t',t',t',t',t',t',f',f',f',f',f',f',f'] rfl rfl (any_of HT_.out (by kernel_rfl)) (fun _ _ _ h=>h) (Or.inr ⟨by rfl,rfl⟩) ?_ ?_
      rotate_left
      ·simp only [Act.put,zq5,zq6,zq7,i64_w,i32_w]
       rfl
      refine pure_ (i:=12) (N:=some 39) (v:=undef) (a':=?_) #[t',t',t',t',t',t',t',t',t',t',t',t',t',f',f',f',f',f',f'] rfl rfl (any_of HT_.out (by kernel_rfl)) (fun _ _ _ h=>h) (Or.inr ⟨by rfl,rfl⟩) ?_ ?_
      rotate_left
      ·simp only [Act.put,zq5,zq6,zq7,i64_w,i32_w]
       rfl
      refine pure_ (i:=13) (N:=some 40) (v:=undef) (a':=?_) #[t',t',t',t',t',t',t',t',t',t',t',t',t',t',f',f',f',f',f'] rfl rfl (any_of HT_.out (by kernel_rfl)) (fun _ _ _ h=>h) (Or.inr ⟨by rfl,rfl⟩) ?_ ?_
      rotate_left
      ·simp only [Act.put,zq5,zq6,zq7,i64_w,i32_w]
       rfl
      refine pure_ (i:=14) (N:=some 41) (v:=undef) (a':=?_) #[t',t',t',t',t',t',t',t',t',t',t',t',t',t',t',f',f',f',f'] rfl rfl (any_of HT_.out (by kernel_rfl)) (fun _ _ _ h=>h) (Or.inr ⟨by rfl,rfl⟩) ?_ ?_
      rotate_left
      ·simp only [Act.put,zq5,zq6,zq7,i64_w,i32_w]
       rfl
      refine pure_ (i:=15) (N:=some 42) (v:=undef) (a':=?_) #[t',t',t',t',t',t',t',t',t',t',t',t',t',t',t',t',f',f',f'] rfl rfl (any_of HT_.out (by kernel_rfl)) (fun _ _ _ h=>h) (Or.inr ⟨by rfl,rfl⟩) ?_ ?_
      rotate_left
      ·simp only [Act.put,zq5,zq6,zq7,i64_w,i32_w]
       rfl
      refine pure_ (i:=16) (N:=some 43) (v:=undef) (a':=?_) #[t',t',t',t',t',t',t',t',t',t',t',t',t',t',t',t',t',f',f'] rfl rfl (any_of HT_.out (by kernel_rfl)) (fun _ _ _ h=>h) (Or.inr ⟨by rfl,rfl⟩) ?_ ?_
      rotate_left
      ·simp only [Act.put,zq5,zq6,zq7,i64_w,i32_w]
       rfl
      refine pure_ (i:=17) (N:=some 44) (v:=undef) (a':=?_) #[t',t',t',t',t',t',t',t',t',t',t',t',t',t',t',t',t',t',f'] rfl rfl (any_of HT_.out (by kernel_rfl)) (fun _ _ _ h=>h) (Or.inr ⟨by rfl,rfl⟩) ?_ ?_
      rotate_left
      ·simp only [Act.put,zq5,zq6,zq7,i64_w,i32_w]
       rfl
      refine pure_ (i:=18) (N:=some 45) (v:=?_) (a':=?_) #[t',t',t',t',t',t',t',t',t',t',t',t',t',t',t',t',t',t',t'] rfl rfl (any_of HT_.out (by kernel_rfl)) (fun _ _ _ h=>h) (Or.inl ⟨by rfl,?_⟩) ?_ ?_
      rotate_left
      ·intro w'
       go_simp
       with_reducible rfl
      rotate_left
      ·simp only [Act.put,zq5,zq6,zq7,i64_w,i32_w]
       rfl
      refine done_ (done_of HT_.out (by kernel_rfl)) ?_
      try go_wp2
      go_ret2
      exact⟨by first|rfl|(simp [errW_none,errW_some]<;>rfl)|(simp [*,errW_none,errW_some]<;>rfl),by repeat(first|(with_reducible first|exact HB.out|apply below_alloc|apply pw_below_drewN|apply below_drew1|refine below_set ?_ GE514.out)|exact HB.out)⟩
     ·rw [if_neg c15] at H
      have c15b0:decide (t520< 0)=false:=decide_eq_false c15
      clear c15
      by_cases c23:a2< (l0_1.length:Int)
      ·rw [if_pos c23] at H
       have c23b0:decide (a2< (l0_1.length:Int))=true:=decide_eq_true c23
       clear c23
       replace H:=Option.bind_eq_some_iff.mp H
       obtain⟨t522,A240,H⟩:=H
       replace H:((slices_Index_int.f k (rd_L1 l0_1 a2) a3).bind fun t524=>(if t522<t524 then(some ((-1),false)) else(some (t520,true))))=some (r1,r2):=H
       have A24:=Aside0.mk A240
       clear A240
       replace H:=Option.bind_eq_some_iff.mp H
       obtain⟨t524,A250,H⟩:=H
       replace H:(if t522<t524 then(some ((-1),false)) else(some (t520,true)))=some (r1,r2):=H
       have A25:=Aside0.mk A250
       clear A250
       by_cases c26:t522<t524
       ·rw [if_pos c26] at H
        have c26b0:decide (t522<t524)=true:=decide_eq_true c26
        clear c26
        simp only [Option.some.injEq,Prod.mk.injEq] at H
        obtain⟨rfl,rfl⟩:=H
        go_enter Try.func63,Try.ntmps63
        try go_wp2_with (first|((with_reducible refine gate_dst (N:=4) rfl ?_);refine box_event ?hg (N:=4) ?hd (cs:= #[.slice A0_0 l0_0.length c0_0,.slice A0_1 l0_1.length c0_1,.slice A0_2 l0_2.length c0_2]) (t:=33) ?hr ?_;(case hd=>rfl);(case hg=>rfl);(case hr=>first|(go_simp;done)|(go_simp;rfl));intro gb514 hg w27 hbox hb;have n0_:=Aside0.mk (below_step (zb0 HB) hb);have n1_:=Aside0.mk (hbox);have n2_:=Aside0.mk ((by rw [hg];exact(below_size (zb0 HB)):w.heap.size≤gb514));have n3_:=Aside0.mk ((by rw [hg];exact(below_size (zb0 HB)):w.heap.size≤gb514));clear HB;have HB:=n0_;have BK514:=n1_;have GW514:=n2_;have GE514:=n3_;clear n0_ n1_ n2_ n3_;clear hb hbox hg))
        have n0_:=Aside0.mk (blk_drew BK514.out)
        have n1_:=Aside0.mk (below_drew1 HB.out)
        clear BK514
        clear HB
        have BK514:=n0_
        have HB:=n1_
        clear n0_ n1_
        have p519: 0≤ (a2:Int):=of_decide_eq_true zq1
        have q519:a2< (l0_2.length:Int):=of_decide_eq_true zq1
        obtain⟨ad519,e519,hx519_0⟩:=Kd.at_int HR0_2.out a2 p519 q519
        have hw519_0:=hx519_0
        cases e519
        replace hx519_0:=(HB.out.cell (World.block_lt_of_cell? w _ hx519_0)).trans hx519_0
        replace p519:=eq_true p519
        replace q519:=eq_true q519
        refine start_ (n:=12) (S:=fun w'=>w'.cell? ⟨gb514,0,none⟩=some (.slice A0_0 l0_0.length c0_0)∧w'.cell? ⟨gb514,1,none⟩=some (.slice A0_1 l0_1.length c0_1)∧w'.cell? ⟨gb514,2,none⟩=some (.slice (some ad519) l0_2.length c0_2)∧w'.cell? (ad519.add (a2).toNat)=some (.int .i64 (rd l0_2 a2))∧True) (ds:= []) #[f',f',f',f',f',f',f',f',f',f',f',f'] (by kernel_rfl) rfl rfl ⟨(blk_cell BK514.out 0).trans rfl,(blk_cell BK514.out 1).trans rfl,(blk_cell BK514.out 2).trans rfl,((HB.out.cell (World.block_lt_of_cell? w _ hw519_0)).trans hw519_0),trivial⟩ (fun hHeld=>?_);refine with_tabW impl_takes.tab1 impl_takes.bits1 (fun HT_ HW_=>?_)
        generalize w27.drew=w28 at BK514 HB hx519_0 hHeld ⊢
        refine pure_ (i:=1) (N:=some 12) (v:=?_) (a':=?_) #[f',t',f',f',f',f',f',f',f',f',f',f'] rfl rfl (any_of HT_.out (by kernel_rfl)) (fun _ _ _ h=>h) (Or.inl ⟨by rfl,?_⟩) ?_ ?_
        rotate_left
        ·intro w'
         go_simp
         with_reducible rfl
        rotate_left
        ·simp only [Act.put,zq5,zq6,zq7,i64_w,i32_w]
         rfl
        refine pure_ (i:=3) (N:=some 14) (v:=?_) (a':=?_) #[f',t',f',t',f',f',f',f',f',f',f',f'] rfl rfl (any_of HT_.out (by kernel_rfl)) (fun _ _ _ h=>h) (Or.inl ⟨by rfl,?_⟩) ?_ ?_
        rotate_left
        ·intro w'
         go_simp
         with_reducible rfl
        rotate_left
        ·simp only [Act.put,zq5,zq6,zq7,i64_w,i32_w]
         rfl
        refine pure_ (i:=6) (N:=some 17) (v:=?_) (a':=?_) #[f',t',f',t',f',f',t',f',f',f',f',f'] rfl rfl (any_of HT_.out (by kernel_rfl)) (fun _ _ _ h=>h) (Or.inl ⟨by rfl,?_⟩) ?_ ?_
        rotate_left
        ·intro w'
         go_simp
         with_reducible rfl
        rotate_left
        ·simp only [Act.put,zq5,zq6,zq7,i64_w,i32_w]
         rfl
        refine pure_ (i:=8) (N:=some 19) (v:=?_) (a':=?_) #[f',t',f',t',f',f',t',f',t',f',f',f'] rfl rfl (any_of HT_.out (by kernel_rfl)) (fun _ _ _ h=>h) (Or.inl ⟨by rfl,?_⟩) ?_ ?_
        rotate_left
        ·intro w'
         go_simp
         with_reducible rfl
        rotate_left
        ·simp only [Act.put,zq5,zq6,zq7,i64_w,i32_w]
         rfl
        refine take_ (i:=0) (N:=some 11) (v:=?_) (a':=?_) #[t',t',f',t',f',f',t',f',t',f',f',f'] rfl rfl (take_ofW HT_.out HW_.out (by kernel_rfl)) (fun _ _ _ h=>h) (Or.inl ⟨by rfl,?_⟩) hHeld ?_ ?_
        rotate_left
        ·rintro w' ⟨s0,s1,s2,s3,s4⟩
         go_simp
         with_reducible rfl
        rotate_left
        ·simp only [Act.put,zq5,zq6,zq7,i64_w,i32_w]
         rfl
        refine take_ (i:=7) (N:=some 18) (v:=?_) (a':=?_) #[t',t',f',t',f',f',t',t',t',f',f',f'] rfl rfl (take_ofW HT_.out HW_.out (by kernel_rfl)) (fun _ _ _ h=>h) (Or.inl ⟨by rfl,?_⟩) hHeld ?_ ?_
        rotate_left
        ·rintro w' ⟨s0,s1,s2,s3,s4⟩
         go_simp
         with_reducible rfl
        rotate_left
        ·simp only [Act.put,zq5,zq6,zq7,i64_w,i32_w]
         rfl
        refine pure_ (i:=9) (N:=some 20) (v:=?_) (a':=?_) #[t',t',f',t',f',f',t',t',t',t',f',f'] rfl rfl (any_of HT_.out (by kernel_rfl)) (fun _ _ _ h=>h) (Or.inl ⟨by rfl,?_⟩) ?_ ?_
        rotate_left
        ·intro w'
         go_simp
         with_reducible rfl
        rotate_left
        ·simp only [Act.put,zq5,zq6,zq7,i64_w,i32_w]
         rfl
        refine take_ (i:=10) (N:=some 21) (v:=?_) (a':=?_) #[t',t',f',t',f',f',t',t',t',t',t',f'] rfl rfl (take_ofW HT_.out HW_.out (by kernel_rfl)) (fun _ _ _ h=>h) (Or.inl ⟨by rfl,?_⟩) hHeld ?_ ?_
        rotate_left
        ·rintro w' ⟨s0,s1,s2,s3,s4⟩
         go_simp
         with_reducible rfl
        rotate_left
        ·simp only [Act.put,zq5,zq6,zq7,i64_w,i32_w]
         rfl
        refine one_ (i:=2) (N:=some 13) #[t',t',t',t',f',f',t',t',t',t',t',f'] rfl rfl (one_of HT_.out (by kernel_rfl)) (by decide) (fun K hK=>?_)
        refine goes_ Try.func56 (by kernel_rfl) rfl #[.agg #[.slice A0_0 l0_0.length c0_0,.slice A0_1 l0_1.length c0_1,.slice (some ad519) l0_2.length c0_2],.slice A1 l1.length c1] (by rfl) rfl rfl zq2 ?_
        with_reducible refine(impl_loads.calls k _ _ l0_0 _ _ l0_1 _ _ l0_2 _ _ l1 t515 _ ?side1 ?side2 ?side3 ?side4 ?side5 ?side6 ?side7 ?side8 A5.out).mono ?_
        (case side1=>repeat(first|exact(Kd.C_below HR0_0.out HB.out)|(with_reducible refine Kd.C_alloc ?_ _)|(with_reducible refine Kd.C_drewN ?_ _)|(with_reducible refine Kd.C_drew ?_)))
        (case side2=>exact HC0_0.out)
        (case side3=>repeat(first|exact(Kd.C_below HR0_1.out HB.out)|(with_reducible refine Kd.C_alloc ?_ _)|(with_reducible refine Kd.C_drewN ?_ _)|(with_reducible refine Kd.C_drew ?_)))
        (case side4=>exact HC0_1.out)
        (case side5=>repeat(first|exact(Kd.C_below HR0_2.out HB.out)|(with_reducible refine Kd.C_alloc ?_ _)|(with_reducible refine Kd.C_drewN ?_ _)|(with_reducible refine Kd.C_drew ?_)))
        (case side6=>exact HC0_2.out)
        (case side7=>repeat(first|exact(Kd.C_below HR1.out HB.out)|(with_reducible refine Kd.C_alloc ?_ _)|(with_reducible refine Kd.C_drewN ?_ _)|(with_reducible refine Kd.C_drew ?_)))
        (case side8=>exact HC1.out)
        rintro e w29 ⟨v516,rfl,ho0,hb⟩
        refine⟨_,rfl,?_⟩
        have n0_:=Aside0.mk (Kd.R_lower ho0 (below_size (zb1 HB GE514)))
        have n1_:=Aside0.mk (blk_below (g:=gb514) (o:= .cells #[.slice A0_0 l0_0.length c0_0,.slice A0_1 l0_1.length c0_1,.slice (some ad519) l0_2.length c0_2] 33 (0,0)) (zq3 BK514) hb)
        have n2_:=Aside0.mk (below_step (zb1 HB GE514) hb)
        clear BK514
        clear HB
        have HO517:=n0_
        have BK514:=n1_
        have HB:=n2_
        clear n0_ n1_ n2_
        (try clear hb)
        (try clear hb2)
        (try clear hk)
        (try clear hi)
        (try clear ho0)
        obtain⟨Ao30,co30,eo30⟩:=Kd.R_slice HO517.out
        (first|subst eo30|(injection eo30 with f1_ f2_ f3_;have f4_:=f1_.symm;have f5_:=f3_.symm;clear f1_ f2_ f3_;subst f4_;subst f5_))
        have p518: 0≤ (a2:Int):=of_decide_eq_true zq1
        have q518:a2< (t515.length:Int):=of_decide_eq_true zq1
        obtain⟨ad518,e518,hx518_0⟩:=Kd.at_int (Kd.R_reads' HO517.out).2.2 a2 p518 q518
        cases e518
        replace p518:=eq_true p518
        replace q518:=eq_true q518
        refine hK.out _ _ ⟨(blk_cell BK514.out 0).trans rfl,(blk_cell BK514.out 1).trans rfl,(blk_cell BK514.out 2).trans rfl,((HB.out.cell (World.block_lt_of_cell? w _ hw519_0)).trans hw519_0),trivial⟩ (fun hHeld=>?_)
        clear hK K
        refine norm_ (a':=?_) ?_ ?_
        rotate_left
        ·show Act.put _ (some 13) _=_
         simp only [Act.put,zq5,zq6,zq7,i64_w,i32_w]
         rfl
        refine pure_ (i:=4) (N:=some 15) (v:=?_) (a':=?_) #[t',t',t',t',t',f',t',t',t',t',t',f'] rfl rfl (any_of HT_.out (by kernel_rfl)) (fun _ _ _ h=>h) (Or.inl ⟨by rfl,?_⟩) ?_ ?_
        rotate_left
        ·intro w'
         go_simp
         with_reducible rfl
        rotate_left
        ·simp only [Act.put,zq5,zq6,zq7,i64_w,i32_w]
         rfl
        refine one_ (i:=5) (N:=some 16) #[t',t',t',t',t',t',t',t',t',t',t',f'] rfl rfl (one_of HT_.out (by kernel_rfl)) (by decide) (fun K hK=>?_)
        refine value_ (v:= .int .i64 (rd t515 a2)) (w1:=w29) (by rfl) rfl ?_ ?_
        ·go_simp
         try with_reducible rfl
        refine hK.out _ _ ⟨(blk_cell BK514.out 0).trans rfl,(blk_cell BK514.out 1).trans rfl,(blk_cell BK514.out 2).trans rfl,((HB.out.cell (World.block_lt_of_cell? w _ hw519_0)).trans hw519_0),trivial⟩ (fun hHeld=>?_)
        clear hK K
        refine norm_ (a':=?_) ?_ ?_
        rotate_left
        ·show Act.put _ (some 16) _=_
         simp only [Act.put,zq5,zq6,zq7,i64_w,i32_w]
         rfl
        refine pure_ (i:=11) (N:=some 22) (v:=?_) (a':=?_) #[t',t',t',t',t',t',t',t',t',t',t',t'] rfl rfl (any_of HT_.out (by kernel_rfl)) (fun _ _ _ h=>h) (Or.inl ⟨by rfl,?_⟩) ?_ ?_
        rotate_left
        ·intro w'
         go_simp
         with_reducible rfl
        rotate_left
        ·simp only [Act.put,zq5,zq6,zq7,i64_w,i32_w]
         rfl
        refine done_ (done_of HT_.out (by kernel_rfl)) ?_
        have hcz31_0:w29.cell? ⟨gb514,0,none⟩=some (.slice A0_0 l0_0.length c0_0):=(blk_cell BK514.out 0).trans rfl
        have hcz31_1:w29.cell? ⟨gb514,1,none⟩=some (.slice A0_1 l0_1.length c0_1):=(blk_cell BK514.out 1).trans rfl
        have hcz31_2:w29.cell? ⟨gb514,2,none⟩=some (.slice (some ad519) l0_2.length c0_2):=(blk_cell BK514.out 2).trans rfl
        have hfz31_0:=blk_frozen BK514.out 0
        have hfz31_1:=blk_frozen BK514.out 1
        have hfz31_2:=blk_frozen BK514.out 2
        try go_wp2_with (first|((with_reducible refine gate_callee (f:=71) rfl ?_);refine goesL_ (some 26) rfl rfl Try.func71 (by kernel_rfl) rfl #[.agg #[.slice A0_0 l0_0.length c0_0,.slice A0_1 l0_1.length c0_1,.slice (some ad519) l0_2.length c0_2],.slice A1 l1.length c1,.int .i64 a2] rfl zq2 ?_;(with_reducible refine(impl_last.calls k _ _ l0_0 _ _ l0_1 _ _ l0_2 _ _ l1 a2 t520 _ ?side1 ?side2 ?side3 ?side4 ?side5 ?side6 ?side7 ?side8 A14.out).mono ?_);(case side1=>repeat(first|exact(Kd.C_below HR0_0.out HB.out)|(with_reducible refine Kd.C_alloc ?_ _)|(with_reducible refine Kd.C_drewN ?_ _)|(with_reducible refine Kd.C_drew ?_)));(case side2=>exact HC0_0.out);(case side3=>repeat(first|exact(Kd.C_below HR0_1.out HB.out)|(with_reducible refine Kd.C_alloc ?_ _)|(with_reducible refine Kd.C_drewN ?_ _)|(with_reducible refine Kd.C_drew ?_)));(case side4=>exact HC0_1.out);(case side5=>repeat(first|exact(Kd.C_below HR0_2.out HB.out)|(with_reducible refine Kd.C_alloc ?_ _)|(with_reducible refine Kd.C_drewN ?_ _)|(with_reducible refine Kd.C_drew ?_)));(case side6=>exact HC0_2.out);(case side7=>repeat(first|exact(Kd.C_below HR1.out HB.out)|(with_reducible refine Kd.C_alloc ?_ _)|(with_reducible refine Kd.C_drewN ?_ _)|(with_reducible refine Kd.C_drew ?_)));(case side8=>exact HC1.out);rintro e w32 ⟨rfl,hb⟩;refine⟨_,rfl,?_⟩;have n0_:=Aside0.mk (Kd.R_below (zq4 HO517) hb);have n1_:=Aside0.mk (blk_below (g:=gb514) (o:= .cells #[.slice A0_0 l0_0.length c0_0,.slice A0_1 l0_1.length c0_1,.slice (some ad519) l0_2.length c0_2] 33 (0,0)) (zq3 BK514) hb);have n2_:=Aside0.mk (below_step (zb1 HB GE514) hb);clear HO517;clear BK514;clear HB;have HO517:=n0_;have BK514:=n1_;have HB:=n2_;clear n0_ n1_ n2_;(try clear hb);(try clear hb2);(try clear hk);(try clear hi)))
        have n0_:=Aside0.mk (Kd.R_drew HO517.out)
        have n1_:=Aside0.mk (blk_drew BK514.out)
        have n2_:=Aside0.mk (below_drew1 HB.out)
        clear HO517
        clear BK514
        clear HB
        have HO517:=n0_
        have BK514:=n1_
        have HB:=n2_
        clear n0_ n1_ n2_
        have p521: 0≤ (a2:Int):=of_decide_eq_true zq1
        have q521:a2< (l0_1.length:Int):=of_decide_eq_true zq1
        obtain⟨ad521,A521_0,c521_0,e521,hx521_0,hl521_0,hi521_0⟩:=at_L1 HR0_1.out a2 p521 q521
        have hw521_0:=hx521_0
        cases e521
        replace hx521_0:=(HB.out.cell (World.block_lt_of_cell? w _ hx521_0)).trans hx521_0
        have HR521_0:=Aside0.mk hi521_0
        have HC521_0:=Aside0.mk hl521_0
        clear hi521_0 hl521_0
        replace p521:=eq_true p521
        replace q521:=eq_true q521
        have p523: 0≤ (a2:Int):=of_decide_eq_true zq1
        have q523:a2< (l0_1.length:Int):=of_decide_eq_true zq1
        obtain⟨ad523,A523_0,c523_0,e523,hx523_0,hl523_0,hi523_0⟩:=at_L1 HR0_1.out a2 p523 q523
        have hw523_0:=hx523_0
        obtain rfl:ad521=ad523:=(by injection e523)
        replace hx523_0:=(HB.out.cell (World.block_lt_of_cell? w _ hx523_0)).trans hx523_0
        have HR523_0:=Aside0.mk hi523_0
        have HC523_0:=Aside0.mk hl523_0
        clear hi523_0 hl523_0
        replace p523:=eq_true p523
        replace q523:=eq_true q523
        have ea_:=Option.some.inj (hx521_0.symm.trans hx523_0)
        injection ea_ with ea_ en_ ec_
        subst ea_
        subst ec_
        clear en_
        refine start_ (n:=19) (S:=fun w'=>w'.cell? ⟨gb514,0,none⟩=some (.slice A0_0 l0_0.length c0_0)∧w'.cell? ⟨gb514,1,none⟩=some (.slice (some ad521) l0_1.length c0_1)∧w'.cell? ⟨gb514,2,none⟩=some (.slice (some ad519) l0_2.length c0_2)∧w'.cell? (ad521.add (a2).toNat)=some (.slice A521_0 (rd_L1 l0_1 a2).length c521_0)∧w'.cell? (ad521.add (a2).toNat)=some (.slice A521_0 (rd_L1 l0_1 a2).length c521_0)) (ds:= []) #[f',f',f',f',f',f',f',f',f',f',f',f',f',f',f',f',f',f',f'] (by kernel_rfl) rfl rfl ⟨(blk_cell BK514.out 0).trans rfl,(blk_cell BK514.out 1).trans rfl,(blk_cell BK514.out 2).trans rfl,((HB.out.cell (World.block_lt_of_cell? w _ hw521_0)).trans hw521_0),((HB.out.cell (World.block_lt_of_cell? w _ hw523_0)).trans hw523_0)⟩ (fun hHeld=>?_);refine with_tabW impl_takes.tab4 impl_takes.bits4 (fun HT_ HW_=>?_)
        generalize w32.drew=w33 at HO517 BK514 HB HR521_0 HR523_0 hx521_0 hx523_0 hHeld ⊢
        refine pure_ (i:=0) (N:=some 27) (v:=?_) (a':=?_) #[t',f',f',f',f',f',f',f',f',f',f',f',f',f',f',f',f',f',f'] rfl rfl (any_of HT_.out (by kernel_rfl)) (fun _ _ _ h=>h) (Or.inl ⟨by rfl,?_⟩) ?_ ?_
        rotate_left
        ·intro w'
         go_simp
         with_reducible rfl
        rotate_left
        ·simp only [Act.put,zq5,zq6,zq7,i64_w,i32_w]
         rfl
        refine pure_ (i:=1) (N:=some 28) (v:=?_) (a':=?_) #[t',t',f',f',f',f',f',f',f',f',f',f',f',f',f',f',f',f',f'] rfl rfl (any_of HT_.out (by kernel_rfl)) (fun _ _ _ h=>h) (Or.inl ⟨by rfl,?_⟩) ?_ ?_
        rotate_left
        ·intro w'
         go_simp
         with_reducible rfl
        rotate_left
        ·simp only [Act.put,zq5,zq6,zq7,i64_w,i32_w]
         rfl
        refine pure_ (i:=2) (N:=some 29) (v:=?_) (a':=?_) #[t',t',t',f',f',f',f',f',f',f',f',f',f',f',f',f',f',f',f'] rfl rfl (any_of HT_.out (by kernel_rfl)) (fun _ _ _ h=>h) (Or.inl ⟨by rfl,?_⟩) ?_ ?_
        rotate_left
        ·intro w'
         go_simp
         with_reducible rfl
        rotate_left
        ·simp only [Act.put,zq5,zq6,zq7,i64_w,i32_w]
         rfl
        refine pure_ (i:=3) (N:=some 30) (v:=?_) (a':=?_) #[t',t',t',t',f',f',f',f',f',f',f',f',f',f',f',f',f',f',f'] rfl rfl (any_of HT_.out (by kernel_rfl)) (fun _ _ _ h=>h) (Or.inl ⟨by rfl,?_⟩) ?_ ?_
        rotate_left
        ·intro w'
         go_simp
         with_reducible rfl
        rotate_left
        ·simp only [Act.put,zq5,zq6,zq7,i64_w,i32_w]
         rfl
        refine pure_ (i:=5) (N:=some 32) (v:=?_) (a':=?_) #[t',t',t',t',f',t',f',f',f',f',f',f',f',f',f',f',f',f',f'] rfl rfl (any_of HT_.out (by kernel_rfl)) (fun _ _ _ h=>h) (Or.inl ⟨by rfl,?_⟩) ?_ ?_
        rotate_left
        ·intro w'
         go_simp
         with_reducible rfl
        rotate_left
        ·simp only [Act.put,zq5,zq6,zq7,i64_w,i32_w]
         rfl
        refine pure_ (i:=8) (N:=some 35) (v:=?_) (a':=?_) #[t',t',t',t',f',t',f',f',t',f',f',f',f',f',f',f',f',f',f'] rfl rfl (any_of HT_.out (by kernel_rfl)) (fun _ _ _ h=>h) (Or.inl ⟨by rfl,?_⟩) ?_ ?_
        rotate_left
        ·intro w'
         go_simp
         with_reducible rfl
        rotate_left
        ·simp only [Act.put,zq5,zq6,zq7,i64_w,i32_w]
         rfl
        refine pure_ (i:=10) (N:=some 37) (v:=?_) (a':=?_) #[t',t',t',t',f',t',f',f',t',f',t',f',f',f',f',f',f',f',f'] rfl rfl (any_of HT_.out (by kernel_rfl)) (fun _ _ _ h=>h) (Or.inl ⟨by rfl,?_⟩) ?_ ?_
        rotate_left
        ·intro w'
         go_simp
         with_reducible rfl
        rotate_left
        ·simp only [Act.put,zq5,zq6,zq7,i64_w,i32_w]
         rfl
        refine pure_ (i:=12) (N:=some 39) (v:=?_) (a':=?_) #[t',t',t',t',f',t',f',f',t',f',t',f',t',f',f',f',f',f',f'] rfl rfl (any_of HT_.out (by kernel_rfl)) (fun _ _ _ h=>h) (Or.inl ⟨by rfl,?_⟩) ?_ ?_
        rotate_left
        ·intro w'
         go_simp
         with_reducible rfl
        rotate_left
        ·simp only [Act.put,zq5,zq6,zq7,i64_w,i32_w]
         rfl
        refine pure_ (i:=15) (N:=some 42) (v:=?_) (a':=?_) #[t',t',t',t',f',t',f',f',t',f',t',f',t',f',f',t',f',f',f'] rfl rfl (any_of HT_.out (by kernel_rfl)) (fun _ _ _ h=>h) (Or.inl ⟨by rfl,?_⟩) ?_ ?_
        rotate_left
        ·intro w'
         go_simp
         with_reducible rfl
        rotate_left
        ·simp only [Act.put,zq5,zq6,zq7,i64_w,i32_w]
         rfl
        refine take_ (i:=4) (N:=some 31) (v:=?_) (a':=?_) #[t',t',t',t',t',t',f',f',t',f',t',f',t',f',f',t',f',f',f'] rfl rfl (take_ofW HT_.out HW_.out (by kernel_rfl)) (fun _ _ _ h=>h) (Or.inl ⟨by rfl,?_⟩) hHeld ?_ ?_
        rotate_left
        ·rintro w' ⟨s0,s1,s2,s3,s4⟩
         go_simp
         with_reducible rfl
        rotate_left
        ·simp only [Act.put,zq5,zq6,zq7,i64_w,i32_w]
         rfl
        refine pure_ (i:=6) (N:=some 33) (v:=?_) (a':=?_) #[t',t',t',t',t',t',t',f',t',f',t',f',t',f',f',t',f',f',f'] rfl rfl (any_of HT_.out (by kernel_rfl)) (fun _ _ _ h=>h) (Or.inl ⟨by rfl,?_⟩) ?_ ?_
        rotate_left
        ·intro w'
         go_simp
         with_reducible rfl
        rotate_left
        ·simp only [Act.put,zq5,zq6,zq7,i64_w,i32_w]
         rfl
        refine take_ (i:=7) (N:=some 34) (v:=?_) (a':=?_) #[t',t',t',t',t',t',t',t',t',f',t',f',t',f',f',t',f',f',f'] rfl rfl (take_ofW HT_.out HW_.out (by kernel_rfl)) (fun _ _ _ h=>h) (Or.inl ⟨by rfl,?_⟩) hHeld ?_ ?_
        rotate_left
        ·rintro w' ⟨s0,s1,s2,s3,s4⟩
         go_simp
         with_reducible rfl
        rotate_left
        ·simp only [Act.put,zq5,zq6,zq7,i64_w,i32_w]
         rfl
        refine take_ (i:=11) (N:=some 38) (v:=?_) (a':=?_) #[t',t',t',t',t',t',t',t',t',f',t',t',t',f',f',t',f',f',f'] rfl rfl (take_ofW HT_.out HW_.out (by kernel_rfl)) (fun _ _ _ h=>h) (Or.inl ⟨by rfl,?_⟩) hHeld ?_ ?_
        rotate_left
        ·rintro w' ⟨s0,s1,s2,s3,s4⟩
         go_simp
         with_reducible rfl
        rotate_left
        ·simp only [Act.put,zq5,zq6,zq7,i64_w,i32_w]
         rfl
        refine pure_ (i:=13) (N:=some 40) (v:=?_) (a':=?_) #[t',t',t',t',t',t',t',t',t',f',t',t',t',t',f',t',f',f',f'] rfl rfl (any_of HT_.out (by kernel_rfl)) (fun _ _ _ h=>h) (Or.inl ⟨by rfl,?_⟩) ?_ ?_
        rotate_left
        ·intro w'
         go_simp
         with_reducible rfl
        rotate_left
        ·simp only [Act.put,zq5,zq6,zq7,i64_w,i32_w]
         rfl
        refine take_ (i:=14) (N:=some 41) (v:=?_) (a':=?_) #[t',t',t',t',t',t',t',t',t',f',t',t',t',t',t',t',f',f',f'] rfl rfl (take_ofW HT_.out HW_.out (by kernel_rfl)) (fun _ _ _ h=>h) (Or.inl ⟨by rfl,?_⟩) hHeld ?_ ?_
        rotate_left
        ·rintro w' ⟨s0,s1,s2,s3,s4⟩
         go_simp
         with_reducible rfl
        rotate_left
        ·simp only [Act.put,zq5,zq6,zq7,i64_w,i32_w]
         rfl
        refine one_ (i:=9) (N:=some 36) #[t',t',t',t',t',t',t',t',t',t',t',t',t',t',t',t',f',f',f'] rfl rfl (one_of HT_.out (by kernel_rfl)) (by decide) (fun K hK=>?_)
        refine goes_ Try.func45 (by kernel_rfl) rfl #[.slice A521_0 (rd_L1 l0_1 a2).length c521_0,.int .i64 t520] (by rfl) rfl rfl zq2 ?_
        with_reducible refine(slices_Index_int.calls k _ _ (rd_L1 l0_1 a2) t520 t522 _ ?side1 ?side2 A24.out).mono ?_
        (case side1=>repeat(first|exact(Kd.C_below HR521_0.out HB.out)|(with_reducible refine Kd.C_alloc ?_ _)|(with_reducible refine Kd.C_drewN ?_ _)|(with_reducible refine Kd.C_drew ?_)))
        (case side2=>exact HC521_0.out)
        rintro e w' ⟨rfl,⟨nd,rfl⟩⟩
        refine⟨_,rfl,?_⟩
        refine hK.out _ _ ⟨(blk_cell BK514.out 0).trans rfl,(blk_cell BK514.out 1).trans rfl,(blk_cell BK514.out 2).trans rfl,((HB.out.cell (World.block_lt_of_cell? w _ hw521_0)).trans hw521_0),((HB.out.cell (World.block_lt_of_cell? w _ hw523_0)).trans hw523_0)⟩ (fun hHeld=>?_)
        clear hK K
        refine norm_ (a':=?_) ?_ ?_
        rotate_left
        ·show Act.put _ (some 36) _=_
         simp only [Act.put,zq5,zq6,zq7,i64_w,i32_w]
         rfl
        refine one_ (i:=16) (N:=some 43) #[t',t',t',t',t',t',t',t',t',t',t',t',t',t',t',t',t',f',f'] rfl rfl (one_of HT_.out (by kernel_rfl)) (by decide) (fun K hK=>?_)
        refine goes_ Try.func45 (by kernel_rfl) rfl #[.slice A521_0 (rd_L1 l0_1 a2).length c521_0,.int .i64 a3] (by rfl) rfl rfl zq2 ?_
        with_reducible refine(slices_Index_int.calls k _ _ (rd_L1 l0_1 a2) a3 t524 _ ?side1 ?side2 A25.out).mono ?_
        (case side1=>repeat(first|exact(Kd.C_below HR523_0.out (zb1 HB GE514))|(with_reducible refine Kd.C_alloc ?_ _)|(with_reducible refine Kd.C_drewN ?_ _)|(with_reducible refine Kd.C_drew ?_)))
        (case side2=>exact HC523_0.out)
        rintro e w' ⟨rfl,⟨nd,rfl⟩⟩
        refine⟨_,rfl,?_⟩
        refine hK.out _ _ ⟨(blk_cell BK514.out 0).trans rfl,(blk_cell BK514.out 1).trans rfl,(blk_cell BK514.out 2).trans rfl,((HB.out.cell (World.block_lt_of_cell? w _ hw521_0)).trans hw521_0),((HB.out.cell (World.block_lt_of_cell? w _ hw523_0)).trans hw523_0)⟩ (fun hHeld=>?_)
        clear hK K
        refine norm_ (a':=?_) ?_ ?_
        rotate_left
        ·show Act.put _ (some 43) _=_
         simp only [Act.put,zq5,zq6,zq7,i64_w,i32_w]
         rfl
        refine pure_ (i:=17) (N:=some 44) (v:=?_) (a':=?_) #[t',t',t',t',t',t',t',t',t',t',t',t',t',t',t',t',t',t',f'] rfl rfl (any_of HT_.out (by kernel_rfl)) (fun _ _ _ h=>h) (Or.inl ⟨by rfl,?_⟩) ?_ ?_
        rotate_left
        ·intro w'
         go_simp
         with_reducible rfl
        rotate_left
        ·simp only [Act.put,zq5,zq6,zq7,i64_w,i32_w]
         rfl
        refine pure_ (i:=18) (N:=some 45) (v:=?_) (a':=?_) #[t',t',t',t',t',t',t',t',t',t',t',t',t',t',t',t',t',t',t'] rfl rfl (any_of HT_.out (by kernel_rfl)) (fun _ _ _ h=>h) (Or.inl ⟨by rfl,?_⟩) ?_ ?_
        rotate_left
        ·intro w'
         go_simp
         with_reducible rfl
        rotate_left
        ·simp only [Act.put,zq5,zq6,zq7,i64_w,i32_w]
         rfl
        refine done_ (done_of HT_.out (by kernel_rfl)) ?_
        try go_wp2
        go_ret2
        exact⟨by first|rfl|(simp [errW_none,errW_some]<;>rfl)|(simp [*,errW_none,errW_some]<;>rfl),by repeat(first|(with_reducible first|exact HB.out|apply below_alloc|apply pw_below_drewN|apply below_drew1|refine below_set ?_ GE514.out)|exact HB.out)⟩
       ·rw [if_neg c26] at H
        have c26b0:decide (t522<t524)=false:=decide_eq_false c26
        clear c26
        simp only [Option.some.injEq,Prod.mk.injEq] at H
        obtain⟨rfl,rfl⟩:=H
        go_enter Try.func63,Try.ntmps63
        try go_wp2_with (first|((with_reducible refine gate_dst (N:=4) rfl ?_);refine box_event ?hg (N:=4) ?hd (cs:= #[.slice A0_0 l0_0.length c0_0,.slice A0_1 l0_1.length c0_1,.slice A0_2 l0_2.length c0_2]) (t:=33) ?hr ?_;(case hd=>rfl);(case hg=>rfl);(case hr=>first|(go_simp;done)|(go_simp;rfl));intro gb514 hg w34 hbox hb;have n0_:=Aside0.mk (below_step (zb0 HB) hb);have n1_:=Aside0.mk (hbox);have n2_:=Aside0.mk ((by rw [hg];exact(below_size (zb0 HB)):w.heap.size≤gb514));have n3_:=Aside0.mk ((by rw [hg];exact(below_size (zb0 HB)):w.heap.size≤gb514));clear HB;have HB:=n0_;have BK514:=n1_;have GW514:=n2_;have GE514:=n3_;clear n0_ n1_ n2_ n3_;clear hb hbox hg))
        have n0_:=Aside0.mk (blk_drew BK514.out)
        have n1_:=Aside0.mk (below_drew1 HB.out)
        clear BK514
        clear HB
        have BK514:=n0_
        have HB:=n1_
        clear n0_ n1_
        have p519: 0≤ (a2:Int):=of_decide_eq_true zq1
        have q519:a2< (l0_2.length:Int):=of_decide_eq_true zq1
        obtain⟨ad519,e519,hx519_0⟩:=Kd.at_int HR0_2.out a2 p519 q519
        have hw519_0:=hx519_0
        cases e519
        replace hx519_0:=(HB.out.cell (World.block_lt_of_cell? w _ hx519_0)).trans hx519_0
        replace p519:=eq_true p519
        replace q519:=eq_true q519
        refine start_ (n:=12) (S:=fun w'=>w'.cell? ⟨gb514,0,none⟩=some (.slice A0_0 l0_0.length c0_0)∧w'.cell? ⟨gb514,1,none⟩=some (.slice A0_1 l0_1.length c0_1)∧w'.cell? ⟨gb514,2,none⟩=some (.slice (some ad519) l0_2.length c0_2)∧w'.cell? (ad519.add (a2).toNat)=some (.int .i64 (rd l0_2 a2))∧True) (ds:= []) #[f',f',f',f',f',f',f',f',f',f',f',f'] (by kernel_rfl) rfl rfl ⟨(blk_cell BK514.out 0).trans rfl,(blk_cell BK514.out 1).trans rfl,(blk_cell BK514.out 2).trans rfl,((HB.out.cell (World.block_lt_of_cell? w _ hw519_0)).trans hw519_0),trivial⟩ (fun hHeld=>?_);refine with_tabW impl_takes.tab1 impl_takes.bits1 (fun HT_ HW_=>?_)
        generalize w34.drew=w35 at BK514 HB hx519_0 hHeld ⊢
        refine pure_ (i:=1) (N:=some 12) (v:=?_) (a':=?_) #[f',t',f',f',f',f',f',f',f',f',f',f'] rfl rfl (any_of HT_.out (by kernel_rfl)) (fun _ _ _ h=>h) (Or.inl ⟨by rfl,?_⟩) ?_ ?_
        rotate_left
        ·intro w'
         go_simp
         with_reducible rfl
        rotate_left
        ·simp only [Act.put,zq5,zq6,zq7,i64_w,i32_w]
         rfl
        refine pure_ (i:=3) (N:=some 14) (v:=?_) (a':=?_) #[f',t',f',t',f',f',f',f',f',f',f',f'] rfl rfl (any_of HT_.out (by kernel_rfl)) (fun _ _ _ h=>h) (Or.inl ⟨by rfl,?_⟩) ?_ ?_
        rotate_left
        ·intro w'
         go_simp
         with_reducible rfl
        rotate_left
        ·simp only [Act.put,zq5,zq6,zq7,i64_w,i32_w]
         rfl
        refine pure_ (i:=6) (N:=some 17) (v:=?_) (a':=?_) #[f',t',f',t',f',f',t',f',f',f',f',f'] rfl rfl (any_of HT_.out (by kernel_rfl)) (fun _ _ _ h=>h) (Or.inl ⟨by rfl,?_⟩) ?_ ?_
        rotate_left
        ·intro w'
         go_simp
         with_reducible rfl
        rotate_left
        ·simp only [Act.put,zq5,zq6,zq7,i64_w,i32_w]
         rfl
        refine pure_ (i:=8) (N:=some 19) (v:=?_) (a':=?_) #[f',t',f',t',f',f',t',f',t',f',f',f'] rfl rfl (any_of HT_.out (by kernel_rfl)) (fun _ _ _ h=>h) (Or.inl ⟨by rfl,?_⟩) ?_ ?_
        rotate_left
        ·intro w'
         go_simp
         with_reducible rfl
        rotate_left
        ·simp only [Act.put,zq5,zq6,zq7,i64_w,i32_w]
         rfl
        refine take_ (i:=0) (N:=some 11) (v:=?_) (a':=?_) #[t',t',f',t',f',f',t',f',t',f',f',f'] rfl rfl (take_ofW HT_.out HW_.out (by kernel_rfl)) (fun _ _ _ h=>h) (Or.inl ⟨by rfl,?_⟩) hHeld ?_ ?_
        rotate_left
        ·rintro w' ⟨s0,s1,s2,s3,s4⟩
         go_simp
         with_reducible rfl
        rotate_left
        ·simp only [Act.put,zq5,zq6,zq7,i64_w,i32_w]
         rfl
        refine take_ (i:=7) (N:=some 18) (v:=?_) (a':=?_) #[t',t',f',t',f',f',t',t',t',f',f',f'] rfl rfl (take_ofW HT_.out HW_.out (by kernel_rfl)) (fun _ _ _ h=>h) (Or.inl ⟨by rfl,?_⟩) hHeld ?_ ?_
        rotate_left
        ·rintro w' ⟨s0,s1,s2,s3,s4⟩
         go_simp
         with_reducible rfl
        rotate_left
        ·simp only [Act.put,zq5,zq6,zq7,i64_w,i32_w]
         rfl
        refine pure_ (i:=9) (N:=some 20) (v:=?_) (a':=?_) #[t',t',f',t',f',f',t',t',t',t',f',f'] rfl rfl (any_of HT_.out (by kernel_rfl)) (fun _ _ _ h=>h) (Or.inl ⟨by rfl,?_⟩) ?_ ?_
        rotate_left
        ·intro w'
         go_simp
         with_reducible rfl
        rotate_left
        ·simp only [Act.put,zq5,zq6,zq7,i64_w,i32_w]
         rfl
        refine take_ (i:=10) (N:=some 21) (v:=?_) (a':=?_) #[t',t',f',t',f',f',t',t',t',t',t',f'] rfl rfl (take_ofW HT_.out HW_.out (by kernel_rfl)) (fun _ _ _ h=>h) (Or.inl ⟨by rfl,?_⟩) hHeld ?_ ?_
        rotate_left
        ·rintro w' ⟨s0,s1,s2,s3,s4⟩
         go_simp
         with_reducible rfl
        rotate_left
        ·simp only [Act.put,zq5,zq6,zq7,i64_w,i32_w]
         rfl
        refine one_ (i:=2) (N:=some 13) #[t',t',t',t',f',f',t',t',t',t',t',f'] rfl rfl (one_of HT_.out (by kernel_rfl)) (by decide) (fun K hK=>?_)
        refine goes_ Try.func56 (by kernel_rfl) rfl #[.agg #[.slice A0_0 l0_0.length c0_0,.slice A0_1 l0_1.length c0_1,.slice (some ad519) l0_2.length c0_2],.slice A1 l1.length c1] (by rfl) rfl rfl zq2 ?_
        with_reducible refine(impl_loads.calls k _ _ l0_0 _ _ l0_1 _ _ l0_2 _ _ l1 t515 _ ?side1 ?side2 ?side3 ?side4 ?side5 ?side6 ?side7 ?side8 A5.out).mono ?_
        (case side1=>repeat(first|exact(Kd.C_below HR0_0.out HB.out)|(with_reducible refine Kd.C_alloc ?_ _)|(with_reducible refine Kd.C_drewN ?_ _)|(with_reducible refine Kd.C_drew ?_)))
        (case side2=>exact HC0_0.out)
        (case side3=>repeat(first|exact(Kd.C_below HR0_1.out HB.out)|(with_reducible refine Kd.C_alloc ?_ _)|(with_reducible refine Kd.C_drewN ?_ _)|(with_reducible refine Kd.C_drew ?_)))
        (case side4=>exact HC0_1.out)
        (case side5=>repeat(first|exact(Kd.C_below HR0_2.out HB.out)|(with_reducible refine Kd.C_alloc ?_ _)|(with_reducible refine Kd.C_drewN ?_ _)|(with_reducible refine Kd.C_drew ?_)))
        (case side6=>exact HC0_2.out)
        (case side7=>repeat(first|exact(Kd.C_below HR1.out HB.out)|(with_reducible refine Kd.C_alloc ?_ _)|(with_reducible refine Kd.C_drewN ?_ _)|(with_reducible refine Kd.C_drew ?_)))
        (case side8=>exact HC1.out)
        rintro e w36 ⟨v516,rfl,ho0,hb⟩
        refine⟨_,rfl,?_⟩
        have n0_:=Aside0.mk (Kd.R_lower ho0 (below_size (zb1 HB GE514)))
        have n1_:=Aside0.mk (blk_below (g:=gb514) (o:= .cells #[.slice A0_0 l0_0.length c0_0,.slice A0_1 l0_1.length c0_1,.slice (some ad519) l0_2.length c0_2] 33 (0,0)) (zq3 BK514) hb)
        have n2_:=Aside0.mk (below_step (zb1 HB GE514) hb)
        clear BK514
        clear HB
        have HO517:=n0_
        have BK514:=n1_
        have HB:=n2_
        clear n0_ n1_ n2_
        (try clear hb)
        (try clear hb2)
        (try clear hk)
        (try clear hi)
        (try clear ho0)
        obtain⟨Ao37,co37,eo37⟩:=Kd.R_slice HO517.out
        (first|subst eo37|(injection eo37 with f1_ f2_ f3_;have f4_:=f1_.symm;have f5_:=f3_.symm;clear f1_ f2_ f3_;subst f4_;subst f5_))
        have p518: 0≤ (a2:Int):=of_decide_eq_true zq1
        have q518:a2< (t515.length:Int):=of_decide_eq_true zq1
        obtain⟨ad518,e518,hx518_0⟩:=Kd.at_int (Kd.R_reads' HO517.out).2.2 a2 p518 q518
        cases e518
        replace p518:=eq_true p518
        replace q518:=eq_true q518
        refine hK.out _ _ ⟨(blk_cell BK514.out 0).trans rfl,(blk_cell BK514.out 1).trans rfl,(blk_cell BK514.out 2).trans rfl,((HB.out.cell (World.block_lt_of_cell? w _ hw519_0)).trans hw519_0),trivial⟩ (fun hHeld=>?_)
        clear hK K
        refine norm_ (a':=?_) ?_ ?_
        rotate_left
        ·show Act.put _ (some 13) _=_
         simp only [Act.put,zq5,zq6,zq7,i64_w,i32_w]
         rfl
        refine pure_ (i:=4) (N:=some 15) (v:=?_) (a':=?_) #[t',t',t',t',t',f',t',t',t',t',t',f'] rfl rfl (any_of HT_.out (by kernel_rfl)) (fun _ _ _ h=>h) (Or.inl ⟨by rfl,?_⟩) ?_ ?_
        rotate_left
        ·intro w'
         go_simp
         with_reducible rfl
        rotate_left
        ·simp only [Act.put,zq5,zq6,zq7,i64_w,i32_w]
         rfl
        refine one_ (i:=5) (N:=some 16) #[t',t',t',t',t',t',t',t',t',t',t',f'] rfl rfl (one_of HT_.out (by kernel_rfl)) (by decide) (fun K hK=>?_)
        refine value_ (v:= .int .i64 (rd t515 a2)) (w1:=w36) (by rfl) rfl ?_ ?_
        ·go_simp
         try with_reducible rfl
        refine hK.out _ _ ⟨(blk_cell BK514.out 0).trans rfl,(blk_cell BK514.out 1).trans rfl,(blk_cell BK514.out 2).trans rfl,((HB.out.cell (World.block_lt_of_cell? w _ hw519_0)).trans hw519_0),trivial⟩ (fun hHeld=>?_)
        clear hK K
        refine norm_ (a':=?_) ?_ ?_
        rotate_left
        ·show Act.put _ (some 16) _=_
         simp only [Act.put,zq5,zq6,zq7,i64_w,i32_w]
         rfl
        refine pure_ (i:=11) (N:=some 22) (v:=?_) (a':=?_) #[t',t',t',t',t',t',t',t',t',t',t',t'] rfl rfl (any_of HT_.out (by kernel_rfl)) (fun _ _ _ h=>h) (Or.inl ⟨by rfl,?_⟩) ?_ ?_
        rotate_left
        ·intro w'
         go_simp
         with_reducible rfl
        rotate_left
        ·simp only [Act.put,zq5,zq6,zq7,i64_w,i32_w]
         rfl
        refine done_ (done_of HT_.out (by kernel_rfl)) ?_
        have hcz38_0:w36.cell? ⟨gb514,0,none⟩=some (.slice A0_0 l0_0.length c0_0):=(blk_cell BK514.out 0).trans rfl
        have hcz38_1:w36.cell? ⟨gb514,1,none⟩=some (.slice A0_1 l0_1.length c0_1):=(blk_cell BK514.out 1).trans rfl
        have hcz38_2:w36.cell? ⟨gb514,2,none⟩=some (.slice (some ad519) l0_2.length c0_2):=(blk_cell BK514.out 2).trans rfl
        have hfz38_0:=blk_frozen BK514.out 0
        have hfz38_1:=blk_frozen BK514.out 1
        have hfz38_2:=blk_frozen BK514.out 2
        try go_wp2_with (first|((with_reducible refine gate_callee (f:=71) rfl ?_);refine goesL_ (some 26) rfl rfl Try.func71 (by kernel_rfl) rfl #[.agg #[.slice A0_0 l0_0.length c0_0,.slice A0_1 l0_1.length c0_1,.slice (some ad519) l0_2.length c0_2],.slice A1 l1.length c1,.int .i64 a2] rfl zq2 ?_;(with_reducible refine(impl_last.calls k _ _ l0_0 _ _ l0_1 _ _ l0_2 _ _ l1 a2 t520 _ ?side1 ?side2 ?side3 ?side4 ?side5 ?side6 ?side7 ?side8 A14.out).mono ?_);(case side1=>repeat(first|exact(Kd.C_below HR0_0.out HB.out)|(with_reducible refine Kd.C_alloc ?_ _)|(with_reducible refine Kd.C_drewN ?_ _)|(with_reducible refine Kd.C_drew ?_)));(case side2=>exact HC0_0.out);(case side3=>repeat(first|exact(Kd.C_below HR0_1.out HB.out)|(with_reducible refine Kd.C_alloc ?_ _)|(with_reducible refine Kd.C_drewN ?_ _)|(with_reducible refine Kd.C_drew ?_)));(case side4=>exact HC0_1.out);(case side5=>repeat(first|exact(Kd.C_below HR0_2.out HB.out)|(with_reducible refine Kd.C_alloc ?_ _)|(with_reducible refine Kd.C_drewN ?_ _)|(with_reducible refine Kd.C_drew ?_)));(case side6=>exact HC0_2.out);(case side7=>repeat(first|exact(Kd.C_below HR1.out HB.out)|(with_reducible refine Kd.C_alloc ?_ _)|(with_reducible refine Kd.C_drewN ?_ _)|(with_reducible refine Kd.C_drew ?_)));(case side8=>exact HC1.out);rintro e w39 ⟨rfl,hb⟩;refine⟨_,rfl,?_⟩;have n0_:=Aside0.mk (Kd.R_below (zq4 HO517) hb);have n1_:=Aside0.mk (blk_below (g:=gb514) (o:= .cells #[.slice A0_0 l0_0.length c0_0,.slice A0_1 l0_1.length c0_1,.slice (some ad519) l0_2.length c0_2] 33 (0,0)) (zq3 BK514) hb);have n2_:=Aside0.mk (below_step (zb1 HB GE514) hb);clear HO517;clear BK514;clear HB;have HO517:=n0_;have BK514:=n1_;have HB:=n2_;clear n0_ n1_ n2_;(try clear hb);(try clear hb2);(try clear hk);(try clear hi)))
        have n0_:=Aside0.mk (Kd.R_drew HO517.out)
        have n1_:=Aside0.mk (blk_drew BK514.out)
        have n2_:=Aside0.mk (below_drew1 HB.out)
        clear HO517
        clear BK514
        clear HB
        have HO517:=n0_
        have BK514:=n1_
        have HB:=n2_
        clear n0_ n1_ n2_
        have p521: 0≤ (a2:Int):=of_decide_eq_true zq1
        have q521:a2< (l0_1.length:Int):=of_decide_eq_true zq1
        obtain⟨ad521,A521_0,c521_0,e521,hx521_0,hl521_0,hi521_0⟩:=at_L1 HR0_1.out a2 p521 q521
        have hw521_0:=hx521_0
        cases e521
        replace hx521_0:=(HB.out.cell (World.block_lt_of_cell? w _ hx521_0)).trans hx521_0
        have HR521_0:=Aside0.mk hi521_0
        have HC521_0:=Aside0.mk hl521_0
        clear hi521_0 hl521_0
        replace p521:=eq_true p521
        replace q521:=eq_true q521
        have p523: 0≤ (a2:Int):=of_decide_eq_true zq1
        have q523:a2< (l0_1.length:Int):=of_decide_eq_true zq1
        obtain⟨ad523,A523_0,c523_0,e523,hx523_0,hl523_0,hi523_0⟩:=at_L1 HR0_1.out a2 p523 q523
        have hw523_0:=hx523_0
        obtain rfl:ad521=ad523:=(by injection e523)
        replace hx523_0:=(HB.out.cell (World.block_lt_of_cell? w _ hx523_0)).trans hx523_0
        have HR523_0:=Aside0.mk hi523_0
        have HC523_0:=Aside0.mk hl523_0
        clear hi523_0 hl523_0
        replace p523:=eq_true p523
        replace q523:=eq_true q523
        have ea_:=Option.some.inj (hx521_0.symm.trans hx523_0)
        injection ea_ with ea_ en_ ec_
        subst ea_
        subst ec_
        clear en_
        refine start_ (n:=19) (S:=fun w'=>w'.cell? ⟨gb514,0,none⟩=some (.slice A0_0 l0_0.length c0_0)∧w'.cell? ⟨gb514,1,none⟩=some (.slice (some ad521) l0_1.length c0_1)∧w'.cell? ⟨gb514,2,none⟩=some (.slice (some ad519) l0_2.length c0_2)∧w'.cell? (ad521.add (a2).toNat)=some (.slice A521_0 (rd_L1 l0_1 a2).length c521_0)∧w'.cell? (ad521.add (a2).toNat)=some (.slice A521_0 (rd_L1 l0_1 a2).length c521_0)) (ds:= []) #[f',f',f',f',f',f',f',f',f',f',f',f',f',f',f',f',f',f',f'] (by kernel_rfl) rfl rfl ⟨(blk_cell BK514.out 0).trans rfl,(blk_cell BK514.out 1).trans rfl,(blk_cell BK514.out 2).trans rfl,((HB.out.cell (World.block_lt_of_cell? w _ hw521_0)).trans hw521_0),((HB.out.cell (World.block_lt_of_cell? w _ hw523_0)).trans hw523_0)⟩ (fun hHeld=>?_);refine with_tabW impl_takes.tab4 impl_takes.bits4 (fun HT_ HW_=>?_)
        generalize w39.drew=w40 at HO517 BK514 HB HR521_0 HR523_0 hx521_0 hx523_0 hHeld ⊢
        refine pure_ (i:=0) (N:=some 27) (v:=?_) (a':=?_) #[t',f',f',f',f',f',f',f',f',f',f',f',f',f',f',f',f',f',f'] rfl rfl (any_of HT_.out (by kernel_rfl)) (fun _ _ _ h=>h) (Or.inl ⟨by rfl,?_⟩) ?_ ?_
        rotate_left
        ·intro w'
         go_simp
         with_reducible rfl
        rotate_left
        ·simp only [Act.put,zq5,zq6,zq7,i64_w,i32_w]
         rfl
        refine pure_ (i:=1) (N:=some 28) (v:=?_) (a':=?_) #[t',t',f',f',f',f',f',f',f',f',f',f',f',f',f',f',f',f',f'] rfl rfl (any_of HT_.out (by kernel_rfl)) (fun _ _ _ h=>h) (Or.inl ⟨by rfl,?_⟩) ?_ ?_
        rotate_left
        ·intro w'
         go_simp
         with_reducible rfl
        rotate_left
        ·simp only [Act.put,zq5,zq6,zq7,i64_w,i32_w]
         rfl
        refine pure_ (i:=2) (N:=some 29) (v:=?_) (a':=?_) #[t',t',t',f',f',f',f',f',f',f',f',f',f',f',f',f',f',f',f'] rfl rfl (any_of HT_.out (by kernel_rfl)) (fun _ _ _ h=>h) (Or.inl ⟨by rfl,?_⟩) ?_ ?_
        rotate_left
        ·intro w'
         go_simp
         with_reducible rfl
        rotate_left
        ·simp only [Act.put,zq5,zq6,zq7,i64_w,i32_w]
         rfl
        refine pure_ (i:=3) (N:=some 30) (v:=?_) (a':=?_) #[t',t',t',t',f',f',f',f',f',f',f',f',f',f',f',f',f',f',f'] rfl rfl (any_of HT_.out (by kernel_rfl)) (fun _ _ _ h=>h) (Or.inl ⟨by rfl,?_⟩) ?_ ?_
        rotate_left
        ·intro w'
         go_simp
         with_reducible rfl
        rotate_left
        ·simp only [Act.put,zq5,zq6,zq7,i64_w,i32_w]
         rfl
        refine pure_ (i:=5) (N:=some 32) (v:=?_) (a':=?_) #[t',t',t',t',f',t',f',f',f',f',f',f',f',f',f',f',f',f',f'] rfl rfl (any_of HT_.out (by kernel_rfl)) (fun _ _ _ h=>h) (Or.inl ⟨by rfl,?_⟩) ?_ ?_
        rotate_left
        ·intro w'
         go_simp
         with_reducible rfl
        rotate_left
        ·simp only [Act.put,zq5,zq6,zq7,i64_w,i32_w]
         rfl
        refine pure_ (i:=8) (N:=some 35) (v:=?_) (a':=?_) #[t',t',t',t',f',t',f',f',t',f',f',f',f',f',f',f',f',f',f'] rfl rfl (any_of HT_.out (by kernel_rfl)) (fun _ _ _ h=>h) (Or.inl ⟨by rfl,?_⟩) ?_ ?_
        rotate_left
        ·intro w'
         go_simp
         with_reducible rfl
        rotate_left
        ·simp only [Act.put,zq5,zq6,zq7,i64_w,i32_w]
         rfl
        refine pure_ (i:=10) (N:=some 37) (v:=?_) (a':=?_) #[t',t',t',t',f',t',f',f',t',f',t',f',f',f',f',f',f',f',f'] rfl rfl (any_of HT_.out (by kernel_rfl)) (fun _ _ _ h=>h) (Or.inl ⟨by rfl,?_⟩) ?_ ?_
        rotate_left
        ·intro w'
         go_simp
         with_reducible rfl
        rotate_left
        ·simp only [Act.put,zq5,zq6,zq7,i64_w,i32_w]
         rfl
        refine pure_ (i:=12) (N:=some 39) (v:=?_) (a':=?_) #[t',t',t',t',f',t',f',f',t',f',t',f',t',f',f',f',f',f',f'] rfl rfl (any_of HT_.out (by kernel_rfl)) (fun _ _ _ h=>h) (Or.inl ⟨by rfl,?_⟩) ?_ ?_
        rotate_left
        ·intro w'
         go_simp
         with_reducible rfl
        rotate_left
        ·simp only [Act.put,zq5,zq6,zq7,i64_w,i32_w]
         rfl
        refine pure_ (i:=15) (N:=some 42) (v:=?_) (a':=?_) #[t',t',t',t',f',t',f',f',t',f',t',f',t',f',f',t',f',f',f'] rfl rfl (any_of HT_.out (by kernel_rfl)) (fun _ _ _ h=>h) (Or.inl ⟨by rfl,?_⟩) ?_ ?_
        rotate_left
        ·intro w'
         go_simp
         with_reducible rfl
        rotate_left
        ·simp only [Act.put,zq5,zq6,zq7,i64_w,i32_w]
         rfl
        refine take_ (i:=4) (N:=some 31) (v:=?_) (a':=?_) #[t',t',t',t',t',t',f',f',t',f',t',f',t',f',f',t',f',f',f'] rfl rfl (take_ofW HT_.out HW_.out (by kernel_rfl)) (fun _ _ _ h=>h) (Or.inl ⟨by rfl,?_⟩) hHeld ?_ ?_
        rotate_left
        ·rintro w' ⟨s0,s1,s2,s3,s4⟩
         go_simp
         with_reducible rfl
        rotate_left
        ·simp only [Act.put,zq5,zq6,zq7,i64_w,i32_w]
         rfl
        refine pure_ (i:=6) (N:=some 33) (v:=?_) (a':=?_) #[t',t',t',t',t',t',t',f',t',f',t',f',t',f',f',t',f',f',f'] rfl rfl (any_of HT_.out (by kernel_rfl)) (fun _ _ _ h=>h) (Or.inl ⟨by rfl,?_⟩) ?_ ?_
        rotate_left
        ·intro w'
         go_simp
         with_reducible rfl
        rotate_left
        ·simp only [Act.put,zq5,zq6,zq7,i64_w,i32_w]
         rfl
        refine take_ (i:=7) (N:=some 34) (v:=?_) (a':=?_) #[t',t',t',t',t',t',t',t',t',f',t',f',t',f',f',t',f',f',f'] rfl rfl (take_ofW HT_.out HW_.out (by kernel_rfl)) (fun _ _ _ h=>h) (Or.inl ⟨by rfl,?_⟩) hHeld ?_ ?_
        rotate_left
        ·rintro w' ⟨s0,s1,s2,s3,s4⟩
         go_simp
         with_reducible rfl
        rotate_left
        ·simp only [Act.put,zq5,zq6,zq7,i64_w,i32_w]
         rfl
        refine take_ (i:=11) (N:=some 38) (v:=?_) (a':=?_) #[t',t',t',t',t',t',t',t',t',f',t',t',t',f',f',t',f',f',f'] rfl rfl (take_ofW HT_.out HW_.out (by kernel_rfl)) (fun _ _ _ h=>h) (Or.inl ⟨by rfl,?_⟩) hHeld ?_ ?_
        rotate_left
        ·rintro w' ⟨s0,s1,s2,s3,s4⟩
         go_simp
         with_reducible rfl
        rotate_left
        ·simp only [Act.put,zq5,zq6,zq7,i64_w,i32_w]
         rfl
        refine pure_ (i:=13) (N:=some 40) (v:=?_) (a':=?_) #[t',t',t',t',t',t',t',t',t',f',t',t',t',t',f',t',f',f',f'] rfl rfl (any_of HT_.out (by kernel_rfl)) (fun _ _ _ h=>h) (Or.inl ⟨by rfl,?_⟩) ?_ ?_
        rotate_left
        ·intro w'
         go_simp
         with_reducible rfl
        rotate_left
        ·simp only [Act.put,zq5,zq6,zq7,i64_w,i32_w]
         rfl
        refine take_ (i:=14) (N:=some 41) (v:=?_) (a':=?_) #[t',t',t',t',t',t',t',t',t',f',t',t',t',t',t',t',f',f',f'] rfl rfl (take_ofW HT_.out HW_.out (by kernel_rfl)) (fun _ _ _ h=>h) (Or.inl ⟨by rfl,?_⟩) hHeld ?_ ?_
        rotate_left
        ·rintro w' ⟨s0,s1,s2,s3,s4⟩
         go_simp
         with_reducible rfl
        rotate_left
        ·simp only [Act.put,zq5,zq6,zq7,i64_w,i32_w]
         rfl
        refine one_ (i:=9) (N:=some 36) #[t',t',t',t',t',t',t',t',t',t',t',t',t',t',t',t',f',f',f'] rfl rfl (one_of HT_.out (by kernel_rfl)) (by decide) (fun K hK=>?_)
        refine goes_ Try.func45 (by kernel_rfl) rfl #[.slice A521_0 (rd_L1 l0_1 a2).length c521_0,.int .i64 t520] (by rfl) rfl rfl zq2 ?_
        with_reducible refine(slices_Index_int.calls k _ _ (rd_L1 l0_1 a2) t520 t522 _ ?side1 ?side2 A24.out).mono ?_
        (case side1=>repeat(first|exact(Kd.C_below HR521_0.out HB.out)|(with_reducible refine Kd.C_alloc ?_ _)|(with_reducible refine Kd.C_drewN ?_ _)|(with_reducible refine Kd.C_drew ?_)))
        (case side2=>exact HC521_0.out)
        rintro e w' ⟨rfl,⟨nd,rfl⟩⟩
        refine⟨_,rfl,?_⟩
        refine hK.out _ _ ⟨(blk_cell BK514.out 0).trans rfl,(blk_cell BK514.out 1).trans rfl,(blk_cell BK514.out 2).trans rfl,((HB.out.cell (World.block_lt_of_cell? w _ hw521_0)).trans hw521_0),((HB.out.cell (World.block_lt_of_cell? w _ hw523_0)).trans hw523_0)⟩ (fun hHeld=>?_)
        clear hK K
        refine norm_ (a':=?_) ?_ ?_
        rotate_left
        ·show Act.put _ (some 36) _=_
         simp only [Act.put,zq5,zq6,zq7,i64_w,i32_w]
         rfl
        refine one_ (i:=16) (N:=some 43) #[t',t',t',t',t',t',t',t',t',t',t',t',t',t',t',t',t',f',f'] rfl rfl (one_of HT_.out (by kernel_rfl)) (by decide) (fun K hK=>?_)
        refine goes_ Try.func45 (by kernel_rfl) rfl #[.slice A521_0 (rd_L1 l0_1 a2).length c521_0,.int .i64 a3] (by rfl) rfl rfl zq2 ?_
        with_reducible refine(slices_Index_int.calls k _ _ (rd_L1 l0_1 a2) a3 t524 _ ?side1 ?side2 A25.out).mono ?_
        (case side1=>repeat(first|exact(Kd.C_below HR523_0.out (zb1 HB GE514))|(with_reducible refine Kd.C_alloc ?_ _)|(with_reducible refine Kd.C_drewN ?_ _)|(with_reducible refine Kd.C_drew ?_)))
        (case side2=>exact HC523_0.out)
        rintro e w' ⟨rfl,⟨nd,rfl⟩⟩
        refine⟨_,rfl,?_⟩
        refine hK.out _ _ ⟨(blk_cell BK514.out 0).trans rfl,(blk_cell BK514.out 1).trans rfl,(blk_cell BK514.out 2).trans rfl,((HB.out.cell (World.block_lt_of_cell? w _ hw521_0)).trans hw521_0),((HB.out.cell (World.block_lt_of_cell? w _ hw523_0)).trans hw523_0)⟩ (fun hHeld=>?_)
        clear hK K
        refine norm_ (a':=?_) ?_ ?_
        rotate_left
        ·show Act.put _ (some 43) _=_
         simp only [Act.put,zq5,zq6,zq7,i64_w,i32_w]
         rfl
        refine pure_ (i:=17) (N:=some 44) (v:=?_) (a':=?_) #[t',t',t',t',t',t',t',t',t',t',t',t',t',t',t',t',t',t',f'] rfl rfl (any_of HT_.out (by kernel_rfl)) (fun _ _ _ h=>h) (Or.inl ⟨by rfl,?_⟩) ?_ ?_
        rotate_left
        ·intro w'
         go_simp
         with_reducible rfl
        rotate_left
        ·simp only [Act.put,zq5,zq6,zq7,i64_w,i32_w]
         rfl
        refine pure_ (i:=18) (N:=some 45) (v:=?_) (a':=?_) #[t',t',t',t',t',t',t',t',t',t',t',t',t',t',t',t',t',t',t'] rfl rfl (any_of HT_.out (by kernel_rfl)) (fun _ _ _ h=>h) (Or.inl ⟨by rfl,?_⟩) ?_ ?_
        rotate_left
        ·intro w'
         go_simp
         with_reducible rfl
        rotate_left
        ·simp only [Act.put,zq5,zq6,zq7,i64_w,i32_w]
         rfl
        refine done_ (done_of HT_.out (by kernel_rfl)) ?_
        try go_wp2
        go_ret2
        exact⟨by first|rfl|(simp [errW_none,errW_some]<;>rfl)|(simp [*,errW_none,errW_some]<;>rfl),by repeat(first|(with_reducible first|exact HB.out|apply below_alloc|apply pw_below_drewN|apply below_drew1|refine below_set ?_ GE514.out)|exact HB.out)⟩
      ·rw [if_neg c23] at H
       exact absurd H (by simp)
   ·rw [if_neg c8] at H
    exact absurd H (by simp)
  ·rw [if_neg c7] at H
   exact absurd H (by simp)
 ·rw [if_neg c6] at H
  exact absurd H (by simp)
end Go.Proofs.Ytoipbblhmcpneaa.P
