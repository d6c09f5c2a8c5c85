/- Functions, walks and plain lemmas that the law FnMatches reaches, part 3. -/
import Derived.Test.YtoipbblhmcpneaaCFnMatches2
import Derived.Below
import Derived.Deep.Draws
import Derived.Deep.AppendLies
import Derived.Maps.AppendAt
import Derived.OwnWalk
import Derived.Laws.BytesArg
import Derived.Laws.MakeOwn
import Derived.Laws.OwnMore
import Derived.Deep.OwnRows
import Derived.Tactics
import Derived.Lib.ConvBytes
import Derived.Laws.Slices
import Derived.WalkKit
import Derived.KernelRfl
import Derived.RowKit3
import Derived.Deep.LoopGhost
import Derived.Deep.QuietTactic
import Derived.BigQuiet
import Derived.WideLaws
import Derived.Deep.DeepCutAuto
import Derived.Deep.CutBlock
import Derived.Deep.RegionHeld3
import Derived.Laws.Rows
import Derived.Lib.AppendStr
import Derived.ArgAppend
import Derived.Laws.IdiomCopy
import Derived.OrdersHeld
import Derived.Laws.BitsLemmas
import Derived.RowKit
import Derived.WalkSpells
import Derived.Lib.SliceRun
import Derived.Shelf.Abstract
import Derived.ProofKit
import Derived.OpenShut
import Derived.ShutString
import Derived.ChangeOld
import Derived.SizedLaws
namespace Go.Proofs.Ytoipbblhmcpneaa.P
open Go.RowKit Go.Proofs.YtoipbblhmcpneaaW.PrintWords Go.Proofs.YtoipbblhmcpneaaW.PrintLast Go.Proofs.YtoipbblhmcpneaaW.PrintMore
attribute [local go_sem] max2_int min2_int max_two min_two max_three min_three max_four min_four   -- for this text's walks alone
set_option linter.unusedVariables false
set_option linter.unusedSimpArgs false
def impl_takes.f (k:Nat) (l0_0:List (List Int)) (l0_1:List (List Int)) (l0_2:List Int) (l1:List Int) (a2:Int) (a3:Int):Option (Int × Bool):=(impl_loads.f k l0_0 l0_1 l0_2 l1).bind fun t515=>(if 0≤a2 then(if a2< (t515.length:Int) then(if a2< (l0_2.length:Int) then(if (rd t515 a2)< (rd l0_2 a2) then(some ((-1),true)) else((impl_last.f k l0_0 l0_1 l0_2 l1 a2).bind fun t520=>(if t520< 0 then(some ((-1),false)) else(if a2< (l0_1.length:Int) then((slices_Index_int.f k (rd_L1 l0_1 a2) t520).bind fun t522=>((slices_Index_int.f k (rd_L1 l0_1 a2) a3).bind fun t524=>(if t522<t524 then(some ((-1),false)) else(some (t520,true))))) else(none))))) else(none)) else(none)) else(none))
def impl_takes.T1:Bool × List (List Nat × List Nat):=(true,[([],[]),([],[]),([0,1],[0,1]),([],[]),([2,3],[2,3]),([4],[4]),([],[]),([6],[6]),([],[]),([7,8],[7,8]),([9],[9]),([5,10],[5,10])])
def impl_takes.B1:List Nat:= [0,0,3,0,15,31,0,64,0,448,960,2047]
theorem impl_takes.tab1:rtab .any (opsOf Try.f63 1)=impl_takes.T1:=by kernel_rfl
theorem impl_takes.bits1:waitsOk impl_takes.T1.2 impl_takes.B1=true:=by kernel_rfl
def impl_takes.T4:Bool × List (List Nat × List Nat):=(true,[([],[]),([0],[0]),([1],[1]),([2],[2]),([3,2],[2,3]),([2],[2]),([4,5,2],[2,4,5]),([6,2],[2,6]),([2],[2]),([7,8,2,2],[2,7,8]),([2],[2]),([10,2],[2,10]),([2],[2]),([11,12,2],[2,11,12]),([13,2],[2,13]),([2],[2]),([14,15,9,2],[2,14,15]),([9,16,2],[2,9,16]),([2,17],[2,17])])
def impl_takes.B4:List Nat:= [0,1,3,7,15,7,63,127,7,511,7,1031,7,7175,15367,7,65535,131071,262143]
theorem impl_takes.tab4:rtab .any (opsOf Try.f63 4)=impl_takes.T4:=by kernel_rfl
theorem impl_takes.bits4:waitsOk impl_takes.T4.2 impl_takes.B4=true:=by kernel_rfl
set_option maxHeartbeats 8000000 in
set_option maxRecDepth 100000 in
theorem impl_takes.calls (k:Nat) (A0_0:Option Addr) (c0_0:Nat) (l0_0:List (List Int)) (A0_1:Option Addr) (c0_1:Nat) (l0_1:List (List Int)) (A0_2:Option Addr) (c0_2:Nat) (l0_2:List Int) (A1:Option Addr) (c1:Nat) (l1:List Int) (a2:Int) (a3:Int) (r1:Int) (r2:Bool) (w:World) (hr0_0:Kd.C (Kd.slice 3 (Kd.int .i64)) w A0_0 l0_0.length l0_0) (hc0_0:l0_0.length≤c0_0) (hr0_1:Kd.C (Kd.slice 3 (Kd.int .i64)) w A0_1 l0_1.length l0_1) (hc0_1:l0_1.length≤c0_1) (hr0_2:Kd.C (Kd.int .i64) w A0_2 l0_2.length l0_2) (hc0_2:l0_2.length≤c0_2) (hr1:Kd.C (Kd.int .i64) w A1 l1.length l1) (hc1:l1.length≤c1) (h:impl_takes.f k l0_0 l0_1 l0_2 l1 a2 a3=some (r1,r2)):
  Calls Try.prog 63 #[.agg #[.slice A0_0 l0_0.length c0_0,.slice A0_1 l0_1.length c0_1,.slice A0_2 l0_2.length c0_2],.slice A1 l1.length c1,.int .i64 a2,.int .i64 a3] w fun e w'=>e= .returned (.tuple #[.int .i64 r1,.bool r2])∧Below w.heap.size w w':=by
 have hu33:=Try.underlying33
 have HR0_0:=Aside0.mk hr0_0
 have HC0_0:=Aside0.mk hc0_0
 clear hr0_0 hc0_0
 have HR0_1:=Aside0.mk hr0_1
 have HC0_1:=Aside0.mk hc0_1
 clear hr0_1 hc0_1
 have HR0_2:=Aside0.mk hr0_2
 have HC0_2:=Aside0.mk hc0_2
 clear hr0_2 hc0_2
 have HR1:=Aside0.mk hr1
 have HC1:=Aside0.mk hc1
 clear hr1 hc1
 have HB:=Aside0.mk (Below.refl w.heap.size w)
 have H:((impl_loads.f k l0_0 l0_1 l0_2 l1).bind fun t515=>(if 0≤a2 then(if a2< (t515.length:Int) then(if a2< (l0_2.length:Int) then(if (rd t515 a2)< (rd l0_2 a2) then(some ((-1),true)) else((impl_last.f k l0_0 l0_1 l0_2 l1 a2).bind fun t520=>(if t520< 0 then(some ((-1),false)) else(if a2< (l0_1.length:Int) then((slices_Index_int.f k (rd_L1 l0_1 a2) t520).bind fun t522=>((slices_Index_int.f k (rd_L1 l0_1 a2) a3).bind fun t524=>(if t522<t524 then(some ((-1),false)) else(some (t520,true))))) else(none))))) else(none)) else(none)) else(none)))=some (r1,r2):=h
 clear h
 replace H:=Option.bind_eq_some_iff.mp H
 obtain⟨t515,A50,H⟩:=H
 replace H:(if 0≤a2 then(if a2< (t515.length:Int) then(if a2< (l0_2.length:Int) then(if (rd t515 a2)< (rd l0_2 a2) then(some ((-1),true)) else((impl_last.f k l0_0 l0_1 l0_2 l1 a2).bind fun t520=>(if t520< 0 then(some ((-1),false)) else(if a2< (l0_1.length:Int) then((slices_Index_int.f k (rd_L1 l0_1 a2) t520).bind fun t522=>((slices_Index_int.f k (rd_L1 l0_1 a2) a3).bind fun t524=>(if t522<t524 then(some ((-1),false)) else(some (t520,true))))) else(none))))) else(none)) else(none)) else(none))=some (r1,r2):=H
 have A5:=Aside0.mk A50
 clear A50
 by_cases c6: 0≤a2
 case neg=>exact znn c6 H
 rw [if_pos c6] at H
 have c6b0:decide (0≤a2)=true:=decide_eq_true c6
 clear c6
 by_cases c7:a2< (t515.length:Int)
 case neg=>exact znn c7 H
 rw [if_pos c7] at H
 have c7b0:decide (a2< (t515.length:Int))=true:=decide_eq_true c7
 clear c7
 by_cases c8:a2< (l0_2.length:Int)
 case neg=>exact znn c8 H
 rw [if_pos c8] at H
 have c8b0:decide (a2< (l0_2.length:Int))=true:=decide_eq_true c8
 clear c8
 by_cases c9:(rd t515 a2)< (rd l0_2 a2)
 ·rw [if_pos c9] at H
  have c9b0:decide ((rd t515 a2)< (rd l0_2 a2))=true:=decide_eq_true c9
  clear c9
  simp only [Option.some.injEq,Prod.mk.injEq] at H
  obtain⟨rfl,rfl⟩:=H
  go_enter Try.func63,Try.ntmps63
  try go_wp2_with (first|((with_reducible refine gate_dst (N:=4) rfl ?_);refine box_event ?hg (N:=4) ?hd (cs:= #[.slice A0_0 l0_0.length c0_0,.slice A0_1 l0_1.length c0_1,.slice A0_2 l0_2.length c0_2]) (t:=33) ?hr ?_;(case hd=>rfl);(case hg=>rfl);(case hr=>first|(go_simp;done)|(go_simp;rfl));intro gb514 hg w10 hbox hb;have BK514:=Aside0.mk (hbox);have GW514:=Aside0.mk ((by rw [hg];exact(below_size (by exact zk1 HB)):w.heap.size≤gb514));have GE514:=GW514;replace HB:=Aside0.mk (below_step (by exact zk1 HB) hb);clear hb hbox hg))
  replace BK514:=Aside0.mk (blk_drew BK514.out)
  replace HB:=Aside0.mk (below_drew1 HB.out)
  have p519: 0≤ (a2:Int):=of_decide_eq_true zq1
  have q519:a2< (l0_2.length:Int):=of_decide_eq_true zq1
  obtain⟨ad519,e519,hx519_0⟩:=Kd.at_int HR0_2.out a2 p519 q519
  have hw519_0:=hx519_0
  cases e519
  replace hx519_0:=zhx HB hx519_0
  replace p519:=eq_true p519
  replace q519:=eq_true q519
  refine start_ (n:=12) (S:=fun w'=>w'.cell? ⟨gb514,0,none⟩=some (.slice A0_0 l0_0.length c0_0)∧w'.cell? ⟨gb514,1,none⟩=some (.slice A0_1 l0_1.length c0_1)∧w'.cell? ⟨gb514,2,none⟩=some (.slice (some ad519) l0_2.length c0_2)∧w'.cell? (ad519.add (a2).toNat)=some (.int .i64 (rd l0_2 a2))∧True) (ds:= []) (mb' 12 0) (by kernel_rfl) rfl rfl ⟨(blk_cell BK514.out 0).trans rfl,(blk_cell BK514.out 1).trans rfl,(blk_cell BK514.out 2).trans rfl,((zhx HB hw519_0).trans rfl),trivial⟩ (fun hHeld=>?_);refine with_tabW impl_takes.tab1 impl_takes.bits1 (fun HT_ HW_=>?_)
  generalize w10.drew=w11 at BK514 HB hx519_0 hHeld ⊢
  refine zp1 HT_ 1 12 (mb' 12 2) rfl ?_
  refine zp1 HT_ 3 14 (mb' 12 10) rfl ?_
  refine zp1 HT_ 6 17 (mb' 12 74) rfl ?_
  refine zp1 HT_ 8 19 (mb' 12 330) rfl ?_
  refine zt1 HT_ HW_ (v:=?_) (a':=?_) 0 11 (mb' 12 331) rfl ?_ hHeld ?_ ?_;rotate_left;(rintro w' ⟨s0,s1,s2,s3,s4⟩;go_simp;with_reducible rfl);rotate_left;exact zpa
  refine zt1 HT_ HW_ (v:=?_) (a':=?_) 7 18 (mb' 12 459) rfl ?_ hHeld ?_ ?_;rotate_left;(rintro w' ⟨s0,s1,s2,s3,s4⟩;go_simp;with_reducible rfl);rotate_left;exact zpa
  refine zp1 HT_ 9 20 (mb' 12 971) rfl ?_
  refine zt1 HT_ HW_ (v:=?_) (a':=?_) 10 21 (mb' 12 1995) rfl ?_ hHeld ?_ ?_;rotate_left;(rintro w' ⟨s0,s1,s2,s3,s4⟩;go_simp;with_reducible rfl);rotate_left;exact zpa
  refine one_ (i:=2) (N:=some 13) (mb' 12 1999) rfl rfl (one_of HT_.out (by kernel_rfl)) (by decide) (fun K hK=>?_)
  refine goes_ Try.func56 (by kernel_rfl) rfl #[.agg #[.slice A0_0 l0_0.length c0_0,.slice A0_1 l0_1.length c0_1,.slice (some ad519) l0_2.length c0_2],.slice A1 l1.length c1] (by rfl) rfl rfl zq2 ?_
  with_reducible refine(impl_loads.calls k _ _ l0_0 _ _ l0_1 _ _ l0_2 _ _ l1 t515 _ ?side1 ?side2 ?side3 ?side4 ?side5 ?side6 ?side7 ?side8 A5.out).mono ?_
  (case side1=>exact zcc ((Kd.C_below HR0_0.out HB.out)))
  (case side2=>exact HC0_0.out)
  (case side3=>exact zcc ((Kd.C_below HR0_1.out HB.out)))
  (case side4=>exact HC0_1.out)
  (case side5=>exact zcc ((Kd.C_below HR0_2.out HB.out)))
  (case side6=>exact HC0_2.out)
  (case side7=>exact zcc ((Kd.C_below HR1.out HB.out)))
  (case side8=>exact HC1.out)
  rintro e w12 ⟨v516,rfl,ho0,hb⟩
  refine⟨_,rfl,?_⟩
  have HO517:=Aside0.mk (Kd.R_lower ho0 (below_size (by exact zk2 HB GE514.out)))
  replace BK514:=Aside0.mk (blk_below (g:=gb514) (o:= .cells #[.slice A0_0 l0_0.length c0_0,.slice A0_1 l0_1.length c0_1,.slice (some ad519) l0_2.length c0_2] 33 (0,0)) (zq3 BK514) hb)
  replace HB:=Aside0.mk (below_step (by exact zk2 HB GE514.out) hb)
  (try clear hb)
  (try clear hb2)
  (try clear hk)
  (try clear hi)
  (try clear ho0)
  obtain⟨Ao13,co13,eo13⟩:=Kd.R_slice HO517.out
  (first|subst eo13|(injection eo13 with f1_ f2_ f3_;have f4_:=f1_.symm;have f5_:=f3_.symm;clear f1_ f2_ f3_;subst f4_;subst f5_))
  have p518: 0≤ (a2:Int):=of_decide_eq_true zq1
  have q518:a2< (t515.length:Int):=of_decide_eq_true zq1
  obtain⟨ad518,e518,hx518_0⟩:=Kd.at_int (Kd.R_reads' HO517.out).2.2 a2 p518 q518
  cases e518
  replace p518:=eq_true p518
  replace q518:=eq_true q518
  refine hK.out _ _ ⟨(blk_cell BK514.out 0).trans rfl,(blk_cell BK514.out 1).trans rfl,(blk_cell BK514.out 2).trans rfl,((zhx HB hw519_0).trans rfl),trivial⟩ (fun hHeld=>?_)
  clear hK K
  refine norm_ (a':=?_) ?_ ?_
  rotate_left
  ·show Act.put _ (some 13) _=_
   simp only [Act.put,List.setIfInBounds_toArray,List.set_cons_zero,List.set_cons_succ,i64_w,i32_w]
   rfl
  refine zp1 HT_ 4 15 (mb' 12 2015) rfl ?_
  refine one_ (i:=5) (N:=some 16) (mb' 12 2047) rfl rfl (one_of HT_.out (by kernel_rfl)) (by decide) (fun K hK=>?_)
  refine value_ (v:= .int .i64 (rd t515 a2)) (w1:=w12) (by rfl) rfl ?_ ?_
  ·go_simp
   try with_reducible rfl
  refine hK.out _ _ ⟨(blk_cell BK514.out 0).trans rfl,(blk_cell BK514.out 1).trans rfl,(blk_cell BK514.out 2).trans rfl,((zhx HB hw519_0).trans rfl),trivial⟩ (fun hHeld=>?_)
  clear hK K
  refine norm_ (a':=?_) ?_ ?_
  rotate_left
  ·show Act.put _ (some 16) _=_
   simp only [Act.put,List.setIfInBounds_toArray,List.set_cons_zero,List.set_cons_succ,i64_w,i32_w]
   rfl
  refine zp1 HT_ 11 22 (mb' 12 4095) rfl ?_
  refine done_ (done_of HT_.out (by kernel_rfl)) ?_
  try go_wp2
  go_ret2
  exact⟨zer,by exact zk2 HB GE514.out⟩
 ·rw [if_neg c9] at H
  have c9b0:decide ((rd t515 a2)< (rd l0_2 a2))=false:=decide_eq_false c9
  clear c9
  replace H:=Option.bind_eq_some_iff.mp H
  obtain⟨t520,A140,H⟩:=H
  replace H:(if t520< 0 then(some ((-1),false)) else(if a2< (l0_1.length:Int) then((slices_Index_int.f k (rd_L1 l0_1 a2) t520).bind fun t522=>((slices_Index_int.f k (rd_L1 l0_1 a2) a3).bind fun t524=>(if t522<t524 then(some ((-1),false)) else(some (t520,true))))) else(none)))=some (r1,r2):=H
  have A14:=Aside0.mk A140
  clear A140
  by_cases c15:t520< 0
  ·rw [if_pos c15] at H
   have c15b0:decide (t520< 0)=true:=decide_eq_true c15
   clear c15
   simp only [Option.some.injEq,Prod.mk.injEq] at H
   obtain⟨rfl,rfl⟩:=H
   go_enter Try.func63,Try.ntmps63
   try go_wp2_with (first|((with_reducible refine gate_dst (N:=4) rfl ?_);refine box_event ?hg (N:=4) ?hd (cs:= #[.slice A0_0 l0_0.length c0_0,.slice A0_1 l0_1.length c0_1,.slice A0_2 l0_2.length c0_2]) (t:=33) ?hr ?_;(case hd=>rfl);(case hg=>rfl);(case hr=>first|(go_simp;done)|(go_simp;rfl));intro gb514 hg w16 hbox hb;have BK514:=Aside0.mk (hbox);have GW514:=Aside0.mk ((by rw [hg];exact(below_size (by exact zk1 HB)):w.heap.size≤gb514));have GE514:=GW514;replace HB:=Aside0.mk (below_step (by exact zk1 HB) hb);clear hb hbox hg))
   replace BK514:=Aside0.mk (blk_drew BK514.out)
   replace HB:=Aside0.mk (below_drew1 HB.out)
   have p519: 0≤ (a2:Int):=of_decide_eq_true zq1
   have q519:a2< (l0_2.length:Int):=of_decide_eq_true zq1
   obtain⟨ad519,e519,hx519_0⟩:=Kd.at_int HR0_2.out a2 p519 q519
   have hw519_0:=hx519_0
   cases e519
   replace hx519_0:=zhx HB hx519_0
   replace p519:=eq_true p519
   replace q519:=eq_true q519
   refine start_ (n:=12) (S:=fun w'=>w'.cell? ⟨gb514,0,none⟩=some (.slice A0_0 l0_0.length c0_0)∧w'.cell? ⟨gb514,1,none⟩=some (.slice A0_1 l0_1.length c0_1)∧w'.cell? ⟨gb514,2,none⟩=some (.slice (some ad519) l0_2.length c0_2)∧w'.cell? (ad519.add (a2).toNat)=some (.int .i64 (rd l0_2 a2))∧True) (ds:= []) (mb' 12 0) (by kernel_rfl) rfl rfl ⟨(blk_cell BK514.out 0).trans rfl,(blk_cell BK514.out 1).trans rfl,(blk_cell BK514.out 2).trans rfl,((zhx HB hw519_0).trans rfl),trivial⟩ (fun hHeld=>?_);refine with_tabW impl_takes.tab1 impl_takes.bits1 (fun HT_ HW_=>?_)
   generalize w16.drew=w17 at BK514 HB hx519_0 hHeld ⊢
   refine zp1 HT_ 1 12 (mb' 12 2) rfl ?_
   refine zp1 HT_ 3 14 (mb' 12 10) rfl ?_
   refine zp1 HT_ 6 17 (mb' 12 74) rfl ?_
   refine zp1 HT_ 8 19 (mb' 12 330) rfl ?_
   refine zt1 HT_ HW_ (v:=?_) (a':=?_) 0 11 (mb' 12 331) rfl ?_ hHeld ?_ ?_;rotate_left;(rintro w' ⟨s0,s1,s2,s3,s4⟩;go_simp;with_reducible rfl);rotate_left;exact zpa
   refine zt1 HT_ HW_ (v:=?_) (a':=?_) 7 18 (mb' 12 459) rfl ?_ hHeld ?_ ?_;rotate_left;(rintro w' ⟨s0,s1,s2,s3,s4⟩;go_simp;with_reducible rfl);rotate_left;exact zpa
   refine zp1 HT_ 9 20 (mb' 12 971) rfl ?_
   refine zt1 HT_ HW_ (v:=?_) (a':=?_) 10 21 (mb' 12 1995) rfl ?_ hHeld ?_ ?_;rotate_left;(rintro w' ⟨s0,s1,s2,s3,s4⟩;go_simp;with_reducible rfl);rotate_left;exact zpa
   refine one_ (i:=2) (N:=some 13) (mb' 12 1999) rfl rfl (one_of HT_.out (by kernel_rfl)) (by decide) (fun K hK=>?_)
   refine goes_ Try.func56 (by kernel_rfl) rfl #[.agg #[.slice A0_0 l0_0.length c0_0,.slice A0_1 l0_1.length c0_1,.slice (some ad519) l0_2.length c0_2],.slice A1 l1.length c1] (by rfl) rfl rfl zq2 ?_
   with_reducible refine(impl_loads.calls k _ _ l0_0 _ _ l0_1 _ _ l0_2 _ _ l1 t515 _ ?side1 ?side2 ?side3 ?side4 ?side5 ?side6 ?side7 ?side8 A5.out).mono ?_
   (case side1=>exact zcc ((Kd.C_below HR0_0.out HB.out)))
   (case side2=>exact HC0_0.out)
   (case side3=>exact zcc ((Kd.C_below HR0_1.out HB.out)))
   (case side4=>exact HC0_1.out)
   (case side5=>exact zcc ((Kd.C_below HR0_2.out HB.out)))
   (case side6=>exact HC0_2.out)
   (case side7=>exact zcc ((Kd.C_below HR1.out HB.out)))
   (case side8=>exact HC1.out)
   rintro e w18 ⟨v516,rfl,ho0,hb⟩
   refine⟨_,rfl,?_⟩
   have HO517:=Aside0.mk (Kd.R_lower ho0 (below_size (by exact zk2 HB GE514.out)))
   replace BK514:=Aside0.mk (blk_below (g:=gb514) (o:= .cells #[.slice A0_0 l0_0.length c0_0,.slice A0_1 l0_1.length c0_1,.slice (some ad519) l0_2.length c0_2] 33 (0,0)) (zq3 BK514) hb)
   replace HB:=Aside0.mk (below_step (by exact zk2 HB GE514.out) hb)
   (try clear hb)
   (try clear hb2)
   (try clear hk)
   (try clear hi)
   (try clear ho0)
   obtain⟨Ao19,co19,eo19⟩:=Kd.R_slice HO517.out
   (first|subst eo19|(injection eo19 with f1_ f2_ f3_;have f4_:=f1_.symm;have f5_:=f3_.symm;clear f1_ f2_ f3_;subst f4_;subst f5_))
   have p518: 0≤ (a2:Int):=of_decide_eq_true zq1
   have q518:a2< (t515.length:Int):=of_decide_eq_true zq1
   obtain⟨ad518,e518,hx518_0⟩:=Kd.at_int (Kd.R_reads' HO517.out).2.2 a2 p518 q518
   cases e518
   replace p518:=eq_true p518
   replace q518:=eq_true q518
   refine hK.out _ _ ⟨(blk_cell BK514.out 0).trans rfl,(blk_cell BK514.out 1).trans rfl,(blk_cell BK514.out 2).trans rfl,((zhx HB hw519_0).trans rfl),trivial⟩ (fun hHeld=>?_)
   clear hK K
   refine norm_ (a':=?_) ?_ ?_
   rotate_left
   ·show Act.put _ (some 13) _=_
    simp only [Act.put,List.setIfInBounds_toArray,List.set_cons_zero,List.set_cons_succ,i64_w,i32_w]
    rfl
   refine zp1 HT_ 4 15 (mb' 12 2015) rfl ?_
   refine one_ (i:=5) (N:=some 16) (mb' 12 2047) rfl rfl (one_of HT_.out (by kernel_rfl)) (by decide) (fun K hK=>?_)
   refine value_ (v:= .int .i64 (rd t515 a2)) (w1:=w18) (by rfl) rfl ?_ ?_
   ·go_simp
    try with_reducible rfl
   refine hK.out _ _ ⟨(blk_cell BK514.out 0).trans rfl,(blk_cell BK514.out 1).trans rfl,(blk_cell BK514.out 2).trans rfl,((zhx HB hw519_0).trans rfl),trivial⟩ (fun hHeld=>?_)
   clear hK K
   refine norm_ (a':=?_) ?_ ?_
   rotate_left
   ·show Act.put _ (some 16) _=_
    simp only [Act.put,List.setIfInBounds_toArray,List.set_cons_zero,List.set_cons_succ,i64_w,i32_w]
    rfl
   refine zp1 HT_ 11 22 (mb' 12 4095) rfl ?_
   refine done_ (done_of HT_.out (by kernel_rfl)) ?_
   have hcz20_0:=zcz BK514 0 (.slice A0_0 l0_0.length c0_0)
   have hcz20_1:=zcz BK514 1 (.slice A0_1 l0_1.length c0_1)
   have hcz20_2:=zcz BK514 2 (.slice (some ad519) l0_2.length c0_2)
   have hfz20_0:=blk_frozen BK514.out 0
   have hfz20_1:=blk_frozen BK514.out 1
   have hfz20_2:=blk_frozen BK514.out 2
   try go_wp2_with (first|((with_reducible refine gate_callee (f:=71) rfl ?_);refine goesL_ (some 26) rfl rfl Try.func71 (by kernel_rfl) rfl #[.agg #[.slice A0_0 l0_0.length c0_0,.slice A0_1 l0_1.length c0_1,.slice (some ad519) l0_2.length c0_2],.slice A1 l1.length c1,.int .i64 a2] rfl zq2 ?_;(with_reducible refine(impl_last.calls k _ _ l0_0 _ _ l0_1 _ _ l0_2 _ _ l1 a2 t520 _ ?side1 ?side2 ?side3 ?side4 ?side5 ?side6 ?side7 ?side8 A14.out).mono ?_);(case side1=>exact zcc ((Kd.C_below HR0_0.out HB.out)));(case side2=>exact HC0_0.out);(case side3=>exact zcc ((Kd.C_below HR0_1.out HB.out)));(case side4=>exact HC0_1.out);(case side5=>exact zcc ((Kd.C_below HR0_2.out HB.out)));(case side6=>exact HC0_2.out);(case side7=>exact zcc ((Kd.C_below HR1.out HB.out)));(case side8=>exact HC1.out);rintro e w21 ⟨rfl,hb⟩;refine⟨_,rfl,?_⟩;replace HO517:=Aside0.mk (Kd.R_below (zq4 HO517) hb);replace BK514:=Aside0.mk (blk_below (g:=gb514) (o:= .cells #[.slice A0_0 l0_0.length c0_0,.slice A0_1 l0_1.length c0_1,.slice (some ad519) l0_2.length c0_2] 33 (0,0)) (zq3 BK514) hb);replace HB:=Aside0.mk (below_step (by exact zk2 HB GE514.out) hb);(try clear hb);(try clear hb2);(try clear hk);(try clear hi)))
   replace HO517:=Aside0.mk (Kd.R_drew HO517.out)
   replace BK514:=Aside0.mk (blk_drew BK514.out)
   replace HB:=Aside0.mk (below_drew1 HB.out)
   refine start_ (n:=19) (S:=fun w'=>True) (ds:= []) (mb' 19 0) (by kernel_rfl) rfl rfl trivial (fun hHeld=>?_);refine with_tabW impl_takes.tab4 impl_takes.bits4 (fun HT_ HW_=>?_)
   generalize w21.drew=w22 at HO517 BK514 HB hHeld ⊢
   refine zp1 HT_ 0 27 (mb' 19 1) rfl ?_
   refine zp1 HT_ 1 28 (mb' 19 3) rfl ?_
   refine zp1 HT_ 2 29 (mb' 19 7) rfl ?_
   refine zp2 HT_ 3 30 (mb' 19 15) rfl ?_
   refine zp2 HT_ 4 31 (mb' 19 31) rfl ?_
   refine zp2 HT_ 5 32 (mb' 19 63) rfl ?_
   refine zp2 HT_ 6 33 (mb' 19 127) rfl ?_
   refine zp2 HT_ 7 34 (mb' 19 255) rfl ?_
   refine zp2 HT_ 8 35 (mb' 19 511) rfl ?_
   refine zp2 HT_ 9 36 (mb' 19 1023) rfl ?_
   refine zp2 HT_ 10 37 (mb' 19 2047) rfl ?_
   refine zp2 HT_ 11 38 (mb' 19 4095) rfl ?_
   refine zp2 HT_ 12 39 (mb' 19 8191) rfl ?_
   refine zp2 HT_ 13 40 (mb' 19 16383) rfl ?_
   refine zp2 HT_ 14 41 (mb' 19 32767) rfl ?_
   refine zp2 HT_ 15 42 (mb' 19 65535) rfl ?_
   refine zp2 HT_ 16 43 (mb' 19 131071) rfl ?_
   refine zp2 HT_ 17 44 (mb' 19 262143) rfl ?_
   refine zp1 HT_ 18 45 (mb' 19 524287) rfl ?_
   refine done_ (done_of HT_.out (by kernel_rfl)) ?_
   try go_wp2
   go_ret2
   exact⟨zer,by exact zk2 HB GE514.out⟩
  ·rw [if_neg c15] at H
   have c15b0:decide (t520< 0)=false:=decide_eq_false c15
   clear c15
   by_cases c23:a2< (l0_1.length:Int)
   case neg=>exact znn c23 H
   rw [if_pos c23] at H
   have c23b0:decide (a2< (l0_1.length:Int))=true:=decide_eq_true c23
   clear c23
   replace H:=Option.bind_eq_some_iff.mp H
   obtain⟨t522,A240,H⟩:=H
   replace H:((slices_Index_int.f k (rd_L1 l0_1 a2) a3).bind fun t524=>(if t522<t524 then(some ((-1),false)) else(some (t520,true))))=some (r1,r2):=H
   have A24:=Aside0.mk A240
   clear A240
   replace H:=Option.bind_eq_some_iff.mp H
   obtain⟨t524,A250,H⟩:=H
   replace H:(if t522<t524 then(some ((-1),false)) else(some (t520,true)))=some (r1,r2):=H
   have A25:=Aside0.mk A250
   clear A250
   by_cases c26:t522<t524
   ·rw [if_pos c26] at H
    have c26b0:decide (t522<t524)=true:=decide_eq_true c26
    clear c26
    simp only [Option.some.injEq,Prod.mk.injEq] at H
    obtain⟨rfl,rfl⟩:=H
    go_enter Try.func63,Try.ntmps63
    try go_wp2_with (first|((with_reducible refine gate_dst (N:=4) rfl ?_);refine box_event ?hg (N:=4) ?hd (cs:= #[.slice A0_0 l0_0.length c0_0,.slice A0_1 l0_1.length c0_1,.slice A0_2 l0_2.length c0_2]) (t:=33) ?hr ?_;(case hd=>rfl);(case hg=>rfl);(case hr=>first|(go_simp;done)|(go_simp;rfl));intro gb514 hg w27 hbox hb;have BK514:=Aside0.mk (hbox);have GW514:=Aside0.mk ((by rw [hg];exact(below_size (by exact zk1 HB)):w.heap.size≤gb514));have GE514:=GW514;replace HB:=Aside0.mk (below_step (by exact zk1 HB) hb);clear hb hbox hg))
    replace BK514:=Aside0.mk (blk_drew BK514.out)
    replace HB:=Aside0.mk (below_drew1 HB.out)
    have p519: 0≤ (a2:Int):=of_decide_eq_true zq1
    have q519:a2< (l0_2.length:Int):=of_decide_eq_true zq1
    obtain⟨ad519,e519,hx519_0⟩:=Kd.at_int HR0_2.out a2 p519 q519
    have hw519_0:=hx519_0
    cases e519
    replace hx519_0:=zhx HB hx519_0
    replace p519:=eq_true p519
    replace q519:=eq_true q519
    refine start_ (n:=12) (S:=fun w'=>w'.cell? ⟨gb514,0,none⟩=some (.slice A0_0 l0_0.length c0_0)∧w'.cell? ⟨gb514,1,none⟩=some (.slice A0_1 l0_1.length c0_1)∧w'.cell? ⟨gb514,2,none⟩=some (.slice (some ad519) l0_2.length c0_2)∧w'.cell? (ad519.add (a2).toNat)=some (.int .i64 (rd l0_2 a2))∧True) (ds:= []) (mb' 12 0) (by kernel_rfl) rfl rfl ⟨(blk_cell BK514.out 0).trans rfl,(blk_cell BK514.out 1).trans rfl,(blk_cell BK514.out 2).trans rfl,((zhx HB hw519_0).trans rfl),trivial⟩ (fun hHeld=>?_);refine with_tabW impl_takes.tab1 impl_takes.bits1 (fun HT_ HW_=>?_)
    generalize w27.drew=w28 at BK514 HB hx519_0 hHeld ⊢
    refine zp1 HT_ 1 12 (mb' 12 2) rfl ?_
    refine zp1 HT_ 3 14 (mb' 12 10) rfl ?_
    refine zp1 HT_ 6 17 (mb' 12 74) rfl ?_
    refine zp1 HT_ 8 19 (mb' 12 330) rfl ?_
    refine zt1 HT_ HW_ (v:=?_) (a':=?_) 0 11 (mb' 12 331) rfl ?_ hHeld ?_ ?_;rotate_left;(rintro w' ⟨s0,s1,s2,s3,s4⟩;go_simp;with_reducible rfl);rotate_left;exact zpa
    refine zt1 HT_ HW_ (v:=?_) (a':=?_) 7 18 (mb' 12 459) rfl ?_ hHeld ?_ ?_;rotate_left;(rintro w' ⟨s0,s1,s2,s3,s4⟩;go_simp;with_reducible rfl);rotate_left;exact zpa
    refine zp1 HT_ 9 20 (mb' 12 971) rfl ?_
    refine zt1 HT_ HW_ (v:=?_) (a':=?_) 10 21 (mb' 12 1995) rfl ?_ hHeld ?_ ?_;rotate_left;(rintro w' ⟨s0,s1,s2,s3,s4⟩;go_simp;with_reducible rfl);rotate_left;exact zpa
    refine one_ (i:=2) (N:=some 13) (mb' 12 1999) rfl rfl (one_of HT_.out (by kernel_rfl)) (by decide) (fun K hK=>?_)
    refine goes_ Try.func56 (by kernel_rfl) rfl #[.agg #[.slice A0_0 l0_0.length c0_0,.slice A0_1 l0_1.length c0_1,.slice (some ad519) l0_2.length c0_2],.slice A1 l1.length c1] (by rfl) rfl rfl zq2 ?_
    with_reducible refine(impl_loads.calls k _ _ l0_0 _ _ l0_1 _ _ l0_2 _ _ l1 t515 _ ?side1 ?side2 ?side3 ?side4 ?side5 ?side6 ?side7 ?side8 A5.out).mono ?_
    (case side1=>exact zcc ((Kd.C_below HR0_0.out HB.out)))
    (case side2=>exact HC0_0.out)
    (case side3=>exact zcc ((Kd.C_below HR0_1.out HB.out)))
    (case side4=>exact HC0_1.out)
    (case side5=>exact zcc ((Kd.C_below HR0_2.out HB.out)))
    (case side6=>exact HC0_2.out)
    (case side7=>exact zcc ((Kd.C_below HR1.out HB.out)))
    (case side8=>exact HC1.out)
    rintro e w29 ⟨v516,rfl,ho0,hb⟩
    refine⟨_,rfl,?_⟩
    have HO517:=Aside0.mk (Kd.R_lower ho0 (below_size (by exact zk2 HB GE514.out)))
    replace BK514:=Aside0.mk (blk_below (g:=gb514) (o:= .cells #[.slice A0_0 l0_0.length c0_0,.slice A0_1 l0_1.length c0_1,.slice (some ad519) l0_2.length c0_2] 33 (0,0)) (zq3 BK514) hb)
    replace HB:=Aside0.mk (below_step (by exact zk2 HB GE514.out) hb)
    (try clear hb)
    (try clear hb2)
    (try clear hk)
    (try clear hi)
    (try clear ho0)
    obtain⟨Ao30,co30,eo30⟩:=Kd.R_slice HO517.out
    (first|subst eo30|(injection eo30 with f1_ f2_ f3_;have f4_:=f1_.symm;have f5_:=f3_.symm;clear f1_ f2_ f3_;subst f4_;subst f5_))
    have p518: 0≤ (a2:Int):=of_decide_eq_true zq1
    have q518:a2< (t515.length:Int):=of_decide_eq_true zq1
    obtain⟨ad518,e518,hx518_0⟩:=Kd.at_int (Kd.R_reads' HO517.out).2.2 a2 p518 q518
    cases e518
    replace p518:=eq_true p518
    replace q518:=eq_true q518
    refine hK.out _ _ ⟨(blk_cell BK514.out 0).trans rfl,(blk_cell BK514.out 1).trans rfl,(blk_cell BK514.out 2).trans rfl,((zhx HB hw519_0).trans rfl),trivial⟩ (fun hHeld=>?_)
    clear hK K
    refine norm_ (a':=?_) ?_ ?_
    rotate_left
    ·show Act.put _ (some 13) _=_
     simp only [Act.put,List.setIfInBounds_toArray,List.set_cons_zero,List.set_cons_succ,i64_w,i32_w]
     rfl
    refine zp1 HT_ 4 15 (mb' 12 2015) rfl ?_
    refine one_ (i:=5) (N:=some 16) (mb' 12 2047) rfl rfl (one_of HT_.out (by kernel_rfl)) (by decide) (fun K hK=>?_)
    refine value_ (v:= .int .i64 (rd t515 a2)) (w1:=w29) (by rfl) rfl ?_ ?_
    ·go_simp
     try with_reducible rfl
    refine hK.out _ _ ⟨(blk_cell BK514.out 0).trans rfl,(blk_cell BK514.out 1).trans rfl,(blk_cell BK514.out 2).trans rfl,((zhx HB hw519_0).trans rfl),trivial⟩ (fun hHeld=>?_)
    clear hK K
    refine norm_ (a':=?_) ?_ ?_
    rotate_left
    ·show Act.put _ (some 16) _=_
     simp only [Act.put,List.setIfInBounds_toArray,List.set_cons_zero,List.set_cons_succ,i64_w,i32_w]
     rfl
    refine zp1 HT_ 11 22 (mb' 12 4095) rfl ?_
    refine done_ (done_of HT_.out (by kernel_rfl)) ?_
    have hcz31_0:=zcz BK514 0 (.slice A0_0 l0_0.length c0_0)
    have hcz31_1:=zcz BK514 1 (.slice A0_1 l0_1.length c0_1)
    have hcz31_2:=zcz BK514 2 (.slice (some ad519) l0_2.length c0_2)
    have hfz31_0:=blk_frozen BK514.out 0
    have hfz31_1:=blk_frozen BK514.out 1
    have hfz31_2:=blk_frozen BK514.out 2
    try go_wp2_with (first|((with_reducible refine gate_callee (f:=71) rfl ?_);refine goesL_ (some 26) rfl rfl Try.func71 (by kernel_rfl) rfl #[.agg #[.slice A0_0 l0_0.length c0_0,.slice A0_1 l0_1.length c0_1,.slice (some ad519) l0_2.length c0_2],.slice A1 l1.length c1,.int .i64 a2] rfl zq2 ?_;(with_reducible refine(impl_last.calls k _ _ l0_0 _ _ l0_1 _ _ l0_2 _ _ l1 a2 t520 _ ?side1 ?side2 ?side3 ?side4 ?side5 ?side6 ?side7 ?side8 A14.out).mono ?_);(case side1=>exact zcc ((Kd.C_below HR0_0.out HB.out)));(case side2=>exact HC0_0.out);(case side3=>exact zcc ((Kd.C_below HR0_1.out HB.out)));(case side4=>exact HC0_1.out);(case side5=>exact zcc ((Kd.C_below HR0_2.out HB.out)));(case side6=>exact HC0_2.out);(case side7=>exact zcc ((Kd.C_below HR1.out HB.out)));(case side8=>exact HC1.out);rintro e w32 ⟨rfl,hb⟩;refine⟨_,rfl,?_⟩;replace HO517:=Aside0.mk (Kd.R_below (zq4 HO517) hb);replace BK514:=Aside0.mk (blk_below (g:=gb514) (o:= .cells #[.slice A0_0 l0_0.length c0_0,.slice A0_1 l0_1.length c0_1,.slice (some ad519) l0_2.length c0_2] 33 (0,0)) (zq3 BK514) hb);replace HB:=Aside0.mk (below_step (by exact zk2 HB GE514.out) hb);(try clear hb);(try clear hb2);(try clear hk);(try clear hi)))
    replace HO517:=Aside0.mk (Kd.R_drew HO517.out)
    replace BK514:=Aside0.mk (blk_drew BK514.out)
    replace HB:=Aside0.mk (below_drew1 HB.out)
    have p521: 0≤ (a2:Int):=of_decide_eq_true zq1
    have q521:a2< (l0_1.length:Int):=of_decide_eq_true zq1
    obtain⟨ad521,A521_0,c521_0,e521,hx521_0,hl521_0,hi521_0⟩:=at_L1 HR0_1.out a2 p521 q521
    have hw521_0:=hx521_0
    cases e521
    replace hx521_0:=zhx HB hx521_0
    have HR521_0:=Aside0.mk hi521_0
    have HC521_0:=Aside0.mk hl521_0
    clear hi521_0 hl521_0
    replace p521:=eq_true p521
    replace q521:=eq_true q521
    have p523: 0≤ (a2:Int):=of_decide_eq_true zq1
    have q523:a2< (l0_1.length:Int):=of_decide_eq_true zq1
    obtain⟨ad523,A523_0,c523_0,e523,hx523_0,hl523_0,hi523_0⟩:=at_L1 HR0_1.out a2 p523 q523
    have hw523_0:=hx523_0
    obtain rfl:ad521=ad523:=(by injection e523)
    replace hx523_0:=zhx HB hx523_0
    have HR523_0:=Aside0.mk hi523_0
    have HC523_0:=Aside0.mk hl523_0
    clear hi523_0 hl523_0
    replace p523:=eq_true p523
    replace q523:=eq_true q523
    have ea_:=Option.some.inj (hx521_0.symm.trans hx523_0)
    injection ea_ with ea_ en_ ec_
    subst ea_
    subst ec_
    clear en_
    refine start_ (n:=19) (S:=fun w'=>w'.cell? ⟨gb514,0,none⟩=some (.slice A0_0 l0_0.length c0_0)∧w'.cell? ⟨gb514,1,none⟩=some (.slice (some ad521) l0_1.length c0_1)∧w'.cell? ⟨gb514,2,none⟩=some (.slice (some ad519) l0_2.length c0_2)∧w'.cell? (ad521.add (a2).toNat)=some (.slice A521_0 (rd_L1 l0_1 a2).length c521_0)∧w'.cell? (ad521.add (a2).toNat)=some (.slice A521_0 (rd_L1 l0_1 a2).length c521_0)) (ds:= []) (mb' 19 0) (by kernel_rfl) rfl rfl ⟨(blk_cell BK514.out 0).trans rfl,(blk_cell BK514.out 1).trans rfl,(blk_cell BK514.out 2).trans rfl,((zhx HB hw521_0).trans rfl),((zhx HB hw523_0).trans rfl)⟩ (fun hHeld=>?_);refine with_tabW impl_takes.tab4 impl_takes.bits4 (fun HT_ HW_=>?_)
    generalize w32.drew=w33 at HO517 BK514 HB HR521_0 HR523_0 hx521_0 hx523_0 hHeld ⊢
    refine zp1 HT_ 0 27 (mb' 19 1) rfl ?_
    refine zp1 HT_ 1 28 (mb' 19 3) rfl ?_
    refine zp1 HT_ 2 29 (mb' 19 7) rfl ?_
    refine zp1 HT_ 3 30 (mb' 19 15) rfl ?_
    refine zp1 HT_ 5 32 (mb' 19 47) rfl ?_
    refine zp1 HT_ 8 35 (mb' 19 303) rfl ?_
    refine zp1 HT_ 10 37 (mb' 19 1327) rfl ?_
    refine zp1 HT_ 12 39 (mb' 19 5423) rfl ?_
    refine zp1 HT_ 15 42 (mb' 19 38191) rfl ?_
    refine zt1 HT_ HW_ (v:=?_) (a':=?_) 4 31 (mb' 19 38207) rfl ?_ hHeld ?_ ?_;rotate_left;(rintro w' ⟨s0,s1,s2,s3,s4⟩;go_simp;with_reducible rfl);rotate_left;exact zpa
    refine zp1 HT_ 6 33 (mb' 19 38271) rfl ?_
    refine zt1 HT_ HW_ (v:=?_) (a':=?_) 7 34 (mb' 19 38399) rfl ?_ hHeld ?_ ?_;rotate_left;(rintro w' ⟨s0,s1,s2,s3,s4⟩;go_simp;with_reducible rfl);rotate_left;exact zpa
    refine zt1 HT_ HW_ (v:=?_) (a':=?_) 11 38 (mb' 19 40447) rfl ?_ hHeld ?_ ?_;rotate_left;(rintro w' ⟨s0,s1,s2,s3,s4⟩;go_simp;with_reducible rfl);rotate_left;exact zpa
    refine zp1 HT_ 13 40 (mb' 19 48639) rfl ?_
    refine zt1 HT_ HW_ (v:=?_) (a':=?_) 14 41 (mb' 19 65023) rfl ?_ hHeld ?_ ?_;rotate_left;(rintro w' ⟨s0,s1,s2,s3,s4⟩;go_simp;with_reducible rfl);rotate_left;exact zpa
    refine one_ (i:=9) (N:=some 36) (mb' 19 65535) rfl rfl (one_of HT_.out (by kernel_rfl)) (by decide) (fun K hK=>?_)
    refine goes_ Try.func45 (by kernel_rfl) rfl #[.slice A521_0 (rd_L1 l0_1 a2).length c521_0,.int .i64 t520] (by rfl) rfl rfl zq2 ?_
    with_reducible refine(slices_Index_int.calls k _ _ (rd_L1 l0_1 a2) t520 t522 _ ?side1 ?side2 A24.out).mono ?_
    (case side1=>exact zcc ((Kd.C_below HR521_0.out HB.out)))
    (case side2=>exact HC521_0.out)
    rintro e w' ⟨rfl,⟨nd,rfl⟩⟩
    refine⟨_,rfl,?_⟩
    refine hK.out _ _ ⟨(blk_cell BK514.out 0).trans rfl,(blk_cell BK514.out 1).trans rfl,(blk_cell BK514.out 2).trans rfl,((zhx HB hw521_0).trans rfl),((zhx HB hw523_0).trans rfl)⟩ (fun hHeld=>?_)
    clear hK K
    refine norm_ (a':=?_) ?_ ?_
    rotate_left
    ·show Act.put _ (some 36) _=_
     simp only [Act.put,List.setIfInBounds_toArray,List.set_cons_zero,List.set_cons_succ,i64_w,i32_w]
     rfl
    refine one_ (i:=16) (N:=some 43) (mb' 19 131071) rfl rfl (one_of HT_.out (by kernel_rfl)) (by decide) (fun K hK=>?_)
    refine goes_ Try.func45 (by kernel_rfl) rfl #[.slice A521_0 (rd_L1 l0_1 a2).length c521_0,.int .i64 a3] (by rfl) rfl rfl zq2 ?_
    with_reducible refine(slices_Index_int.calls k _ _ (rd_L1 l0_1 a2) a3 t524 _ ?side1 ?side2 A25.out).mono ?_
    (case side1=>repeat(first|exact(Kd.C_below HR523_0.out (by exact zk2 HB GE514.out))|(with_reducible refine Kd.C_alloc ?_ _)|(with_reducible refine Kd.C_drewN ?_ _)|(with_reducible refine Kd.C_drew ?_)))
    (case side2=>exact HC523_0.out)
    rintro e w' ⟨rfl,⟨nd,rfl⟩⟩
    refine⟨_,rfl,?_⟩
    refine hK.out _ _ ⟨(blk_cell BK514.out 0).trans rfl,(blk_cell BK514.out 1).trans rfl,(blk_cell BK514.out 2).trans rfl,((zhx HB hw521_0).trans rfl),((zhx HB hw523_0).trans rfl)⟩ (fun hHeld=>?_)
    clear hK K
    refine norm_ (a':=?_) ?_ ?_
    rotate_left
    ·show Act.put _ (some 43) _=_
     simp only [Act.put,List.setIfInBounds_toArray,List.set_cons_zero,List.set_cons_succ,i64_w,i32_w]
     rfl
    refine zp1 HT_ 17 44 (mb' 19 262143) rfl ?_
    refine zp1 HT_ 18 45 (mb' 19 524287) rfl ?_
    refine done_ (done_of HT_.out (by kernel_rfl)) ?_
    try go_wp2
    go_ret2
    exact⟨zer,by exact zk2 HB GE514.out⟩
   ·rw [if_neg c26] at H
    have c26b0:decide (t522<t524)=false:=decide_eq_false c26
    clear c26
    simp only [Option.some.injEq,Prod.mk.injEq] at H
    obtain⟨rfl,rfl⟩:=H
    go_enter Try.func63,Try.ntmps63
    try go_wp2_with (first|((with_reducible refine gate_dst (N:=4) rfl ?_);refine box_event ?hg (N:=4) ?hd (cs:= #[.slice A0_0 l0_0.length c0_0,.slice A0_1 l0_1.length c0_1,.slice A0_2 l0_2.length c0_2]) (t:=33) ?hr ?_;(case hd=>rfl);(case hg=>rfl);(case hr=>first|(go_simp;done)|(go_simp;rfl));intro gb514 hg w34 hbox hb;have BK514:=Aside0.mk (hbox);have GW514:=Aside0.mk ((by rw [hg];exact(below_size (by exact zk1 HB)):w.heap.size≤gb514));have GE514:=GW514;replace HB:=Aside0.mk (below_step (by exact zk1 HB) hb);clear hb hbox hg))
    replace BK514:=Aside0.mk (blk_drew BK514.out)
    replace HB:=Aside0.mk (below_drew1 HB.out)
    have p519: 0≤ (a2:Int):=of_decide_eq_true zq1
    have q519:a2< (l0_2.length:Int):=of_decide_eq_true zq1
    obtain⟨ad519,e519,hx519_0⟩:=Kd.at_int HR0_2.out a2 p519 q519
    have hw519_0:=hx519_0
    cases e519
    replace hx519_0:=zhx HB hx519_0
    replace p519:=eq_true p519
    replace q519:=eq_true q519
    refine start_ (n:=12) (S:=fun w'=>w'.cell? ⟨gb514,0,none⟩=some (.slice A0_0 l0_0.length c0_0)∧w'.cell? ⟨gb514,1,none⟩=some (.slice A0_1 l0_1.length c0_1)∧w'.cell? ⟨gb514,2,none⟩=some (.slice (some ad519) l0_2.length c0_2)∧w'.cell? (ad519.add (a2).toNat)=some (.int .i64 (rd l0_2 a2))∧True) (ds:= []) (mb' 12 0) (by kernel_rfl) rfl rfl ⟨(blk_cell BK514.out 0).trans rfl,(blk_cell BK514.out 1).trans rfl,(blk_cell BK514.out 2).trans rfl,((zhx HB hw519_0).trans rfl),trivial⟩ (fun hHeld=>?_);refine with_tabW impl_takes.tab1 impl_takes.bits1 (fun HT_ HW_=>?_)
    generalize w34.drew=w35 at BK514 HB hx519_0 hHeld ⊢
    refine zp1 HT_ 1 12 (mb' 12 2) rfl ?_
    refine zp1 HT_ 3 14 (mb' 12 10) rfl ?_
    refine zp1 HT_ 6 17 (mb' 12 74) rfl ?_
    refine zp1 HT_ 8 19 (mb' 12 330) rfl ?_
    refine zt1 HT_ HW_ (v:=?_) (a':=?_) 0 11 (mb' 12 331) rfl ?_ hHeld ?_ ?_;rotate_left;(rintro w' ⟨s0,s1,s2,s3,s4⟩;go_simp;with_reducible rfl);rotate_left;exact zpa
    refine zt1 HT_ HW_ (v:=?_) (a':=?_) 7 18 (mb' 12 459) rfl ?_ hHeld ?_ ?_;rotate_left;(rintro w' ⟨s0,s1,s2,s3,s4⟩;go_simp;with_reducible rfl);rotate_left;exact zpa
    refine zp1 HT_ 9 20 (mb' 12 971) rfl ?_
    refine zt1 HT_ HW_ (v:=?_) (a':=?_) 10 21 (mb' 12 1995) rfl ?_ hHeld ?_ ?_;rotate_left;(rintro w' ⟨s0,s1,s2,s3,s4⟩;go_simp;with_reducible rfl);rotate_left;exact zpa
    refine one_ (i:=2) (N:=some 13) (mb' 12 1999) rfl rfl (one_of HT_.out (by kernel_rfl)) (by decide) (fun K hK=>?_)
    refine goes_ Try.func56 (by kernel_rfl) rfl #[.agg #[.slice A0_0 l0_0.length c0_0,.slice A0_1 l0_1.length c0_1,.slice (some ad519) l0_2.length c0_2],.slice A1 l1.length c1] (by rfl) rfl rfl zq2 ?_
    with_reducible refine(impl_loads.calls k _ _ l0_0 _ _ l0_1 _ _ l0_2 _ _ l1 t515 _ ?side1 ?side2 ?side3 ?side4 ?side5 ?side6 ?side7 ?side8 A5.out).mono ?_
    (case side1=>exact zcc ((Kd.C_below HR0_0.out HB.out)))
    (case side2=>exact HC0_0.out)
    (case side3=>exact zcc ((Kd.C_below HR0_1.out HB.out)))
    (case side4=>exact HC0_1.out)
    (case side5=>exact zcc ((Kd.C_below HR0_2.out HB.out)))
    (case side6=>exact HC0_2.out)
    (case side7=>exact zcc ((Kd.C_below HR1.out HB.out)))
    (case side8=>exact HC1.out)
    rintro e w36 ⟨v516,rfl,ho0,hb⟩
    refine⟨_,rfl,?_⟩
    have HO517:=Aside0.mk (Kd.R_lower ho0 (below_size (by exact zk2 HB GE514.out)))
    replace BK514:=Aside0.mk (blk_below (g:=gb514) (o:= .cells #[.slice A0_0 l0_0.length c0_0,.slice A0_1 l0_1.length c0_1,.slice (some ad519) l0_2.length c0_2] 33 (0,0)) (zq3 BK514) hb)
    replace HB:=Aside0.mk (below_step (by exact zk2 HB GE514.out) hb)
    (try clear hb)
    (try clear hb2)
    (try clear hk)
    (try clear hi)
    (try clear ho0)
    obtain⟨Ao37,co37,eo37⟩:=Kd.R_slice HO517.out
    (first|subst eo37|(injection eo37 with f1_ f2_ f3_;have f4_:=f1_.symm;have f5_:=f3_.symm;clear f1_ f2_ f3_;subst f4_;subst f5_))
    have p518: 0≤ (a2:Int):=of_decide_eq_true zq1
    have q518:a2< (t515.length:Int):=of_decide_eq_true zq1
    obtain⟨ad518,e518,hx518_0⟩:=Kd.at_int (Kd.R_reads' HO517.out).2.2 a2 p518 q518
    cases e518
    replace p518:=eq_true p518
    replace q518:=eq_true q518
    refine hK.out _ _ ⟨(blk_cell BK514.out 0).trans rfl,(blk_cell BK514.out 1).trans rfl,(blk_cell BK514.out 2).trans rfl,((zhx HB hw519_0).trans rfl),trivial⟩ (fun hHeld=>?_)
    clear hK K
    refine norm_ (a':=?_) ?_ ?_
    rotate_left
    ·show Act.put _ (some 13) _=_
     simp only [Act.put,List.setIfInBounds_toArray,List.set_cons_zero,List.set_cons_succ,i64_w,i32_w]
     rfl
    refine zp1 HT_ 4 15 (mb' 12 2015) rfl ?_
    refine one_ (i:=5) (N:=some 16) (mb' 12 2047) rfl rfl (one_of HT_.out (by kernel_rfl)) (by decide) (fun K hK=>?_)
    refine value_ (v:= .int .i64 (rd t515 a2)) (w1:=w36) (by rfl) rfl ?_ ?_
    ·go_simp
     try with_reducible rfl
    refine hK.out _ _ ⟨(blk_cell BK514.out 0).trans rfl,(blk_cell BK514.out 1).trans rfl,(blk_cell BK514.out 2).trans rfl,((zhx HB hw519_0).trans rfl),trivial⟩ (fun hHeld=>?_)
    clear hK K
    refine norm_ (a':=?_) ?_ ?_
    rotate_left
    ·show Act.put _ (some 16) _=_
     simp only [Act.put,List.setIfInBounds_toArray,List.set_cons_zero,List.set_cons_succ,i64_w,i32_w]
     rfl
    refine zp1 HT_ 11 22 (mb' 12 4095) rfl ?_
    refine done_ (done_of HT_.out (by kernel_rfl)) ?_
    have hcz38_0:=zcz BK514 0 (.slice A0_0 l0_0.length c0_0)
    have hcz38_1:=zcz BK514 1 (.slice A0_1 l0_1.length c0_1)
    have hcz38_2:=zcz BK514 2 (.slice (some ad519) l0_2.length c0_2)
    have hfz38_0:=blk_frozen BK514.out 0
    have hfz38_1:=blk_frozen BK514.out 1
    have hfz38_2:=blk_frozen BK514.out 2
    try go_wp2_with (first|((with_reducible refine gate_callee (f:=71) rfl ?_);refine goesL_ (some 26) rfl rfl Try.func71 (by kernel_rfl) rfl #[.agg #[.slice A0_0 l0_0.length c0_0,.slice A0_1 l0_1.length c0_1,.slice (some ad519) l0_2.length c0_2],.slice A1 l1.length c1,.int .i64 a2] rfl zq2 ?_;(with_reducible refine(impl_last.calls k _ _ l0_0 _ _ l0_1 _ _ l0_2 _ _ l1 a2 t520 _ ?side1 ?side2 ?side3 ?side4 ?side5 ?side6 ?side7 ?side8 A14.out).mono ?_);(case side1=>exact zcc ((Kd.C_below HR0_0.out HB.out)));(case side2=>exact HC0_0.out);(case side3=>exact zcc ((Kd.C_below HR0_1.out HB.out)));(case side4=>exact HC0_1.out);(case side5=>exact zcc ((Kd.C_below HR0_2.out HB.out)));(case side6=>exact HC0_2.out);(case side7=>exact zcc ((Kd.C_below HR1.out HB.out)));(case side8=>exact HC1.out);rintro e w39 ⟨rfl,hb⟩;refine⟨_,rfl,?_⟩;replace HO517:=Aside0.mk (Kd.R_below (zq4 HO517) hb);replace BK514:=Aside0.mk (blk_below (g:=gb514) (o:= .cells #[.slice A0_0 l0_0.length c0_0,.slice A0_1 l0_1.length c0_1,.slice (some ad519) l0_2.length c0_2] 33 (0,0)) (zq3 BK514) hb);replace HB:=Aside0.mk (below_step (by exact zk2 HB GE514.out) hb);(try clear hb);(try clear hb2);(try clear hk);(try clear hi)))
    replace HO517:=Aside0.mk (Kd.R_drew HO517.out)
    replace BK514:=Aside0.mk (blk_drew BK514.out)
    replace HB:=Aside0.mk (below_drew1 HB.out)
    have p521: 0≤ (a2:Int):=of_decide_eq_true zq1
    have q521:a2< (l0_1.length:Int):=of_decide_eq_true zq1
    obtain⟨ad521,A521_0,c521_0,e521,hx521_0,hl521_0,hi521_0⟩:=at_L1 HR0_1.out a2 p521 q521
    have hw521_0:=hx521_0
    cases e521
    replace hx521_0:=zhx HB hx521_0
    have HR521_0:=Aside0.mk hi521_0
    have HC521_0:=Aside0.mk hl521_0
    clear hi521_0 hl521_0
    replace p521:=eq_true p521
    replace q521:=eq_true q521
    have p523: 0≤ (a2:Int):=of_decide_eq_true zq1
    have q523:a2< (l0_1.length:Int):=of_decide_eq_true zq1
    obtain⟨ad523,A523_0,c523_0,e523,hx523_0,hl523_0,hi523_0⟩:=at_L1 HR0_1.out a2 p523 q523
    have hw523_0:=hx523_0
    obtain rfl:ad521=ad523:=(by injection e523)
    replace hx523_0:=zhx HB hx523_0
    have HR523_0:=Aside0.mk hi523_0
    have HC523_0:=Aside0.mk hl523_0
    clear hi523_0 hl523_0
    replace p523:=eq_true p523
    replace q523:=eq_true q523
    have ea_:=Option.some.inj (hx521_0.symm.trans hx523_0)
    injection ea_ with ea_ en_ ec_
    subst ea_
    subst ec_
    clear en_
    refine start_ (n:=19) (S:=fun w'=>w'.cell? ⟨gb514,0,none⟩=some (.slice A0_0 l0_0.length c0_0)∧w'.cell? ⟨gb514,1,none⟩=some (.slice (some ad521) l0_1.length c0_1)∧w'.cell? ⟨gb514,2,none⟩=some (.slice (some ad519) l0_2.length c0_2)∧w'.cell? (ad521.add (a2).toNat)=some (.slice A521_0 (rd_L1 l0_1 a2).length c521_0)∧w'.cell? (ad521.add (a2).toNat)=some (.slice A521_0 (rd_L1 l0_1 a2).length c521_0)) (ds:= []) (mb' 19 0) (by kernel_rfl) rfl rfl ⟨(blk_cell BK514.out 0).trans rfl,(blk_cell BK514.out 1).trans rfl,(blk_cell BK514.out 2).trans rfl,((zhx HB hw521_0).trans rfl),((zhx HB hw523_0).trans rfl)⟩ (fun hHeld=>?_);refine with_tabW impl_takes.tab4 impl_takes.bits4 (fun HT_ HW_=>?_)
    generalize w39.drew=w40 at HO517 BK514 HB HR521_0 HR523_0 hx521_0 hx523_0 hHeld ⊢
    refine zp1 HT_ 0 27 (mb' 19 1) rfl ?_
    refine zp1 HT_ 1 28 (mb' 19 3) rfl ?_
    refine zp1 HT_ 2 29 (mb' 19 7) rfl ?_
    refine zp1 HT_ 3 30 (mb' 19 15) rfl ?_
    refine zp1 HT_ 5 32 (mb' 19 47) rfl ?_
    refine zp1 HT_ 8 35 (mb' 19 303) rfl ?_
    refine zp1 HT_ 10 37 (mb' 19 1327) rfl ?_
    refine zp1 HT_ 12 39 (mb' 19 5423) rfl ?_
    refine zp1 HT_ 15 42 (mb' 19 38191) rfl ?_
    refine zt1 HT_ HW_ (v:=?_) (a':=?_) 4 31 (mb' 19 38207) rfl ?_ hHeld ?_ ?_;rotate_left;(rintro w' ⟨s0,s1,s2,s3,s4⟩;go_simp;with_reducible rfl);rotate_left;exact zpa
    refine zp1 HT_ 6 33 (mb' 19 38271) rfl ?_
    refine zt1 HT_ HW_ (v:=?_) (a':=?_) 7 34 (mb' 19 38399) rfl ?_ hHeld ?_ ?_;rotate_left;(rintro w' ⟨s0,s1,s2,s3,s4⟩;go_simp;with_reducible rfl);rotate_left;exact zpa
    refine zt1 HT_ HW_ (v:=?_) (a':=?_) 11 38 (mb' 19 40447) rfl ?_ hHeld ?_ ?_;rotate_left;(rintro w' ⟨s0,s1,s2,s3,s4⟩;go_simp;with_reducible rfl);rotate_left;exact zpa
    refine zp1 HT_ 13 40 (mb' 19 48639) rfl ?_
    refine zt1 HT_ HW_ (v:=?_) (a':=?_) 14 41 (mb' 19 65023) rfl ?_ hHeld ?_ ?_;rotate_left;(rintro w' ⟨s0,s1,s2,s3,s4⟩;go_simp;with_reducible rfl);rotate_left;exact zpa
    refine one_ (i:=9) (N:=some 36) (mb' 19 65535) rfl rfl (one_of HT_.out (by kernel_rfl)) (by decide) (fun K hK=>?_)
    refine goes_ Try.func45 (by kernel_rfl) rfl #[.slice A521_0 (rd_L1 l0_1 a2).length c521_0,.int .i64 t520] (by rfl) rfl rfl zq2 ?_
    with_reducible refine(slices_Index_int.calls k _ _ (rd_L1 l0_1 a2) t520 t522 _ ?side1 ?side2 A24.out).mono ?_
    (case side1=>exact zcc ((Kd.C_below HR521_0.out HB.out)))
    (case side2=>exact HC521_0.out)
    rintro e w' ⟨rfl,⟨nd,rfl⟩⟩
    refine⟨_,rfl,?_⟩
    refine hK.out _ _ ⟨(blk_cell BK514.out 0).trans rfl,(blk_cell BK514.out 1).trans rfl,(blk_cell BK514.out 2).trans rfl,((zhx HB hw521_0).trans rfl),((zhx HB hw523_0).trans rfl)⟩ (fun hHeld=>?_)
    clear hK K
    refine norm_ (a':=?_) ?_ ?_
    rotate_left
    ·show Act.put _ (some 36) _=_
     simp only [Act.put,List.setIfInBounds_toArray,List.set_cons_zero,List.set_cons_succ,i64_w,i32_w]
     rfl
    refine one_ (i:=16) (N:=some 43) (mb' 19 131071) rfl rfl (one_of HT_.out (by kernel_rfl)) (by decide) (fun K hK=>?_)
    refine goes_ Try.func45 (by kernel_rfl) rfl #[.slice A521_0 (rd_L1 l0_1 a2).length c521_0,.int .i64 a3] (by rfl) rfl rfl zq2 ?_
    with_reducible refine(slices_Index_int.calls k _ _ (rd_L1 l0_1 a2) a3 t524 _ ?side1 ?side2 A25.out).mono ?_
    (case side1=>repeat(first|exact(Kd.C_below HR523_0.out (by exact zk2 HB GE514.out))|(with_reducible refine Kd.C_alloc ?_ _)|(with_reducible refine Kd.C_drewN ?_ _)|(with_reducible refine Kd.C_drew ?_)))
    (case side2=>exact HC523_0.out)
    rintro e w' ⟨rfl,⟨nd,rfl⟩⟩
    refine⟨_,rfl,?_⟩
    refine hK.out _ _ ⟨(blk_cell BK514.out 0).trans rfl,(blk_cell BK514.out 1).trans rfl,(blk_cell BK514.out 2).trans rfl,((zhx HB hw521_0).trans rfl),((zhx HB hw523_0).trans rfl)⟩ (fun hHeld=>?_)
    clear hK K
    refine norm_ (a':=?_) ?_ ?_
    rotate_left
    ·show Act.put _ (some 43) _=_
     simp only [Act.put,List.setIfInBounds_toArray,List.set_cons_zero,List.set_cons_succ,i64_w,i32_w]
     rfl
    refine zp1 HT_ 17 44 (mb' 19 262143) rfl ?_
    refine zp1 HT_ 18 45 (mb' 19 524287) rfl ?_
    refine done_ (done_of HT_.out (by kernel_rfl)) ?_
    try go_wp2
    go_ret2
    exact⟨zer,by exact zk2 HB GE514.out⟩
mutual
def impl_blocking.l0:Nat→List Int→List Int→Int→Int→List (List Int)→List (List Int)→List Int→Option (Int × Int × Bool)
 | 0,_,_,_,_,_,_,_=>none
 |k+1,x1,x7,x17,x18,x526000,x526001,x526002=>if x18<x17 then(impl_blocking.l1 k x1 x7 x18 x17 x18 (x526001.length:Int) 0 x526000 x526001 x526002) else(some (0,0,false))
def impl_blocking.l1:Nat→List Int→List Int→Int→Int→Int→Int→Int→List (List Int)→List (List Int)→List Int→Option (Int × Int × Bool)
 | 0,_,_,_,_,_,_,_,_,_,_=>none
 |k+1,x1,x7,x8,x17,x18,x23,x24,x526000,x526001,x526002=>if x24<x23 then(if 0≤x8 then(if x8< (x526000.length:Int) then((slices_Index_int.f k (rd_L1 x526000 x8) x24).bind fun t530=>(if x8< (x7.length:Int) then(if t530≥ (rd x7 x8) then(impl_blocking.l1 k x1 x7 x8 x17 x18 x23 (wrap64 (x24+1)) x526000 x526001 x526002) else((impl_takes.f k x526000 x526001 x526002 x1 x24 x8).bind fun bt532=>(if bt532.2=true then(some (x8,x24,true)) else(impl_blocking.l1 k x1 x7 x8 x17 x18 x23 (wrap64 (x24+1)) x526000 x526001 x526002)))) else(none))) else(none)) else(none)) else(impl_blocking.l0 k x1 x7 x17 (wrap64 (x18+1)) x526000 x526001 x526002)
end
def impl_blocking.f (k:Nat) (l0_0:List (List Int)) (l0_1:List (List Int)) (l0_2:List Int) (l1:List Int):Option (Int × Int × Bool):=(impl_ranks.f k l0_0 l0_1 l0_2 l1).bind fun t526=>(impl_blocking.l0 k l1 t526 (l0_0.length:Int) 0 l0_0 l0_1 l0_2)
set_option maxHeartbeats 8000000 in
set_option maxRecDepth 100000 in
theorem impl_blocking.calls (k:Nat) (A0_0:Option Addr) (c0_0:Nat) (l0_0:List (List Int)) (A0_1:Option Addr) (c0_1:Nat) (l0_1:List (List Int)) (A0_2:Option Addr) (c0_2:Nat) (l0_2:List Int) (A1:Option Addr) (c1:Nat) (l1:List Int) (r1:Int) (r2:Int) (r3:Bool) (w:World) (hr0_0:Kd.C (Kd.slice 3 (Kd.int .i64)) w A0_0 l0_0.length l0_0) (hc0_0:l0_0.length≤c0_0) (hr0_1:Kd.C (Kd.slice 3 (Kd.int .i64)) w A0_1 l0_1.length l0_1) (hc0_1:l0_1.length≤c0_1) (hr0_2:Kd.C (Kd.int .i64) w A0_2 l0_2.length l0_2) (hc0_2:l0_2.length≤c0_2) (hr1:Kd.C (Kd.int .i64) w A1 l1.length l1) (hc1:l1.length≤c1) (h:impl_blocking.f k l0_0 l0_1 l0_2 l1=some (r1,r2,r3)):
  Calls Try.prog 60 #[.agg #[.slice A0_0 l0_0.length c0_0,.slice A0_1 l0_1.length c0_1,.slice A0_2 l0_2.length c0_2],.slice A1 l1.length c1] w fun e w'=>e= .returned (.tuple #[.int .i64 r1,.int .i64 r2,.bool r3])∧Below w.heap.size w w':=by
 have hu33:=Try.underlying33
 have HR0_0:=Aside0.mk hr0_0
 have HC0_0:=Aside0.mk hc0_0
 clear hr0_0 hc0_0
 have HR0_1:=Aside0.mk hr0_1
 have HC0_1:=Aside0.mk hc0_1
 clear hr0_1 hc0_1
 have HR0_2:=Aside0.mk hr0_2
 have HC0_2:=Aside0.mk hc0_2
 clear hr0_2 hc0_2
 have HR1:=Aside0.mk hr1
 have HC1:=Aside0.mk hc1
 clear hr1 hc1
 have HB:=Aside0.mk (Below.refl w.heap.size w)
 have H:((impl_ranks.f k l0_0 l0_1 l0_2 l1).bind fun t526=>(impl_blocking.l0 k l1 t526 (l0_0.length:Int) 0 l0_0 l0_1 l0_2))=some (r1,r2,r3):=h
 clear h
 replace H:=Option.bind_eq_some_iff.mp H
 obtain⟨t526,A30,H⟩:=H
 replace H:(impl_blocking.l0 k l1 t526 (l0_0.length:Int) 0 l0_0 l0_1 l0_2)=some (r1,r2,r3):=H
 have A3:=Aside0.mk A30
 clear A30
 have H':=Aside0.mk H
 clear H
 go_enter Try.func60,Try.ntmps60
 go_wp2_with (first|((with_reducible refine gate_dst (N:=2) rfl ?_);refine box_event ?hg (N:=2) ?hd (cs:= #[.slice A0_0 l0_0.length c0_0,.slice A0_1 l0_1.length c0_1,.slice A0_2 l0_2.length c0_2]) (t:=33) ?hr ?_;(case hd=>rfl);(case hg=>rfl);(case hr=>first|(go_simp;done)|(go_simp;rfl));intro gb525 hg w4 hbox hb;have BK525:=Aside0.mk (hbox);have GW525:=Aside0.mk ((by rw [hg];exact(below_size (by exact zk1 HB)):w.heap.size≤gb525));have GE525:=GW525;replace HB:=Aside0.mk (below_step (by exact zk1 HB) hb);clear hb hbox hg;have hcz5_0:=zcz BK525 0 (.slice A0_0 l0_0.length c0_0);have hcz5_1:=zcz BK525 1 (.slice A0_1 l0_1.length c0_1);have hcz5_2:=zcz BK525 2 (.slice A0_2 l0_2.length c0_2);have hfz5_0:=blk_frozen BK525.out 0;have hfz5_1:=blk_frozen BK525.out 1;have hfz5_2:=blk_frozen BK525.out 2)|(go_at_call 58;(with_reducible refine(impl_ranks.calls k _ _ l0_0 _ _ l0_1 _ _ l0_2 _ _ l1 t526 _ ?side1 ?side2 ?side3 ?side4 ?side5 ?side6 ?side7 ?side8 A3.out).mono ?_);(case side1=>exact zcc ((Kd.C_below HR0_0.out HB.out)));(case side2=>exact HC0_0.out);(case side3=>exact zcc ((Kd.C_below HR0_1.out HB.out)));(case side4=>exact HC0_1.out);(case side5=>exact zcc ((Kd.C_below HR0_2.out HB.out)));(case side6=>exact HC0_2.out);(case side7=>exact zcc ((Kd.C_below HR1.out HB.out)));(case side8=>exact HC1.out);rintro e w6 ⟨v527,rfl,ho0,hb⟩;have HO528:=Aside0.mk (Kd.R_lower ho0 (below_size (by exact zk2 HB GE525.out)));replace BK525:=Aside0.mk (blk_below (g:=gb525) (o:= .cells #[.slice A0_0 l0_0.length c0_0,.slice A0_1 l0_1.length c0_1,.slice A0_2 l0_2.length c0_2] 33 (0,0)) (zq3 BK525) hb);replace HB:=Aside0.mk (below_step (by exact zk2 HB GE525.out) hb);(try clear hb);(try clear hb2);(try clear hk);(try clear hi);(try clear ho0);have hcz7_0:=zcz BK525 0 (.slice A0_0 l0_0.length c0_0);have hcz7_1:=zcz BK525 1 (.slice A0_1 l0_1.length c0_1);have hcz7_2:=zcz BK525 2 (.slice A0_2 l0_2.length c0_2);have hfz7_0:=blk_frozen BK525.out 0;have hfz7_1:=blk_frozen BK525.out 1;have hfz7_2:=blk_frozen BK525.out 2))
 repeat(go_quiet (first|((with_reducible refine gate_dst (N:=2) rfl ?_);refine box_event ?hg (N:=2) ?hd (cs:= #[.slice A0_0 l0_0.length c0_0,.slice A0_1 l0_1.length c0_1,.slice A0_2 l0_2.length c0_2]) (t:=33) ?hr ?_;(case hd=>rfl);(case hg=>rfl);(case hr=>first|(go_simp;done)|(go_simp;rfl));intro gb525 hg w4 hbox hb;have BK525:=Aside0.mk (hbox);have GW525:=Aside0.mk ((by rw [hg];exact(below_size (by exact zk1 HB)):w.heap.size≤gb525));have GE525:=GW525;replace HB:=Aside0.mk (below_step (by exact zk1 HB) hb);clear hb hbox hg;have hcz5_0:=zcz BK525 0 (.slice A0_0 l0_0.length c0_0);have hcz5_1:=zcz BK525 1 (.slice A0_1 l0_1.length c0_1);have hcz5_2:=zcz BK525 2 (.slice A0_2 l0_2.length c0_2);have hfz5_0:=blk_frozen BK525.out 0;have hfz5_1:=blk_frozen BK525.out 1;have hfz5_2:=blk_frozen BK525.out 2)|(go_at_call 58;(with_reducible refine(impl_ranks.calls k _ _ l0_0 _ _ l0_1 _ _ l0_2 _ _ l1 t526 _ ?side1 ?side2 ?side3 ?side4 ?side5 ?side6 ?side7 ?side8 A3.out).mono ?_);(case side1=>exact zcc ((Kd.C_below HR0_0.out HB.out)));(case side2=>exact HC0_0.out);(case side3=>exact zcc ((Kd.C_below HR0_1.out HB.out)));(case side4=>exact HC0_1.out);(case side5=>exact zcc ((Kd.C_below HR0_2.out HB.out)));(case side6=>exact HC0_2.out);(case side7=>exact zcc ((Kd.C_below HR1.out HB.out)));(case side8=>exact HC1.out);rintro e w6 ⟨v527,rfl,ho0,hb⟩;have HO528:=Aside0.mk (Kd.R_lower ho0 (below_size (by exact zk2 HB GE525.out)));replace BK525:=Aside0.mk (blk_below (g:=gb525) (o:= .cells #[.slice A0_0 l0_0.length c0_0,.slice A0_1 l0_1.length c0_1,.slice A0_2 l0_2.length c0_2] 33 (0,0)) (zq3 BK525) hb);replace HB:=Aside0.mk (below_step (by exact zk2 HB GE525.out) hb);(try clear hb);(try clear hb2);(try clear hk);(try clear hi);(try clear ho0);have hcz7_0:=zcz BK525 0 (.slice A0_0 l0_0.length c0_0);have hcz7_1:=zcz BK525 1 (.slice A0_1 l0_1.length c0_1);have hcz7_2:=zcz BK525 2 (.slice A0_2 l0_2.length c0_2);have hfz7_0:=blk_frozen BK525.out 0;have hfz7_1:=blk_frozen BK525.out 1;have hfz7_2:=blk_frozen BK525.out 2));try go_wp2_with (first|((with_reducible refine gate_dst (N:=2) rfl ?_);refine box_event ?hg (N:=2) ?hd (cs:= #[.slice A0_0 l0_0.length c0_0,.slice A0_1 l0_1.length c0_1,.slice A0_2 l0_2.length c0_2]) (t:=33) ?hr ?_;(case hd=>rfl);(case hg=>rfl);(case hr=>first|(go_simp;done)|(go_simp;rfl));intro gb525 hg w4 hbox hb;have BK525:=Aside0.mk (hbox);have GW525:=Aside0.mk ((by rw [hg];exact(below_size (by exact zk1 HB)):w.heap.size≤gb525));have GE525:=GW525;replace HB:=Aside0.mk (below_step (by exact zk1 HB) hb);clear hb hbox hg;have hcz5_0:=zcz BK525 0 (.slice A0_0 l0_0.length c0_0);have hcz5_1:=zcz BK525 1 (.slice A0_1 l0_1.length c0_1);have hcz5_2:=zcz BK525 2 (.slice A0_2 l0_2.length c0_2);have hfz5_0:=blk_frozen BK525.out 0;have hfz5_1:=blk_frozen BK525.out 1;have hfz5_2:=blk_frozen BK525.out 2)|(go_at_call 58;(with_reducible refine(impl_ranks.calls k _ _ l0_0 _ _ l0_1 _ _ l0_2 _ _ l1 t526 _ ?side1 ?side2 ?side3 ?side4 ?side5 ?side6 ?side7 ?side8 A3.out).mono ?_);(case side1=>exact zcc ((Kd.C_below HR0_0.out HB.out)));(case side2=>exact HC0_0.out);(case side3=>exact zcc ((Kd.C_below HR0_1.out HB.out)));(case side4=>exact HC0_1.out);(case side5=>exact zcc ((Kd.C_below HR0_2.out HB.out)));(case side6=>exact HC0_2.out);(case side7=>exact zcc ((Kd.C_below HR1.out HB.out)));(case side8=>exact HC1.out);rintro e w6 ⟨v527,rfl,ho0,hb⟩;have HO528:=Aside0.mk (Kd.R_lower ho0 (below_size (by exact zk2 HB GE525.out)));replace BK525:=Aside0.mk (blk_below (g:=gb525) (o:= .cells #[.slice A0_0 l0_0.length c0_0,.slice A0_1 l0_1.length c0_1,.slice A0_2 l0_2.length c0_2] 33 (0,0)) (zq3 BK525) hb);replace HB:=Aside0.mk (below_step (by exact zk2 HB GE525.out) hb);(try clear hb);(try clear hb2);(try clear hk);(try clear hi);(try clear ho0);have hcz7_0:=zcz BK525 0 (.slice A0_0 l0_0.length c0_0);have hcz7_1:=zcz BK525 1 (.slice A0_1 l0_1.length c0_1);have hcz7_2:=zcz BK525 2 (.slice A0_2 l0_2.length c0_2);have hfz7_0:=blk_frozen BK525.out 0;have hfz7_1:=blk_frozen BK525.out 1;have hfz7_2:=blk_frozen BK525.out 2)))
 go_loopg [18] k (fun kq v18 w'=> ∃ (x18_1:Int),v18= .int .i64 x18_1∧Aside0 (impl_blocking.l0 kq l1 t526 (l0_0.length:Int) x18_1 l0_0 l0_1 l0_2=some (r1,r2,r3))∧Aside0 (kq≤k)∧Aside0 (Kd.R (Kd.int .i64) 3 w' w.heap.size (fun _=>True) v527 t526)∧Aside0 (w'.heap[gb525]?=some (.cells #[(.slice A0_0 l0_0.length c0_0),(.slice A0_1 l0_1.length c0_1),(.slice A0_2 l0_2.length c0_2)] 33 (0,0)))∧Aside0 (Below w.heap.size w w'))
 case atStart=>exact⟨(0),zrs,H',⟨Nat.le_refl _⟩,⟨zdr HO528⟩,⟨by(with_reducible repeat(first|refine blk_drewN ?_ _|refine blk_drew ?_ |refine blk_alloc ?_ _));exact BK525.out⟩,⟨by exact zk2 HB GE525.out⟩⟩
 case round=>
  clear H'
  try clear c1
  try clear p2
  try clear c6
  try clear hcz5_0
  try clear hcz5_1
  try clear hcz5_2
  try clear hcz7_0
  try clear hcz7_1
  try clear hcz7_2
  try clear hfz5_0
  try clear hfz5_1
  try clear hfz5_2
  try clear hfz7_0
  try clear hfz7_1
  try clear hfz7_2
  obtain⟨x18_1,rfl,HA,HK1,HO_7,BK525,HB⟩:=hrel
  cases gk with
  |zero=>exact absurd HA.out (by simp [impl_blocking.l0])
  |succ k1=>
   have H:=HA.out
   clear HA
   simp only [impl_blocking.l0] at H
   by_cases c8:x18_1< (l0_0.length:Int)
   ·rw [if_pos c8] at H
    have c8b0:decide (x18_1< (l0_0.length:Int))=true:=decide_eq_true c8
    clear c8
    have H':=Aside0.mk H
    clear H
    have hcz9_0:wr.cell? ⟨gb525,0,none⟩=some (.slice A0_0 l0_0.length c0_0):=(blk_cell BK525.out 0).trans rfl
    have hcz9_1:wr.cell? ⟨gb525,1,none⟩=some (.slice A0_1 l0_1.length c0_1):=(blk_cell BK525.out 1).trans rfl
    have hcz9_2:wr.cell? ⟨gb525,2,none⟩=some (.slice A0_2 l0_2.length c0_2):=(blk_cell BK525.out 2).trans rfl
    have hfz9_0:=blk_frozen BK525.out 0
    have hfz9_1:=blk_frozen BK525.out 1
    have hfz9_2:=blk_frozen BK525.out 2
    go_wp2
    repeat(go_quiet (fail);try go_wp2)
    go_loopg [24] k1 (fun kq v24 w'=> ∃ (x24_2:Int),v24= .int .i64 x24_2∧Aside0 (impl_blocking.l1 kq l1 t526 x18_1 (l0_0.length:Int) x18_1 (l0_1.length:Int) x24_2 l0_0 l0_1 l0_2=some (r1,r2,r3))∧Aside0 (kq≤k1)∧Aside0 (Kd.R (Kd.int .i64) 3 w' w.heap.size (fun _=>True) v527 t526)∧Aside0 (w'.heap[gb525]?=some (.cells #[(.slice A0_0 l0_0.length c0_0),(.slice A0_1 l0_1.length c0_1),(.slice A0_2 l0_2.length c0_2)] 33 (0,0)))∧Aside0 (Below w.heap.size w w'))
    case atStart=>exact⟨(0),zrs,H',⟨Nat.le_refl _⟩,⟨zdr HO_7⟩,⟨by(with_reducible repeat(first|refine blk_drewN ?_ _|refine blk_drew ?_ |refine blk_alloc ?_ _));exact BK525.out⟩,⟨by exact zk2 HB GE525.out⟩⟩
    case round=>
     clear H'
     try clear c1
     try clear p2
     try clear c6
     try clear c8
     try clear c8b0
     try clear hcz5_0
     try clear hcz5_1
     try clear hcz5_2
     try clear hcz7_0
     try clear hcz7_1
     try clear hcz7_2
     try clear hcz9_0
     try clear hcz9_1
     try clear hcz9_2
     try clear hfz5_0
     try clear hfz5_1
     try clear hfz5_2
     try clear hfz7_0
     try clear hfz7_1
     try clear hfz7_2
     try clear hfz9_0
     try clear hfz9_1
     try clear hfz9_2
     try clear p2
     obtain⟨x24_2,rfl,HA,HK2,HO_7,BK525,HB⟩:=hrel
     cases gk with
     |zero=>exact absurd HA.out (by simp [impl_blocking.l1])
     |succ k2=>
      have H:=HA.out
      clear HA
      simp only [impl_blocking.l1] at H
      by_cases c10:x24_2< (l0_1.length:Int)
      ·rw [if_pos c10] at H
       have c10b0:decide (x24_2< (l0_1.length:Int))=true:=decide_eq_true c10
       clear c10
       by_cases c11: 0≤x18_1
       case neg=>exact znn c11 H
       rw [if_pos c11] at H
       have c11b0:decide (0≤x18_1)=true:=decide_eq_true c11
       clear c11
       by_cases c12:x18_1< (l0_0.length:Int)
       case neg=>exact znn c12 H
       rw [if_pos c12] at H
       have c12b0:decide (x18_1< (l0_0.length:Int))=true:=decide_eq_true c12
       clear c12
       replace H:=Option.bind_eq_some_iff.mp H
       obtain⟨t530,A130,H⟩:=H
       replace H:(if x18_1< (t526.length:Int) then(if t530≥ (rd t526 x18_1) then(impl_blocking.l1 k2 l1 t526 x18_1 (l0_0.length:Int) x18_1 (l0_1.length:Int) (wrap64 (x24_2+1)) l0_0 l0_1 l0_2) else((impl_takes.f k2 l0_0 l0_1 l0_2 l1 x24_2 x18_1).bind fun bt532=>(if bt532.2=true then(some (x18_1,x24_2,true)) else(impl_blocking.l1 k2 l1 t526 x18_1 (l0_0.length:Int) x18_1 (l0_1.length:Int) (wrap64 (x24_2+1)) l0_0 l0_1 l0_2)))) else(none))=some (r1,r2,r3):=H
       have A13:=Aside0.mk A130
       clear A130
       by_cases c14:x18_1< (t526.length:Int)
       case neg=>exact znn c14 H
       rw [if_pos c14] at H
       have c14b0:decide (x18_1< (t526.length:Int))=true:=decide_eq_true c14
       clear c14
       by_cases c15:t530≥ (rd t526 x18_1)
       ·rw [if_pos c15] at H
        have c15b0:decide ((rd t526 x18_1)≤t530)=true:=decide_eq_true c15
        clear c15
        have H':=Aside0.mk H
        clear H
        have hcz16_0:wr.cell? ⟨gb525,0,none⟩=some (.slice A0_0 l0_0.length c0_0):=(blk_cell BK525.out 0).trans rfl
        have hcz16_1:wr.cell? ⟨gb525,1,none⟩=some (.slice A0_1 l0_1.length c0_1):=(blk_cell BK525.out 1).trans rfl
        have hcz16_2:wr.cell? ⟨gb525,2,none⟩=some (.slice A0_2 l0_2.length c0_2):=(blk_cell BK525.out 2).trans rfl
        have hfz16_0:=blk_frozen BK525.out 0
        have hfz16_1:=blk_frozen BK525.out 1
        have hfz16_2:=blk_frozen BK525.out 2
        have p529: 0≤ (x18_1:Int):=of_decide_eq_true zq1
        have q529:x18_1< (l0_0.length:Int):=of_decide_eq_true zq1
        obtain⟨ad529,A529_0,c529_0,e529,hx529_0,hl529_0,hi529_0⟩:=at_L1 HR0_0.out x18_1 p529 q529
        cases e529
        replace hx529_0:=zhx HB hx529_0
        have HR529_0:=Aside0.mk hi529_0
        have HC529_0:=Aside0.mk hl529_0
        clear hi529_0 hl529_0
        replace p529:=eq_true p529
        replace q529:=eq_true q529
        go_wp2_with (first|(go_at_call 45;(with_reducible refine(slices_Index_int.calls k2 _ _ (rd_L1 l0_0 x18_1) x24_2 t530 _ ?side1 ?side2 A13.out).mono ?_);(case side1=>exact zcc ((Kd.C_below HR529_0.out HB.out)));(case side2=>exact HC529_0.out);rintro e w' ⟨rfl,⟨nd,rfl⟩⟩;(try first|exact⟨rfl,_,World.drewN_drewN _ _ _⟩|exact⟨rfl,_,Eq.trans (World.drewN_drewN _ _ _) (congrArg (World.drewN _) (Nat.add_assoc _ _ _))⟩);obtain⟨Ao17,co17,eo17⟩:=Kd.R_slice HO_7.out;subst eo17;have p531: 0≤ (x18_1:Int):=of_decide_eq_true zq1;have q531:x18_1< (t526.length:Int):=of_decide_eq_true zq1;obtain⟨ad531,e531,hx531_0⟩:=Kd.at_int (Kd.R_reads' HO_7.out).2.2 x18_1 p531 q531;cases e531;replace p531:=eq_true p531;replace q531:=eq_true q531))
        repeat(go_quiet (first|(go_at_call 45;(with_reducible refine(slices_Index_int.calls k2 _ _ (rd_L1 l0_0 x18_1) x24_2 t530 _ ?side1 ?side2 A13.out).mono ?_);(case side1=>exact zcc ((Kd.C_below HR529_0.out HB.out)));(case side2=>exact HC529_0.out);rintro e w' ⟨rfl,⟨nd,rfl⟩⟩;(try first|exact⟨rfl,_,World.drewN_drewN _ _ _⟩|exact⟨rfl,_,Eq.trans (World.drewN_drewN _ _ _) (congrArg (World.drewN _) (Nat.add_assoc _ _ _))⟩);obtain⟨Ao17,co17,eo17⟩:=Kd.R_slice HO_7.out;subst eo17;have p531: 0≤ (x18_1:Int):=of_decide_eq_true zq1;have q531:x18_1< (t526.length:Int):=of_decide_eq_true zq1;obtain⟨ad531,e531,hx531_0⟩:=Kd.at_int (Kd.R_reads' HO_7.out).2.2 x18_1 p531 q531;cases e531;replace p531:=eq_true p531;replace q531:=eq_true q531));try go_wp2_with (first|(go_at_call 45;(with_reducible refine(slices_Index_int.calls k2 _ _ (rd_L1 l0_0 x18_1) x24_2 t530 _ ?side1 ?side2 A13.out).mono ?_);(case side1=>exact zcc ((Kd.C_below HR529_0.out HB.out)));(case side2=>exact HC529_0.out);rintro e w' ⟨rfl,⟨nd,rfl⟩⟩;(try first|exact⟨rfl,_,World.drewN_drewN _ _ _⟩|exact⟨rfl,_,Eq.trans (World.drewN_drewN _ _ _) (congrArg (World.drewN _) (Nat.add_assoc _ _ _))⟩);obtain⟨Ao17,co17,eo17⟩:=Kd.R_slice HO_7.out;subst eo17;have p531: 0≤ (x18_1:Int):=of_decide_eq_true zq1;have q531:x18_1< (t526.length:Int):=of_decide_eq_true zq1;obtain⟨ad531,e531,hx531_0⟩:=Kd.at_int (Kd.R_reads' HO_7.out).2.2 x18_1 p531 q531;cases e531;replace p531:=eq_true p531;replace q531:=eq_true q531)))
        go_roundg k2
        case measure=>have:=HK1.out;have:=HK2.out;omega
        case rel=>exact⟨(wrap64 (x24_2+1)),zrs,H',⟨by have:=HK1.out;have:=HK2.out;omega⟩,⟨zdr HO_7⟩,⟨by(with_reducible repeat(first|refine blk_drewN ?_ _|refine blk_drew ?_ |refine blk_alloc ?_ _));exact BK525.out⟩,⟨by exact zk2 HB GE525.out⟩⟩
       ·rw [if_neg c15] at H
        have c15b0:decide ((rd t526 x18_1)≤t530)=false:=decide_eq_false c15
        clear c15
        replace H:=Option.bind_eq_some_iff.mp H
        obtain⟨⟨t532,t533⟩,A180,H⟩:=H
        replace H:(if t533=true then(some (x18_1,x24_2,true)) else(impl_blocking.l1 k2 l1 t526 x18_1 (l0_0.length:Int) x18_1 (l0_1.length:Int) (wrap64 (x24_2+1)) l0_0 l0_1 l0_2))=some (r1,r2,r3):=H
        have A18:=Aside0.mk A180
        clear A180
        by_cases c19:t533=true
        ·subst c19
         have H1:(some (x18_1,x24_2,true))=some (r1,r2,r3):=by rw [if_pos rfl] at H;exact H
         clear H
         have H:=H1
         clear H1
         simp only [Option.some.injEq,Prod.mk.injEq] at H
         obtain⟨rfl,rfl,rfl⟩:=H
         have hcz20_0:wr.cell? ⟨gb525,0,none⟩=some (.slice A0_0 l0_0.length c0_0):=(blk_cell BK525.out 0).trans rfl
         have hcz20_1:wr.cell? ⟨gb525,1,none⟩=some (.slice A0_1 l0_1.length c0_1):=(blk_cell BK525.out 1).trans rfl
         have hcz20_2:wr.cell? ⟨gb525,2,none⟩=some (.slice A0_2 l0_2.length c0_2):=(blk_cell BK525.out 2).trans rfl
         have hfz20_0:=blk_frozen BK525.out 0
         have hfz20_1:=blk_frozen BK525.out 1
         have hfz20_2:=blk_frozen BK525.out 2
         have p529: 0≤ (x18_1:Int):=of_decide_eq_true zq1
         have q529:x18_1< (l0_0.length:Int):=of_decide_eq_true zq1
         obtain⟨ad529,A529_0,c529_0,e529,hx529_0,hl529_0,hi529_0⟩:=at_L1 HR0_0.out x18_1 p529 q529
         cases e529
         replace hx529_0:=zhx HB hx529_0
         have HR529_0:=Aside0.mk hi529_0
         have HC529_0:=Aside0.mk hl529_0
         clear hi529_0 hl529_0
         replace p529:=eq_true p529
         replace q529:=eq_true q529
         go_wp2_with (first|(go_at_call 45;(with_reducible refine(slices_Index_int.calls k2 _ _ (rd_L1 l0_0 x18_1) x24_2 t530 _ ?side1 ?side2 A13.out).mono ?_);(case side1=>exact zcc ((Kd.C_below HR529_0.out HB.out)));(case side2=>exact HC529_0.out);rintro e w' ⟨rfl,⟨nd,rfl⟩⟩;(try first|exact⟨rfl,_,World.drewN_drewN _ _ _⟩|exact⟨rfl,_,Eq.trans (World.drewN_drewN _ _ _) (congrArg (World.drewN _) (Nat.add_assoc _ _ _))⟩);obtain⟨Ao21,co21,eo21⟩:=Kd.R_slice HO_7.out;subst eo21;have p531: 0≤ (x18_1:Int):=of_decide_eq_true zq1;have q531:x18_1< (t526.length:Int):=of_decide_eq_true zq1;obtain⟨ad531,e531,hx531_0⟩:=Kd.at_int (Kd.R_reads' HO_7.out).2.2 x18_1 p531 q531;cases e531;replace p531:=eq_true p531;replace q531:=eq_true q531)|(go_at_call 63;(with_reducible refine(impl_takes.calls k2 _ _ l0_0 _ _ l0_1 _ _ l0_2 _ _ l1 x24_2 x18_1 t532 true _ ?side1 ?side2 ?side3 ?side4 ?side5 ?side6 ?side7 ?side8 A18.out).mono ?_);(case side1=>repeat(first|exact(Kd.C_below HR0_0.out (by exact zk2 HB GE525.out))|(with_reducible refine Kd.C_alloc ?_ _)|(with_reducible refine Kd.C_drewN ?_ _)|(with_reducible refine Kd.C_drew ?_)));(case side2=>exact HC0_0.out);(case side3=>repeat(first|exact(Kd.C_below HR0_1.out (by exact zk2 HB GE525.out))|(with_reducible refine Kd.C_alloc ?_ _)|(with_reducible refine Kd.C_drewN ?_ _)|(with_reducible refine Kd.C_drew ?_)));(case side4=>exact HC0_1.out);(case side5=>repeat(first|exact(Kd.C_below HR0_2.out (by exact zk2 HB GE525.out))|(with_reducible refine Kd.C_alloc ?_ _)|(with_reducible refine Kd.C_drewN ?_ _)|(with_reducible refine Kd.C_drew ?_)));(case side6=>exact HC0_2.out);(case side7=>repeat(first|exact(Kd.C_below HR1.out (by exact zk2 HB GE525.out))|(with_reducible refine Kd.C_alloc ?_ _)|(with_reducible refine Kd.C_drewN ?_ _)|(with_reducible refine Kd.C_drew ?_)));(case side8=>exact HC1.out);rintro e w22 ⟨rfl,hb⟩;replace HO_7:=Aside0.mk (Kd.R_below (zq4 HO_7) hb);replace BK525:=Aside0.mk (blk_below (g:=gb525) (o:= .cells #[.slice (some ad529) l0_0.length c0_0,.slice A0_1 l0_1.length c0_1,.slice A0_2 l0_2.length c0_2] 33 (0,0)) (zq3 BK525) hb);replace HB:=Aside0.mk (below_step (by exact zk2 HB GE525.out) hb);(try clear hb);(try clear hb2);(try clear hk);(try clear hi)))
         repeat(go_quiet (first|(go_at_call 45;(with_reducible refine(slices_Index_int.calls k2 _ _ (rd_L1 l0_0 x18_1) x24_2 t530 _ ?side1 ?side2 A13.out).mono ?_);(case side1=>exact zcc ((Kd.C_below HR529_0.out HB.out)));(case side2=>exact HC529_0.out);rintro e w' ⟨rfl,⟨nd,rfl⟩⟩;(try first|exact⟨rfl,_,World.drewN_drewN _ _ _⟩|exact⟨rfl,_,Eq.trans (World.drewN_drewN _ _ _) (congrArg (World.drewN _) (Nat.add_assoc _ _ _))⟩);obtain⟨Ao21,co21,eo21⟩:=Kd.R_slice HO_7.out;subst eo21;have p531: 0≤ (x18_1:Int):=of_decide_eq_true zq1;have q531:x18_1< (t526.length:Int):=of_decide_eq_true zq1;obtain⟨ad531,e531,hx531_0⟩:=Kd.at_int (Kd.R_reads' HO_7.out).2.2 x18_1 p531 q531;cases e531;replace p531:=eq_true p531;replace q531:=eq_true q531)|(go_at_call 63;(with_reducible refine(impl_takes.calls k2 _ _ l0_0 _ _ l0_1 _ _ l0_2 _ _ l1 x24_2 x18_1 t532 true _ ?side1 ?side2 ?side3 ?side4 ?side5 ?side6 ?side7 ?side8 A18.out).mono ?_);(case side1=>repeat(first|exact(Kd.C_below HR0_0.out (by exact zk2 HB GE525.out))|(with_reducible refine Kd.C_alloc ?_ _)|(with_reducible refine Kd.C_drewN ?_ _)|(with_reducible refine Kd.C_drew ?_)));(case side2=>exact HC0_0.out);(case side3=>repeat(first|exact(Kd.C_below HR0_1.out (by exact zk2 HB GE525.out))|(with_reducible refine Kd.C_alloc ?_ _)|(with_reducible refine Kd.C_drewN ?_ _)|(with_reducible refine Kd.C_drew ?_)));(case side4=>exact HC0_1.out);(case side5=>repeat(first|exact(Kd.C_below HR0_2.out (by exact zk2 HB GE525.out))|(with_reducible refine Kd.C_alloc ?_ _)|(with_reducible refine Kd.C_drewN ?_ _)|(with_reducible refine Kd.C_drew ?_)));(case side6=>exact HC0_2.out);(case side7=>repeat(first|exact(Kd.C_below HR1.out (by exact zk2 HB GE525.out))|(with_reducible refine Kd.C_alloc ?_ _)|(with_reducible refine Kd.C_drewN ?_ _)|(with_reducible refine Kd.C_drew ?_)));(case side8=>exact HC1.out);rintro e w22 ⟨rfl,hb⟩;replace HO_7:=Aside0.mk (Kd.R_below (zq4 HO_7) hb);replace BK525:=Aside0.mk (blk_below (g:=gb525) (o:= .cells #[.slice (some ad529) l0_0.length c0_0,.slice A0_1 l0_1.length c0_1,.slice A0_2 l0_2.length c0_2] 33 (0,0)) (zq3 BK525) hb);replace HB:=Aside0.mk (below_step (by exact zk2 HB GE525.out) hb);(try clear hb);(try clear hb2);(try clear hk);(try clear hi)));try go_wp2_with (first|(go_at_call 45;(with_reducible refine(slices_Index_int.calls k2 _ _ (rd_L1 l0_0 x18_1) x24_2 t530 _ ?side1 ?side2 A13.out).mono ?_);(case side1=>exact zcc ((Kd.C_below HR529_0.out HB.out)));(case side2=>exact HC529_0.out);rintro e w' ⟨rfl,⟨nd,rfl⟩⟩;(try first|exact⟨rfl,_,World.drewN_drewN _ _ _⟩|exact⟨rfl,_,Eq.trans (World.drewN_drewN _ _ _) (congrArg (World.drewN _) (Nat.add_assoc _ _ _))⟩);obtain⟨Ao21,co21,eo21⟩:=Kd.R_slice HO_7.out;subst eo21;have p531: 0≤ (x18_1:Int):=of_decide_eq_true zq1;have q531:x18_1< (t526.length:Int):=of_decide_eq_true zq1;obtain⟨ad531,e531,hx531_0⟩:=Kd.at_int (Kd.R_reads' HO_7.out).2.2 x18_1 p531 q531;cases e531;replace p531:=eq_true p531;replace q531:=eq_true q531)|(go_at_call 63;(with_reducible refine(impl_takes.calls k2 _ _ l0_0 _ _ l0_1 _ _ l0_2 _ _ l1 x24_2 x18_1 t532 true _ ?side1 ?side2 ?side3 ?side4 ?side5 ?side6 ?side7 ?side8 A18.out).mono ?_);(case side1=>repeat(first|exact(Kd.C_below HR0_0.out (by exact zk2 HB GE525.out))|(with_reducible refine Kd.C_alloc ?_ _)|(with_reducible refine Kd.C_drewN ?_ _)|(with_reducible refine Kd.C_drew ?_)));(case side2=>exact HC0_0.out);(case side3=>repeat(first|exact(Kd.C_below HR0_1.out (by exact zk2 HB GE525.out))|(with_reducible refine Kd.C_alloc ?_ _)|(with_reducible refine Kd.C_drewN ?_ _)|(with_reducible refine Kd.C_drew ?_)));(case side4=>exact HC0_1.out);(case side5=>repeat(first|exact(Kd.C_below HR0_2.out (by exact zk2 HB GE525.out))|(with_reducible refine Kd.C_alloc ?_ _)|(with_reducible refine Kd.C_drewN ?_ _)|(with_reducible refine Kd.C_drew ?_)));(case side6=>exact HC0_2.out);(case side7=>repeat(first|exact(Kd.C_below HR1.out (by exact zk2 HB GE525.out))|(with_reducible refine Kd.C_alloc ?_ _)|(with_reducible refine Kd.C_drewN ?_ _)|(with_reducible refine Kd.C_drew ?_)));(case side8=>exact HC1.out);rintro e w22 ⟨rfl,hb⟩;replace HO_7:=Aside0.mk (Kd.R_below (zq4 HO_7) hb);replace BK525:=Aside0.mk (blk_below (g:=gb525) (o:= .cells #[.slice (some ad529) l0_0.length c0_0,.slice A0_1 l0_1.length c0_1,.slice A0_2 l0_2.length c0_2] 33 (0,0)) (zq3 BK525) hb);replace HB:=Aside0.mk (below_step (by exact zk2 HB GE525.out) hb);(try clear hb);(try clear hb2);(try clear hk);(try clear hi))))
         go_ret3
         exact⟨zer,by exact zk2 HB GE525.out⟩
        ·replace c19:=Bool.eq_false_iff.mpr c19
         subst c19
         have H1:(impl_blocking.l1 k2 l1 t526 x18_1 (l0_0.length:Int) x18_1 (l0_1.length:Int) (wrap64 (x24_2+1)) l0_0 l0_1 l0_2)=some (r1,r2,r3):=by rw [if_neg (show ¬ (false=true) by decide)] at H;exact H
         clear H
         have H:=H1
         clear H1
         have H':=Aside0.mk H
         clear H
         have hcz23_0:wr.cell? ⟨gb525,0,none⟩=some (.slice A0_0 l0_0.length c0_0):=(blk_cell BK525.out 0).trans rfl
         have hcz23_1:wr.cell? ⟨gb525,1,none⟩=some (.slice A0_1 l0_1.length c0_1):=(blk_cell BK525.out 1).trans rfl
         have hcz23_2:wr.cell? ⟨gb525,2,none⟩=some (.slice A0_2 l0_2.length c0_2):=(blk_cell BK525.out 2).trans rfl
         have hfz23_0:=blk_frozen BK525.out 0
         have hfz23_1:=blk_frozen BK525.out 1
         have hfz23_2:=blk_frozen BK525.out 2
         have p529: 0≤ (x18_1:Int):=of_decide_eq_true zq1
         have q529:x18_1< (l0_0.length:Int):=of_decide_eq_true zq1
         obtain⟨ad529,A529_0,c529_0,e529,hx529_0,hl529_0,hi529_0⟩:=at_L1 HR0_0.out x18_1 p529 q529
         cases e529
         replace hx529_0:=zhx HB hx529_0
         have HR529_0:=Aside0.mk hi529_0
         have HC529_0:=Aside0.mk hl529_0
         clear hi529_0 hl529_0
         replace p529:=eq_true p529
         replace q529:=eq_true q529
         go_wp2_with (first|(go_at_call 45;(with_reducible refine(slices_Index_int.calls k2 _ _ (rd_L1 l0_0 x18_1) x24_2 t530 _ ?side1 ?side2 A13.out).mono ?_);(case side1=>exact zcc ((Kd.C_below HR529_0.out HB.out)));(case side2=>exact HC529_0.out);rintro e w' ⟨rfl,⟨nd,rfl⟩⟩;(try first|exact⟨rfl,_,World.drewN_drewN _ _ _⟩|exact⟨rfl,_,Eq.trans (World.drewN_drewN _ _ _) (congrArg (World.drewN _) (Nat.add_assoc _ _ _))⟩);obtain⟨Ao24,co24,eo24⟩:=Kd.R_slice HO_7.out;subst eo24;have p531: 0≤ (x18_1:Int):=of_decide_eq_true zq1;have q531:x18_1< (t526.length:Int):=of_decide_eq_true zq1;obtain⟨ad531,e531,hx531_0⟩:=Kd.at_int (Kd.R_reads' HO_7.out).2.2 x18_1 p531 q531;cases e531;replace p531:=eq_true p531;replace q531:=eq_true q531)|(go_at_call 63;(with_reducible refine(impl_takes.calls k2 _ _ l0_0 _ _ l0_1 _ _ l0_2 _ _ l1 x24_2 x18_1 t532 false _ ?side1 ?side2 ?side3 ?side4 ?side5 ?side6 ?side7 ?side8 A18.out).mono ?_);(case side1=>repeat(first|exact(Kd.C_below HR0_0.out (by exact zk2 HB GE525.out))|(with_reducible refine Kd.C_alloc ?_ _)|(with_reducible refine Kd.C_drewN ?_ _)|(with_reducible refine Kd.C_drew ?_)));(case side2=>exact HC0_0.out);(case side3=>repeat(first|exact(Kd.C_below HR0_1.out (by exact zk2 HB GE525.out))|(with_reducible refine Kd.C_alloc ?_ _)|(with_reducible refine Kd.C_drewN ?_ _)|(with_reducible refine Kd.C_drew ?_)));(case side4=>exact HC0_1.out);(case side5=>repeat(first|exact(Kd.C_below HR0_2.out (by exact zk2 HB GE525.out))|(with_reducible refine Kd.C_alloc ?_ _)|(with_reducible refine Kd.C_drewN ?_ _)|(with_reducible refine Kd.C_drew ?_)));(case side6=>exact HC0_2.out);(case side7=>repeat(first|exact(Kd.C_below HR1.out (by exact zk2 HB GE525.out))|(with_reducible refine Kd.C_alloc ?_ _)|(with_reducible refine Kd.C_drewN ?_ _)|(with_reducible refine Kd.C_drew ?_)));(case side8=>exact HC1.out);rintro e w25 ⟨rfl,hb⟩;replace HO_7:=Aside0.mk (Kd.R_below (zq4 HO_7) hb);replace BK525:=Aside0.mk (blk_below (g:=gb525) (o:= .cells #[.slice (some ad529) l0_0.length c0_0,.slice A0_1 l0_1.length c0_1,.slice A0_2 l0_2.length c0_2] 33 (0,0)) (zq3 BK525) hb);replace HB:=Aside0.mk (below_step (by exact zk2 HB GE525.out) hb);(try clear hb);(try clear hb2);(try clear hk);(try clear hi)))
         repeat(go_quiet (first|(go_at_call 45;(with_reducible refine(slices_Index_int.calls k2 _ _ (rd_L1 l0_0 x18_1) x24_2 t530 _ ?side1 ?side2 A13.out).mono ?_);(case side1=>exact zcc ((Kd.C_below HR529_0.out HB.out)));(case side2=>exact HC529_0.out);rintro e w' ⟨rfl,⟨nd,rfl⟩⟩;(try first|exact⟨rfl,_,World.drewN_drewN _ _ _⟩|exact⟨rfl,_,Eq.trans (World.drewN_drewN _ _ _) (congrArg (World.drewN _) (Nat.add_assoc _ _ _))⟩);obtain⟨Ao24,co24,eo24⟩:=Kd.R_slice HO_7.out;subst eo24;have p531: 0≤ (x18_1:Int):=of_decide_eq_true zq1;have q531:x18_1< (t526.length:Int):=of_decide_eq_true zq1;obtain⟨ad531,e531,hx531_0⟩:=Kd.at_int (Kd.R_reads' HO_7.out).2.2 x18_1 p531 q531;cases e531;replace p531:=eq_true p531;replace q531:=eq_true q531)|(go_at_call 63;(with_reducible refine(impl_takes.calls k2 _ _ l0_0 _ _ l0_1 _ _ l0_2 _ _ l1 x24_2 x18_1 t532 false _ ?side1 ?side2 ?side3 ?side4 ?side5 ?side6 ?side7 ?side8 A18.out).mono ?_);(case side1=>repeat(first|exact(Kd.C_below HR0_0.out (by exact zk2 HB GE525.out))|(with_reducible refine Kd.C_alloc ?_ _)|(with_reducible refine Kd.C_drewN ?_ _)|(with_reducible refine Kd.C_drew ?_)));(case side2=>exact HC0_0.out);(case side3=>repeat(first|exact(Kd.C_below HR0_1.out (by exact zk2 HB GE525.out))|(with_reducible refine Kd.C_alloc ?_ _)|(with_reducible refine Kd.C_drewN ?_ _)|(with_reducible refine Kd.C_drew ?_)));(case side4=>exact HC0_1.out);(case side5=>repeat(first|exact(Kd.C_below HR0_2.out (by exact zk2 HB GE525.out))|(with_reducible refine Kd.C_alloc ?_ _)|(with_reducible refine Kd.C_drewN ?_ _)|(with_reducible refine Kd.C_drew ?_)));(case side6=>exact HC0_2.out);(case side7=>repeat(first|exact(Kd.C_below HR1.out (by exact zk2 HB GE525.out))|(with_reducible refine Kd.C_alloc ?_ _)|(with_reducible refine Kd.C_drewN ?_ _)|(with_reducible refine Kd.C_drew ?_)));(case side8=>exact HC1.out);rintro e w25 ⟨rfl,hb⟩;replace HO_7:=Aside0.mk (Kd.R_below (zq4 HO_7) hb);replace BK525:=Aside0.mk (blk_below (g:=gb525) (o:= .cells #[.slice (some ad529) l0_0.length c0_0,.slice A0_1 l0_1.length c0_1,.slice A0_2 l0_2.length c0_2] 33 (0,0)) (zq3 BK525) hb);replace HB:=Aside0.mk (below_step (by exact zk2 HB GE525.out) hb);(try clear hb);(try clear hb2);(try clear hk);(try clear hi)));try go_wp2_with (first|(go_at_call 45;(with_reducible refine(slices_Index_int.calls k2 _ _ (rd_L1 l0_0 x18_1) x24_2 t530 _ ?side1 ?side2 A13.out).mono ?_);(case side1=>exact zcc ((Kd.C_below HR529_0.out HB.out)));(case side2=>exact HC529_0.out);rintro e w' ⟨rfl,⟨nd,rfl⟩⟩;(try first|exact⟨rfl,_,World.drewN_drewN _ _ _⟩|exact⟨rfl,_,Eq.trans (World.drewN_drewN _ _ _) (congrArg (World.drewN _) (Nat.add_assoc _ _ _))⟩);obtain⟨Ao24,co24,eo24⟩:=Kd.R_slice HO_7.out;subst eo24;have p531: 0≤ (x18_1:Int):=of_decide_eq_true zq1;have q531:x18_1< (t526.length:Int):=of_decide_eq_true zq1;obtain⟨ad531,e531,hx531_0⟩:=Kd.at_int (Kd.R_reads' HO_7.out).2.2 x18_1 p531 q531;cases e531;replace p531:=eq_true p531;replace q531:=eq_true q531)|(go_at_call 63;(with_reducible refine(impl_takes.calls k2 _ _ l0_0 _ _ l0_1 _ _ l0_2 _ _ l1 x24_2 x18_1 t532 false _ ?side1 ?side2 ?side3 ?side4 ?side5 ?side6 ?side7 ?side8 A18.out).mono ?_);(case side1=>repeat(first|exact(Kd.C_below HR0_0.out (by exact zk2 HB GE525.out))|(with_reducible refine Kd.C_alloc ?_ _)|(with_reducible refine Kd.C_drewN ?_ _)|(with_reducible refine Kd.C_drew ?_)));(case side2=>exact HC0_0.out);(case side3=>repeat(first|exact(Kd.C_below HR0_1.out (by exact zk2 HB GE525.out))|(with_reducible refine Kd.C_alloc ?_ _)|(with_reducible refine Kd.C_drewN ?_ _)|(with_reducible refine Kd.C_drew ?_)));(case side4=>exact HC0_1.out);(case side5=>repeat(first|exact(Kd.C_below HR0_2.out (by exact zk2 HB GE525.out))|(with_reducible refine Kd.C_alloc ?_ _)|(with_reducible refine Kd.C_drewN ?_ _)|(with_reducible refine Kd.C_drew ?_)));(case side6=>exact HC0_2.out);(case side7=>repeat(first|exact(Kd.C_below HR1.out (by exact zk2 HB GE525.out))|(with_reducible refine Kd.C_alloc ?_ _)|(with_reducible refine Kd.C_drewN ?_ _)|(with_reducible refine Kd.C_drew ?_)));(case side8=>exact HC1.out);rintro e w25 ⟨rfl,hb⟩;replace HO_7:=Aside0.mk (Kd.R_below (zq4 HO_7) hb);replace BK525:=Aside0.mk (blk_below (g:=gb525) (o:= .cells #[.slice (some ad529) l0_0.length c0_0,.slice A0_1 l0_1.length c0_1,.slice A0_2 l0_2.length c0_2] 33 (0,0)) (zq3 BK525) hb);replace HB:=Aside0.mk (below_step (by exact zk2 HB GE525.out) hb);(try clear hb);(try clear hb2);(try clear hk);(try clear hi))))
         go_roundg k2
         case measure=>have:=HK1.out;have:=HK2.out;omega
         case rel=>exact⟨(wrap64 (x24_2+1)),zrs,H',⟨by have:=HK1.out;have:=HK2.out;omega⟩,⟨zdr HO_7⟩,⟨by(with_reducible repeat(first|refine blk_drewN ?_ _|refine blk_drew ?_ |refine blk_alloc ?_ _));exact BK525.out⟩,⟨by exact zk2 HB GE525.out⟩⟩
      ·rw [if_neg c10] at H
       have c10b0:decide (x24_2< (l0_1.length:Int))=false:=decide_eq_false c10
       clear c10
       have H':=Aside0.mk H
       clear H
       go_wp2
       repeat(go_quiet (fail);try go_wp2)
       go_roundg k2
       case measure=>have:=HK1.out;have:=HK2.out;omega
       case rel=>exact⟨(wrap64 (x18_1+1)),zrs,H',⟨by have:=HK1.out;have:=HK2.out;omega⟩,⟨zdr HO_7⟩,⟨by(with_reducible repeat(first|refine blk_drewN ?_ _|refine blk_drew ?_ |refine blk_alloc ?_ _));exact BK525.out⟩,⟨by exact zk2 HB GE525.out⟩⟩
   ·rw [if_neg c8] at H
    have c8b0:decide (x18_1< (l0_0.length:Int))=false:=decide_eq_false c8
    clear c8
    simp only [Option.some.injEq,Prod.mk.injEq] at H
    obtain⟨rfl,rfl,rfl⟩:=H
    go_wp2
    repeat(go_quiet (fail);try go_wp2)
    go_ret3
    exact⟨zer,by exact zk2 HB GE525.out⟩
def impl_IsStable.f (k:Nat) (l0_0:List (List Int)) (l0_1:List (List Int)) (l0_2:List Int) (l1:List Int):Option (Bool × Bool):=(impl_GoodMatch.f k l0_0 l0_1 l0_2 l1).bind fun t535=>(if t535=true then((impl_blocking.f k l0_0 l0_1 l0_2 l1).bind fun bt536=>(some (!bt536.2.2,true))) else(some (false,false)))
set_option maxHeartbeats 8000000 in
set_option maxRecDepth 100000 in
theorem impl_IsStable.calls (k:Nat) (A0_0:Option Addr) (c0_0:Nat) (l0_0:List (List Int)) (A0_1:Option Addr) (c0_1:Nat) (l0_1:List (List Int)) (A0_2:Option Addr) (c0_2:Nat) (l0_2:List Int) (A1:Option Addr) (c1:Nat) (l1:List Int) (r1:Bool) (r2:Bool) (w:World) (hr0_0:Kd.C (Kd.slice 3 (Kd.int .i64)) w A0_0 l0_0.length l0_0) (hc0_0:l0_0.length≤c0_0) (hr0_1:Kd.C (Kd.slice 3 (Kd.int .i64)) w A0_1 l0_1.length l0_1) (hc0_1:l0_1.length≤c0_1) (hr0_2:Kd.C (Kd.int .i64) w A0_2 l0_2.length l0_2) (hc0_2:l0_2.length≤c0_2) (hr1:Kd.C (Kd.int .i64) w A1 l1.length l1) (hc1:l1.length≤c1) (h:impl_IsStable.f k l0_0 l0_1 l0_2 l1=some (r1,r2)):
  Calls Try.prog 32 #[.agg #[.slice A0_0 l0_0.length c0_0,.slice A0_1 l0_1.length c0_1,.slice A0_2 l0_2.length c0_2],.slice A1 l1.length c1] w fun e w'=>e= .returned (.tuple #[.bool r1,.bool r2])∧Below w.heap.size w w':=by
 have hu33:=Try.underlying33
 have HR0_0:=Aside0.mk hr0_0
 have HC0_0:=Aside0.mk hc0_0
 clear hr0_0 hc0_0
 have HR0_1:=Aside0.mk hr0_1
 have HC0_1:=Aside0.mk hc0_1
 clear hr0_1 hc0_1
 have HR0_2:=Aside0.mk hr0_2
 have HC0_2:=Aside0.mk hc0_2
 clear hr0_2 hc0_2
 have HR1:=Aside0.mk hr1
 have HC1:=Aside0.mk hc1
 clear hr1 hc1
 have HB:=Aside0.mk (Below.refl w.heap.size w)
 have H:((impl_GoodMatch.f k l0_0 l0_1 l0_2 l1).bind fun t535=>(if t535=true then((impl_blocking.f k l0_0 l0_1 l0_2 l1).bind fun bt536=>(some (!bt536.2.2,true))) else(some (false,false))))=some (r1,r2):=h
 clear h
 replace H:=Option.bind_eq_some_iff.mp H
 obtain⟨t535,A30,H⟩:=H
 replace H:(if t535=true then((impl_blocking.f k l0_0 l0_1 l0_2 l1).bind fun bt536=>(some (!bt536.2.2,true))) else(some (false,false)))=some (r1,r2):=H
 have A3:=Aside0.mk A30
 clear A30
 by_cases c4:t535=true
 ·subst c4
  have H1:((impl_blocking.f k l0_0 l0_1 l0_2 l1).bind fun bt536=>(some (!bt536.2.2,true)))=some (r1,r2):=by rw [if_pos rfl] at H;exact H
  clear H
  have H:=H1
  clear H1
  replace H:=Option.bind_eq_some_iff.mp H
  obtain⟨⟨t536,t537,t538⟩,A50,H⟩:=H
  replace H:(some (!t538,true))=some (r1,r2):=H
  have A5:=Aside0.mk A50
  clear A50
  simp only [Option.some.injEq,Prod.mk.injEq] at H
  obtain⟨rfl,rfl⟩:=H
  go_enter Try.func32,Try.ntmps32
  go_wp2_with (first|((with_reducible refine gate_dst (N:=2) rfl ?_);refine box_event ?hg (N:=2) ?hd (cs:= #[.slice A0_0 l0_0.length c0_0,.slice A0_1 l0_1.length c0_1,.slice A0_2 l0_2.length c0_2]) (t:=33) ?hr ?_;(case hd=>rfl);(case hg=>rfl);(case hr=>first|(go_simp;done)|(go_simp;rfl));intro gb534 hg w6 hbox hb;have BK534:=Aside0.mk (hbox);have GW534:=Aside0.mk ((by rw [hg];exact(below_size (by exact zk1 HB)):w.heap.size≤gb534));have GE534:=GW534;replace HB:=Aside0.mk (below_step (by exact zk1 HB) hb);clear hb hbox hg;have hcz7_0:=zcz BK534 0 (.slice A0_0 l0_0.length c0_0);have hcz7_1:=zcz BK534 1 (.slice A0_1 l0_1.length c0_1);have hcz7_2:=zcz BK534 2 (.slice A0_2 l0_2.length c0_2);have hfz7_0:=blk_frozen BK534.out 0;have hfz7_1:=blk_frozen BK534.out 1;have hfz7_2:=blk_frozen BK534.out 2)|((with_reducible refine gate_callee (f:=23) rfl ?_);refine goesL_ (some 11) rfl rfl Try.func23 (by kernel_rfl) rfl #[.agg #[.slice A0_0 l0_0.length c0_0,.slice A0_1 l0_1.length c0_1,.slice A0_2 l0_2.length c0_2],.slice A1 l1.length c1] rfl zq2 ?_;(with_reducible refine(impl_GoodMatch.calls k _ _ l0_0 _ _ l0_1 _ _ l0_2 _ _ l1 true _ ?side1 ?side2 ?side3 ?side4 ?side5 ?side6 ?side7 ?side8 A3.out).mono ?_);(case side1=>exact zcc ((Kd.C_below HR0_0.out HB.out)));(case side2=>exact HC0_0.out);(case side3=>exact zcc ((Kd.C_below HR0_1.out HB.out)));(case side4=>exact HC0_1.out);(case side5=>exact zcc ((Kd.C_below HR0_2.out HB.out)));(case side6=>exact HC0_2.out);(case side7=>exact zcc ((Kd.C_below HR1.out HB.out)));(case side8=>exact HC1.out);rintro e w8 ⟨rfl,hb⟩;refine⟨_,rfl,?_⟩;replace BK534:=Aside0.mk (blk_below (g:=gb534) (o:= .cells #[.slice A0_0 l0_0.length c0_0,.slice A0_1 l0_1.length c0_1,.slice A0_2 l0_2.length c0_2] 33 (0,0)) (zq3 BK534) hb);replace HB:=Aside0.mk (below_step (by exact zk2 HB GE534.out) hb);(try clear hb);(try clear hb2);(try clear hk);(try clear hi);have hcz9_0:=zcz BK534 0 (.slice A0_0 l0_0.length c0_0);have hcz9_1:=zcz BK534 1 (.slice A0_1 l0_1.length c0_1);have hcz9_2:=zcz BK534 2 (.slice A0_2 l0_2.length c0_2);have hfz9_0:=blk_frozen BK534.out 0;have hfz9_1:=blk_frozen BK534.out 1;have hfz9_2:=blk_frozen BK534.out 2)|((with_reducible refine gate_callee (f:=60) rfl ?_);refine goesL_ (some 16) rfl rfl Try.func60 (by kernel_rfl) rfl #[.agg #[.slice A0_0 l0_0.length c0_0,.slice A0_1 l0_1.length c0_1,.slice A0_2 l0_2.length c0_2],.slice A1 l1.length c1] rfl zq2 ?_;(with_reducible refine(impl_blocking.calls k _ _ l0_0 _ _ l0_1 _ _ l0_2 _ _ l1 t536 t537 t538 _ ?side1 ?side2 ?side3 ?side4 ?side5 ?side6 ?side7 ?side8 A5.out).mono ?_);(case side1=>exact zcc ((Kd.C_below HR0_0.out HB.out)));(case side2=>exact HC0_0.out);(case side3=>exact zcc ((Kd.C_below HR0_1.out HB.out)));(case side4=>exact HC0_1.out);(case side5=>exact zcc ((Kd.C_below HR0_2.out HB.out)));(case side6=>exact HC0_2.out);(case side7=>exact zcc ((Kd.C_below HR1.out HB.out)));(case side8=>exact HC1.out);rintro e w10 ⟨rfl,hb⟩;refine⟨_,rfl,?_⟩;replace BK534:=Aside0.mk (blk_below (g:=gb534) (o:= .cells #[.slice A0_0 l0_0.length c0_0,.slice A0_1 l0_1.length c0_1,.slice A0_2 l0_2.length c0_2] 33 (0,0)) (zq3 BK534) hb);replace HB:=Aside0.mk (below_step (by exact zk2 HB GE534.out) hb);(try clear hb);(try clear hb2);(try clear hk);(try clear hi)))
  go_ret2
  exact⟨zer,by exact zk2 HB GE534.out⟩
 ·replace c4:=Bool.eq_false_iff.mpr c4
  subst c4
  have H1:(some (false,false))=some (r1,r2):=by rw [if_neg (show ¬ (false=true) by decide)] at H;exact H
  clear H
  have H:=H1
  clear H1
  simp only [Option.some.injEq,Prod.mk.injEq] at H
  obtain⟨rfl,rfl⟩:=H
  go_enter Try.func32,Try.ntmps32
  go_wp2_with (first|((with_reducible refine gate_dst (N:=2) rfl ?_);refine box_event ?hg (N:=2) ?hd (cs:= #[.slice A0_0 l0_0.length c0_0,.slice A0_1 l0_1.length c0_1,.slice A0_2 l0_2.length c0_2]) (t:=33) ?hr ?_;(case hd=>rfl);(case hg=>rfl);(case hr=>first|(go_simp;done)|(go_simp;rfl));intro gb534 hg w11 hbox hb;have BK534:=Aside0.mk (hbox);have GW534:=Aside0.mk ((by rw [hg];exact(below_size (by exact zk1 HB)):w.heap.size≤gb534));have GE534:=GW534;replace HB:=Aside0.mk (below_step (by exact zk1 HB) hb);clear hb hbox hg;have hcz12_0:=zcz BK534 0 (.slice A0_0 l0_0.length c0_0);have hcz12_1:=zcz BK534 1 (.slice A0_1 l0_1.length c0_1);have hcz12_2:=zcz BK534 2 (.slice A0_2 l0_2.length c0_2);have hfz12_0:=blk_frozen BK534.out 0;have hfz12_1:=blk_frozen BK534.out 1;have hfz12_2:=blk_frozen BK534.out 2)|((with_reducible refine gate_callee (f:=23) rfl ?_);refine goesL_ (some 11) rfl rfl Try.func23 (by kernel_rfl) rfl #[.agg #[.slice A0_0 l0_0.length c0_0,.slice A0_1 l0_1.length c0_1,.slice A0_2 l0_2.length c0_2],.slice A1 l1.length c1] rfl zq2 ?_;(with_reducible refine(impl_GoodMatch.calls k _ _ l0_0 _ _ l0_1 _ _ l0_2 _ _ l1 false _ ?side1 ?side2 ?side3 ?side4 ?side5 ?side6 ?side7 ?side8 A3.out).mono ?_);(case side1=>exact zcc ((Kd.C_below HR0_0.out HB.out)));(case side2=>exact HC0_0.out);(case side3=>exact zcc ((Kd.C_below HR0_1.out HB.out)));(case side4=>exact HC0_1.out);(case side5=>exact zcc ((Kd.C_below HR0_2.out HB.out)));(case side6=>exact HC0_2.out);(case side7=>exact zcc ((Kd.C_below HR1.out HB.out)));(case side8=>exact HC1.out);rintro e w13 ⟨rfl,hb⟩;refine⟨_,rfl,?_⟩;replace BK534:=Aside0.mk (blk_below (g:=gb534) (o:= .cells #[.slice A0_0 l0_0.length c0_0,.slice A0_1 l0_1.length c0_1,.slice A0_2 l0_2.length c0_2] 33 (0,0)) (zq3 BK534) hb);replace HB:=Aside0.mk (below_step (by exact zk2 HB GE534.out) hb);(try clear hb);(try clear hb2);(try clear hk);(try clear hi)))
  go_ret2
  exact⟨zer,by exact zk2 HB GE534.out⟩
def spec_BlockingIn.f (k:Nat) (l0_0:List (List Int)) (l0_1:List (List Int)) (l0_2:List Int) (l1:List Int):Option (Int × Int × Bool):=(spec_GoodMatch.f k l0_0 l0_1 l0_2 l1).bind fun t585=>(if t585=true then((spec_l12Block.f k l0_0 l0_1 l0_2 l1).bind fun bt586=>(if bt586.1< 0 then(some (0,0,false)) else(some (bt586.1,bt586.2,true)))) else(some (0,0,false)))
set_option maxHeartbeats 8000000 in
set_option maxRecDepth 100000 in
theorem spec_BlockingIn.calls (k:Nat) (A0_0:Option Addr) (c0_0:Nat) (l0_0:List (List Int)) (A0_1:Option Addr) (c0_1:Nat) (l0_1:List (List Int)) (A0_2:Option Addr) (c0_2:Nat) (l0_2:List Int) (A1:Option Addr) (c1:Nat) (l1:List Int) (r1:Int) (r2:Int) (r3:Bool) (w:World) (hr0_0:Kd.C (Kd.slice 3 (Kd.int .i64)) w A0_0 l0_0.length l0_0) (hc0_0:l0_0.length≤c0_0) (hr0_1:Kd.C (Kd.slice 3 (Kd.int .i64)) w A0_1 l0_1.length l0_1) (hc0_1:l0_1.length≤c0_1) (hr0_2:Kd.C (Kd.int .i64) w A0_2 l0_2.length l0_2) (hc0_2:l0_2.length≤c0_2) (hr1:Kd.C (Kd.int .i64) w A1 l1.length l1) (hc1:l1.length≤c1) (h:spec_BlockingIn.f k l0_0 l0_1 l0_2 l1=some (r1,r2,r3)):
  Calls Try.prog 33 #[.agg #[.slice A0_0 l0_0.length c0_0,.slice A0_1 l0_1.length c0_1,.slice A0_2 l0_2.length c0_2],.slice A1 l1.length c1] w fun e w'=>e= .returned (.tuple #[.int .i64 r1,.int .i64 r2,.bool r3])∧Below w.heap.size w w':=by
 have hu33:=Try.underlying33
 have HR0_0:=Aside0.mk hr0_0
 have HC0_0:=Aside0.mk hc0_0
 clear hr0_0 hc0_0
 have HR0_1:=Aside0.mk hr0_1
 have HC0_1:=Aside0.mk hc0_1
 clear hr0_1 hc0_1
 have HR0_2:=Aside0.mk hr0_2
 have HC0_2:=Aside0.mk hc0_2
 clear hr0_2 hc0_2
 have HR1:=Aside0.mk hr1
 have HC1:=Aside0.mk hc1
 clear hr1 hc1
 have HB:=Aside0.mk (Below.refl w.heap.size w)
 have H:((spec_GoodMatch.f k l0_0 l0_1 l0_2 l1).bind fun t585=>(if t585=true then((spec_l12Block.f k l0_0 l0_1 l0_2 l1).bind fun bt586=>(if bt586.1< 0 then(some (0,0,false)) else(some (bt586.1,bt586.2,true)))) else(some (0,0,false))))=some (r1,r2,r3):=h
 clear h
 replace H:=Option.bind_eq_some_iff.mp H
 obtain⟨t585,A30,H⟩:=H
 replace H:(if t585=true then((spec_l12Block.f k l0_0 l0_1 l0_2 l1).bind fun bt586=>(if bt586.1< 0 then(some (0,0,false)) else(some (bt586.1,bt586.2,true)))) else(some (0,0,false)))=some (r1,r2,r3):=H
 have A3:=Aside0.mk A30
 clear A30
 by_cases c4:t585=true
 ·subst c4
  have H1:((spec_l12Block.f k l0_0 l0_1 l0_2 l1).bind fun bt586=>(if bt586.1< 0 then(some (0,0,false)) else(some (bt586.1,bt586.2,true))))=some (r1,r2,r3):=by rw [if_pos rfl] at H;exact H
  clear H
  have H:=H1
  clear H1
  replace H:=Option.bind_eq_some_iff.mp H
  obtain⟨⟨t586,t587⟩,A50,H⟩:=H
  replace H:(if t586< 0 then(some (0,0,false)) else(some (t586,t587,true)))=some (r1,r2,r3):=H
  have A5:=Aside0.mk A50
  clear A50
  by_cases c6:t586< 0
  ·rw [if_pos c6] at H
   have c6b0:decide (t586< 0)=true:=decide_eq_true c6
   clear c6
   simp only [Option.some.injEq,Prod.mk.injEq] at H
   obtain⟨rfl,rfl,rfl⟩:=H
   go_enter Try.func33,Try.ntmps33
   go_wp2_with (first|((with_reducible refine gate_dst (N:=2) rfl ?_);refine box_event ?hg (N:=2) ?hd (cs:= #[.slice A0_0 l0_0.length c0_0,.slice A0_1 l0_1.length c0_1,.slice A0_2 l0_2.length c0_2]) (t:=33) ?hr ?_;(case hd=>rfl);(case hg=>rfl);(case hr=>first|(go_simp;done)|(go_simp;rfl));intro gb584 hg w7 hbox hb;have BK584:=Aside0.mk (hbox);have GW584:=Aside0.mk ((by rw [hg];exact(below_size (by exact zk1 HB)):w.heap.size≤gb584));have GE584:=GW584;replace HB:=Aside0.mk (below_step (by exact zk1 HB) hb);clear hb hbox hg;have hcz8_0:=zcz BK584 0 (.slice A0_0 l0_0.length c0_0);have hcz8_1:=zcz BK584 1 (.slice A0_1 l0_1.length c0_1);have hcz8_2:=zcz BK584 2 (.slice A0_2 l0_2.length c0_2);have hfz8_0:=blk_frozen BK584.out 0;have hfz8_1:=blk_frozen BK584.out 1;have hfz8_2:=blk_frozen BK584.out 2)|((with_reducible refine gate_callee (f:=22) rfl ?_);refine goesL_ (some 11) rfl rfl Try.func22 (by kernel_rfl) rfl #[.agg #[.slice A0_0 l0_0.length c0_0,.slice A0_1 l0_1.length c0_1,.slice A0_2 l0_2.length c0_2],.slice A1 l1.length c1] rfl zq2 ?_;(with_reducible refine(spec_GoodMatch.calls k _ _ l0_0 _ _ l0_1 _ _ l0_2 _ _ l1 true _ ?side1 ?side2 ?side3 ?side4 ?side5 ?side6 ?side7 ?side8 A3.out).mono ?_);(case side1=>exact zcc ((Kd.C_below HR0_0.out HB.out)));(case side2=>exact HC0_0.out);(case side3=>exact zcc ((Kd.C_below HR0_1.out HB.out)));(case side4=>exact HC0_1.out);(case side5=>exact zcc ((Kd.C_below HR0_2.out HB.out)));(case side6=>exact HC0_2.out);(case side7=>exact zcc ((Kd.C_below HR1.out HB.out)));(case side8=>exact HC1.out);rintro e w9 ⟨rfl,hb⟩;refine⟨_,rfl,?_⟩;replace BK584:=Aside0.mk (blk_below (g:=gb584) (o:= .cells #[.slice A0_0 l0_0.length c0_0,.slice A0_1 l0_1.length c0_1,.slice A0_2 l0_2.length c0_2] 33 (0,0)) (zq3 BK584) hb);replace HB:=Aside0.mk (below_step (by exact zk2 HB GE584.out) hb);(try clear hb);(try clear hb2);(try clear hk);(try clear hi);have hcz10_0:=zcz BK584 0 (.slice A0_0 l0_0.length c0_0);have hcz10_1:=zcz BK584 1 (.slice A0_1 l0_1.length c0_1);have hcz10_2:=zcz BK584 2 (.slice A0_2 l0_2.length c0_2);have hfz10_0:=blk_frozen BK584.out 0;have hfz10_1:=blk_frozen BK584.out 1;have hfz10_2:=blk_frozen BK584.out 2)|((with_reducible refine gate_callee (f:=59) rfl ?_);refine goesL_ (some 16) rfl rfl Try.func59 (by kernel_rfl) rfl #[.agg #[.slice A0_0 l0_0.length c0_0,.slice A0_1 l0_1.length c0_1,.slice A0_2 l0_2.length c0_2],.slice A1 l1.length c1] rfl zq2 ?_;(with_reducible refine(spec_l12Block.calls k _ _ l0_0 _ _ l0_1 _ _ l0_2 _ _ l1 t586 t587 _ ?side1 ?side2 ?side3 ?side4 ?side5 ?side6 ?side7 ?side8 A5.out).mono ?_);(case side1=>exact zcc ((Kd.C_below HR0_0.out HB.out)));(case side2=>exact HC0_0.out);(case side3=>exact zcc ((Kd.C_below HR0_1.out HB.out)));(case side4=>exact HC0_1.out);(case side5=>exact zcc ((Kd.C_below HR0_2.out HB.out)));(case side6=>exact HC0_2.out);(case side7=>exact zcc ((Kd.C_below HR1.out HB.out)));(case side8=>exact HC1.out);rintro e w11 ⟨rfl,hb⟩;refine⟨_,rfl,?_⟩;replace BK584:=Aside0.mk (blk_below (g:=gb584) (o:= .cells #[.slice A0_0 l0_0.length c0_0,.slice A0_1 l0_1.length c0_1,.slice A0_2 l0_2.length c0_2] 33 (0,0)) (zq3 BK584) hb);replace HB:=Aside0.mk (below_step (by exact zk2 HB GE584.out) hb);(try clear hb);(try clear hb2);(try clear hk);(try clear hi)))
   go_ret3
   exact⟨zer,by exact zk2 HB GE584.out⟩
  ·rw [if_neg c6] at H
   have c6b0:decide (t586< 0)=false:=decide_eq_false c6
   clear c6
   simp only [Option.some.injEq,Prod.mk.injEq] at H
   obtain⟨rfl,rfl,rfl⟩:=H
   go_enter Try.func33,Try.ntmps33
   go_wp2_with (first|((with_reducible refine gate_dst (N:=2) rfl ?_);refine box_event ?hg (N:=2) ?hd (cs:= #[.slice A0_0 l0_0.length c0_0,.slice A0_1 l0_1.length c0_1,.slice A0_2 l0_2.length c0_2]) (t:=33) ?hr ?_;(case hd=>rfl);(case hg=>rfl);(case hr=>first|(go_simp;done)|(go_simp;rfl));intro gb584 hg w12 hbox hb;have BK584:=Aside0.mk (hbox);have GW584:=Aside0.mk ((by rw [hg];exact(below_size (by exact zk1 HB)):w.heap.size≤gb584));have GE584:=GW584;replace HB:=Aside0.mk (below_step (by exact zk1 HB) hb);clear hb hbox hg;have hcz13_0:=zcz BK584 0 (.slice A0_0 l0_0.length c0_0);have hcz13_1:=zcz BK584 1 (.slice A0_1 l0_1.length c0_1);have hcz13_2:=zcz BK584 2 (.slice A0_2 l0_2.length c0_2);have hfz13_0:=blk_frozen BK584.out 0;have hfz13_1:=blk_frozen BK584.out 1;have hfz13_2:=blk_frozen BK584.out 2)|((with_reducible refine gate_callee (f:=22) rfl ?_);refine goesL_ (some 11) rfl rfl Try.func22 (by kernel_rfl) rfl #[.agg #[.slice A0_0 l0_0.length c0_0,.slice A0_1 l0_1.length c0_1,.slice A0_2 l0_2.length c0_2],.slice A1 l1.length c1] rfl zq2 ?_;(with_reducible refine(spec_GoodMatch.calls k _ _ l0_0 _ _ l0_1 _ _ l0_2 _ _ l1 true _ ?side1 ?side2 ?side3 ?side4 ?side5 ?side6 ?side7 ?side8 A3.out).mono ?_);(case side1=>exact zcc ((Kd.C_below HR0_0.out HB.out)));(case side2=>exact HC0_0.out);(case side3=>exact zcc ((Kd.C_below HR0_1.out HB.out)));(case side4=>exact HC0_1.out);(case side5=>exact zcc ((Kd.C_below HR0_2.out HB.out)));(case side6=>exact HC0_2.out);(case side7=>exact zcc ((Kd.C_below HR1.out HB.out)));(case side8=>exact HC1.out);rintro e w14 ⟨rfl,hb⟩;refine⟨_,rfl,?_⟩;replace BK584:=Aside0.mk (blk_below (g:=gb584) (o:= .cells #[.slice A0_0 l0_0.length c0_0,.slice A0_1 l0_1.length c0_1,.slice A0_2 l0_2.length c0_2] 33 (0,0)) (zq3 BK584) hb);replace HB:=Aside0.mk (below_step (by exact zk2 HB GE584.out) hb);(try clear hb);(try clear hb2);(try clear hk);(try clear hi);have hcz15_0:=zcz BK584 0 (.slice A0_0 l0_0.length c0_0);have hcz15_1:=zcz BK584 1 (.slice A0_1 l0_1.length c0_1);have hcz15_2:=zcz BK584 2 (.slice A0_2 l0_2.length c0_2);have hfz15_0:=blk_frozen BK584.out 0;have hfz15_1:=blk_frozen BK584.out 1;have hfz15_2:=blk_frozen BK584.out 2)|((with_reducible refine gate_callee (f:=59) rfl ?_);refine goesL_ (some 16) rfl rfl Try.func59 (by kernel_rfl) rfl #[.agg #[.slice A0_0 l0_0.length c0_0,.slice A0_1 l0_1.length c0_1,.slice A0_2 l0_2.length c0_2],.slice A1 l1.length c1] rfl zq2 ?_;(with_reducible refine(spec_l12Block.calls k _ _ l0_0 _ _ l0_1 _ _ l0_2 _ _ l1 t586 t587 _ ?side1 ?side2 ?side3 ?side4 ?side5 ?side6 ?side7 ?side8 A5.out).mono ?_);(case side1=>exact zcc ((Kd.C_below HR0_0.out HB.out)));(case side2=>exact HC0_0.out);(case side3=>exact zcc ((Kd.C_below HR0_1.out HB.out)));(case side4=>exact HC0_1.out);(case side5=>exact zcc ((Kd.C_below HR0_2.out HB.out)));(case side6=>exact HC0_2.out);(case side7=>exact zcc ((Kd.C_below HR1.out HB.out)));(case side8=>exact HC1.out);rintro e w16 ⟨rfl,hb⟩;refine⟨_,rfl,?_⟩;replace BK584:=Aside0.mk (blk_below (g:=gb584) (o:= .cells #[.slice A0_0 l0_0.length c0_0,.slice A0_1 l0_1.length c0_1,.slice A0_2 l0_2.length c0_2] 33 (0,0)) (zq3 BK584) hb);replace HB:=Aside0.mk (below_step (by exact zk2 HB GE584.out) hb);(try clear hb);(try clear hb2);(try clear hk);(try clear hi)))
   go_ret3
   exact⟨zer,by exact zk2 HB GE584.out⟩
 ·replace c4:=Bool.eq_false_iff.mpr c4
  subst c4
  have H1:(some (0,0,false))=some (r1,r2,r3):=by rw [if_neg (show ¬ (false=true) by decide)] at H;exact H
  clear H
  have H:=H1
  clear H1
  simp only [Option.some.injEq,Prod.mk.injEq] at H
  obtain⟨rfl,rfl,rfl⟩:=H
  go_enter Try.func33,Try.ntmps33
  go_wp2_with (first|((with_reducible refine gate_dst (N:=2) rfl ?_);refine box_event ?hg (N:=2) ?hd (cs:= #[.slice A0_0 l0_0.length c0_0,.slice A0_1 l0_1.length c0_1,.slice A0_2 l0_2.length c0_2]) (t:=33) ?hr ?_;(case hd=>rfl);(case hg=>rfl);(case hr=>first|(go_simp;done)|(go_simp;rfl));intro gb584 hg w17 hbox hb;have BK584:=Aside0.mk (hbox);have GW584:=Aside0.mk ((by rw [hg];exact(below_size (by exact zk1 HB)):w.heap.size≤gb584));have GE584:=GW584;replace HB:=Aside0.mk (below_step (by exact zk1 HB) hb);clear hb hbox hg;have hcz18_0:=zcz BK584 0 (.slice A0_0 l0_0.length c0_0);have hcz18_1:=zcz BK584 1 (.slice A0_1 l0_1.length c0_1);have hcz18_2:=zcz BK584 2 (.slice A0_2 l0_2.length c0_2);have hfz18_0:=blk_frozen BK584.out 0;have hfz18_1:=blk_frozen BK584.out 1;have hfz18_2:=blk_frozen BK584.out 2)|((with_reducible refine gate_callee (f:=22) rfl ?_);refine goesL_ (some 11) rfl rfl Try.func22 (by kernel_rfl) rfl #[.agg #[.slice A0_0 l0_0.length c0_0,.slice A0_1 l0_1.length c0_1,.slice A0_2 l0_2.length c0_2],.slice A1 l1.length c1] rfl zq2 ?_;(with_reducible refine(spec_GoodMatch.calls k _ _ l0_0 _ _ l0_1 _ _ l0_2 _ _ l1 false _ ?side1 ?side2 ?side3 ?side4 ?side5 ?side6 ?side7 ?side8 A3.out).mono ?_);(case side1=>exact zcc ((Kd.C_below HR0_0.out HB.out)));(case side2=>exact HC0_0.out);(case side3=>exact zcc ((Kd.C_below HR0_1.out HB.out)));(case side4=>exact HC0_1.out);(case side5=>exact zcc ((Kd.C_below HR0_2.out HB.out)));(case side6=>exact HC0_2.out);(case side7=>exact zcc ((Kd.C_below HR1.out HB.out)));(case side8=>exact HC1.out);rintro e w19 ⟨rfl,hb⟩;refine⟨_,rfl,?_⟩;replace BK584:=Aside0.mk (blk_below (g:=gb584) (o:= .cells #[.slice A0_0 l0_0.length c0_0,.slice A0_1 l0_1.length c0_1,.slice A0_2 l0_2.length c0_2] 33 (0,0)) (zq3 BK584) hb);replace HB:=Aside0.mk (below_step (by exact zk2 HB GE584.out) hb);(try clear hb);(try clear hb2);(try clear hk);(try clear hi)))
  go_ret3
  exact⟨zer,by exact zk2 HB GE584.out⟩
def impl_BlockingIn.f (k:Nat) (l0_0:List (List Int)) (l0_1:List (List Int)) (l0_2:List Int) (l1:List Int):Option (Int × Int × Bool):=(impl_GoodMatch.f k l0_0 l0_1 l0_2 l1).bind fun t589=>(if t589=true then((impl_blocking.f k l0_0 l0_1 l0_2 l1).bind fun bt590=>(some (bt590.1,bt590.2.1,bt590.2.2))) else(some (0,0,false)))
set_option maxHeartbeats 8000000 in
set_option maxRecDepth 100000 in
theorem impl_BlockingIn.calls (k:Nat) (A0_0:Option Addr) (c0_0:Nat) (l0_0:List (List Int)) (A0_1:Option Addr) (c0_1:Nat) (l0_1:List (List Int)) (A0_2:Option Addr) (c0_2:Nat) (l0_2:List Int) (A1:Option Addr) (c1:Nat) (l1:List Int) (r1:Int) (r2:Int) (r3:Bool) (w:World) (hr0_0:Kd.C (Kd.slice 3 (Kd.int .i64)) w A0_0 l0_0.length l0_0) (hc0_0:l0_0.length≤c0_0) (hr0_1:Kd.C (Kd.slice 3 (Kd.int .i64)) w A0_1 l0_1.length l0_1) (hc0_1:l0_1.length≤c0_1) (hr0_2:Kd.C (Kd.int .i64) w A0_2 l0_2.length l0_2) (hc0_2:l0_2.length≤c0_2) (hr1:Kd.C (Kd.int .i64) w A1 l1.length l1) (hc1:l1.length≤c1) (h:impl_BlockingIn.f k l0_0 l0_1 l0_2 l1=some (r1,r2,r3)):
  Calls Try.prog 34 #[.agg #[.slice A0_0 l0_0.length c0_0,.slice A0_1 l0_1.length c0_1,.slice A0_2 l0_2.length c0_2],.slice A1 l1.length c1] w fun e w'=>e= .returned (.tuple #[.int .i64 r1,.int .i64 r2,.bool r3])∧Below w.heap.size w w':=by
 have hu33:=Try.underlying33
 have HR0_0:=Aside0.mk hr0_0
 have HC0_0:=Aside0.mk hc0_0
 clear hr0_0 hc0_0
 have HR0_1:=Aside0.mk hr0_1
 have HC0_1:=Aside0.mk hc0_1
 clear hr0_1 hc0_1
 have HR0_2:=Aside0.mk hr0_2
 have HC0_2:=Aside0.mk hc0_2
 clear hr0_2 hc0_2
 have HR1:=Aside0.mk hr1
 have HC1:=Aside0.mk hc1
 clear hr1 hc1
 have HB:=Aside0.mk (Below.refl w.heap.size w)
 have H:((impl_GoodMatch.f k l0_0 l0_1 l0_2 l1).bind fun t589=>(if t589=true then((impl_blocking.f k l0_0 l0_1 l0_2 l1).bind fun bt590=>(some (bt590.1,bt590.2.1,bt590.2.2))) else(some (0,0,false))))=some (r1,r2,r3):=h
 clear h
 replace H:=Option.bind_eq_some_iff.mp H
 obtain⟨t589,A30,H⟩:=H
 replace H:(if t589=true then((impl_blocking.f k l0_0 l0_1 l0_2 l1).bind fun bt590=>(some (bt590.1,bt590.2.1,bt590.2.2))) else(some (0,0,false)))=some (r1,r2,r3):=H
 have A3:=Aside0.mk A30
 clear A30
 by_cases c4:t589=true
 ·subst c4
  have H1:((impl_blocking.f k l0_0 l0_1 l0_2 l1).bind fun bt590=>(some (bt590.1,bt590.2.1,bt590.2.2)))=some (r1,r2,r3):=by rw [if_pos rfl] at H;exact H
  clear H
  have H:=H1
  clear H1
  replace H:=Option.bind_eq_some_iff.mp H
  obtain⟨⟨t590,t591,t592⟩,A50,H⟩:=H
  replace H:(some (t590,t591,t592))=some (r1,r2,r3):=H
  have A5:=Aside0.mk A50
  clear A50
  simp only [Option.some.injEq,Prod.mk.injEq] at H
  obtain⟨rfl,rfl,rfl⟩:=H
  go_enter Try.func34,Try.ntmps34
  go_wp2_with (first|((with_reducible refine gate_dst (N:=2) rfl ?_);refine box_event ?hg (N:=2) ?hd (cs:= #[.slice A0_0 l0_0.length c0_0,.slice A0_1 l0_1.length c0_1,.slice A0_2 l0_2.length c0_2]) (t:=33) ?hr ?_;(case hd=>rfl);(case hg=>rfl);(case hr=>first|(go_simp;done)|(go_simp;rfl));intro gb588 hg w6 hbox hb;have BK588:=Aside0.mk (hbox);have GW588:=Aside0.mk ((by rw [hg];exact(below_size (by exact zk1 HB)):w.heap.size≤gb588));have GE588:=GW588;replace HB:=Aside0.mk (below_step (by exact zk1 HB) hb);clear hb hbox hg;have hcz7_0:=zcz BK588 0 (.slice A0_0 l0_0.length c0_0);have hcz7_1:=zcz BK588 1 (.slice A0_1 l0_1.length c0_1);have hcz7_2:=zcz BK588 2 (.slice A0_2 l0_2.length c0_2);have hfz7_0:=blk_frozen BK588.out 0;have hfz7_1:=blk_frozen BK588.out 1;have hfz7_2:=blk_frozen BK588.out 2)|((with_reducible refine gate_callee (f:=23) rfl ?_);refine goesL_ (some 9) rfl rfl Try.func23 (by kernel_rfl) rfl #[.agg #[.slice A0_0 l0_0.length c0_0,.slice A0_1 l0_1.length c0_1,.slice A0_2 l0_2.length c0_2],.slice A1 l1.length c1] rfl zq2 ?_;(with_reducible refine(impl_GoodMatch.calls k _ _ l0_0 _ _ l0_1 _ _ l0_2 _ _ l1 true _ ?side1 ?side2 ?side3 ?side4 ?side5 ?side6 ?side7 ?side8 A3.out).mono ?_);(case side1=>exact zcc ((Kd.C_below HR0_0.out HB.out)));(case side2=>exact HC0_0.out);(case side3=>exact zcc ((Kd.C_below HR0_1.out HB.out)));(case side4=>exact HC0_1.out);(case side5=>exact zcc ((Kd.C_below HR0_2.out HB.out)));(case side6=>exact HC0_2.out);(case side7=>exact zcc ((Kd.C_below HR1.out HB.out)));(case side8=>exact HC1.out);rintro e w8 ⟨rfl,hb⟩;refine⟨_,rfl,?_⟩;replace BK588:=Aside0.mk (blk_below (g:=gb588) (o:= .cells #[.slice A0_0 l0_0.length c0_0,.slice A0_1 l0_1.length c0_1,.slice A0_2 l0_2.length c0_2] 33 (0,0)) (zq3 BK588) hb);replace HB:=Aside0.mk (below_step (by exact zk2 HB GE588.out) hb);(try clear hb);(try clear hb2);(try clear hk);(try clear hi);have hcz9_0:=zcz BK588 0 (.slice A0_0 l0_0.length c0_0);have hcz9_1:=zcz BK588 1 (.slice A0_1 l0_1.length c0_1);have hcz9_2:=zcz BK588 2 (.slice A0_2 l0_2.length c0_2);have hfz9_0:=blk_frozen BK588.out 0;have hfz9_1:=blk_frozen BK588.out 1;have hfz9_2:=blk_frozen BK588.out 2)|((with_reducible refine gate_callee (f:=60) rfl ?_);refine goesL_ (some 13) rfl rfl Try.func60 (by kernel_rfl) rfl #[.agg #[.slice A0_0 l0_0.length c0_0,.slice A0_1 l0_1.length c0_1,.slice A0_2 l0_2.length c0_2],.slice A1 l1.length c1] rfl zq2 ?_;(with_reducible refine(impl_blocking.calls k _ _ l0_0 _ _ l0_1 _ _ l0_2 _ _ l1 t590 t591 t592 _ ?side1 ?side2 ?side3 ?side4 ?side5 ?side6 ?side7 ?side8 A5.out).mono ?_);(case side1=>exact zcc ((Kd.C_below HR0_0.out HB.out)));(case side2=>exact HC0_0.out);(case side3=>exact zcc ((Kd.C_below HR0_1.out HB.out)));(case side4=>exact HC0_1.out);(case side5=>exact zcc ((Kd.C_below HR0_2.out HB.out)));(case side6=>exact HC0_2.out);(case side7=>exact zcc ((Kd.C_below HR1.out HB.out)));(case side8=>exact HC1.out);rintro e w10 ⟨rfl,hb⟩;refine⟨_,rfl,?_⟩;replace BK588:=Aside0.mk (blk_below (g:=gb588) (o:= .cells #[.slice A0_0 l0_0.length c0_0,.slice A0_1 l0_1.length c0_1,.slice A0_2 l0_2.length c0_2] 33 (0,0)) (zq3 BK588) hb);replace HB:=Aside0.mk (below_step (by exact zk2 HB GE588.out) hb);(try clear hb);(try clear hb2);(try clear hk);(try clear hi)))
  go_ret3
  exact⟨zer,by exact zk2 HB GE588.out⟩
 ·replace c4:=Bool.eq_false_iff.mpr c4
  subst c4
  have H1:(some (0,0,false))=some (r1,r2,r3):=by rw [if_neg (show ¬ (false=true) by decide)] at H;exact H
  clear H
  have H:=H1
  clear H1
  simp only [Option.some.injEq,Prod.mk.injEq] at H
  obtain⟨rfl,rfl,rfl⟩:=H
  go_enter Try.func34,Try.ntmps34
  go_wp2_with (first|((with_reducible refine gate_dst (N:=2) rfl ?_);refine box_event ?hg (N:=2) ?hd (cs:= #[.slice A0_0 l0_0.length c0_0,.slice A0_1 l0_1.length c0_1,.slice A0_2 l0_2.length c0_2]) (t:=33) ?hr ?_;(case hd=>rfl);(case hg=>rfl);(case hr=>first|(go_simp;done)|(go_simp;rfl));intro gb588 hg w11 hbox hb;have BK588:=Aside0.mk (hbox);have GW588:=Aside0.mk ((by rw [hg];exact(below_size (by exact zk1 HB)):w.heap.size≤gb588));have GE588:=GW588;replace HB:=Aside0.mk (below_step (by exact zk1 HB) hb);clear hb hbox hg;have hcz12_0:=zcz BK588 0 (.slice A0_0 l0_0.length c0_0);have hcz12_1:=zcz BK588 1 (.slice A0_1 l0_1.length c0_1);have hcz12_2:=zcz BK588 2 (.slice A0_2 l0_2.length c0_2);have hfz12_0:=blk_frozen BK588.out 0;have hfz12_1:=blk_frozen BK588.out 1;have hfz12_2:=blk_frozen BK588.out 2)|((with_reducible refine gate_callee (f:=23) rfl ?_);refine goesL_ (some 9) rfl rfl Try.func23 (by kernel_rfl) rfl #[.agg #[.slice A0_0 l0_0.length c0_0,.slice A0_1 l0_1.length c0_1,.slice A0_2 l0_2.length c0_2],.slice A1 l1.length c1] rfl zq2 ?_;(with_reducible refine(impl_GoodMatch.calls k _ _ l0_0 _ _ l0_1 _ _ l0_2 _ _ l1 false _ ?side1 ?side2 ?side3 ?side4 ?side5 ?side6 ?side7 ?side8 A3.out).mono ?_);(case side1=>exact zcc ((Kd.C_below HR0_0.out HB.out)));(case side2=>exact HC0_0.out);(case side3=>exact zcc ((Kd.C_below HR0_1.out HB.out)));(case side4=>exact HC0_1.out);(case side5=>exact zcc ((Kd.C_below HR0_2.out HB.out)));(case side6=>exact HC0_2.out);(case side7=>exact zcc ((Kd.C_below HR1.out HB.out)));(case side8=>exact HC1.out);rintro e w13 ⟨rfl,hb⟩;refine⟨_,rfl,?_⟩;replace BK588:=Aside0.mk (blk_below (g:=gb588) (o:= .cells #[.slice A0_0 l0_0.length c0_0,.slice A0_1 l0_1.length c0_1,.slice A0_2 l0_2.length c0_2] 33 (0,0)) (zq3 BK588) hb);replace HB:=Aside0.mk (below_step (by exact zk2 HB GE588.out) hb);(try clear hb);(try clear hb2);(try clear hk);(try clear hi)))
  go_ret3
  exact⟨zer,by exact zk2 HB GE588.out⟩
end Go.Proofs.Ytoipbblhmcpneaa.P
