/- Functions, walks and plain lemmas that the law FnSpread reaches, part 8. -/
import Derived.Test.YtedegfbheihopaaCFnSpread7
import Derived.Below
import Derived.Deep.Draws
import Derived.Deep.AppendLies
import Derived.Maps.AppendAt
import Derived.OwnWalk
import Derived.Laws.BytesArg
import Derived.Laws.MakeOwn
import Derived.Laws.OwnMore
import Derived.Deep.OwnRows
import Derived.Tactics
import Derived.Lib.ConvBytes
import Derived.Laws.Slices
import Derived.WalkKit
import Derived.KernelRfl
import Derived.RowKit3
import Derived.Deep.LoopGhost
import Derived.Deep.QuietTactic
import Derived.BigQuiet
import Derived.WideLaws
import Derived.Deep.DeepCutAuto
import Derived.Deep.CutBlock
import Derived.Deep.RegionHeld3
import Derived.Laws.Rows
import Derived.Lib.AppendStr
import Derived.ArgAppend
import Derived.Laws.IdiomCopy
import Derived.OrdersHeld
import Derived.Laws.BitsLemmas
import Derived.RowKit
import Derived.WalkSpells
import Derived.Lib.SliceRun
import Derived.Shelf.Abstract
import Derived.Maps.OwnSet
import Derived.Maps.OwnOps
import Derived.ProofKit
import Derived.OpenShut
import Derived.ShutString
import Derived.ChangeOld
import Derived.SizedLaws
namespace Go.Proofs.Ytedegfbheihopaa.P
open Go.RowKit Go.Proofs.YtedegfbheihopaaW.PrintWords Go.Proofs.YtedegfbheihopaaW.PrintLast Go.Proofs.YtedegfbheihopaaW.PrintMore
attribute [local go_sem] max2_int min2_int max_two min_two max_three min_three max_four min_four   -- for this text's walks alone
set_option linter.unusedVariables false
set_option linter.unusedSimpArgs false
mutual
def laws_FnSpread.j0:Nat→List Int→Int→List (S79)→Int→List Int→Bool→Bool→Option (Bool)
 | 0,_,_,_,_,_,_,_=>none
 |k+1,x1,x5,x6,x7,x8,x9,x81=>if x81=true then(some false) else(if x9=true then((impl_GroupsOf.f k x5 x6).bind fun bt980=>((impl_GoodParents.f k x8).bind fun t984=>(if t984=true then(laws_FnSpread.j1 k x1 x5 x6 x7 x8 bt980.1 (!bt980.2)) else(laws_FnSpread.j1 k x1 x5 x6 x7 x8 bt980.1 true)))) else(laws_FnSpread.j6 k x1))
def laws_FnSpread.j6:Nat→List Int→Option (Bool)
 | 0,_=>none
 |k+1,x1=>(spec_DrawSpreadOn.f k x1).bind fun bt1019=>((impl_SpreadOn.f k bt1019.1 bt1019.2).bind fun bt1023=>((spec_SpreadOn.f k bt1019.1 bt1019.2).bind fun bt1027=>((spec_DrawComesFrom.f k x1).bind fun bt1031=>((impl_ComesFrom.f k bt1031.1 bt1031.2.1 bt1031.2.2).bind fun bt1036=>((spec_ComesFrom.f k bt1031.1 bt1031.2.1 bt1031.2.2).bind fun bt1038=>((impl_OnTree.f k bt1031.1 bt1031.2.1 bt1031.2.2).bind fun bt1040=>((spec_OnTree.f k bt1031.1 bt1031.2.1 bt1031.2.2).bind fun bt1044=>(if (bt1023.2==bt1027.2)=true then((laws_sameHops.f k bt1023.1 bt1027.1).bind fun t1048=>(if t1048=true then(if (bt1036.2==bt1038.2)=true then(if bt1036.1=bt1038.1 then(if (bt1040.2==bt1044.2)=true then((laws_sameInts.f k bt1040.1 bt1044.1).bind fun t1049=>(if t1049=true then((impl_GoodParents.f k bt1019.1).bind fun t1050=>((spec_GoodParents.f k bt1019.1).bind fun t1051=>(some (t1050==t1051)))) else(some false))) else(some false)) else(some false)) else(some false)) else(some false))) else(some false)))))))))
def laws_FnSpread.j1:Nat→List Int→Int→List (S79)→Int→List Int→List Int→Bool→Option (Bool)
 | 0,_,_,_,_,_,_,_=>none
 |k+1,x1,x5,x6,x7,x8,x12,x95=>if x95=true then(some false) else(laws_FnSpread.l0 k x1 x5 x6 x7 x8 x12 0)
def laws_FnSpread.l0:Nat→List Int→Int→List (S79)→Int→List Int→List Int→Int→Option (Bool)
 | 0,_,_,_,_,_,_,_=>none
 |k+1,x1,x5,x6,x7,x8,x12,x14=>if x14<x5 then(if 0≤x14 then(if x14< (x12.length:Int) then(if 0≤x7 then(if x7< (x12.length:Int) then(if (rd x12 x14)= (rd x12 x7) then((impl_SpreadOn.f k x8 x14).bind fun bt987=>(if bt987.2=true then(laws_FnSpread.l1 k x1 x5 x6 x7 x8 x12 x14 (([x14] :List Int)) bt987.1 (bt987.1.length:Int) 0) else(some false))) else(laws_FnSpread.l0 k x1 x5 x6 x7 x8 x12 (wrap64 (x14+1)))) else(none)) else(none)) else(none)) else(none)) else((impl_FarsFrom.f k x5 x6 x7).bind fun bt1006=>(laws_FnSpread.l3 k x1 x5 x6 x7 x8 x12 bt1006.1 bt1006.2 (x8.length:Int) 0))
def laws_FnSpread.l1:Nat→List Int→Int→List (S79)→Int→List Int→List Int→Int→List Int→List (S61)→Int→Int→Option (Bool)
 | 0,_,_,_,_,_,_,_,_,_,_,_=>none
 |k+1,x1,x5,x6,x7,x8,x12,x14,x17,x120,x121,x122=>if x122<x121 then(if 0≤x122 then(if x122< (x120.length:Int) then((impl_ComesFrom.f k x8 x14 ((rd_T61 x120 x122).f1)).bind fun bt996=>(if bt996.2=true then(if bt996.1= ((rd_T61 x120 x122).f0) then((laws_has.f k x17 ((rd_T61 x120 x122).f1)).bind fun t998=>(if t998=true then(some false) else((laws_has.f k x17 ((rd_T61 x120 x122).f0)).bind fun t999=>(if t999=true then(if x17.length< 17592186044416 then(laws_FnSpread.l1 k x1 x5 x6 x7 x8 x12 x14 (x17++ [(rd_T61 x120 x122).f1]) x120 x121 (wrap64 (x122+1))) else(none)) else(some false))))) else(some false)) else(some false))) else(none)) else(none)) else(laws_FnSpread.l2 k x1 x5 x6 x7 x8 x12 x14 x17 (x12.length:Int) 0)
def laws_FnSpread.l2:Nat→List Int→Int→List (S79)→Int→List Int→List Int→Int→List Int→Int→Int→Option (Bool)
 | 0,_,_,_,_,_,_,_,_,_,_=>none
 |k+1,x1,x5,x6,x7,x8,x12,x14,x17,x162,x163=>if x163<x162 then((laws_has.f k x17 x163).bind fun t1003=>(if 0≤x163 then(if x163< (x12.length:Int) then(if 0≤x7 then(if x7< (x12.length:Int) then(if (t1003 != ((rd x12 x163)== (rd x12 x7)))=true then(some false) else(laws_FnSpread.l2 k x1 x5 x6 x7 x8 x12 x14 x17 x162 (wrap64 (x163+1)))) else(none)) else(none)) else(none)) else(none))) else(laws_FnSpread.l0 k x1 x5 x6 x7 x8 x12 (wrap64 (x14+1)))
def laws_FnSpread.l3:Nat→List Int→Int→List (S79)→Int→List Int→List Int→List Int→Bool→Int→Int→Option (Bool)
 | 0,_,_,_,_,_,_,_,_,_,_=>none
 |k+1,x1,x5,x6,x7,x8,x12,x23,x24,x188,x189=>if x189<x188 then((impl_OnTree.f k x8 x7 x189).bind fun bt1010=>((impl_CostOf.f k x5 x6 bt1010.1).bind fun bt1014=>(if x24=true then(if 0≤x189 then(if x189< (x12.length:Int) then(if 0≤x7 then(if x7< (x12.length:Int) then(if (bt1010.2 != ((rd x12 x189)== (rd x12 x7)))=true then(some false) else(if bt1010.2=true then(if bt1014.2=true then(if x189< (x23.length:Int) then(if bt1014.1= (rd x23 x189) then(laws_FnSpread.l3 k x1 x5 x6 x7 x8 x12 x23 x24 x188 (wrap64 (x189+1))) else(some false)) else(none)) else(some false)) else(laws_FnSpread.l3 k x1 x5 x6 x7 x8 x12 x23 x24 x188 (wrap64 (x189+1))))) else(none)) else(none)) else(none)) else(none)) else(some false)))) else(laws_FnSpread.j6 k x1)
end
def laws_FnSpread.f (k:Nat) (l0:List Int) (l1:List Int):Option (Bool):=if (wrap64 ((l0.length:Int)+ (l1.length:Int))) > 1048576 then(some true) else((spec_DrawTreeAt.f k l0).bind fun bt966=>((impl_TreeAt.f k bt966.1 bt966.2.1 bt966.2.2).bind fun bt971=>((spec_TreeAt.f k bt966.1 bt966.2.1 bt966.2.2).bind fun bt975=>(if (bt971.2 !=bt975.2)=true then(laws_FnSpread.j0 k l1 bt966.1 bt966.2.1 bt966.2.2 bt971.1 bt971.2 true) else((laws_sameInts.f k bt971.1 bt975.1).bind fun t979=>(laws_FnSpread.j0 k l1 bt966.1 bt966.2.1 bt966.2.2 bt971.1 bt971.2 (!t979)))))))
set_option maxHeartbeats 8000000 in
set_option maxRecDepth 100000 in
theorem laws_FnSpread.calls (k:Nat) (A0:Option Addr) (c0:Nat) (l0:List Int) (A1:Option Addr) (c1:Nat) (l1:List Int) (r:Bool) (w:World) (hr0:Kd.C (Kd.int .u8) w A0 l0.length l0) (hc0:l0.length≤c0) (hr1:Kd.C (Kd.int .u8) w A1 l1.length l1) (hc1:l1.length≤c1) (h:laws_FnSpread.f k l0 l1=some r) (hrt:r=true:=by rfl):
  Calls Try.prog 11 #[.slice A0 l0.length c0,.slice A1 l1.length c1] w fun e w'=>e= .returned (.bool r)∧Below w.heap.size w w':=by
 have HRT:=Aside0.mk hrt
 clear hrt
 have hu61:=Try.underlying61
 have HR0:=Aside0.mk hr0
 have HC0:=Aside0.mk hc0
 clear hr0 hc0
 have HR1:=Aside0.mk hr1
 have HC1:=Aside0.mk hc1
 clear hr1 hc1
 have HB:=Aside0.mk (Below.refl w.heap.size w)
 have H:(if (wrap64 ((l0.length:Int)+ (l1.length:Int))) > 1048576 then(some true) else((spec_DrawTreeAt.f k l0).bind fun bt966=>((impl_TreeAt.f k bt966.1 bt966.2.1 bt966.2.2).bind fun bt971=>((spec_TreeAt.f k bt966.1 bt966.2.1 bt966.2.2).bind fun bt975=>(if (bt971.2 !=bt975.2)=true then(laws_FnSpread.j0 k l1 bt966.1 bt966.2.1 bt966.2.2 bt971.1 bt971.2 true) else((laws_sameInts.f k bt971.1 bt975.1).bind fun t979=>(laws_FnSpread.j0 k l1 bt966.1 bt966.2.1 bt966.2.2 bt971.1 bt971.2 (!t979))))))))=some r:=h
 clear h
 by_cases c3:(wrap64 ((l0.length:Int)+ (l1.length:Int))) > 1048576
 ·rw [if_pos c3] at H
  have c3b0:decide (1048576< (wrap64 ((l0.length:Int)+ (l1.length:Int))))=true:=decide_eq_true c3
  clear c3
  as_aux_lemma=>
   obtain rfl:=Option.some.inj H
   go_enter Try.func11,Try.ntmps11
   go_wp2
   repeat(go_quiet (fail);try go_wp2)
   go_ret
   exact⟨by first|rfl|(simp [errW_none,errW_some]<;>rfl)|(simp [*,errW_none,errW_some]<;>rfl),by exact zk1 HB⟩
 ·rw [if_neg c3] at H
  have c3b0:decide (1048576< (wrap64 ((l0.length:Int)+ (l1.length:Int))))=false:=decide_eq_false c3
  clear c3
  replace H:=Option.bind_eq_some_iff.mp H
  obtain⟨⟨t966,t967,t968⟩,A40,H⟩:=H
  replace H:((impl_TreeAt.f k t966 t967 t968).bind fun bt971=>((spec_TreeAt.f k t966 t967 t968).bind fun bt975=>(if (bt971.2 !=bt975.2)=true then(laws_FnSpread.j0 k l1 t966 t967 t968 bt971.1 bt971.2 true) else((laws_sameInts.f k bt971.1 bt975.1).bind fun t979=>(laws_FnSpread.j0 k l1 t966 t967 t968 bt971.1 bt971.2 (!t979))))))=some r:=H
  have A4:=Aside0.mk A40
  clear A40
  replace H:=Option.bind_eq_some_iff.mp H
  obtain⟨⟨t971,t972⟩,A50,H⟩:=H
  replace H:((spec_TreeAt.f k t966 t967 t968).bind fun bt975=>(if (t972 !=bt975.2)=true then(laws_FnSpread.j0 k l1 t966 t967 t968 t971 t972 true) else((laws_sameInts.f k t971 bt975.1).bind fun t979=>(laws_FnSpread.j0 k l1 t966 t967 t968 t971 t972 (!t979)))))=some r:=H
  have A5:=Aside0.mk A50
  clear A50
  replace H:=Option.bind_eq_some_iff.mp H
  obtain⟨⟨t975,t976⟩,A60,H⟩:=H
  replace H:(if (t972 !=t976)=true then(laws_FnSpread.j0 k l1 t966 t967 t968 t971 t972 true) else((laws_sameInts.f k t971 t975).bind fun t979=>(laws_FnSpread.j0 k l1 t966 t967 t968 t971 t972 (!t979))))=some r:=H
  have A6:=Aside0.mk A60
  clear A60
  have HC7:=Aside0.mk H
  clear H
  go_enter Try.func11,Try.ntmps11
  go_upto_region 6 with (first|(go_at_call 44;(with_reducible refine(spec_DrawTreeAt.calls k _ _ l0 t966 t967 t968 _ ?side1 ?side2 A4.out).mono ?_);(case side1=>exact zcc (HR0.out));(case side2=>exact HC0.out);rintro e w8 ⟨v969,rfl,ho0,hb⟩;have HO970:=Aside0.mk (Kd.R_lower ho0 (below_size (by exact zk1 HB)));replace HB:=Aside0.mk (below_step (by exact zk1 HB) hb);(try clear hb);(try clear hb2);(try clear hk);(try clear hi);(try clear ho0);obtain⟨Ao9,co9,eo9⟩:=Kd.R_slice HO970.out;subst eo9)|(go_at_call 34;(with_reducible refine(impl_TreeAt.calls k t966 _ _ t967 t968 t971 t972 _ ?side1 ?side2 A5.out).mono ?_);(case side1=>exact zcc ((Kd.R_reads' HO970.out).2.2));(case side2=>exact(Kd.R_reads' HO970.out).2.1);rintro e w10 ⟨v973,rfl,ho0,hb⟩;have HO974:=Aside0.mk (Kd.R_lower ho0 (below_size (by exact zk1 HB)));replace HO970:=Aside0.mk (Kd.R_below (zq4 HO970) hb);replace HB:=Aside0.mk (below_step (by exact zk1 HB) hb);(try clear hb);(try clear hb2);(try clear hk);(try clear hi);(try clear ho0))|(go_at_call 33;(with_reducible refine(spec_TreeAt.calls k t966 _ _ t967 t968 t975 t976 _ ?side1 ?side2 A6.out).mono ?_);(case side1=>exact zcc ((Kd.R_reads' HO970.out).2.2));(case side2=>exact(Kd.R_reads' HO970.out).2.1);rintro e w11 ⟨v977,rfl,ho0,hb⟩;have HO978:=Aside0.mk (Kd.R_lower (Kd.R_new' ho0 (Kd.R_lt (zq4 HO974))) (below_size (by exact zk1 HB)));replace HO970:=Aside0.mk (Kd.R_below (zq4 HO970) hb);replace HO974:=Aside0.mk (Kd.R_elder' (zq4 HO974) (Kd.R_base ho0) hb);replace HB:=Aside0.mk (below_step (by exact zk1 HB) hb);(try clear hb);(try clear hb2);(try clear hk);(try clear hi);(try clear ho0)))
  repeat(go_quiet (first|(go_at_call 44;(with_reducible refine(spec_DrawTreeAt.calls k _ _ l0 t966 t967 t968 _ ?side1 ?side2 A4.out).mono ?_);(case side1=>exact zcc (HR0.out));(case side2=>exact HC0.out);rintro e w8 ⟨v969,rfl,ho0,hb⟩;have HO970:=Aside0.mk (Kd.R_lower ho0 (below_size (by exact zk1 HB)));replace HB:=Aside0.mk (below_step (by exact zk1 HB) hb);(try clear hb);(try clear hb2);(try clear hk);(try clear hi);(try clear ho0);obtain⟨Ao9,co9,eo9⟩:=Kd.R_slice HO970.out;subst eo9)|(go_at_call 34;(with_reducible refine(impl_TreeAt.calls k t966 _ _ t967 t968 t971 t972 _ ?side1 ?side2 A5.out).mono ?_);(case side1=>exact zcc ((Kd.R_reads' HO970.out).2.2));(case side2=>exact(Kd.R_reads' HO970.out).2.1);rintro e w10 ⟨v973,rfl,ho0,hb⟩;have HO974:=Aside0.mk (Kd.R_lower ho0 (below_size (by exact zk1 HB)));replace HO970:=Aside0.mk (Kd.R_below (zq4 HO970) hb);replace HB:=Aside0.mk (below_step (by exact zk1 HB) hb);(try clear hb);(try clear hb2);(try clear hk);(try clear hi);(try clear ho0))|(go_at_call 33;(with_reducible refine(spec_TreeAt.calls k t966 _ _ t967 t968 t975 t976 _ ?side1 ?side2 A6.out).mono ?_);(case side1=>exact zcc ((Kd.R_reads' HO970.out).2.2));(case side2=>exact(Kd.R_reads' HO970.out).2.1);rintro e w11 ⟨v977,rfl,ho0,hb⟩;have HO978:=Aside0.mk (Kd.R_lower (Kd.R_new' ho0 (Kd.R_lt (zq4 HO974))) (below_size (by exact zk1 HB)));replace HO970:=Aside0.mk (Kd.R_below (zq4 HO970) hb);replace HO974:=Aside0.mk (Kd.R_elder' (zq4 HO974) (Kd.R_base ho0) hb);replace HB:=Aside0.mk (below_step (by exact zk1 HB) hb);(try clear hb);(try clear hb2);(try clear hk);(try clear hi);(try clear ho0)));go_upto_region 6 with (first|(go_at_call 44;(with_reducible refine(spec_DrawTreeAt.calls k _ _ l0 t966 t967 t968 _ ?side1 ?side2 A4.out).mono ?_);(case side1=>exact zcc (HR0.out));(case side2=>exact HC0.out);rintro e w8 ⟨v969,rfl,ho0,hb⟩;have HO970:=Aside0.mk (Kd.R_lower ho0 (below_size (by exact zk1 HB)));replace HB:=Aside0.mk (below_step (by exact zk1 HB) hb);(try clear hb);(try clear hb2);(try clear hk);(try clear hi);(try clear ho0);obtain⟨Ao9,co9,eo9⟩:=Kd.R_slice HO970.out;subst eo9)|(go_at_call 34;(with_reducible refine(impl_TreeAt.calls k t966 _ _ t967 t968 t971 t972 _ ?side1 ?side2 A5.out).mono ?_);(case side1=>exact zcc ((Kd.R_reads' HO970.out).2.2));(case side2=>exact(Kd.R_reads' HO970.out).2.1);rintro e w10 ⟨v973,rfl,ho0,hb⟩;have HO974:=Aside0.mk (Kd.R_lower ho0 (below_size (by exact zk1 HB)));replace HO970:=Aside0.mk (Kd.R_below (zq4 HO970) hb);replace HB:=Aside0.mk (below_step (by exact zk1 HB) hb);(try clear hb);(try clear hb2);(try clear hk);(try clear hi);(try clear ho0))|(go_at_call 33;(with_reducible refine(spec_TreeAt.calls k t966 _ _ t967 t968 t975 t976 _ ?side1 ?side2 A6.out).mono ?_);(case side1=>exact zcc ((Kd.R_reads' HO970.out).2.2));(case side2=>exact(Kd.R_reads' HO970.out).2.1);rintro e w11 ⟨v977,rfl,ho0,hb⟩;have HO978:=Aside0.mk (Kd.R_lower (Kd.R_new' ho0 (Kd.R_lt (zq4 HO974))) (below_size (by exact zk1 HB)));replace HO970:=Aside0.mk (Kd.R_below (zq4 HO970) hb);replace HO974:=Aside0.mk (Kd.R_elder' (zq4 HO974) (Kd.R_base ho0) hb);replace HB:=Aside0.mk (below_step (by exact zk1 HB) hb);(try clear hb);(try clear hb2);(try clear hk);(try clear hi);(try clear ho0))))
  (try simp only [Act.put,List.setIfInBounds_toArray,List.set_cons_zero,List.set_cons_succ])
  go_cut [81] (fun v81 wc=> ∃ (kq:Nat) (x81_6:Bool),v81= .bool x81_6∧Aside0 (laws_FnSpread.j0 kq l1 t966 t967 t968 t971 t972 x81_6=some r)∧Aside0 (kq≤k)∧Aside0 (Kd.R k79 79 wc w.heap.size (fun _=>True) (.slice Ao9 t967.length co9) t967)∧Aside0 (Kd.R (Kd.int .i64) 3 wc w.heap.size (fun _=>True) v973 t971)∧Aside0 (Below w.heap.size w wc))
  case first=>
   have H:=HC7.out
   clear HC7
   by_cases c12:(t972 !=t976)=true
   ·rw [if_pos c12] at H
    have c12b0:(t972 !=t976)=true:=c12
    (try(have c12b1:decide (t972=t976)=false:=by simpa using c12))
    (try(have c12b2:(t972==t976)=false:=by simpa using c12))
    (try(have c12b3:¬ (t972=t976):=by simpa using c12))
    clear c12
    (first|rw [c12b0]|(simp only [i64_w,i32_w];rw [c12b0])|skip)
    exact absurd (H.trans (congrArg some HRT.out)) (by cases k<;>simp [laws_FnSpread.j0])
   ·rw [if_neg c12] at H
    have c12b0:(t972 !=t976)=false:=by simpa using c12
    (try(have c12b1:decide (t972=t976)=true:=by simpa using c12))
    (try(have c12b2:(t972==t976)=true:=by simpa using c12))
    clear c12
    (first|rw [c12b0]|(simp only [i64_w,i32_w];rw [c12b0])|skip)
    replace H:=Option.bind_eq_some_iff.mp H
    obtain⟨t979,A130,H⟩:=H
    replace H:(laws_FnSpread.j0 k l1 t966 t967 t968 t971 t972 (!t979))=some r:=H
    have A13:=Aside0.mk A130
    clear A130
    as_aux_lemma=>
     have H':=Aside0.mk H
     clear H
     obtain⟨Ao14,co14,eo14⟩:=Kd.R_slice HO974.out
     subst eo14
     obtain⟨Ao15,co15,eo15⟩:=Kd.R_slice HO978.out
     subst eo15
     go_wp2_with (first|(go_at_call 45;(with_reducible refine(laws_sameInts.calls k _ _ t971 _ _ t975 t979 _ ?side1 ?side2 ?side3 ?side4 A13.out).mono ?_);(case side1=>exact zcc ((Kd.R_reads' HO974.out).2.2));(case side2=>exact(Kd.R_reads' HO974.out).2.1);(case side3=>exact zcc ((Kd.R_reads' HO978.out).2.2));(case side4=>exact(Kd.R_reads' HO978.out).2.1);rintro e w' ⟨rfl,⟨nd,rfl⟩⟩;(try first|exact⟨rfl,_,World.drewN_drewN _ _ _⟩|exact⟨rfl,_,Eq.trans (World.drewN_drewN _ _ _) (congrArg (World.drewN _) (Nat.add_assoc _ _ _))⟩)))
     repeat(go_quiet (first|(go_at_call 45;(with_reducible refine(laws_sameInts.calls k _ _ t971 _ _ t975 t979 _ ?side1 ?side2 ?side3 ?side4 A13.out).mono ?_);(case side1=>exact zcc ((Kd.R_reads' HO974.out).2.2));(case side2=>exact(Kd.R_reads' HO974.out).2.1);(case side3=>exact zcc ((Kd.R_reads' HO978.out).2.2));(case side4=>exact(Kd.R_reads' HO978.out).2.1);rintro e w' ⟨rfl,⟨nd,rfl⟩⟩;(try first|exact⟨rfl,_,World.drewN_drewN _ _ _⟩|exact⟨rfl,_,Eq.trans (World.drewN_drewN _ _ _) (congrArg (World.drewN _) (Nat.add_assoc _ _ _))⟩)));try go_wp2_with (first|(go_at_call 45;(with_reducible refine(laws_sameInts.calls k _ _ t971 _ _ t975 t979 _ ?side1 ?side2 ?side3 ?side4 A13.out).mono ?_);(case side1=>exact zcc ((Kd.R_reads' HO974.out).2.2));(case side2=>exact(Kd.R_reads' HO974.out).2.1);(case side3=>exact zcc ((Kd.R_reads' HO978.out).2.2));(case side4=>exact(Kd.R_reads' HO978.out).2.1);rintro e w' ⟨rfl,⟨nd,rfl⟩⟩;(try first|exact⟨rfl,_,World.drewN_drewN _ _ _⟩|exact⟨rfl,_,Eq.trans (World.drewN_drewN _ _ _) (congrArg (World.drewN _) (Nat.add_assoc _ _ _))⟩))))
     go_meet
     case rel=>exact⟨_,(!t979),(by first|rfl|(simp;done)|(simp [*];done)),H',⟨by first|omega|exact Nat.le_refl _⟩,⟨by(with_reducible repeat(first|apply Kd.R_alloc|apply Kd.R_drewN|apply Kd.R_drew));exact HO970.out⟩,⟨by(with_reducible repeat(first|apply Kd.R_alloc|apply Kd.R_drewN|apply Kd.R_drew));exact Kd.R_mono HO974.out (fun _ hk=>trivial)⟩,⟨by exact zk1 HB⟩⟩
  case rest=>
   clear HC7
   try clear c1
   try clear p2
   try clear c3
   try clear c3b0
   try clear p6
   try clear c11
   try clear c12
   try clear c12b0
   try clear c12b1
   try clear c12b2
   obtain⟨kq,x81_6,rfl,HA,HJ6,HO_6,HO_8,HB⟩:=hcut
   cases kq with
   |zero=>exact absurd HA.out (by simp [laws_FnSpread.j0])
   |succ kj6=>
    have H:=HA.out
    clear HA
    simp only [laws_FnSpread.j0] at H
    by_cases c16:x81_6=true
    ·subst c16
     have H1:(some false)=some r:=by rw [if_pos rfl] at H;exact H
     clear H
     have H:=H1
     clear H1
     exact absurd ((Option.some.inj H).trans HRT.out) (by decide)
    ·replace c16:=Bool.eq_false_iff.mpr c16
     subst c16
     have H1:(if t972=true then((impl_GroupsOf.f kj6 t966 t967).bind fun bt980=>((impl_GoodParents.f kj6 t971).bind fun t984=>(if t984=true then(laws_FnSpread.j1 kj6 l1 t966 t967 t968 t971 bt980.1 (!bt980.2)) else(laws_FnSpread.j1 kj6 l1 t966 t967 t968 t971 bt980.1 true)))) else(laws_FnSpread.j6 kj6 l1))=some r:=by rw [if_neg (show ¬ (false=true) by decide)] at H;exact H
     clear H
     have H:=H1
     clear H1
     have HC17:=Aside0.mk H
     clear H
     go_upto_if 82 with (fail)
     repeat(go_quiet (fail);go_upto_if 82 with (fail))
     go_cut [] (fun wc=> ∃ (kq:Nat),Aside0 (laws_FnSpread.j6 kq l1=some r)∧Aside0 (kq≤kj6)∧Aside0 (Below w.heap.size w wc))
     case first=>
      have H:=HC17.out
      clear HC17
      by_cases c18:t972=true
      ·subst c18
       have H1:((impl_GroupsOf.f kj6 t966 t967).bind fun bt980=>((impl_GoodParents.f kj6 t971).bind fun t984=>(if t984=true then(laws_FnSpread.j1 kj6 l1 t966 t967 t968 t971 bt980.1 (!bt980.2)) else(laws_FnSpread.j1 kj6 l1 t966 t967 t968 t971 bt980.1 true))))=some r:=by rw [if_pos rfl] at H;exact H
       clear H
       have H:=H1
       clear H1
       replace H:=Option.bind_eq_some_iff.mp H
       obtain⟨⟨t980,t981⟩,A190,H⟩:=H
       replace H:((impl_GoodParents.f kj6 t971).bind fun t984=>(if t984=true then(laws_FnSpread.j1 kj6 l1 t966 t967 t968 t971 t980 (!t981)) else(laws_FnSpread.j1 kj6 l1 t966 t967 t968 t971 t980 true)))=some r:=H
       have A19:=Aside0.mk A190
       clear A190
       have HC20:=Aside0.mk H
       clear H
       go_upto_region 10 with (first|(go_at_call 46;(with_reducible refine(impl_GroupsOf.calls kj6 t966 _ _ t967 t980 t981 _ ?side1 ?side2 A19.out).mono ?_);(case side1=>exact zcc ((Kd.R_reads' HO_6.out).2.2));(case side2=>exact(Kd.R_reads' HO_6.out).2.1);rintro e w21 ⟨v982,rfl,ho0,hb⟩;have HO983:=Aside0.mk (Kd.R_lower (Kd.R_new' ho0 (Kd.R_lt (zq4 HO_8))) (below_size (by exact zk1 HB)));replace HO_6:=Aside0.mk (Kd.R_below (zq4 HO_6) hb);replace HO_8:=Aside0.mk (Kd.R_elder' (zq4 HO_8) (Kd.R_base ho0) hb);replace HB:=Aside0.mk (below_step (by exact zk1 HB) hb);(try clear hb);(try clear hb2);(try clear hk);(try clear hi);(try clear ho0)))
       repeat(go_quiet (first|(go_at_call 46;(with_reducible refine(impl_GroupsOf.calls kj6 t966 _ _ t967 t980 t981 _ ?side1 ?side2 A19.out).mono ?_);(case side1=>exact zcc ((Kd.R_reads' HO_6.out).2.2));(case side2=>exact(Kd.R_reads' HO_6.out).2.1);rintro e w21 ⟨v982,rfl,ho0,hb⟩;have HO983:=Aside0.mk (Kd.R_lower (Kd.R_new' ho0 (Kd.R_lt (zq4 HO_8))) (below_size (by exact zk1 HB)));replace HO_6:=Aside0.mk (Kd.R_below (zq4 HO_6) hb);replace HO_8:=Aside0.mk (Kd.R_elder' (zq4 HO_8) (Kd.R_base ho0) hb);replace HB:=Aside0.mk (below_step (by exact zk1 HB) hb);(try clear hb);(try clear hb2);(try clear hk);(try clear hi);(try clear ho0)));go_upto_region 10 with (first|(go_at_call 46;(with_reducible refine(impl_GroupsOf.calls kj6 t966 _ _ t967 t980 t981 _ ?side1 ?side2 A19.out).mono ?_);(case side1=>exact zcc ((Kd.R_reads' HO_6.out).2.2));(case side2=>exact(Kd.R_reads' HO_6.out).2.1);rintro e w21 ⟨v982,rfl,ho0,hb⟩;have HO983:=Aside0.mk (Kd.R_lower (Kd.R_new' ho0 (Kd.R_lt (zq4 HO_8))) (below_size (by exact zk1 HB)));replace HO_6:=Aside0.mk (Kd.R_below (zq4 HO_6) hb);replace HO_8:=Aside0.mk (Kd.R_elder' (zq4 HO_8) (Kd.R_base ho0) hb);replace HB:=Aside0.mk (below_step (by exact zk1 HB) hb);(try clear hb);(try clear hb2);(try clear hk);(try clear hi);(try clear ho0))))
       (try simp only [Act.put,List.setIfInBounds_toArray,List.set_cons_zero,List.set_cons_succ])
       go_cut [95] (fun v95 wc=> ∃ (kq:Nat) (x95_19:Bool),v95= .bool x95_19∧Aside0 (laws_FnSpread.j1 kq l1 t966 t967 t968 t971 t980 x95_19=some r)∧Aside0 (kq≤kj6)∧Aside0 (Kd.R k79 79 wc w.heap.size (fun _=>True) (.slice Ao9 t967.length co9) t967)∧Aside0 (Kd.R (Kd.int .i64) 3 wc w.heap.size (fun k_=>some k_≠ (v982:Value).ownBlock) v973 t971)∧Aside0 (Kd.R (Kd.int .i64) 3 wc w.heap.size (fun k_=>some k_≠ (v973:Value).ownBlock) v982 t980)∧Aside0 (Below w.heap.size w wc))
       case first=>
        have H:=HC20.out
        clear HC20
        replace H:=Option.bind_eq_some_iff.mp H
        obtain⟨t984,A220,H⟩:=H
        replace H:(if t984=true then(laws_FnSpread.j1 kj6 l1 t966 t967 t968 t971 t980 (!t981)) else(laws_FnSpread.j1 kj6 l1 t966 t967 t968 t971 t980 true))=some r:=H
        have A22:=Aside0.mk A220
        clear A220
        by_cases c23:t984=true
        ·subst c23
         have H1:(laws_FnSpread.j1 kj6 l1 t966 t967 t968 t971 t980 (!t981))=some r:=by rw [if_pos rfl] at H;exact H
         clear H
         have H:=H1
         clear H1
         as_aux_lemma=>
          have H':=Aside0.mk H
          clear H
          obtain⟨Ao24,co24,eo24⟩:=Kd.R_slice HO_8.out
          subst eo24
          go_wp2_with (first|(go_at_call 15;(with_reducible refine(impl_GoodParents.calls kj6 _ _ t971 true _ ?side1 ?side2 A22.out).mono ?_);(case side1=>exact zcc ((Kd.R_reads' HO_8.out).2.2));(case side2=>exact(Kd.R_reads' HO_8.out).2.1);rintro e w' ⟨rfl,⟨nd,rfl⟩⟩;(try first|exact⟨rfl,_,World.drewN_drewN _ _ _⟩|exact⟨rfl,_,Eq.trans (World.drewN_drewN _ _ _) (congrArg (World.drewN _) (Nat.add_assoc _ _ _))⟩)))
          repeat(go_quiet (first|(go_at_call 15;(with_reducible refine(impl_GoodParents.calls kj6 _ _ t971 true _ ?side1 ?side2 A22.out).mono ?_);(case side1=>exact zcc ((Kd.R_reads' HO_8.out).2.2));(case side2=>exact(Kd.R_reads' HO_8.out).2.1);rintro e w' ⟨rfl,⟨nd,rfl⟩⟩;(try first|exact⟨rfl,_,World.drewN_drewN _ _ _⟩|exact⟨rfl,_,Eq.trans (World.drewN_drewN _ _ _) (congrArg (World.drewN _) (Nat.add_assoc _ _ _))⟩)));try go_wp2_with (first|(go_at_call 15;(with_reducible refine(impl_GoodParents.calls kj6 _ _ t971 true _ ?side1 ?side2 A22.out).mono ?_);(case side1=>exact zcc ((Kd.R_reads' HO_8.out).2.2));(case side2=>exact(Kd.R_reads' HO_8.out).2.1);rintro e w' ⟨rfl,⟨nd,rfl⟩⟩;(try first|exact⟨rfl,_,World.drewN_drewN _ _ _⟩|exact⟨rfl,_,Eq.trans (World.drewN_drewN _ _ _) (congrArg (World.drewN _) (Nat.add_assoc _ _ _))⟩))))
          go_meet
          case rel=>exact⟨_,(!t981),(by first|rfl|(simp;done)|(simp [*];done)),H',⟨by have:=HJ6.out;first|omega|exact Nat.le_refl _⟩,⟨by(with_reducible repeat(first|apply Kd.R_alloc|apply Kd.R_drewN|apply Kd.R_drew));exact HO_6.out⟩,⟨by(with_reducible repeat(first|apply Kd.R_alloc|apply Kd.R_drewN|apply Kd.R_drew));exact Kd.R_mono HO_8.out (fun _ hk=>hk.2)⟩,⟨by(with_reducible repeat(first|apply Kd.R_alloc|apply Kd.R_drewN|apply Kd.R_drew));exact Kd.R_mono HO983.out (fun _ hk=>hk.2)⟩,⟨by exact zk1 HB⟩⟩
        ·replace c23:=Bool.eq_false_iff.mpr c23
         subst c23
         have H1:(laws_FnSpread.j1 kj6 l1 t966 t967 t968 t971 t980 true)=some r:=by rw [if_neg (show ¬ (false=true) by decide)] at H;exact H
         clear H
         have H:=H1
         clear H1
         exact absurd (H.trans (congrArg some HRT.out)) (by cases kj6<;>simp [laws_FnSpread.j1])
       case rest=>
        clear HC20
        try clear c1
        try clear c2
        try clear p2
        try clear c3
        try clear c3b0
        try clear p6
        try clear c11
        try clear c12
        try clear c12b0
        try clear c12b1
        try clear c12b2
        try clear c16
        try clear c18
        try clear c23
        try clear p2
        try clear p6
        obtain⟨kq,x95_19,rfl,HA,HJ19,HO_6,HO_8,HO_12,HB⟩:=hcut
        cases kq with
        |zero=>exact absurd HA.out (by simp [laws_FnSpread.j1])
        |succ kj19=>
         have H:=HA.out
         clear HA
         simp only [laws_FnSpread.j1] at H
         by_cases c25:x95_19=true
         ·subst c25
          have H1:(some false)=some r:=by rw [if_pos rfl] at H;exact H
          clear H
          have H:=H1
          clear H1
          exact absurd ((Option.some.inj H).trans HRT.out) (by decide)
         ·replace c25:=Bool.eq_false_iff.mpr c25
          subst c25
          have H1:(laws_FnSpread.l0 kj19 l1 t966 t967 t968 t971 t980 0)=some r:=by rw [if_neg (show ¬ (false=true) by decide)] at H;exact H
          clear H
          have H:=H1
          clear H1
          have H':=Aside0.mk H
          clear H
          go_wp2
          repeat(go_quiet (fail);try go_wp2)
          go_loopg [14] kj19 (fun kq v14 w'=> ∃ (x14_3:Int),v14= .int .i64 x14_3∧Aside0 (laws_FnSpread.l0 kq l1 t966 t967 t968 t971 t980 x14_3=some r)∧Aside0 (kq≤kj19)∧Aside0 (Kd.R k79 79 w' w.heap.size (fun _=>True) (.slice Ao9 t967.length co9) t967)∧Aside0 (Kd.R (Kd.int .i64) 3 w' w.heap.size (fun k_=>some k_≠ (v982:Value).ownBlock) v973 t971)∧Aside0 (Kd.R (Kd.int .i64) 3 w' w.heap.size (fun k_=>some k_≠ (v973:Value).ownBlock) v982 t980)∧Aside0 (Below w.heap.size w w'))
          case atStart=>exact⟨(0),(by first|rfl|(simp;done)|(simp [*];done)),H',⟨Nat.le_refl _⟩,⟨by(with_reducible repeat(first|apply Kd.R_alloc|apply Kd.R_drewN|apply Kd.R_drew));exact HO_6.out⟩,⟨by(with_reducible repeat(first|apply Kd.R_alloc|apply Kd.R_drewN|apply Kd.R_drew));exact HO_8.out⟩,⟨by(with_reducible repeat(first|apply Kd.R_alloc|apply Kd.R_drewN|apply Kd.R_drew));exact HO_12.out⟩,⟨by exact zk1 HB⟩⟩
          case round=>
           clear H'
           try clear c1
           try clear c2
           try clear p2
           try clear c3
           try clear c3b0
           try clear p6
           try clear c11
           try clear c12
           try clear c12b0
           try clear c12b1
           try clear c12b2
           try clear c16
           try clear c18
           try clear c23
           try clear c25
           try clear p2
           try clear p6
           obtain⟨x14_3,rfl,HA,HK3,HO_6,HO_8,HO_12,HB⟩:=hrel
           cases gk with
           |zero=>exact absurd HA.out (by simp [laws_FnSpread.l0])
           |succ k3=>
            have H:=HA.out
            clear HA
            simp only [laws_FnSpread.l0] at H
            by_cases c26:x14_3<t966
            ·rw [if_pos c26] at H
             have c26b0:decide (x14_3<t966)=true:=decide_eq_true c26
             clear c26
             by_cases c27: 0≤x14_3
             case neg=>rw [if_neg c27] at H;exact absurd H (by simp)
             rw [if_pos c27] at H
             have c27b0:decide (0≤x14_3)=true:=decide_eq_true c27
             clear c27
             by_cases c28:x14_3< (t980.length:Int)
             case neg=>rw [if_neg c28] at H;exact absurd H (by simp)
             rw [if_pos c28] at H
             have c28b0:decide (x14_3< (t980.length:Int))=true:=decide_eq_true c28
             clear c28
             by_cases c29: 0≤t968
             case neg=>rw [if_neg c29] at H;exact absurd H (by simp)
             rw [if_pos c29] at H
             have c29b0:decide (0≤t968)=true:=decide_eq_true c29
             clear c29
             by_cases c30:t968< (t980.length:Int)
             case neg=>rw [if_neg c30] at H;exact absurd H (by simp)
             rw [if_pos c30] at H
             have c30b0:decide (t968< (t980.length:Int))=true:=decide_eq_true c30
             clear c30
             by_cases c31:(rd t980 x14_3)= (rd t980 t968)
             ·rw [if_pos c31] at H
              have c31b0:((rd t980 x14_3)== (rd t980 t968))=true:=beq_iff_eq.mpr c31
              have c31b1:((rd t980 x14_3) != (rd t980 t968))=false:=bne_eq_false_iff_eq.mpr c31
              clear c31
              replace H:=Option.bind_eq_some_iff.mp H
              obtain⟨⟨t987,t988⟩,A320,H⟩:=H
              replace H:(if t988=true then(laws_FnSpread.l1 k3 l1 t966 t967 t968 t971 t980 x14_3 (([x14_3] :List Int)) t987 (t987.length:Int) 0) else(some false))=some r:=H
              have A32:=Aside0.mk A320
              clear A320
              by_cases c33:t988=true
              ·subst c33
               have H1:(laws_FnSpread.l1 k3 l1 t966 t967 t968 t971 t980 x14_3 (([x14_3] :List Int)) t987 (t987.length:Int) 0)=some r:=by rw [if_pos rfl] at H;exact H
               clear H
               have H:=H1
               clear H1
               obtain⟨y991,hy991⟩ :∃ y_:List Int,y_= (([x14_3] :List Int)):=⟨_,rfl⟩
               replace H:(laws_FnSpread.l1 k3 l1 t966 t967 t968 t971 t980 x14_3 y991 t987 (t987.length:Int) 0)=some r:=zfh hy991 H
               have Ny991:=Aside0.mk hy991
               clear hy991
               have H':=Aside0.mk H
               clear H
               obtain⟨Ao34,co34,eo34⟩:=Kd.R_slice HO_12.out
               subst eo34
               have p985: 0≤ (x14_3:Int):=of_decide_eq_true zq1
               have q985:x14_3< (t980.length:Int):=of_decide_eq_true zq1
               obtain⟨ad985,e985,hx985_0⟩:=Kd.at_int (Kd.R_reads' HO_12.out).2.2 x14_3 p985 q985
               cases e985
               replace p985:=eq_true p985
               replace q985:=eq_true q985
               have p986: 0≤ (t968:Int):=of_decide_eq_true zq1
               have q986:t968< (t980.length:Int):=of_decide_eq_true zq1
               obtain⟨ad986,e986,hx986_0⟩:=Kd.at_int (Kd.R_reads' HO_12.out).2.2 t968 p986 q986
               obtain rfl:ad985=ad986:=(by injection e986)
               replace p986:=eq_true p986
               replace q986:=eq_true q986
               obtain⟨Ao35,co35,eo35⟩:=Kd.R_slice HO_8.out
               subst eo35
               go_wp2_with (first|(go_at_call 29;(with_reducible refine(impl_SpreadOn.calls k3 _ _ t971 x14_3 t987 true _ ?side1 ?side2 A32.out).mono ?_);(case side1=>exact zcc ((Kd.R_reads' HO_8.out).2.2));(case side2=>exact(Kd.R_reads' HO_8.out).2.1);rintro e w36 ⟨v989,rfl,ho0,hb⟩;have HO990:=Aside0.mk (Kd.R_lower ho0 (below_size (by exact zk1 HB)));replace HO_6:=Aside0.mk (Kd.R_below (zq4 HO_6) hb);replace HO_8:=Aside0.mk (Kd.R_below (zq4 HO_8) hb);replace HO_12:=Aside0.mk (Kd.R_below (zq4 HO_12) hb);replace HB:=Aside0.mk (below_step (by exact zk1 HB) hb);(try clear hb);(try clear hb2);(try clear hk);(try clear hi);(try clear ho0))|((with_reducible refine gate_dst (N:=119) rfl ?_);refine Kd.R_lit (Kd.int .i64) _ 3 ?hg (N:=119) ?hd (xs:=([x14_3] :List Int)) (inner:= [.int .i64 x14_3]) (ok:=fun _=>True) (okp:=fun _=>True) ?hr ?hp (fun _ hk=>hk) trivial (Below.refl _ _) (Nat.le_refl _) (by simp) ?_;(case hd=>rfl);(case hg=>rfl);(case hr=>first|(go_simp;done)|(go_simp;rfl));(case hp=>exact(Reps.one (show Kd.M (Kd.int .i64) _ _ _ x14_3 [.int .i64 x14_3] from rfl) (Reps.none _ _)));intro v992 w37 ho38 hb hg_ hnew_;clear hg_ hnew_;(first|rw [← Ny991.out] at ho38|(simp only [Int.reduceToNat] at ho38;rw [← Ny991.out] at ho38));have HO993:=Aside0.mk (Kd.R_lower (Kd.R_new' (Kd.R_new' ho38 (Kd.R_lt (zq4 HO_8))) (Kd.R_lt (zq4 HO_12))) (below_size (by exact zk1 HB)));replace HO_6:=Aside0.mk (Kd.R_below (zq4 HO_6) hb);replace HO_8:=Aside0.mk (Kd.R_elder' (zq4 HO_8) (Kd.R_base ho38) hb);replace HO_12:=Aside0.mk (Kd.R_elder' (zq4 HO_12) (Kd.R_base ho38) hb);replace HO990:=Aside0.mk (Kd.R_below (zq4 HO990) hb);replace HB:=Aside0.mk (below_step (by exact zk1 HB) hb);clear hb ho38;obtain⟨Ao39,co39,eo39⟩:=Kd.R_slice HO990.out;subst eo39))
               repeat(go_quiet (first|(go_at_call 29;(with_reducible refine(impl_SpreadOn.calls k3 _ _ t971 x14_3 t987 true _ ?side1 ?side2 A32.out).mono ?_);(case side1=>exact zcc ((Kd.R_reads' HO_8.out).2.2));(case side2=>exact(Kd.R_reads' HO_8.out).2.1);rintro e w36 ⟨v989,rfl,ho0,hb⟩;have HO990:=Aside0.mk (Kd.R_lower ho0 (below_size (by exact zk1 HB)));replace HO_6:=Aside0.mk (Kd.R_below (zq4 HO_6) hb);replace HO_8:=Aside0.mk (Kd.R_below (zq4 HO_8) hb);replace HO_12:=Aside0.mk (Kd.R_below (zq4 HO_12) hb);replace HB:=Aside0.mk (below_step (by exact zk1 HB) hb);(try clear hb);(try clear hb2);(try clear hk);(try clear hi);(try clear ho0))|((with_reducible refine gate_dst (N:=119) rfl ?_);refine Kd.R_lit (Kd.int .i64) _ 3 ?hg (N:=119) ?hd (xs:=([x14_3] :List Int)) (inner:= [.int .i64 x14_3]) (ok:=fun _=>True) (okp:=fun _=>True) ?hr ?hp (fun _ hk=>hk) trivial (Below.refl _ _) (Nat.le_refl _) (by simp) ?_;(case hd=>rfl);(case hg=>rfl);(case hr=>first|(go_simp;done)|(go_simp;rfl));(case hp=>exact(Reps.one (show Kd.M (Kd.int .i64) _ _ _ x14_3 [.int .i64 x14_3] from rfl) (Reps.none _ _)));intro v992 w37 ho38 hb hg_ hnew_;clear hg_ hnew_;(first|rw [← Ny991.out] at ho38|(simp only [Int.reduceToNat] at ho38;rw [← Ny991.out] at ho38));have HO993:=Aside0.mk (Kd.R_lower (Kd.R_new' (Kd.R_new' ho38 (Kd.R_lt (zq4 HO_8))) (Kd.R_lt (zq4 HO_12))) (below_size (by exact zk1 HB)));replace HO_6:=Aside0.mk (Kd.R_below (zq4 HO_6) hb);replace HO_8:=Aside0.mk (Kd.R_elder' (zq4 HO_8) (Kd.R_base ho38) hb);replace HO_12:=Aside0.mk (Kd.R_elder' (zq4 HO_12) (Kd.R_base ho38) hb);replace HO990:=Aside0.mk (Kd.R_below (zq4 HO990) hb);replace HB:=Aside0.mk (below_step (by exact zk1 HB) hb);clear hb ho38;obtain⟨Ao39,co39,eo39⟩:=Kd.R_slice HO990.out;subst eo39));try go_wp2_with (first|(go_at_call 29;(with_reducible refine(impl_SpreadOn.calls k3 _ _ t971 x14_3 t987 true _ ?side1 ?side2 A32.out).mono ?_);(case side1=>exact zcc ((Kd.R_reads' HO_8.out).2.2));(case side2=>exact(Kd.R_reads' HO_8.out).2.1);rintro e w36 ⟨v989,rfl,ho0,hb⟩;have HO990:=Aside0.mk (Kd.R_lower ho0 (below_size (by exact zk1 HB)));replace HO_6:=Aside0.mk (Kd.R_below (zq4 HO_6) hb);replace HO_8:=Aside0.mk (Kd.R_below (zq4 HO_8) hb);replace HO_12:=Aside0.mk (Kd.R_below (zq4 HO_12) hb);replace HB:=Aside0.mk (below_step (by exact zk1 HB) hb);(try clear hb);(try clear hb2);(try clear hk);(try clear hi);(try clear ho0))|((with_reducible refine gate_dst (N:=119) rfl ?_);refine Kd.R_lit (Kd.int .i64) _ 3 ?hg (N:=119) ?hd (xs:=([x14_3] :List Int)) (inner:= [.int .i64 x14_3]) (ok:=fun _=>True) (okp:=fun _=>True) ?hr ?hp (fun _ hk=>hk) trivial (Below.refl _ _) (Nat.le_refl _) (by simp) ?_;(case hd=>rfl);(case hg=>rfl);(case hr=>first|(go_simp;done)|(go_simp;rfl));(case hp=>exact(Reps.one (show Kd.M (Kd.int .i64) _ _ _ x14_3 [.int .i64 x14_3] from rfl) (Reps.none _ _)));intro v992 w37 ho38 hb hg_ hnew_;clear hg_ hnew_;(first|rw [← Ny991.out] at ho38|(simp only [Int.reduceToNat] at ho38;rw [← Ny991.out] at ho38));have HO993:=Aside0.mk (Kd.R_lower (Kd.R_new' (Kd.R_new' ho38 (Kd.R_lt (zq4 HO_8))) (Kd.R_lt (zq4 HO_12))) (below_size (by exact zk1 HB)));replace HO_6:=Aside0.mk (Kd.R_below (zq4 HO_6) hb);replace HO_8:=Aside0.mk (Kd.R_elder' (zq4 HO_8) (Kd.R_base ho38) hb);replace HO_12:=Aside0.mk (Kd.R_elder' (zq4 HO_12) (Kd.R_base ho38) hb);replace HO990:=Aside0.mk (Kd.R_below (zq4 HO990) hb);replace HB:=Aside0.mk (below_step (by exact zk1 HB) hb);clear hb ho38;obtain⟨Ao39,co39,eo39⟩:=Kd.R_slice HO990.out;subst eo39)))
               go_loopg [17,122] k3 (fun kq v17 v122 w'=> ∃ (x17_4:List Int) (x122_4:Int),v122= .int .i64 x122_4∧Aside0 (laws_FnSpread.l1 kq l1 t966 t967 t968 t971 t980 x14_3 x17_4 t987 (t987.length:Int) x122_4=some r)∧Aside0 (kq≤k3)∧Aside0 (Kd.R k79 79 w' w.heap.size (fun _=>True) (.slice Ao9 t967.length co9) t967)∧Aside0 (Kd.R (Kd.int .i64) 3 w' w.heap.size (fun k_=>some k_≠ ((.slice (some ad985) t980.length co34):Value).ownBlock∧some k_≠ (v17:Value).ownBlock) (.slice Ao35 t971.length co35) t971)∧Aside0 (Kd.R (Kd.int .i64) 3 w' w.heap.size (fun k_=>some k_≠ ((.slice Ao35 t971.length co35):Value).ownBlock∧some k_≠ (v17:Value).ownBlock) (.slice (some ad985) t980.length co34) t980)∧Aside0 (Kd.R (Kd.int .i64) 3 w' w.heap.size (fun k_=>some k_≠ ((.slice Ao35 t971.length co35):Value).ownBlock∧some k_≠ ((.slice (some ad985) t980.length co34):Value).ownBlock) v17 x17_4)∧Aside0 (Kd.R k61 61 w' w.heap.size (fun _=>True) (.slice Ao39 t987.length co39) t987)∧Aside0 (Below w.heap.size w w'))
               case atStart=>exact⟨(y991),(0),(by first|rfl|(simp;done)|(simp [*];done)),H',⟨Nat.le_refl _⟩,⟨by(with_reducible repeat(first|apply Kd.R_alloc|apply Kd.R_drewN|apply Kd.R_drew));exact HO_6.out⟩,⟨by(with_reducible repeat(first|apply Kd.R_alloc|apply Kd.R_drewN|apply Kd.R_drew));exact HO_8.out⟩,⟨by(with_reducible repeat(first|apply Kd.R_alloc|apply Kd.R_drewN|apply Kd.R_drew));exact HO_12.out⟩,⟨by(with_reducible repeat(first|apply Kd.R_alloc|apply Kd.R_drewN|apply Kd.R_drew));exact Kd.R_mono HO993.out (fun _ hk=>⟨hk.1.2,hk.2⟩)⟩,⟨by(with_reducible repeat(first|apply Kd.R_alloc|apply Kd.R_drewN|apply Kd.R_drew));exact HO990.out⟩,⟨by exact zk1 HB⟩⟩
               case round=>
                clear H'
                try clear c1
                try clear c2
                try clear p2
                try clear c3
                try clear c3b0
                try clear p6
                try clear p9
                try clear q9
                try clear hx9
                try clear c11
                try clear c12
                try clear c12b0
                try clear c12b1
                try clear c12b2
                try clear c16
                try clear c18
                try clear c23
                try clear c25
                try clear c26
                try clear c26b0
                try clear c27
                try clear c27b0
                try clear c28
                try clear c28b0
                try clear c29
                try clear c29b0
                try clear c30
                try clear c30b0
                try clear c31
                try clear c31b0
                try clear c31b1
                try clear c33
                try clear hx985_0
                try clear hx986_0
                try clear p2
                try clear p6
                try clear p985
                try clear p986
                try clear q985
                try clear q986
                obtain⟨x17_4,x122_4,rfl,HA,HK4,HO_6,HO_8,HO_12,HO_17,HO_120,HB⟩:=hrel
                cases gk with
                |zero=>exact absurd HA.out (by simp [laws_FnSpread.l1])
                |succ k4=>
                 have H:=HA.out
                 clear HA
                 simp only [laws_FnSpread.l1] at H
                 by_cases c40:x122_4< (t987.length:Int)
                 ·rw [if_pos c40] at H
                  have c40b0:decide (x122_4< (t987.length:Int))=true:=decide_eq_true c40
                  clear c40
                  by_cases c41: 0≤x122_4
                  case neg=>rw [if_neg c41] at H;exact absurd H (by simp)
                  rw [if_pos c41] at H
                  have c41b0:decide (0≤x122_4)=true:=decide_eq_true c41
                  clear c41
                  by_cases c42:x122_4< (t987.length:Int)
                  case neg=>rw [if_neg c42] at H;exact absurd H (by simp)
                  rw [if_pos c42] at H
                  have c42b0:decide (x122_4< (t987.length:Int))=true:=decide_eq_true c42
                  clear c42
                  replace H:=Option.bind_eq_some_iff.mp H
                  obtain⟨⟨t996,t997⟩,A430,H⟩:=H
                  replace H:(if t997=true then(if t996= ((rd_T61 t987 x122_4).f0) then((laws_has.f k4 x17_4 ((rd_T61 t987 x122_4).f1)).bind fun t998=>(if t998=true then(some false) else((laws_has.f k4 x17_4 ((rd_T61 t987 x122_4).f0)).bind fun t999=>(if t999=true then(if x17_4.length< 17592186044416 then(laws_FnSpread.l1 k4 l1 t966 t967 t968 t971 t980 x14_3 (x17_4++ [(rd_T61 t987 x122_4).f1]) t987 (t987.length:Int) (wrap64 (x122_4+1))) else(none)) else(some false))))) else(some false)) else(some false))=some r:=H
                  have A43:=Aside0.mk A430
                  clear A430
                  by_cases c44:t997=true
                  ·subst c44
                   have H1:(if t996= ((rd_T61 t987 x122_4).f0) then((laws_has.f k4 x17_4 ((rd_T61 t987 x122_4).f1)).bind fun t998=>(if t998=true then(some false) else((laws_has.f k4 x17_4 ((rd_T61 t987 x122_4).f0)).bind fun t999=>(if t999=true then(if x17_4.length< 17592186044416 then(laws_FnSpread.l1 k4 l1 t966 t967 t968 t971 t980 x14_3 (x17_4++ [(rd_T61 t987 x122_4).f1]) t987 (t987.length:Int) (wrap64 (x122_4+1))) else(none)) else(some false))))) else(some false))=some r:=by rw [if_pos rfl] at H;exact H
                   clear H
                   have H:=H1
                   clear H1
                   by_cases c45:t996= ((rd_T61 t987 x122_4).f0)
                   ·rw [if_pos c45] at H
                    have c45b0:(t996== ((rd_T61 t987 x122_4).f0))=true:=beq_iff_eq.mpr c45
                    have c45b1:(t996 != ((rd_T61 t987 x122_4).f0))=false:=bne_eq_false_iff_eq.mpr c45
                    clear c45
                    replace H:=Option.bind_eq_some_iff.mp H
                    obtain⟨t998,A460,H⟩:=H
                    replace H:(if t998=true then(some false) else((laws_has.f k4 x17_4 ((rd_T61 t987 x122_4).f0)).bind fun t999=>(if t999=true then(if x17_4.length< 17592186044416 then(laws_FnSpread.l1 k4 l1 t966 t967 t968 t971 t980 x14_3 (x17_4++ [(rd_T61 t987 x122_4).f1]) t987 (t987.length:Int) (wrap64 (x122_4+1))) else(none)) else(some false))))=some r:=H
                    have A46:=Aside0.mk A460
                    clear A460
                    by_cases c47:t998=true
                    ·subst c47
                     have H1:(some false)=some r:=by rw [if_pos rfl] at H;exact H
                     clear H
                     have H:=H1
                     clear H1
                     exact absurd ((Option.some.inj H).trans HRT.out) (by decide)
                    ·replace c47:=Bool.eq_false_iff.mpr c47
                     subst c47
                     have H1:((laws_has.f k4 x17_4 ((rd_T61 t987 x122_4).f0)).bind fun t999=>(if t999=true then(if x17_4.length< 17592186044416 then(laws_FnSpread.l1 k4 l1 t966 t967 t968 t971 t980 x14_3 (x17_4++ [(rd_T61 t987 x122_4).f1]) t987 (t987.length:Int) (wrap64 (x122_4+1))) else(none)) else(some false)))=some r:=by rw [if_neg (show ¬ (false=true) by decide)] at H;exact H
                     clear H
                     have H:=H1
                     clear H1
                     replace H:=Option.bind_eq_some_iff.mp H
                     obtain⟨t999,A480,H⟩:=H
                     replace H:(if t999=true then(if x17_4.length< 17592186044416 then(laws_FnSpread.l1 k4 l1 t966 t967 t968 t971 t980 x14_3 (x17_4++ [(rd_T61 t987 x122_4).f1]) t987 (t987.length:Int) (wrap64 (x122_4+1))) else(none)) else(some false))=some r:=H
                     have A48:=Aside0.mk A480
                     clear A480
                     by_cases c49:t999=true
                     ·subst c49
                      have H1:(if x17_4.length< 17592186044416 then(laws_FnSpread.l1 k4 l1 t966 t967 t968 t971 t980 x14_3 (x17_4++ [(rd_T61 t987 x122_4).f1]) t987 (t987.length:Int) (wrap64 (x122_4+1))) else(none))=some r:=by rw [if_pos rfl] at H;exact H
                      clear H
                      have H:=H1
                      clear H1
                      by_cases c50:x17_4.length< 17592186044416
                      case neg=>rw [if_neg c50] at H;exact absurd H (by simp)
                      rw [if_pos c50] at H
                      have LMc50:=Aside0.mk c50
                      clear c50
                      obtain⟨y1000,hy1000⟩ :∃ y_:List Int,y_= (x17_4++ [(rd_T61 t987 x122_4).f1]):=⟨_,rfl⟩
                      replace H:(laws_FnSpread.l1 k4 l1 t966 t967 t968 t971 t980 x14_3 y1000 t987 (t987.length:Int) (wrap64 (x122_4+1)))=some r:=zfh hy1000 H
                      have Ny1000:=Aside0.mk hy1000
                      clear hy1000
                      as_aux_lemma=>
                       have H':=Aside0.mk H
                       clear H
                       have p994: 0≤ (x122_4:Int):=of_decide_eq_true zq1
                       have q994:x122_4< (t987.length:Int):=of_decide_eq_true zq1
                       obtain⟨ad994,e994,hx994_0,hx994_1⟩:=at_T61 (Kd.R_reads' HO_120.out).2.2 x122_4 p994 q994
                       cases e994
                       replace p994:=eq_true p994
                       replace q994:=eq_true q994
                       go_wp2_with (first|((with_reducible refine gate_dst (N:=19) rfl ?_);refine box_event ?hg (N:=19) ?hd (cs:= #[.int .i64 0,.int .i64 0]) (t:=61) ?hr ?_;(case hd=>rfl);(case hg=>rfl);(case hr=>first|(go_simp;done)|(go_simp;rfl));intro gb995 hg w51 hbox hb;have BK995:=Aside0.mk (hbox);have GW995:=Aside0.mk ((by rw [hg];exact(below_size (by exact zk1 HB)):w.heap.size≤gb995));have GE995:=Aside0.mk ((by rw [hg];exact(below_size (by exact zk1 HB)):w.heap.size≤gb995));replace HO_6:=Aside0.mk (Kd.R_below (zq4 HO_6) hb);replace HO_8:=Aside0.mk (Kd.R_below (zq4 HO_8) hb);replace HO_12:=Aside0.mk (Kd.R_below (zq4 HO_12) hb);replace HO_17:=Aside0.mk (Kd.R_below (zq4 HO_17) hb);replace HO_120:=Aside0.mk (Kd.R_below (Kd.R_elderB (zq4 HO_120) gb995 (Nat.le_of_eq hg.symm)) hb);replace HB:=Aside0.mk (below_step (by exact zk1 HB) hb);clear hb hbox hg;have hcz52_0:w51.cell? ⟨gb995,0,none⟩=some (.int .i64 0):=(blk_cell BK995.out 0).trans rfl;have hcz52_1:w51.cell? ⟨gb995,1,none⟩=some (.int .i64 0):=(blk_cell BK995.out 1).trans rfl;have hfz52_0:=blk_frozen BK995.out 0;have hfz52_1:=blk_frozen BK995.out 1)|(go_at_call 18;(with_reducible refine(impl_ComesFrom.calls k4 _ _ t971 x14_3 ((rd_T61 t987 x122_4).f1) t996 true _ ?side1 ?side2 A43.out).mono ?_);(case side1=>refine(Kd.R_reads' (e:=3) (base:=w.heap.size) (ok:=fun k_=>(some k_≠ (.slice (some ad985) t980.length co34:Value).ownBlock∧some k_≠ (u17:Value).ownBlock)) (n:=t971.length) (c:=co35) ?_).2.2;exact(by(with_reducible repeat(first|apply Kd.R_alloc|apply Kd.R_drewN|apply Kd.R_drew));exact(Kd.R_mono (Kd.R_far (p:=⟨gb995,1,none⟩) (Kd.R_far (p:=⟨gb995,0,none⟩) (Kd.R_types HO_8.out BK995.out (by decide)) (fun _ hk=>hk.2) (.int .i64 ((rd_T61 t987 x122_4).f0))) (fun _ hk=>hk.2) (.int .i64 ((rd_T61 t987 x122_4).f1))) (fun _ h_=>h_.1))));(case side2=>exact(Kd.R_reads' HO_8.out).2.1);rintro e w53 ⟨rfl,hb⟩;replace HO_6:=Aside0.mk (Kd.R_below (by(with_reducible repeat(first|apply Kd.R_alloc|apply Kd.R_drewN|apply Kd.R_drew));exact(Kd.R_mono (Kd.R_far (p:=⟨gb995,1,none⟩) (Kd.R_far (p:=⟨gb995,0,none⟩) (Kd.R_types HO_6.out BK995.out (by decide)) (fun _ hk=>hk.2) (.int .i64 ((rd_T61 t987 x122_4).f0))) (fun _ hk=>hk.2) (.int .i64 ((rd_T61 t987 x122_4).f1))) (fun _ h_=>h_.1))) hb);replace HO_8:=Aside0.mk (Kd.R_below (by(with_reducible repeat(first|apply Kd.R_alloc|apply Kd.R_drewN|apply Kd.R_drew));exact(Kd.R_mono (Kd.R_far (p:=⟨gb995,1,none⟩) (Kd.R_far (p:=⟨gb995,0,none⟩) (Kd.R_types HO_8.out BK995.out (by decide)) (fun _ hk=>hk.2) (.int .i64 ((rd_T61 t987 x122_4).f0))) (fun _ hk=>hk.2) (.int .i64 ((rd_T61 t987 x122_4).f1))) (fun _ h_=>h_.1))) hb);replace HO_12:=Aside0.mk (Kd.R_below (by(with_reducible repeat(first|apply Kd.R_alloc|apply Kd.R_drewN|apply Kd.R_drew));exact(Kd.R_mono (Kd.R_far (p:=⟨gb995,1,none⟩) (Kd.R_far (p:=⟨gb995,0,none⟩) (Kd.R_types HO_12.out BK995.out (by decide)) (fun _ hk=>hk.2) (.int .i64 ((rd_T61 t987 x122_4).f0))) (fun _ hk=>hk.2) (.int .i64 ((rd_T61 t987 x122_4).f1))) (fun _ h_=>h_.1))) hb);replace HO_17:=Aside0.mk (Kd.R_below (by(with_reducible repeat(first|apply Kd.R_alloc|apply Kd.R_drewN|apply Kd.R_drew));exact(Kd.R_mono (Kd.R_far (p:=⟨gb995,1,none⟩) (Kd.R_far (p:=⟨gb995,0,none⟩) (Kd.R_types HO_17.out BK995.out (by decide)) (fun _ hk=>hk.2) (.int .i64 ((rd_T61 t987 x122_4).f0))) (fun _ hk=>hk.2) (.int .i64 ((rd_T61 t987 x122_4).f1))) (fun _ h_=>h_.1))) hb);replace HO_120:=Aside0.mk (Kd.R_below (by(with_reducible repeat(first|apply Kd.R_alloc|apply Kd.R_drewN|apply Kd.R_drew));exact(Kd.R_mono (Kd.R_far (p:=⟨gb995,1,none⟩) (Kd.R_far (p:=⟨gb995,0,none⟩) (Kd.R_mono HO_120.out (fun k_ hk=>(⟨hk,hk.2⟩ :_∧k_≠gb995))) (fun _ hk=>hk.2) (.int .i64 ((rd_T61 t987 x122_4).f0))) (fun _ hk=>hk.2) (.int .i64 ((rd_T61 t987 x122_4).f1))) (fun _ h_=>h_.1))) hb);replace BK995:=Aside0.mk (blk_below (g:=gb995) (o:= .cells #[.int .i64 ((rd_T61 t987 x122_4).f0),.int .i64 ((rd_T61 t987 x122_4).f1)] 61 (0,0)) (by(with_reducible repeat(first|refine blk_drewN ?_ _|refine blk_drew ?_ |refine blk_alloc ?_ _));refine blk_put (cs:= #[.int .i64 ((rd_T61 t987 x122_4).f0),.int .i64 0]) ?_ 1 _ rfl;(with_reducible repeat(first|refine blk_drewN ?_ _|refine blk_drew ?_ |refine blk_alloc ?_ _));refine blk_put (cs:= #[.int .i64 0,.int .i64 0]) ?_ 0 _ rfl;(with_reducible repeat(first|refine blk_drewN ?_ _|refine blk_drew ?_ |refine blk_alloc ?_ _));exact BK995.out) hb);replace HB:=Aside0.mk (below_step (by exact zk2 HB GE995.out) hb);(try clear hb);(try clear hb2);(try clear hk);(try clear hi);have hcz54_0:w53.cell? ⟨gb995,0,none⟩=some (.int .i64 ((rd_T61 t987 x122_4).f0)):=(blk_cell BK995.out 0).trans rfl;have hcz54_1:w53.cell? ⟨gb995,1,none⟩=some (.int .i64 ((rd_T61 t987 x122_4).f1)):=(blk_cell BK995.out 1).trans rfl;have hfz54_0:=blk_frozen BK995.out 0;have hfz54_1:=blk_frozen BK995.out 1;obtain⟨Ao55,co55,eo55⟩:=Kd.R_slice HO_17.out;subst eo55)|(go_at_call 47;(with_reducible refine(laws_has.calls k4 _ _ x17_4 ((rd_T61 t987 x122_4).f1) false _ ?side1 ?side2 A46.out).mono ?_);(case side1=>exact zcc ((Kd.R_reads' HO_17.out).2.2));(case side2=>exact(Kd.R_reads' HO_17.out).2.1);rintro e w' ⟨rfl,⟨nd,rfl⟩⟩;(try first|exact⟨rfl,_,World.drewN_drewN _ _ _⟩|exact⟨rfl,_,Eq.trans (World.drewN_drewN _ _ _) (congrArg (World.drewN _) (Nat.add_assoc _ _ _))⟩))|(go_at_call 47;(with_reducible refine(laws_has.calls k4 _ _ x17_4 ((rd_T61 t987 x122_4).f0) true _ ?side1 ?side2 A48.out).mono ?_);(case side1=>exact zcc ((Kd.R_reads' HO_17.out).2.2));(case side2=>exact(Kd.R_reads' HO_17.out).2.1);rintro e w' ⟨rfl,⟨nd,rfl⟩⟩;(try first|exact⟨rfl,_,World.drewN_drewN _ _ _⟩|exact⟨rfl,_,Eq.trans (World.drewN_drewN _ _ _) (congrArg (World.drewN _) (Nat.add_assoc _ _ _))⟩))|((with_reducible refine gate_builtin (b:= .append) (xs:= #[.tmp 155,.tmp 158]) rfl ?_);at_builtin;refine Kd.R_append (Kd.int .i64) (w0:=w) w.heap.size rfl (.tmp 155) (.tmp 158) 22 3 (.int .i64 0) 8 rfl Try.underlying22 info3 rfl (by decide) (by omega) (.slice Ao55 x17_4.length co55) x17_4 ((rd_T61 t987 x122_4).f1) [.int .i64 ((rd_T61 t987 x122_4).f1)] (fun k_=>some k_≠ (.slice Ao35 t971.length co35:Value).ownBlock∧some k_≠ (.slice (some ad985) t980.length co34:Value).ownBlock) (fun _=>False) rfl rfl ?aP (fun _ hk=>hk.elim) ?aF ?aO ?aB ?aS ?aL ?_;(case aP=>exact rfl);(case aB=>exact(by exact zk2 HB GE995.out));(case aF=>exact(fun k_ hk=>⟨Kd.fresh' (Kd.R_lt (zq4 HO_8)) k_ hk,Kd.fresh' (Kd.R_lt (zq4 HO_12)) k_ hk⟩));(case aO=>exact(zq4 HO_17));(case aS=>exact(below_size (by exact zk2 HB GE995.out)));(case aL=>have:=LMc50.out;omega);intro v1001 w56 ho hb hg hat;rw [← Ny1000.out] at ho;have HO1002:=Aside0.mk (ho);replace HO_6:=Aside0.mk (Kd.R_over' (zq4 HO_6) (Kd.R_typed (zq4 HO_17)) (by decide) hg);replace HO_8:=Aside0.mk (Kd.R_after (ok:=(fun k_=>some k_≠ (.slice (some ad985) t980.length co34:Value).ownBlock)) (zq4 HO_8) hg hat);replace HO_12:=Aside0.mk (Kd.R_after (ok:=(fun k_=>some k_≠ (.slice Ao35 t971.length co35:Value).ownBlock)) (zq4 HO_12) hg hat);replace HO_120:=Aside0.mk (Kd.R_over' (zq4 HO_120) (Kd.R_typed (zq4 HO_17)) (by decide) hg);replace BK995:=Aside0.mk (blk_grown (g:=gb995) (o:= .cells #[.int .i64 ((rd_T61 t987 x122_4).f0),.int .i64 ((rd_T61 t987 x122_4).f1)] 61 (0,0)) (zq3 BK995) hg (Kd.R_ne HO_17.out BK995.out (by decide)));replace HB:=Aside0.mk (hb);clear HO_17;clear ho hb hg hat))
                       repeat(go_quiet (first|((with_reducible refine gate_dst (N:=19) rfl ?_);refine box_event ?hg (N:=19) ?hd (cs:= #[.int .i64 0,.int .i64 0]) (t:=61) ?hr ?_;(case hd=>rfl);(case hg=>rfl);(case hr=>first|(go_simp;done)|(go_simp;rfl));intro gb995 hg w51 hbox hb;have BK995:=Aside0.mk (hbox);have GW995:=Aside0.mk ((by rw [hg];exact(below_size (by exact zk1 HB)):w.heap.size≤gb995));have GE995:=Aside0.mk ((by rw [hg];exact(below_size (by exact zk1 HB)):w.heap.size≤gb995));replace HO_6:=Aside0.mk (Kd.R_below (zq4 HO_6) hb);replace HO_8:=Aside0.mk (Kd.R_below (zq4 HO_8) hb);replace HO_12:=Aside0.mk (Kd.R_below (zq4 HO_12) hb);replace HO_17:=Aside0.mk (Kd.R_below (zq4 HO_17) hb);replace HO_120:=Aside0.mk (Kd.R_below (Kd.R_elderB (zq4 HO_120) gb995 (Nat.le_of_eq hg.symm)) hb);replace HB:=Aside0.mk (below_step (by exact zk1 HB) hb);clear hb hbox hg;have hcz52_0:w51.cell? ⟨gb995,0,none⟩=some (.int .i64 0):=(blk_cell BK995.out 0).trans rfl;have hcz52_1:w51.cell? ⟨gb995,1,none⟩=some (.int .i64 0):=(blk_cell BK995.out 1).trans rfl;have hfz52_0:=blk_frozen BK995.out 0;have hfz52_1:=blk_frozen BK995.out 1)|(go_at_call 18;(with_reducible refine(impl_ComesFrom.calls k4 _ _ t971 x14_3 ((rd_T61 t987 x122_4).f1) t996 true _ ?side1 ?side2 A43.out).mono ?_);(case side1=>refine(Kd.R_reads' (e:=3) (base:=w.heap.size) (ok:=fun k_=>(some k_≠ (.slice (some ad985) t980.length co34:Value).ownBlock∧some k_≠ (u17:Value).ownBlock)) (n:=t971.length) (c:=co35) ?_).2.2;exact(by(with_reducible repeat(first|apply Kd.R_alloc|apply Kd.R_drewN|apply Kd.R_drew));exact(Kd.R_mono (Kd.R_far (p:=⟨gb995,1,none⟩) (Kd.R_far (p:=⟨gb995,0,none⟩) (Kd.R_types HO_8.out BK995.out (by decide)) (fun _ hk=>hk.2) (.int .i64 ((rd_T61 t987 x122_4).f0))) (fun _ hk=>hk.2) (.int .i64 ((rd_T61 t987 x122_4).f1))) (fun _ h_=>h_.1))));(case side2=>exact(Kd.R_reads' HO_8.out).2.1);rintro e w53 ⟨rfl,hb⟩;replace HO_6:=Aside0.mk (Kd.R_below (by(with_reducible repeat(first|apply Kd.R_alloc|apply Kd.R_drewN|apply Kd.R_drew));exact(Kd.R_mono (Kd.R_far (p:=⟨gb995,1,none⟩) (Kd.R_far (p:=⟨gb995,0,none⟩) (Kd.R_types HO_6.out BK995.out (by decide)) (fun _ hk=>hk.2) (.int .i64 ((rd_T61 t987 x122_4).f0))) (fun _ hk=>hk.2) (.int .i64 ((rd_T61 t987 x122_4).f1))) (fun _ h_=>h_.1))) hb);replace HO_8:=Aside0.mk (Kd.R_below (by(with_reducible repeat(first|apply Kd.R_alloc|apply Kd.R_drewN|apply Kd.R_drew));exact(Kd.R_mono (Kd.R_far (p:=⟨gb995,1,none⟩) (Kd.R_far (p:=⟨gb995,0,none⟩) (Kd.R_types HO_8.out BK995.out (by decide)) (fun _ hk=>hk.2) (.int .i64 ((rd_T61 t987 x122_4).f0))) (fun _ hk=>hk.2) (.int .i64 ((rd_T61 t987 x122_4).f1))) (fun _ h_=>h_.1))) hb);replace HO_12:=Aside0.mk (Kd.R_below (by(with_reducible repeat(first|apply Kd.R_alloc|apply Kd.R_drewN|apply Kd.R_drew));exact(Kd.R_mono (Kd.R_far (p:=⟨gb995,1,none⟩) (Kd.R_far (p:=⟨gb995,0,none⟩) (Kd.R_types HO_12.out BK995.out (by decide)) (fun _ hk=>hk.2) (.int .i64 ((rd_T61 t987 x122_4).f0))) (fun _ hk=>hk.2) (.int .i64 ((rd_T61 t987 x122_4).f1))) (fun _ h_=>h_.1))) hb);replace HO_17:=Aside0.mk (Kd.R_below (by(with_reducible repeat(first|apply Kd.R_alloc|apply Kd.R_drewN|apply Kd.R_drew));exact(Kd.R_mono (Kd.R_far (p:=⟨gb995,1,none⟩) (Kd.R_far (p:=⟨gb995,0,none⟩) (Kd.R_types HO_17.out BK995.out (by decide)) (fun _ hk=>hk.2) (.int .i64 ((rd_T61 t987 x122_4).f0))) (fun _ hk=>hk.2) (.int .i64 ((rd_T61 t987 x122_4).f1))) (fun _ h_=>h_.1))) hb);replace HO_120:=Aside0.mk (Kd.R_below (by(with_reducible repeat(first|apply Kd.R_alloc|apply Kd.R_drewN|apply Kd.R_drew));exact(Kd.R_mono (Kd.R_far (p:=⟨gb995,1,none⟩) (Kd.R_far (p:=⟨gb995,0,none⟩) (Kd.R_mono HO_120.out (fun k_ hk=>(⟨hk,hk.2⟩ :_∧k_≠gb995))) (fun _ hk=>hk.2) (.int .i64 ((rd_T61 t987 x122_4).f0))) (fun _ hk=>hk.2) (.int .i64 ((rd_T61 t987 x122_4).f1))) (fun _ h_=>h_.1))) hb);replace BK995:=Aside0.mk (blk_below (g:=gb995) (o:= .cells #[.int .i64 ((rd_T61 t987 x122_4).f0),.int .i64 ((rd_T61 t987 x122_4).f1)] 61 (0,0)) (by(with_reducible repeat(first|refine blk_drewN ?_ _|refine blk_drew ?_ |refine blk_alloc ?_ _));refine blk_put (cs:= #[.int .i64 ((rd_T61 t987 x122_4).f0),.int .i64 0]) ?_ 1 _ rfl;(with_reducible repeat(first|refine blk_drewN ?_ _|refine blk_drew ?_ |refine blk_alloc ?_ _));refine blk_put (cs:= #[.int .i64 0,.int .i64 0]) ?_ 0 _ rfl;(with_reducible repeat(first|refine blk_drewN ?_ _|refine blk_drew ?_ |refine blk_alloc ?_ _));exact BK995.out) hb);replace HB:=Aside0.mk (below_step (by exact zk2 HB GE995.out) hb);(try clear hb);(try clear hb2);(try clear hk);(try clear hi);have hcz54_0:w53.cell? ⟨gb995,0,none⟩=some (.int .i64 ((rd_T61 t987 x122_4).f0)):=(blk_cell BK995.out 0).trans rfl;have hcz54_1:w53.cell? ⟨gb995,1,none⟩=some (.int .i64 ((rd_T61 t987 x122_4).f1)):=(blk_cell BK995.out 1).trans rfl;have hfz54_0:=blk_frozen BK995.out 0;have hfz54_1:=blk_frozen BK995.out 1;obtain⟨Ao55,co55,eo55⟩:=Kd.R_slice HO_17.out;subst eo55)|(go_at_call 47;(with_reducible refine(laws_has.calls k4 _ _ x17_4 ((rd_T61 t987 x122_4).f1) false _ ?side1 ?side2 A46.out).mono ?_);(case side1=>exact zcc ((Kd.R_reads' HO_17.out).2.2));(case side2=>exact(Kd.R_reads' HO_17.out).2.1);rintro e w' ⟨rfl,⟨nd,rfl⟩⟩;(try first|exact⟨rfl,_,World.drewN_drewN _ _ _⟩|exact⟨rfl,_,Eq.trans (World.drewN_drewN _ _ _) (congrArg (World.drewN _) (Nat.add_assoc _ _ _))⟩))|(go_at_call 47;(with_reducible refine(laws_has.calls k4 _ _ x17_4 ((rd_T61 t987 x122_4).f0) true _ ?side1 ?side2 A48.out).mono ?_);(case side1=>exact zcc ((Kd.R_reads' HO_17.out).2.2));(case side2=>exact(Kd.R_reads' HO_17.out).2.1);rintro e w' ⟨rfl,⟨nd,rfl⟩⟩;(try first|exact⟨rfl,_,World.drewN_drewN _ _ _⟩|exact⟨rfl,_,Eq.trans (World.drewN_drewN _ _ _) (congrArg (World.drewN _) (Nat.add_assoc _ _ _))⟩))|((with_reducible refine gate_builtin (b:= .append) (xs:= #[.tmp 155,.tmp 158]) rfl ?_);at_builtin;refine Kd.R_append (Kd.int .i64) (w0:=w) w.heap.size rfl (.tmp 155) (.tmp 158) 22 3 (.int .i64 0) 8 rfl Try.underlying22 info3 rfl (by decide) (by omega) (.slice Ao55 x17_4.length co55) x17_4 ((rd_T61 t987 x122_4).f1) [.int .i64 ((rd_T61 t987 x122_4).f1)] (fun k_=>some k_≠ (.slice Ao35 t971.length co35:Value).ownBlock∧some k_≠ (.slice (some ad985) t980.length co34:Value).ownBlock) (fun _=>False) rfl rfl ?aP (fun _ hk=>hk.elim) ?aF ?aO ?aB ?aS ?aL ?_;(case aP=>exact rfl);(case aB=>exact(by exact zk2 HB GE995.out));(case aF=>exact(fun k_ hk=>⟨Kd.fresh' (Kd.R_lt (zq4 HO_8)) k_ hk,Kd.fresh' (Kd.R_lt (zq4 HO_12)) k_ hk⟩));(case aO=>exact(zq4 HO_17));(case aS=>exact(below_size (by exact zk2 HB GE995.out)));(case aL=>have:=LMc50.out;omega);intro v1001 w56 ho hb hg hat;rw [← Ny1000.out] at ho;have HO1002:=Aside0.mk (ho);replace HO_6:=Aside0.mk (Kd.R_over' (zq4 HO_6) (Kd.R_typed (zq4 HO_17)) (by decide) hg);replace HO_8:=Aside0.mk (Kd.R_after (ok:=(fun k_=>some k_≠ (.slice (some ad985) t980.length co34:Value).ownBlock)) (zq4 HO_8) hg hat);replace HO_12:=Aside0.mk (Kd.R_after (ok:=(fun k_=>some k_≠ (.slice Ao35 t971.length co35:Value).ownBlock)) (zq4 HO_12) hg hat);replace HO_120:=Aside0.mk (Kd.R_over' (zq4 HO_120) (Kd.R_typed (zq4 HO_17)) (by decide) hg);replace BK995:=Aside0.mk (blk_grown (g:=gb995) (o:= .cells #[.int .i64 ((rd_T61 t987 x122_4).f0),.int .i64 ((rd_T61 t987 x122_4).f1)] 61 (0,0)) (zq3 BK995) hg (Kd.R_ne HO_17.out BK995.out (by decide)));replace HB:=Aside0.mk (hb);clear HO_17;clear ho hb hg hat));try go_wp2_with (first|((with_reducible refine gate_dst (N:=19) rfl ?_);refine box_event ?hg (N:=19) ?hd (cs:= #[.int .i64 0,.int .i64 0]) (t:=61) ?hr ?_;(case hd=>rfl);(case hg=>rfl);(case hr=>first|(go_simp;done)|(go_simp;rfl));intro gb995 hg w51 hbox hb;have BK995:=Aside0.mk (hbox);have GW995:=Aside0.mk ((by rw [hg];exact(below_size (by exact zk1 HB)):w.heap.size≤gb995));have GE995:=Aside0.mk ((by rw [hg];exact(below_size (by exact zk1 HB)):w.heap.size≤gb995));replace HO_6:=Aside0.mk (Kd.R_below (zq4 HO_6) hb);replace HO_8:=Aside0.mk (Kd.R_below (zq4 HO_8) hb);replace HO_12:=Aside0.mk (Kd.R_below (zq4 HO_12) hb);replace HO_17:=Aside0.mk (Kd.R_below (zq4 HO_17) hb);replace HO_120:=Aside0.mk (Kd.R_below (Kd.R_elderB (zq4 HO_120) gb995 (Nat.le_of_eq hg.symm)) hb);replace HB:=Aside0.mk (below_step (by exact zk1 HB) hb);clear hb hbox hg;have hcz52_0:w51.cell? ⟨gb995,0,none⟩=some (.int .i64 0):=(blk_cell BK995.out 0).trans rfl;have hcz52_1:w51.cell? ⟨gb995,1,none⟩=some (.int .i64 0):=(blk_cell BK995.out 1).trans rfl;have hfz52_0:=blk_frozen BK995.out 0;have hfz52_1:=blk_frozen BK995.out 1)|(go_at_call 18;(with_reducible refine(impl_ComesFrom.calls k4 _ _ t971 x14_3 ((rd_T61 t987 x122_4).f1) t996 true _ ?side1 ?side2 A43.out).mono ?_);(case side1=>refine(Kd.R_reads' (e:=3) (base:=w.heap.size) (ok:=fun k_=>(some k_≠ (.slice (some ad985) t980.length co34:Value).ownBlock∧some k_≠ (u17:Value).ownBlock)) (n:=t971.length) (c:=co35) ?_).2.2;exact(by(with_reducible repeat(first|apply Kd.R_alloc|apply Kd.R_drewN|apply Kd.R_drew));exact(Kd.R_mono (Kd.R_far (p:=⟨gb995,1,none⟩) (Kd.R_far (p:=⟨gb995,0,none⟩) (Kd.R_types HO_8.out BK995.out (by decide)) (fun _ hk=>hk.2) (.int .i64 ((rd_T61 t987 x122_4).f0))) (fun _ hk=>hk.2) (.int .i64 ((rd_T61 t987 x122_4).f1))) (fun _ h_=>h_.1))));(case side2=>exact(Kd.R_reads' HO_8.out).2.1);rintro e w53 ⟨rfl,hb⟩;replace HO_6:=Aside0.mk (Kd.R_below (by(with_reducible repeat(first|apply Kd.R_alloc|apply Kd.R_drewN|apply Kd.R_drew));exact(Kd.R_mono (Kd.R_far (p:=⟨gb995,1,none⟩) (Kd.R_far (p:=⟨gb995,0,none⟩) (Kd.R_types HO_6.out BK995.out (by decide)) (fun _ hk=>hk.2) (.int .i64 ((rd_T61 t987 x122_4).f0))) (fun _ hk=>hk.2) (.int .i64 ((rd_T61 t987 x122_4).f1))) (fun _ h_=>h_.1))) hb);replace HO_8:=Aside0.mk (Kd.R_below (by(with_reducible repeat(first|apply Kd.R_alloc|apply Kd.R_drewN|apply Kd.R_drew));exact(Kd.R_mono (Kd.R_far (p:=⟨gb995,1,none⟩) (Kd.R_far (p:=⟨gb995,0,none⟩) (Kd.R_types HO_8.out BK995.out (by decide)) (fun _ hk=>hk.2) (.int .i64 ((rd_T61 t987 x122_4).f0))) (fun _ hk=>hk.2) (.int .i64 ((rd_T61 t987 x122_4).f1))) (fun _ h_=>h_.1))) hb);replace HO_12:=Aside0.mk (Kd.R_below (by(with_reducible repeat(first|apply Kd.R_alloc|apply Kd.R_drewN|apply Kd.R_drew));exact(Kd.R_mono (Kd.R_far (p:=⟨gb995,1,none⟩) (Kd.R_far (p:=⟨gb995,0,none⟩) (Kd.R_types HO_12.out BK995.out (by decide)) (fun _ hk=>hk.2) (.int .i64 ((rd_T61 t987 x122_4).f0))) (fun _ hk=>hk.2) (.int .i64 ((rd_T61 t987 x122_4).f1))) (fun _ h_=>h_.1))) hb);replace HO_17:=Aside0.mk (Kd.R_below (by(with_reducible repeat(first|apply Kd.R_alloc|apply Kd.R_drewN|apply Kd.R_drew));exact(Kd.R_mono (Kd.R_far (p:=⟨gb995,1,none⟩) (Kd.R_far (p:=⟨gb995,0,none⟩) (Kd.R_types HO_17.out BK995.out (by decide)) (fun _ hk=>hk.2) (.int .i64 ((rd_T61 t987 x122_4).f0))) (fun _ hk=>hk.2) (.int .i64 ((rd_T61 t987 x122_4).f1))) (fun _ h_=>h_.1))) hb);replace HO_120:=Aside0.mk (Kd.R_below (by(with_reducible repeat(first|apply Kd.R_alloc|apply Kd.R_drewN|apply Kd.R_drew));exact(Kd.R_mono (Kd.R_far (p:=⟨gb995,1,none⟩) (Kd.R_far (p:=⟨gb995,0,none⟩) (Kd.R_mono HO_120.out (fun k_ hk=>(⟨hk,hk.2⟩ :_∧k_≠gb995))) (fun _ hk=>hk.2) (.int .i64 ((rd_T61 t987 x122_4).f0))) (fun _ hk=>hk.2) (.int .i64 ((rd_T61 t987 x122_4).f1))) (fun _ h_=>h_.1))) hb);replace BK995:=Aside0.mk (blk_below (g:=gb995) (o:= .cells #[.int .i64 ((rd_T61 t987 x122_4).f0),.int .i64 ((rd_T61 t987 x122_4).f1)] 61 (0,0)) (by(with_reducible repeat(first|refine blk_drewN ?_ _|refine blk_drew ?_ |refine blk_alloc ?_ _));refine blk_put (cs:= #[.int .i64 ((rd_T61 t987 x122_4).f0),.int .i64 0]) ?_ 1 _ rfl;(with_reducible repeat(first|refine blk_drewN ?_ _|refine blk_drew ?_ |refine blk_alloc ?_ _));refine blk_put (cs:= #[.int .i64 0,.int .i64 0]) ?_ 0 _ rfl;(with_reducible repeat(first|refine blk_drewN ?_ _|refine blk_drew ?_ |refine blk_alloc ?_ _));exact BK995.out) hb);replace HB:=Aside0.mk (below_step (by exact zk2 HB GE995.out) hb);(try clear hb);(try clear hb2);(try clear hk);(try clear hi);have hcz54_0:w53.cell? ⟨gb995,0,none⟩=some (.int .i64 ((rd_T61 t987 x122_4).f0)):=(blk_cell BK995.out 0).trans rfl;have hcz54_1:w53.cell? ⟨gb995,1,none⟩=some (.int .i64 ((rd_T61 t987 x122_4).f1)):=(blk_cell BK995.out 1).trans rfl;have hfz54_0:=blk_frozen BK995.out 0;have hfz54_1:=blk_frozen BK995.out 1;obtain⟨Ao55,co55,eo55⟩:=Kd.R_slice HO_17.out;subst eo55)|(go_at_call 47;(with_reducible refine(laws_has.calls k4 _ _ x17_4 ((rd_T61 t987 x122_4).f1) false _ ?side1 ?side2 A46.out).mono ?_);(case side1=>exact zcc ((Kd.R_reads' HO_17.out).2.2));(case side2=>exact(Kd.R_reads' HO_17.out).2.1);rintro e w' ⟨rfl,⟨nd,rfl⟩⟩;(try first|exact⟨rfl,_,World.drewN_drewN _ _ _⟩|exact⟨rfl,_,Eq.trans (World.drewN_drewN _ _ _) (congrArg (World.drewN _) (Nat.add_assoc _ _ _))⟩))|(go_at_call 47;(with_reducible refine(laws_has.calls k4 _ _ x17_4 ((rd_T61 t987 x122_4).f0) true _ ?side1 ?side2 A48.out).mono ?_);(case side1=>exact zcc ((Kd.R_reads' HO_17.out).2.2));(case side2=>exact(Kd.R_reads' HO_17.out).2.1);rintro e w' ⟨rfl,⟨nd,rfl⟩⟩;(try first|exact⟨rfl,_,World.drewN_drewN _ _ _⟩|exact⟨rfl,_,Eq.trans (World.drewN_drewN _ _ _) (congrArg (World.drewN _) (Nat.add_assoc _ _ _))⟩))|((with_reducible refine gate_builtin (b:= .append) (xs:= #[.tmp 155,.tmp 158]) rfl ?_);at_builtin;refine Kd.R_append (Kd.int .i64) (w0:=w) w.heap.size rfl (.tmp 155) (.tmp 158) 22 3 (.int .i64 0) 8 rfl Try.underlying22 info3 rfl (by decide) (by omega) (.slice Ao55 x17_4.length co55) x17_4 ((rd_T61 t987 x122_4).f1) [.int .i64 ((rd_T61 t987 x122_4).f1)] (fun k_=>some k_≠ (.slice Ao35 t971.length co35:Value).ownBlock∧some k_≠ (.slice (some ad985) t980.length co34:Value).ownBlock) (fun _=>False) rfl rfl ?aP (fun _ hk=>hk.elim) ?aF ?aO ?aB ?aS ?aL ?_;(case aP=>exact rfl);(case aB=>exact(by exact zk2 HB GE995.out));(case aF=>exact(fun k_ hk=>⟨Kd.fresh' (Kd.R_lt (zq4 HO_8)) k_ hk,Kd.fresh' (Kd.R_lt (zq4 HO_12)) k_ hk⟩));(case aO=>exact(zq4 HO_17));(case aS=>exact(below_size (by exact zk2 HB GE995.out)));(case aL=>have:=LMc50.out;omega);intro v1001 w56 ho hb hg hat;rw [← Ny1000.out] at ho;have HO1002:=Aside0.mk (ho);replace HO_6:=Aside0.mk (Kd.R_over' (zq4 HO_6) (Kd.R_typed (zq4 HO_17)) (by decide) hg);replace HO_8:=Aside0.mk (Kd.R_after (ok:=(fun k_=>some k_≠ (.slice (some ad985) t980.length co34:Value).ownBlock)) (zq4 HO_8) hg hat);replace HO_12:=Aside0.mk (Kd.R_after (ok:=(fun k_=>some k_≠ (.slice Ao35 t971.length co35:Value).ownBlock)) (zq4 HO_12) hg hat);replace HO_120:=Aside0.mk (Kd.R_over' (zq4 HO_120) (Kd.R_typed (zq4 HO_17)) (by decide) hg);replace BK995:=Aside0.mk (blk_grown (g:=gb995) (o:= .cells #[.int .i64 ((rd_T61 t987 x122_4).f0),.int .i64 ((rd_T61 t987 x122_4).f1)] 61 (0,0)) (zq3 BK995) hg (Kd.R_ne HO_17.out BK995.out (by decide)));replace HB:=Aside0.mk (hb);clear HO_17;clear ho hb hg hat)))
                       go_roundg k4
                       case measure=>have:=HJ6.out;have:=HJ19.out;have:=HK3.out;have:=HK4.out;omega
                       case rel=>exact⟨(y1000),(wrap64 (x122_4+1)),(by first|rfl|(simp;done)|(simp [*];done)),H',⟨by have:=HJ6.out;have:=HJ19.out;have:=HK3.out;have:=HK4.out;omega⟩,⟨by(with_reducible repeat(first|apply Kd.R_alloc|apply Kd.R_drewN|apply Kd.R_drew));exact HO_6.out⟩,⟨by(with_reducible repeat(first|apply Kd.R_alloc|apply Kd.R_drewN|apply Kd.R_drew));exact HO_8.out⟩,⟨by(with_reducible repeat(first|apply Kd.R_alloc|apply Kd.R_drewN|apply Kd.R_drew));exact HO_12.out⟩,⟨by(with_reducible repeat(first|apply Kd.R_alloc|apply Kd.R_drewN|apply Kd.R_drew));exact HO1002.out⟩,⟨by(with_reducible repeat(first|apply Kd.R_alloc|apply Kd.R_drewN|apply Kd.R_drew));exact Kd.R_mono HO_120.out (fun _ hk=>trivial)⟩,⟨by exact zk2 HB GE995.out⟩⟩
                     ·replace c49:=Bool.eq_false_iff.mpr c49
                      subst c49
                      have H1:(some false)=some r:=by rw [if_neg (show ¬ (false=true) by decide)] at H;exact H
                      clear H
                      have H:=H1
                      clear H1
                      exact absurd ((Option.some.inj H).trans HRT.out) (by decide)
                   ·rw [if_neg c45] at H
                    have c45b0:(t996== ((rd_T61 t987 x122_4).f0))=false:=beq_eq_false_iff_ne.mpr c45
                    have c45b1:(t996 != ((rd_T61 t987 x122_4).f0))=true:=bne_iff_ne.mpr c45
                    exact absurd ((Option.some.inj H).trans HRT.out) (by decide)
                  ·replace c44:=Bool.eq_false_iff.mpr c44
                   subst c44
                   have H1:(some false)=some r:=by rw [if_neg (show ¬ (false=true) by decide)] at H;exact H
                   clear H
                   have H:=H1
                   clear H1
                   exact absurd ((Option.some.inj H).trans HRT.out) (by decide)
                 ·rw [if_neg c40] at H
                  have c40b0:decide (x122_4< (t987.length:Int))=false:=decide_eq_false c40
                  clear c40
                  have H':=Aside0.mk H
                  clear H
                  go_wp2
                  repeat(go_quiet (fail);try go_wp2)
                  go_loopg [163] k4 (fun kq v163 w'=> ∃ (x163_5:Int),v163= .int .i64 x163_5∧Aside0 (laws_FnSpread.l2 kq l1 t966 t967 t968 t971 t980 x14_3 x17_4 (t980.length:Int) x163_5=some r)∧Aside0 (kq≤k4)∧Aside0 (Kd.R k79 79 w' w.heap.size (fun _=>True) (.slice Ao9 t967.length co9) t967)∧Aside0 (Kd.R (Kd.int .i64) 3 w' w.heap.size (fun k_=>some k_≠ ((.slice (some ad985) t980.length co34):Value).ownBlock∧some k_≠ (u17:Value).ownBlock) (.slice Ao35 t971.length co35) t971)∧Aside0 (Kd.R (Kd.int .i64) 3 w' w.heap.size (fun k_=>some k_≠ ((.slice Ao35 t971.length co35):Value).ownBlock∧some k_≠ (u17:Value).ownBlock) (.slice (some ad985) t980.length co34) t980)∧Aside0 (Kd.R (Kd.int .i64) 3 w' w.heap.size (fun k_=>some k_≠ ((.slice Ao35 t971.length co35):Value).ownBlock∧some k_≠ ((.slice (some ad985) t980.length co34):Value).ownBlock) u17 x17_4)∧Aside0 (Below w.heap.size w w'))
                  case atStart=>exact⟨(0),(by first|rfl|(simp;done)|(simp [*];done)),H',⟨Nat.le_refl _⟩,⟨by(with_reducible repeat(first|apply Kd.R_alloc|apply Kd.R_drewN|apply Kd.R_drew));exact HO_6.out⟩,⟨by(with_reducible repeat(first|apply Kd.R_alloc|apply Kd.R_drewN|apply Kd.R_drew));exact HO_8.out⟩,⟨by(with_reducible repeat(first|apply Kd.R_alloc|apply Kd.R_drewN|apply Kd.R_drew));exact HO_12.out⟩,⟨by(with_reducible repeat(first|apply Kd.R_alloc|apply Kd.R_drewN|apply Kd.R_drew));exact HO_17.out⟩,⟨by exact zk1 HB⟩⟩
                  case round=>
                   clear H'
                   try clear c1
                   try clear c2
                   try clear p2
                   try clear c3
                   try clear c3b0
                   try clear c4
                   try clear c5
                   try clear p6
                   try clear p9
                   try clear q9
                   try clear hx9
                   try clear c11
                   try clear c12
                   try clear c12b0
                   try clear c12b1
                   try clear c12b2
                   try clear c16
                   try clear c18
                   try clear c23
                   try clear c25
                   try clear c26
                   try clear c26b0
                   try clear c27
                   try clear c27b0
                   try clear c28
                   try clear c28b0
                   try clear c29
                   try clear c29b0
                   try clear c30
                   try clear c30b0
                   try clear c31
                   try clear c31b0
                   try clear c31b1
                   try clear c33
                   try clear c40
                   try clear c40b0
                   try clear c41
                   try clear c41b0
                   try clear c42
                   try clear c42b0
                   try clear c44
                   try clear c45
                   try clear c45b0
                   try clear c45b1
                   try clear c47
                   try clear c49
                   try clear c50
                   try clear hcz52_0
                   try clear hcz52_1
                   try clear hcz54_0
                   try clear hcz54_1
                   try clear hfz52_0
                   try clear hfz52_1
                   try clear hfz54_0
                   try clear hfz54_1
                   try clear hx985_0
                   try clear hx986_0
                   try clear hx994_0
                   try clear hx994_1
                   try clear p2
                   try clear p6
                   try clear p9
                   try clear p985
                   try clear p986
                   try clear p994
                   try clear q9
                   try clear q985
                   try clear q986
                   try clear q994
                   obtain⟨x163_5,rfl,HA,HK5,HO_6,HO_8,HO_12,HO_17,HB⟩:=hrel
                   cases gk with
                   |zero=>exact absurd HA.out (by simp [laws_FnSpread.l2])
                   |succ k5=>
                    have H:=HA.out
                    clear HA
                    simp only [laws_FnSpread.l2] at H
                    by_cases c57:x163_5< (t980.length:Int)
                    ·rw [if_pos c57] at H
                     have c57b0:decide (x163_5< (t980.length:Int))=true:=decide_eq_true c57
                     clear c57
                     replace H:=Option.bind_eq_some_iff.mp H
                     obtain⟨t1003,A580,H⟩:=H
                     replace H:(if 0≤x163_5 then(if x163_5< (t980.length:Int) then(if 0≤t968 then(if t968< (t980.length:Int) then(if (t1003 != ((rd t980 x163_5)== (rd t980 t968)))=true then(some false) else(laws_FnSpread.l2 k5 l1 t966 t967 t968 t971 t980 x14_3 x17_4 (t980.length:Int) (wrap64 (x163_5+1)))) else(none)) else(none)) else(none)) else(none))=some r:=H
                     have A58:=Aside0.mk A580
                     clear A580
                     by_cases c59: 0≤x163_5
                     case neg=>rw [if_neg c59] at H;exact absurd H (by simp)
                     rw [if_pos c59] at H
                     have c59b0:decide (0≤x163_5)=true:=decide_eq_true c59
                     clear c59
                     by_cases c60:x163_5< (t980.length:Int)
                     case neg=>rw [if_neg c60] at H;exact absurd H (by simp)
                     rw [if_pos c60] at H
                     have c60b0:decide (x163_5< (t980.length:Int))=true:=decide_eq_true c60
                     clear c60
                     by_cases c61: 0≤t968
                     case neg=>rw [if_neg c61] at H;exact absurd H (by simp)
                     rw [if_pos c61] at H
                     have c61b0:decide (0≤t968)=true:=decide_eq_true c61
                     clear c61
                     by_cases c62:t968< (t980.length:Int)
                     case neg=>rw [if_neg c62] at H;exact absurd H (by simp)
                     rw [if_pos c62] at H
                     have c62b0:decide (t968< (t980.length:Int))=true:=decide_eq_true c62
                     clear c62
                     by_cases c63:(t1003 != ((rd t980 x163_5)== (rd t980 t968)))=true
                     ·rw [if_pos c63] at H
                      have c63b0:(t1003 != ((rd t980 x163_5)== (rd t980 t968)))=true:=c63
                      (try(have c63b1:decide (t1003= ((rd t980 x163_5)== (rd t980 t968)))=false:=by simpa using c63))
                      (try(have c63b2:(t1003== ((rd t980 x163_5)== (rd t980 t968)))=false:=by simpa using c63))
                      (try(have c63b3:¬ (t1003= ((rd t980 x163_5)== (rd t980 t968))):=by simpa using c63))
                      clear c63
                      exact absurd ((Option.some.inj H).trans HRT.out) (by decide)
                     ·rw [if_neg c63] at H
                      have c63b0:(t1003 != ((rd t980 x163_5)== (rd t980 t968)))=false:=by simpa using c63
                      (try(have c63b1:decide (t1003= ((rd t980 x163_5)== (rd t980 t968)))=true:=by simpa using c63))
                      (try(have c63b2:(t1003== ((rd t980 x163_5)== (rd t980 t968)))=true:=by simpa using c63))
                      clear c63
                      as_aux_lemma=>
                       have H':=Aside0.mk H
                       clear H
                       obtain⟨Ao64,co64,eo64⟩:=Kd.R_slice HO_17.out
                       subst eo64
                       go_wp2_with (first|(go_at_call 47;(with_reducible refine(laws_has.calls k5 _ _ x17_4 x163_5 t1003 _ ?side1 ?side2 A58.out).mono ?_);(case side1=>exact zcc ((Kd.R_reads' HO_17.out).2.2));(case side2=>exact(Kd.R_reads' HO_17.out).2.1);rintro e w' ⟨rfl,⟨nd,rfl⟩⟩;(try first|exact⟨rfl,_,World.drewN_drewN _ _ _⟩|exact⟨rfl,_,Eq.trans (World.drewN_drewN _ _ _) (congrArg (World.drewN _) (Nat.add_assoc _ _ _))⟩);have p1004: 0≤ (x163_5:Int):=of_decide_eq_true zq1;have q1004:x163_5< (t980.length:Int):=of_decide_eq_true zq1;obtain⟨ad1004,e1004,hx1004_0⟩:=Kd.at_int (Kd.R_reads' HO_12.out).2.2 x163_5 p1004 q1004;obtain rfl:ad985=ad1004:=(by injection e1004);replace p1004:=eq_true p1004;replace q1004:=eq_true q1004;have p1005: 0≤ (t968:Int):=of_decide_eq_true zq1;have q1005:t968< (t980.length:Int):=of_decide_eq_true zq1;obtain⟨ad1005,e1005,hx1005_0⟩:=Kd.at_int (Kd.R_reads' HO_12.out).2.2 t968 p1005 q1005;obtain rfl:ad985=ad1005:=(by injection e1005);replace p1005:=eq_true p1005;replace q1005:=eq_true q1005))
                       repeat(go_quiet (first|(go_at_call 47;(with_reducible refine(laws_has.calls k5 _ _ x17_4 x163_5 t1003 _ ?side1 ?side2 A58.out).mono ?_);(case side1=>exact zcc ((Kd.R_reads' HO_17.out).2.2));(case side2=>exact(Kd.R_reads' HO_17.out).2.1);rintro e w' ⟨rfl,⟨nd,rfl⟩⟩;(try first|exact⟨rfl,_,World.drewN_drewN _ _ _⟩|exact⟨rfl,_,Eq.trans (World.drewN_drewN _ _ _) (congrArg (World.drewN _) (Nat.add_assoc _ _ _))⟩);have p1004: 0≤ (x163_5:Int):=of_decide_eq_true zq1;have q1004:x163_5< (t980.length:Int):=of_decide_eq_true zq1;obtain⟨ad1004,e1004,hx1004_0⟩:=Kd.at_int (Kd.R_reads' HO_12.out).2.2 x163_5 p1004 q1004;obtain rfl:ad985=ad1004:=(by injection e1004);replace p1004:=eq_true p1004;replace q1004:=eq_true q1004;have p1005: 0≤ (t968:Int):=of_decide_eq_true zq1;have q1005:t968< (t980.length:Int):=of_decide_eq_true zq1;obtain⟨ad1005,e1005,hx1005_0⟩:=Kd.at_int (Kd.R_reads' HO_12.out).2.2 t968 p1005 q1005;obtain rfl:ad985=ad1005:=(by injection e1005);replace p1005:=eq_true p1005;replace q1005:=eq_true q1005));try go_wp2_with (first|(go_at_call 47;(with_reducible refine(laws_has.calls k5 _ _ x17_4 x163_5 t1003 _ ?side1 ?side2 A58.out).mono ?_);(case side1=>exact zcc ((Kd.R_reads' HO_17.out).2.2));(case side2=>exact(Kd.R_reads' HO_17.out).2.1);rintro e w' ⟨rfl,⟨nd,rfl⟩⟩;(try first|exact⟨rfl,_,World.drewN_drewN _ _ _⟩|exact⟨rfl,_,Eq.trans (World.drewN_drewN _ _ _) (congrArg (World.drewN _) (Nat.add_assoc _ _ _))⟩);have p1004: 0≤ (x163_5:Int):=of_decide_eq_true zq1;have q1004:x163_5< (t980.length:Int):=of_decide_eq_true zq1;obtain⟨ad1004,e1004,hx1004_0⟩:=Kd.at_int (Kd.R_reads' HO_12.out).2.2 x163_5 p1004 q1004;obtain rfl:ad985=ad1004:=(by injection e1004);replace p1004:=eq_true p1004;replace q1004:=eq_true q1004;have p1005: 0≤ (t968:Int):=of_decide_eq_true zq1;have q1005:t968< (t980.length:Int):=of_decide_eq_true zq1;obtain⟨ad1005,e1005,hx1005_0⟩:=Kd.at_int (Kd.R_reads' HO_12.out).2.2 t968 p1005 q1005;obtain rfl:ad985=ad1005:=(by injection e1005);replace p1005:=eq_true p1005;replace q1005:=eq_true q1005)))
                       go_roundg k5
                       case measure=>have:=HJ6.out;have:=HJ19.out;have:=HK3.out;have:=HK4.out;have:=HK5.out;omega
                       case rel=>exact⟨(wrap64 (x163_5+1)),(by first|rfl|(simp;done)|(simp [*];done)),H',⟨by have:=HJ6.out;have:=HJ19.out;have:=HK3.out;have:=HK4.out;have:=HK5.out;omega⟩,⟨by(with_reducible repeat(first|apply Kd.R_alloc|apply Kd.R_drewN|apply Kd.R_drew));exact HO_6.out⟩,⟨by(with_reducible repeat(first|apply Kd.R_alloc|apply Kd.R_drewN|apply Kd.R_drew));exact HO_8.out⟩,⟨by(with_reducible repeat(first|apply Kd.R_alloc|apply Kd.R_drewN|apply Kd.R_drew));exact HO_12.out⟩,⟨by(with_reducible repeat(first|apply Kd.R_alloc|apply Kd.R_drewN|apply Kd.R_drew));exact HO_17.out⟩,⟨by exact zk1 HB⟩⟩
                    ·rw [if_neg c57] at H
                     have c57b0:decide (x163_5< (t980.length:Int))=false:=decide_eq_false c57
                     clear c57
                     as_aux_lemma=>
                      have H':=Aside0.mk H
                      clear H
                      go_wp2
                      repeat(go_quiet (fail);try go_wp2)
                      go_roundg k5
                      case measure=>have:=HJ6.out;have:=HJ19.out;have:=HK3.out;have:=HK4.out;have:=HK5.out;omega
                      case rel=>exact⟨(wrap64 (x14_3+1)),(by first|rfl|(simp;done)|(simp [*];done)),H',⟨by have:=HJ6.out;have:=HJ19.out;have:=HK3.out;have:=HK4.out;have:=HK5.out;omega⟩,⟨by(with_reducible repeat(first|apply Kd.R_alloc|apply Kd.R_drewN|apply Kd.R_drew));exact HO_6.out⟩,⟨by(with_reducible repeat(first|apply Kd.R_alloc|apply Kd.R_drewN|apply Kd.R_drew));exact Kd.R_mono HO_8.out (fun _ hk=>hk.1)⟩,⟨by(with_reducible repeat(first|apply Kd.R_alloc|apply Kd.R_drewN|apply Kd.R_drew));exact Kd.R_mono HO_12.out (fun _ hk=>hk.1)⟩,⟨by exact zk1 HB⟩⟩
              ·replace c33:=Bool.eq_false_iff.mpr c33
               subst c33
               have H1:(some false)=some r:=by rw [if_neg (show ¬ (false=true) by decide)] at H;exact H
               clear H
               have H:=H1
               clear H1
               exact absurd ((Option.some.inj H).trans HRT.out) (by decide)
             ·rw [if_neg c31] at H
              have c31b0:((rd t980 x14_3)== (rd t980 t968))=false:=beq_eq_false_iff_ne.mpr c31
              have c31b1:((rd t980 x14_3) != (rd t980 t968))=true:=bne_iff_ne.mpr c31
              as_aux_lemma=>
               have H':=Aside0.mk H
               clear H
               obtain⟨Ao65,co65,eo65⟩:=Kd.R_slice HO_12.out
               subst eo65
               have p985: 0≤ (x14_3:Int):=of_decide_eq_true zq1
               have q985:x14_3< (t980.length:Int):=of_decide_eq_true zq1
               obtain⟨ad985,e985,hx985_0⟩:=Kd.at_int (Kd.R_reads' HO_12.out).2.2 x14_3 p985 q985
               cases e985
               replace p985:=eq_true p985
               replace q985:=eq_true q985
               have p986: 0≤ (t968:Int):=of_decide_eq_true zq1
               have q986:t968< (t980.length:Int):=of_decide_eq_true zq1
               obtain⟨ad986,e986,hx986_0⟩:=Kd.at_int (Kd.R_reads' HO_12.out).2.2 t968 p986 q986
               obtain rfl:ad985=ad986:=(by injection e986)
               replace p986:=eq_true p986
               replace q986:=eq_true q986
               go_wp2
               repeat(go_quiet (fail);try go_wp2)
               go_roundg k3
               case measure=>have:=HJ6.out;have:=HJ19.out;have:=HK3.out;omega
               case rel=>exact⟨(wrap64 (x14_3+1)),(by first|rfl|(simp;done)|(simp [*];done)),H',⟨by have:=HJ6.out;have:=HJ19.out;have:=HK3.out;omega⟩,⟨by(with_reducible repeat(first|apply Kd.R_alloc|apply Kd.R_drewN|apply Kd.R_drew));exact HO_6.out⟩,⟨by(with_reducible repeat(first|apply Kd.R_alloc|apply Kd.R_drewN|apply Kd.R_drew));exact HO_8.out⟩,⟨by(with_reducible repeat(first|apply Kd.R_alloc|apply Kd.R_drewN|apply Kd.R_drew));exact HO_12.out⟩,⟨by exact zk1 HB⟩⟩
            ·rw [if_neg c26] at H
             have c26b0:decide (x14_3<t966)=false:=decide_eq_false c26
             clear c26
             replace H:=Option.bind_eq_some_iff.mp H
             obtain⟨⟨t1006,t1007⟩,A660,H⟩:=H
             replace H:(laws_FnSpread.l3 k3 l1 t966 t967 t968 t971 t980 t1006 t1007 (t971.length:Int) 0)=some r:=H
             have A66:=Aside0.mk A660
             clear A660
             have H':=Aside0.mk H
             clear H
             go_wp2_with (first|(go_at_call 48;(with_reducible refine(impl_FarsFrom.calls k3 t966 _ _ t967 t968 t1006 t1007 _ ?side1 ?side2 A66.out).mono ?_);(case side1=>exact zcc ((Kd.R_reads' HO_6.out).2.2));(case side2=>exact(Kd.R_reads' HO_6.out).2.1);rintro e w67 ⟨v1008,rfl,ho0,hb⟩;have HO1009:=Aside0.mk (Kd.R_lower (Kd.R_new' (Kd.R_new' ho0 (Kd.R_lt (zq4 HO_8))) (Kd.R_lt (zq4 HO_12))) (below_size (by exact zk1 HB)));replace HO_6:=Aside0.mk (Kd.R_below (zq4 HO_6) hb);replace HO_8:=Aside0.mk (Kd.R_elder' (zq4 HO_8) (Kd.R_base ho0) hb);replace HO_12:=Aside0.mk (Kd.R_elder' (zq4 HO_12) (Kd.R_base ho0) hb);replace HB:=Aside0.mk (below_step (by exact zk1 HB) hb);(try clear hb);(try clear hb2);(try clear hk);(try clear hi);(try clear ho0);obtain⟨Ao68,co68,eo68⟩:=Kd.R_slice HO_8.out;subst eo68))
             repeat(go_quiet (first|(go_at_call 48;(with_reducible refine(impl_FarsFrom.calls k3 t966 _ _ t967 t968 t1006 t1007 _ ?side1 ?side2 A66.out).mono ?_);(case side1=>exact zcc ((Kd.R_reads' HO_6.out).2.2));(case side2=>exact(Kd.R_reads' HO_6.out).2.1);rintro e w67 ⟨v1008,rfl,ho0,hb⟩;have HO1009:=Aside0.mk (Kd.R_lower (Kd.R_new' (Kd.R_new' ho0 (Kd.R_lt (zq4 HO_8))) (Kd.R_lt (zq4 HO_12))) (below_size (by exact zk1 HB)));replace HO_6:=Aside0.mk (Kd.R_below (zq4 HO_6) hb);replace HO_8:=Aside0.mk (Kd.R_elder' (zq4 HO_8) (Kd.R_base ho0) hb);replace HO_12:=Aside0.mk (Kd.R_elder' (zq4 HO_12) (Kd.R_base ho0) hb);replace HB:=Aside0.mk (below_step (by exact zk1 HB) hb);(try clear hb);(try clear hb2);(try clear hk);(try clear hi);(try clear ho0);obtain⟨Ao68,co68,eo68⟩:=Kd.R_slice HO_8.out;subst eo68));try go_wp2_with (first|(go_at_call 48;(with_reducible refine(impl_FarsFrom.calls k3 t966 _ _ t967 t968 t1006 t1007 _ ?side1 ?side2 A66.out).mono ?_);(case side1=>exact zcc ((Kd.R_reads' HO_6.out).2.2));(case side2=>exact(Kd.R_reads' HO_6.out).2.1);rintro e w67 ⟨v1008,rfl,ho0,hb⟩;have HO1009:=Aside0.mk (Kd.R_lower (Kd.R_new' (Kd.R_new' ho0 (Kd.R_lt (zq4 HO_8))) (Kd.R_lt (zq4 HO_12))) (below_size (by exact zk1 HB)));replace HO_6:=Aside0.mk (Kd.R_below (zq4 HO_6) hb);replace HO_8:=Aside0.mk (Kd.R_elder' (zq4 HO_8) (Kd.R_base ho0) hb);replace HO_12:=Aside0.mk (Kd.R_elder' (zq4 HO_12) (Kd.R_base ho0) hb);replace HB:=Aside0.mk (below_step (by exact zk1 HB) hb);(try clear hb);(try clear hb2);(try clear hk);(try clear hi);(try clear ho0);obtain⟨Ao68,co68,eo68⟩:=Kd.R_slice HO_8.out;subst eo68)))
             go_loopg [189] k3 (fun kq v189 w'=> ∃ (x189_4:Int),v189= .int .i64 x189_4∧Aside0 (laws_FnSpread.l3 kq l1 t966 t967 t968 t971 t980 t1006 t1007 (t971.length:Int) x189_4=some r)∧Aside0 (kq≤k3)∧Aside0 (Kd.R k79 79 w' w.heap.size (fun _=>True) (.slice Ao9 t967.length co9) t967)∧Aside0 (Kd.R (Kd.int .i64) 3 w' w.heap.size (fun k_=>some k_≠ (v982:Value).ownBlock∧some k_≠ (v1008:Value).ownBlock) (.slice Ao68 t971.length co68) t971)∧Aside0 (Kd.R (Kd.int .i64) 3 w' w.heap.size (fun k_=>some k_≠ ((.slice Ao68 t971.length co68):Value).ownBlock∧some k_≠ (v1008:Value).ownBlock) v982 t980)∧Aside0 (Kd.R (Kd.int .i64) 3 w' w.heap.size (fun k_=>some k_≠ ((.slice Ao68 t971.length co68):Value).ownBlock∧some k_≠ (v982:Value).ownBlock) v1008 t1006)∧Aside0 (Below w.heap.size w w'))
             case atStart=>exact⟨(0),(by first|rfl|(simp;done)|(simp [*];done)),H',⟨Nat.le_refl _⟩,⟨by(with_reducible repeat(first|apply Kd.R_alloc|apply Kd.R_drewN|apply Kd.R_drew));exact HO_6.out⟩,⟨by(with_reducible repeat(first|apply Kd.R_alloc|apply Kd.R_drewN|apply Kd.R_drew));exact HO_8.out⟩,⟨by(with_reducible repeat(first|apply Kd.R_alloc|apply Kd.R_drewN|apply Kd.R_drew));exact HO_12.out⟩,⟨by(with_reducible repeat(first|apply Kd.R_alloc|apply Kd.R_drewN|apply Kd.R_drew));exact Kd.R_mono HO1009.out (fun _ hk=>⟨hk.1.2,hk.2⟩)⟩,⟨by exact zk1 HB⟩⟩
             case round=>
              clear H'
              try clear c1
              try clear p1
              try clear q1
              try clear hx1
              try clear c2
              try clear p2
              try clear c3
              try clear c3b0
              try clear c4
              try clear c5
              try clear c6
              try clear p6
              try clear p9
              try clear q9
              try clear hx9
              try clear p10
              try clear q10
              try clear hx10
              try clear c11
              try clear c12
              try clear c12b0
              try clear c12b1
              try clear c12b2
              try clear c16
              try clear c18
              try clear c23
              try clear c25
              try clear c26
              try clear c26b0
              try clear c27
              try clear c27b0
              try clear c28
              try clear c28b0
              try clear c29
              try clear c29b0
              try clear c30
              try clear c30b0
              try clear c31
              try clear c31b0
              try clear c31b1
              try clear c33
              try clear c40
              try clear c40b0
              try clear c41
              try clear c41b0
              try clear c42
              try clear c42b0
              try clear c44
              try clear c45
              try clear c45b0
              try clear c45b1
              try clear c47
              try clear c49
              try clear c50
              try clear c57
              try clear c57b0
              try clear c59
              try clear c59b0
              try clear c60
              try clear c60b0
              try clear c61
              try clear c61b0
              try clear c62
              try clear c62b0
              try clear c63
              try clear c63b0
              try clear c63b1
              try clear c63b2
              try clear p64
              try clear hcz52_0
              try clear hcz52_1
              try clear hcz54_0
              try clear hcz54_1
              try clear hfz52_0
              try clear hfz52_1
              try clear hfz54_0
              try clear hfz54_1
              try clear hx1004_0
              try clear hx1005_0
              try clear hx985_0
              try clear hx986_0
              try clear hx994_0
              try clear hx994_1
              try clear p1004
              try clear p1005
              try clear p2
              try clear p6
              try clear p9
              try clear p985
              try clear p986
              try clear p994
              try clear q1004
              try clear q1005
              try clear q9
              try clear q985
              try clear q986
              try clear q994
              obtain⟨x189_4,rfl,HA,HK4,HO_6,HO_8,HO_12,HO_23,HB⟩:=hrel
              cases gk with
              |zero=>exact absurd HA.out (by simp [laws_FnSpread.l3])
              |succ k4=>
               have H:=HA.out
               clear HA
               simp only [laws_FnSpread.l3] at H
               by_cases c69:x189_4< (t971.length:Int)
               ·rw [if_pos c69] at H
                have c69b0:decide (x189_4< (t971.length:Int))=true:=decide_eq_true c69
                clear c69
                replace H:=Option.bind_eq_some_iff.mp H
                obtain⟨⟨t1010,t1011⟩,A700,H⟩:=H
                replace H:((impl_CostOf.f k4 t966 t967 t1010).bind fun bt1014=>(if t1007=true then(if 0≤x189_4 then(if x189_4< (t980.length:Int) then(if 0≤t968 then(if t968< (t980.length:Int) then(if (t1011 != ((rd t980 x189_4)== (rd t980 t968)))=true then(some false) else(if t1011=true then(if bt1014.2=true then(if x189_4< (t1006.length:Int) then(if bt1014.1= (rd t1006 x189_4) then(laws_FnSpread.l3 k4 l1 t966 t967 t968 t971 t980 t1006 t1007 (t971.length:Int) (wrap64 (x189_4+1))) else(some false)) else(none)) else(some false)) else(laws_FnSpread.l3 k4 l1 t966 t967 t968 t971 t980 t1006 t1007 (t971.length:Int) (wrap64 (x189_4+1))))) else(none)) else(none)) else(none)) else(none)) else(some false)))=some r:=H
                have A70:=Aside0.mk A700
                clear A700
                replace H:=Option.bind_eq_some_iff.mp H
                obtain⟨⟨t1014,t1015⟩,A710,H⟩:=H
                replace H:(if t1007=true then(if 0≤x189_4 then(if x189_4< (t980.length:Int) then(if 0≤t968 then(if t968< (t980.length:Int) then(if (t1011 != ((rd t980 x189_4)== (rd t980 t968)))=true then(some false) else(if t1011=true then(if t1015=true then(if x189_4< (t1006.length:Int) then(if t1014= (rd t1006 x189_4) then(laws_FnSpread.l3 k4 l1 t966 t967 t968 t971 t980 t1006 t1007 (t971.length:Int) (wrap64 (x189_4+1))) else(some false)) else(none)) else(some false)) else(laws_FnSpread.l3 k4 l1 t966 t967 t968 t971 t980 t1006 t1007 (t971.length:Int) (wrap64 (x189_4+1))))) else(none)) else(none)) else(none)) else(none)) else(some false))=some r:=H
                have A71:=Aside0.mk A710
                clear A710
                by_cases c72:t1007=true
                ·subst c72
                 have H1:(if 0≤x189_4 then(if x189_4< (t980.length:Int) then(if 0≤t968 then(if t968< (t980.length:Int) then(if (t1011 != ((rd t980 x189_4)== (rd t980 t968)))=true then(some false) else(if t1011=true then(if t1015=true then(if x189_4< (t1006.length:Int) then(if t1014= (rd t1006 x189_4) then(laws_FnSpread.l3 k4 l1 t966 t967 t968 t971 t980 t1006 true (t971.length:Int) (wrap64 (x189_4+1))) else(some false)) else(none)) else(some false)) else(laws_FnSpread.l3 k4 l1 t966 t967 t968 t971 t980 t1006 true (t971.length:Int) (wrap64 (x189_4+1))))) else(none)) else(none)) else(none)) else(none))=some r:=by rw [if_pos rfl] at H;exact H
                 clear H
                 have H:=H1
                 clear H1
                 by_cases c73: 0≤x189_4
                 case neg=>rw [if_neg c73] at H;exact absurd H (by simp)
                 rw [if_pos c73] at H
                 have c73b0:decide (0≤x189_4)=true:=decide_eq_true c73
                 clear c73
                 by_cases c74:x189_4< (t980.length:Int)
                 case neg=>rw [if_neg c74] at H;exact absurd H (by simp)
                 rw [if_pos c74] at H
                 have c74b0:decide (x189_4< (t980.length:Int))=true:=decide_eq_true c74
                 clear c74
                 by_cases c75: 0≤t968
                 case neg=>rw [if_neg c75] at H;exact absurd H (by simp)
                 rw [if_pos c75] at H
                 have c75b0:decide (0≤t968)=true:=decide_eq_true c75
                 clear c75
                 by_cases c76:t968< (t980.length:Int)
                 case neg=>rw [if_neg c76] at H;exact absurd H (by simp)
                 rw [if_pos c76] at H
                 have c76b0:decide (t968< (t980.length:Int))=true:=decide_eq_true c76
                 clear c76
                 by_cases c77:(t1011 != ((rd t980 x189_4)== (rd t980 t968)))=true
                 ·rw [if_pos c77] at H
                  have c77b0:(t1011 != ((rd t980 x189_4)== (rd t980 t968)))=true:=c77
                  (try(have c77b1:decide (t1011= ((rd t980 x189_4)== (rd t980 t968)))=false:=by simpa using c77))
                  (try(have c77b2:(t1011== ((rd t980 x189_4)== (rd t980 t968)))=false:=by simpa using c77))
                  (try(have c77b3:¬ (t1011= ((rd t980 x189_4)== (rd t980 t968))):=by simpa using c77))
                  clear c77
                  exact absurd ((Option.some.inj H).trans HRT.out) (by decide)
                 ·rw [if_neg c77] at H
                  have c77b0:(t1011 != ((rd t980 x189_4)== (rd t980 t968)))=false:=by simpa using c77
                  (try(have c77b1:decide (t1011= ((rd t980 x189_4)== (rd t980 t968)))=true:=by simpa using c77))
                  (try(have c77b2:(t1011== ((rd t980 x189_4)== (rd t980 t968)))=true:=by simpa using c77))
                  clear c77
                  by_cases c78:t1011=true
                  ·subst c78
                   have H1:(if t1015=true then(if x189_4< (t1006.length:Int) then(if t1014= (rd t1006 x189_4) then(laws_FnSpread.l3 k4 l1 t966 t967 t968 t971 t980 t1006 true (t971.length:Int) (wrap64 (x189_4+1))) else(some false)) else(none)) else(some false))=some r:=by rw [if_pos rfl] at H;exact H
                   clear H
                   have H:=H1
                   clear H1
                   by_cases c79:t1015=true
                   ·subst c79
                    have H1:(if x189_4< (t1006.length:Int) then(if t1014= (rd t1006 x189_4) then(laws_FnSpread.l3 k4 l1 t966 t967 t968 t971 t980 t1006 true (t971.length:Int) (wrap64 (x189_4+1))) else(some false)) else(none))=some r:=by rw [if_pos rfl] at H;exact H
                    clear H
                    have H:=H1
                    clear H1
                    by_cases c80:x189_4< (t1006.length:Int)
                    case neg=>rw [if_neg c80] at H;exact absurd H (by simp)
                    rw [if_pos c80] at H
                    have c80b0:decide (x189_4< (t1006.length:Int))=true:=decide_eq_true c80
                    clear c80
                    by_cases c81:t1014= (rd t1006 x189_4)
                    ·rw [if_pos c81] at H
                     have c81b0:(t1014== (rd t1006 x189_4))=true:=beq_iff_eq.mpr c81
                     have c81b1:(t1014 != (rd t1006 x189_4))=false:=bne_eq_false_iff_eq.mpr c81
                     clear c81
                     as_aux_lemma=>
                      have H':=Aside0.mk H
                      clear H
                      go_wp2_with (first|(go_at_call 20;(with_reducible refine(impl_OnTree.calls k4 _ _ t971 t968 x189_4 t1010 true _ ?side1 ?side2 A70.out).mono ?_);(case side1=>exact zcc ((Kd.R_reads' HO_8.out).2.2));(case side2=>exact(Kd.R_reads' HO_8.out).2.1);rintro e w82 ⟨v1012,rfl,ho0,hb⟩;have HO1013:=Aside0.mk (Kd.R_lower (Kd.R_new' (Kd.R_new' (Kd.R_new' ho0 (Kd.R_lt (zq4 HO_8))) (Kd.R_lt (zq4 HO_12))) (Kd.R_lt (zq4 HO_23))) (below_size (by exact zk1 HB)));replace HO_6:=Aside0.mk (Kd.R_below (zq4 HO_6) hb);replace HO_8:=Aside0.mk (Kd.R_elder' (zq4 HO_8) (Kd.R_base ho0) hb);replace HO_12:=Aside0.mk (Kd.R_elder' (zq4 HO_12) (Kd.R_base ho0) hb);replace HO_23:=Aside0.mk (Kd.R_elder' (zq4 HO_23) (Kd.R_base ho0) hb);replace HB:=Aside0.mk (below_step (by exact zk1 HB) hb);(try clear hb);(try clear hb2);(try clear hk);(try clear hi);(try clear ho0);obtain⟨Ao83,co83,eo83⟩:=Kd.R_slice HO1013.out;subst eo83)|(go_at_call 49;(with_reducible refine(impl_CostOf.calls k4 t966 _ _ t967 _ _ t1010 t1014 true _ ?side1 ?side2 ?side3 ?side4 A71.out).mono ?_);(case side1=>exact zcc ((Kd.R_reads' HO_6.out).2.2));(case side2=>exact(Kd.R_reads' HO_6.out).2.1);(case side3=>exact zcc ((Kd.R_reads' HO1013.out).2.2));(case side4=>exact(Kd.R_reads' HO1013.out).2.1);rintro e w84 ⟨rfl,hb⟩;replace HO_6:=Aside0.mk (Kd.R_below (zq4 HO_6) hb);replace HO_8:=Aside0.mk (Kd.R_below (zq4 HO_8) hb);replace HO_12:=Aside0.mk (Kd.R_below (zq4 HO_12) hb);replace HO_23:=Aside0.mk (Kd.R_below (zq4 HO_23) hb);replace HO1013:=Aside0.mk (Kd.R_below (zq4 HO1013) hb);replace HB:=Aside0.mk (below_step (by exact zk1 HB) hb);(try clear hb);(try clear hb2);(try clear hk);(try clear hi);obtain⟨Ao85,co85,eo85⟩:=Kd.R_slice HO_12.out;subst eo85;have p1016: 0≤ (x189_4:Int):=of_decide_eq_true zq1;have q1016:x189_4< (t980.length:Int):=of_decide_eq_true zq1;obtain⟨ad1016,e1016,hx1016_0⟩:=Kd.at_int (Kd.R_reads' HO_12.out).2.2 x189_4 p1016 q1016;cases e1016;replace p1016:=eq_true p1016;replace q1016:=eq_true q1016;have p1017: 0≤ (t968:Int):=of_decide_eq_true zq1;have q1017:t968< (t980.length:Int):=of_decide_eq_true zq1;obtain⟨ad1017,e1017,hx1017_0⟩:=Kd.at_int (Kd.R_reads' HO_12.out).2.2 t968 p1017 q1017;obtain rfl:ad1016=ad1017:=(by injection e1017);replace p1017:=eq_true p1017;replace q1017:=eq_true q1017;obtain⟨Ao86,co86,eo86⟩:=Kd.R_slice HO_23.out;subst eo86;have p1018: 0≤ (x189_4:Int):=of_decide_eq_true zq1;have q1018:x189_4< (t1006.length:Int):=of_decide_eq_true zq1;obtain⟨ad1018,e1018,hx1018_0⟩:=Kd.at_int (Kd.R_reads' HO_23.out).2.2 x189_4 p1018 q1018;cases e1018;replace p1018:=eq_true p1018;replace q1018:=eq_true q1018))
                      repeat(go_quiet (first|(go_at_call 20;(with_reducible refine(impl_OnTree.calls k4 _ _ t971 t968 x189_4 t1010 true _ ?side1 ?side2 A70.out).mono ?_);(case side1=>exact zcc ((Kd.R_reads' HO_8.out).2.2));(case side2=>exact(Kd.R_reads' HO_8.out).2.1);rintro e w82 ⟨v1012,rfl,ho0,hb⟩;have HO1013:=Aside0.mk (Kd.R_lower (Kd.R_new' (Kd.R_new' (Kd.R_new' ho0 (Kd.R_lt (zq4 HO_8))) (Kd.R_lt (zq4 HO_12))) (Kd.R_lt (zq4 HO_23))) (below_size (by exact zk1 HB)));replace HO_6:=Aside0.mk (Kd.R_below (zq4 HO_6) hb);replace HO_8:=Aside0.mk (Kd.R_elder' (zq4 HO_8) (Kd.R_base ho0) hb);replace HO_12:=Aside0.mk (Kd.R_elder' (zq4 HO_12) (Kd.R_base ho0) hb);replace HO_23:=Aside0.mk (Kd.R_elder' (zq4 HO_23) (Kd.R_base ho0) hb);replace HB:=Aside0.mk (below_step (by exact zk1 HB) hb);(try clear hb);(try clear hb2);(try clear hk);(try clear hi);(try clear ho0);obtain⟨Ao83,co83,eo83⟩:=Kd.R_slice HO1013.out;subst eo83)|(go_at_call 49;(with_reducible refine(impl_CostOf.calls k4 t966 _ _ t967 _ _ t1010 t1014 true _ ?side1 ?side2 ?side3 ?side4 A71.out).mono ?_);(case side1=>exact zcc ((Kd.R_reads' HO_6.out).2.2));(case side2=>exact(Kd.R_reads' HO_6.out).2.1);(case side3=>exact zcc ((Kd.R_reads' HO1013.out).2.2));(case side4=>exact(Kd.R_reads' HO1013.out).2.1);rintro e w84 ⟨rfl,hb⟩;replace HO_6:=Aside0.mk (Kd.R_below (zq4 HO_6) hb);replace HO_8:=Aside0.mk (Kd.R_below (zq4 HO_8) hb);replace HO_12:=Aside0.mk (Kd.R_below (zq4 HO_12) hb);replace HO_23:=Aside0.mk (Kd.R_below (zq4 HO_23) hb);replace HO1013:=Aside0.mk (Kd.R_below (zq4 HO1013) hb);replace HB:=Aside0.mk (below_step (by exact zk1 HB) hb);(try clear hb);(try clear hb2);(try clear hk);(try clear hi);obtain⟨Ao85,co85,eo85⟩:=Kd.R_slice HO_12.out;subst eo85;have p1016: 0≤ (x189_4:Int):=of_decide_eq_true zq1;have q1016:x189_4< (t980.length:Int):=of_decide_eq_true zq1;obtain⟨ad1016,e1016,hx1016_0⟩:=Kd.at_int (Kd.R_reads' HO_12.out).2.2 x189_4 p1016 q1016;cases e1016;replace p1016:=eq_true p1016;replace q1016:=eq_true q1016;have p1017: 0≤ (t968:Int):=of_decide_eq_true zq1;have q1017:t968< (t980.length:Int):=of_decide_eq_true zq1;obtain⟨ad1017,e1017,hx1017_0⟩:=Kd.at_int (Kd.R_reads' HO_12.out).2.2 t968 p1017 q1017;obtain rfl:ad1016=ad1017:=(by injection e1017);replace p1017:=eq_true p1017;replace q1017:=eq_true q1017;obtain⟨Ao86,co86,eo86⟩:=Kd.R_slice HO_23.out;subst eo86;have p1018: 0≤ (x189_4:Int):=of_decide_eq_true zq1;have q1018:x189_4< (t1006.length:Int):=of_decide_eq_true zq1;obtain⟨ad1018,e1018,hx1018_0⟩:=Kd.at_int (Kd.R_reads' HO_23.out).2.2 x189_4 p1018 q1018;cases e1018;replace p1018:=eq_true p1018;replace q1018:=eq_true q1018));try go_wp2_with (first|(go_at_call 20;(with_reducible refine(impl_OnTree.calls k4 _ _ t971 t968 x189_4 t1010 true _ ?side1 ?side2 A70.out).mono ?_);(case side1=>exact zcc ((Kd.R_reads' HO_8.out).2.2));(case side2=>exact(Kd.R_reads' HO_8.out).2.1);rintro e w82 ⟨v1012,rfl,ho0,hb⟩;have HO1013:=Aside0.mk (Kd.R_lower (Kd.R_new' (Kd.R_new' (Kd.R_new' ho0 (Kd.R_lt (zq4 HO_8))) (Kd.R_lt (zq4 HO_12))) (Kd.R_lt (zq4 HO_23))) (below_size (by exact zk1 HB)));replace HO_6:=Aside0.mk (Kd.R_below (zq4 HO_6) hb);replace HO_8:=Aside0.mk (Kd.R_elder' (zq4 HO_8) (Kd.R_base ho0) hb);replace HO_12:=Aside0.mk (Kd.R_elder' (zq4 HO_12) (Kd.R_base ho0) hb);replace HO_23:=Aside0.mk (Kd.R_elder' (zq4 HO_23) (Kd.R_base ho0) hb);replace HB:=Aside0.mk (below_step (by exact zk1 HB) hb);(try clear hb);(try clear hb2);(try clear hk);(try clear hi);(try clear ho0);obtain⟨Ao83,co83,eo83⟩:=Kd.R_slice HO1013.out;subst eo83)|(go_at_call 49;(with_reducible refine(impl_CostOf.calls k4 t966 _ _ t967 _ _ t1010 t1014 true _ ?side1 ?side2 ?side3 ?side4 A71.out).mono ?_);(case side1=>exact zcc ((Kd.R_reads' HO_6.out).2.2));(case side2=>exact(Kd.R_reads' HO_6.out).2.1);(case side3=>exact zcc ((Kd.R_reads' HO1013.out).2.2));(case side4=>exact(Kd.R_reads' HO1013.out).2.1);rintro e w84 ⟨rfl,hb⟩;replace HO_6:=Aside0.mk (Kd.R_below (zq4 HO_6) hb);replace HO_8:=Aside0.mk (Kd.R_below (zq4 HO_8) hb);replace HO_12:=Aside0.mk (Kd.R_below (zq4 HO_12) hb);replace HO_23:=Aside0.mk (Kd.R_below (zq4 HO_23) hb);replace HO1013:=Aside0.mk (Kd.R_below (zq4 HO1013) hb);replace HB:=Aside0.mk (below_step (by exact zk1 HB) hb);(try clear hb);(try clear hb2);(try clear hk);(try clear hi);obtain⟨Ao85,co85,eo85⟩:=Kd.R_slice HO_12.out;subst eo85;have p1016: 0≤ (x189_4:Int):=of_decide_eq_true zq1;have q1016:x189_4< (t980.length:Int):=of_decide_eq_true zq1;obtain⟨ad1016,e1016,hx1016_0⟩:=Kd.at_int (Kd.R_reads' HO_12.out).2.2 x189_4 p1016 q1016;cases e1016;replace p1016:=eq_true p1016;replace q1016:=eq_true q1016;have p1017: 0≤ (t968:Int):=of_decide_eq_true zq1;have q1017:t968< (t980.length:Int):=of_decide_eq_true zq1;obtain⟨ad1017,e1017,hx1017_0⟩:=Kd.at_int (Kd.R_reads' HO_12.out).2.2 t968 p1017 q1017;obtain rfl:ad1016=ad1017:=(by injection e1017);replace p1017:=eq_true p1017;replace q1017:=eq_true q1017;obtain⟨Ao86,co86,eo86⟩:=Kd.R_slice HO_23.out;subst eo86;have p1018: 0≤ (x189_4:Int):=of_decide_eq_true zq1;have q1018:x189_4< (t1006.length:Int):=of_decide_eq_true zq1;obtain⟨ad1018,e1018,hx1018_0⟩:=Kd.at_int (Kd.R_reads' HO_23.out).2.2 x189_4 p1018 q1018;cases e1018;replace p1018:=eq_true p1018;replace q1018:=eq_true q1018)))
                      go_roundg k4
                      case measure=>have:=HJ6.out;have:=HJ19.out;have:=HK3.out;have:=HK4.out;omega
                      case rel=>exact⟨(wrap64 (x189_4+1)),(by first|rfl|(simp;done)|(simp [*];done)),H',⟨by have:=HJ6.out;have:=HJ19.out;have:=HK3.out;have:=HK4.out;omega⟩,⟨by(with_reducible repeat(first|apply Kd.R_alloc|apply Kd.R_drewN|apply Kd.R_drew));exact HO_6.out⟩,⟨by(with_reducible repeat(first|apply Kd.R_alloc|apply Kd.R_drewN|apply Kd.R_drew));exact Kd.R_mono HO_8.out (fun _ hk=>⟨hk.1.1,hk.1.2⟩)⟩,⟨by(with_reducible repeat(first|apply Kd.R_alloc|apply Kd.R_drewN|apply Kd.R_drew));exact Kd.R_mono HO_12.out (fun _ hk=>⟨hk.1.1,hk.1.2⟩)⟩,⟨by(with_reducible repeat(first|apply Kd.R_alloc|apply Kd.R_drewN|apply Kd.R_drew));exact Kd.R_mono HO_23.out (fun _ hk=>⟨hk.1.1,hk.1.2⟩)⟩,⟨by exact zk1 HB⟩⟩
                    ·rw [if_neg c81] at H
                     have c81b0:(t1014== (rd t1006 x189_4))=false:=beq_eq_false_iff_ne.mpr c81
                     have c81b1:(t1014 != (rd t1006 x189_4))=true:=bne_iff_ne.mpr c81
                     exact absurd ((Option.some.inj H).trans HRT.out) (by decide)
                   ·replace c79:=Bool.eq_false_iff.mpr c79
                    subst c79
                    have H1:(some false)=some r:=by rw [if_neg (show ¬ (false=true) by decide)] at H;exact H
                    clear H
                    have H:=H1
                    clear H1
                    exact absurd ((Option.some.inj H).trans HRT.out) (by decide)
                  ·replace c78:=Bool.eq_false_iff.mpr c78
                   subst c78
                   have H1:(laws_FnSpread.l3 k4 l1 t966 t967 t968 t971 t980 t1006 true (t971.length:Int) (wrap64 (x189_4+1)))=some r:=by rw [if_neg (show ¬ (false=true) by decide)] at H;exact H
                   clear H
                   have H:=H1
                   clear H1
                   as_aux_lemma=>
                    have H':=Aside0.mk H
                    clear H
                    go_wp2_with (first|(go_at_call 20;(with_reducible refine(impl_OnTree.calls k4 _ _ t971 t968 x189_4 t1010 false _ ?side1 ?side2 A70.out).mono ?_);(case side1=>exact zcc ((Kd.R_reads' HO_8.out).2.2));(case side2=>exact(Kd.R_reads' HO_8.out).2.1);rintro e w87 ⟨v1012,rfl,ho0,hb⟩;have HO1013:=Aside0.mk (Kd.R_lower (Kd.R_new' (Kd.R_new' (Kd.R_new' ho0 (Kd.R_lt (zq4 HO_8))) (Kd.R_lt (zq4 HO_12))) (Kd.R_lt (zq4 HO_23))) (below_size (by exact zk1 HB)));replace HO_6:=Aside0.mk (Kd.R_below (zq4 HO_6) hb);replace HO_8:=Aside0.mk (Kd.R_elder' (zq4 HO_8) (Kd.R_base ho0) hb);replace HO_12:=Aside0.mk (Kd.R_elder' (zq4 HO_12) (Kd.R_base ho0) hb);replace HO_23:=Aside0.mk (Kd.R_elder' (zq4 HO_23) (Kd.R_base ho0) hb);replace HB:=Aside0.mk (below_step (by exact zk1 HB) hb);(try clear hb);(try clear hb2);(try clear hk);(try clear hi);(try clear ho0);obtain⟨Ao88,co88,eo88⟩:=Kd.R_slice HO1013.out;subst eo88)|(go_at_call 49;(with_reducible refine(impl_CostOf.calls k4 t966 _ _ t967 _ _ t1010 t1014 t1015 _ ?side1 ?side2 ?side3 ?side4 A71.out).mono ?_);(case side1=>exact zcc ((Kd.R_reads' HO_6.out).2.2));(case side2=>exact(Kd.R_reads' HO_6.out).2.1);(case side3=>exact zcc ((Kd.R_reads' HO1013.out).2.2));(case side4=>exact(Kd.R_reads' HO1013.out).2.1);rintro e w89 ⟨rfl,hb⟩;replace HO_6:=Aside0.mk (Kd.R_below (zq4 HO_6) hb);replace HO_8:=Aside0.mk (Kd.R_below (zq4 HO_8) hb);replace HO_12:=Aside0.mk (Kd.R_below (zq4 HO_12) hb);replace HO_23:=Aside0.mk (Kd.R_below (zq4 HO_23) hb);replace HO1013:=Aside0.mk (Kd.R_below (zq4 HO1013) hb);replace HB:=Aside0.mk (below_step (by exact zk1 HB) hb);(try clear hb);(try clear hb2);(try clear hk);(try clear hi);obtain⟨Ao90,co90,eo90⟩:=Kd.R_slice HO_12.out;subst eo90;have p1016: 0≤ (x189_4:Int):=of_decide_eq_true zq1;have q1016:x189_4< (t980.length:Int):=of_decide_eq_true zq1;obtain⟨ad1016,e1016,hx1016_0⟩:=Kd.at_int (Kd.R_reads' HO_12.out).2.2 x189_4 p1016 q1016;cases e1016;replace p1016:=eq_true p1016;replace q1016:=eq_true q1016;have p1017: 0≤ (t968:Int):=of_decide_eq_true zq1;have q1017:t968< (t980.length:Int):=of_decide_eq_true zq1;obtain⟨ad1017,e1017,hx1017_0⟩:=Kd.at_int (Kd.R_reads' HO_12.out).2.2 t968 p1017 q1017;obtain rfl:ad1016=ad1017:=(by injection e1017);replace p1017:=eq_true p1017;replace q1017:=eq_true q1017))
                    repeat(go_quiet (first|(go_at_call 20;(with_reducible refine(impl_OnTree.calls k4 _ _ t971 t968 x189_4 t1010 false _ ?side1 ?side2 A70.out).mono ?_);(case side1=>exact zcc ((Kd.R_reads' HO_8.out).2.2));(case side2=>exact(Kd.R_reads' HO_8.out).2.1);rintro e w87 ⟨v1012,rfl,ho0,hb⟩;have HO1013:=Aside0.mk (Kd.R_lower (Kd.R_new' (Kd.R_new' (Kd.R_new' ho0 (Kd.R_lt (zq4 HO_8))) (Kd.R_lt (zq4 HO_12))) (Kd.R_lt (zq4 HO_23))) (below_size (by exact zk1 HB)));replace HO_6:=Aside0.mk (Kd.R_below (zq4 HO_6) hb);replace HO_8:=Aside0.mk (Kd.R_elder' (zq4 HO_8) (Kd.R_base ho0) hb);replace HO_12:=Aside0.mk (Kd.R_elder' (zq4 HO_12) (Kd.R_base ho0) hb);replace HO_23:=Aside0.mk (Kd.R_elder' (zq4 HO_23) (Kd.R_base ho0) hb);replace HB:=Aside0.mk (below_step (by exact zk1 HB) hb);(try clear hb);(try clear hb2);(try clear hk);(try clear hi);(try clear ho0);obtain⟨Ao88,co88,eo88⟩:=Kd.R_slice HO1013.out;subst eo88)|(go_at_call 49;(with_reducible refine(impl_CostOf.calls k4 t966 _ _ t967 _ _ t1010 t1014 t1015 _ ?side1 ?side2 ?side3 ?side4 A71.out).mono ?_);(case side1=>exact zcc ((Kd.R_reads' HO_6.out).2.2));(case side2=>exact(Kd.R_reads' HO_6.out).2.1);(case side3=>exact zcc ((Kd.R_reads' HO1013.out).2.2));(case side4=>exact(Kd.R_reads' HO1013.out).2.1);rintro e w89 ⟨rfl,hb⟩;replace HO_6:=Aside0.mk (Kd.R_below (zq4 HO_6) hb);replace HO_8:=Aside0.mk (Kd.R_below (zq4 HO_8) hb);replace HO_12:=Aside0.mk (Kd.R_below (zq4 HO_12) hb);replace HO_23:=Aside0.mk (Kd.R_below (zq4 HO_23) hb);replace HO1013:=Aside0.mk (Kd.R_below (zq4 HO1013) hb);replace HB:=Aside0.mk (below_step (by exact zk1 HB) hb);(try clear hb);(try clear hb2);(try clear hk);(try clear hi);obtain⟨Ao90,co90,eo90⟩:=Kd.R_slice HO_12.out;subst eo90;have p1016: 0≤ (x189_4:Int):=of_decide_eq_true zq1;have q1016:x189_4< (t980.length:Int):=of_decide_eq_true zq1;obtain⟨ad1016,e1016,hx1016_0⟩:=Kd.at_int (Kd.R_reads' HO_12.out).2.2 x189_4 p1016 q1016;cases e1016;replace p1016:=eq_true p1016;replace q1016:=eq_true q1016;have p1017: 0≤ (t968:Int):=of_decide_eq_true zq1;have q1017:t968< (t980.length:Int):=of_decide_eq_true zq1;obtain⟨ad1017,e1017,hx1017_0⟩:=Kd.at_int (Kd.R_reads' HO_12.out).2.2 t968 p1017 q1017;obtain rfl:ad1016=ad1017:=(by injection e1017);replace p1017:=eq_true p1017;replace q1017:=eq_true q1017));try go_wp2_with (first|(go_at_call 20;(with_reducible refine(impl_OnTree.calls k4 _ _ t971 t968 x189_4 t1010 false _ ?side1 ?side2 A70.out).mono ?_);(case side1=>exact zcc ((Kd.R_reads' HO_8.out).2.2));(case side2=>exact(Kd.R_reads' HO_8.out).2.1);rintro e w87 ⟨v1012,rfl,ho0,hb⟩;have HO1013:=Aside0.mk (Kd.R_lower (Kd.R_new' (Kd.R_new' (Kd.R_new' ho0 (Kd.R_lt (zq4 HO_8))) (Kd.R_lt (zq4 HO_12))) (Kd.R_lt (zq4 HO_23))) (below_size (by exact zk1 HB)));replace HO_6:=Aside0.mk (Kd.R_below (zq4 HO_6) hb);replace HO_8:=Aside0.mk (Kd.R_elder' (zq4 HO_8) (Kd.R_base ho0) hb);replace HO_12:=Aside0.mk (Kd.R_elder' (zq4 HO_12) (Kd.R_base ho0) hb);replace HO_23:=Aside0.mk (Kd.R_elder' (zq4 HO_23) (Kd.R_base ho0) hb);replace HB:=Aside0.mk (below_step (by exact zk1 HB) hb);(try clear hb);(try clear hb2);(try clear hk);(try clear hi);(try clear ho0);obtain⟨Ao88,co88,eo88⟩:=Kd.R_slice HO1013.out;subst eo88)|(go_at_call 49;(with_reducible refine(impl_CostOf.calls k4 t966 _ _ t967 _ _ t1010 t1014 t1015 _ ?side1 ?side2 ?side3 ?side4 A71.out).mono ?_);(case side1=>exact zcc ((Kd.R_reads' HO_6.out).2.2));(case side2=>exact(Kd.R_reads' HO_6.out).2.1);(case side3=>exact zcc ((Kd.R_reads' HO1013.out).2.2));(case side4=>exact(Kd.R_reads' HO1013.out).2.1);rintro e w89 ⟨rfl,hb⟩;replace HO_6:=Aside0.mk (Kd.R_below (zq4 HO_6) hb);replace HO_8:=Aside0.mk (Kd.R_below (zq4 HO_8) hb);replace HO_12:=Aside0.mk (Kd.R_below (zq4 HO_12) hb);replace HO_23:=Aside0.mk (Kd.R_below (zq4 HO_23) hb);replace HO1013:=Aside0.mk (Kd.R_below (zq4 HO1013) hb);replace HB:=Aside0.mk (below_step (by exact zk1 HB) hb);(try clear hb);(try clear hb2);(try clear hk);(try clear hi);obtain⟨Ao90,co90,eo90⟩:=Kd.R_slice HO_12.out;subst eo90;have p1016: 0≤ (x189_4:Int):=of_decide_eq_true zq1;have q1016:x189_4< (t980.length:Int):=of_decide_eq_true zq1;obtain⟨ad1016,e1016,hx1016_0⟩:=Kd.at_int (Kd.R_reads' HO_12.out).2.2 x189_4 p1016 q1016;cases e1016;replace p1016:=eq_true p1016;replace q1016:=eq_true q1016;have p1017: 0≤ (t968:Int):=of_decide_eq_true zq1;have q1017:t968< (t980.length:Int):=of_decide_eq_true zq1;obtain⟨ad1017,e1017,hx1017_0⟩:=Kd.at_int (Kd.R_reads' HO_12.out).2.2 t968 p1017 q1017;obtain rfl:ad1016=ad1017:=(by injection e1017);replace p1017:=eq_true p1017;replace q1017:=eq_true q1017)))
                    go_roundg k4
                    case measure=>have:=HJ6.out;have:=HJ19.out;have:=HK3.out;have:=HK4.out;omega
                    case rel=>exact⟨(wrap64 (x189_4+1)),(by first|rfl|(simp;done)|(simp [*];done)),H',⟨by have:=HJ6.out;have:=HJ19.out;have:=HK3.out;have:=HK4.out;omega⟩,⟨by(with_reducible repeat(first|apply Kd.R_alloc|apply Kd.R_drewN|apply Kd.R_drew));exact HO_6.out⟩,⟨by(with_reducible repeat(first|apply Kd.R_alloc|apply Kd.R_drewN|apply Kd.R_drew));exact Kd.R_mono HO_8.out (fun _ hk=>⟨hk.1.1,hk.1.2⟩)⟩,⟨by(with_reducible repeat(first|apply Kd.R_alloc|apply Kd.R_drewN|apply Kd.R_drew));exact Kd.R_mono HO_12.out (fun _ hk=>⟨hk.1.1,hk.1.2⟩)⟩,⟨by(with_reducible repeat(first|apply Kd.R_alloc|apply Kd.R_drewN|apply Kd.R_drew));exact Kd.R_mono HO_23.out (fun _ hk=>⟨hk.1.1,hk.1.2⟩)⟩,⟨by exact zk1 HB⟩⟩
                ·replace c72:=Bool.eq_false_iff.mpr c72
                 subst c72
                 have H1:(some false)=some r:=by rw [if_neg (show ¬ (false=true) by decide)] at H;exact H
                 clear H
                 have H:=H1
                 clear H1
                 exact absurd ((Option.some.inj H).trans HRT.out) (by decide)
               ·rw [if_neg c69] at H
                have c69b0:decide (x189_4< (t971.length:Int))=false:=decide_eq_false c69
                clear c69
                as_aux_lemma=>
                 have H':=Aside0.mk H
                 clear H
                 go_wp2
                 repeat(go_quiet (fail);try go_wp2)
                 go_meet
                 case rel=>exact⟨_,H',⟨by have:=HJ6.out;have:=HJ19.out;have:=HK3.out;have:=HK4.out;first|omega|exact Nat.le_refl _⟩,⟨by exact zk1 HB⟩⟩
      ·replace c18:=Bool.eq_false_iff.mpr c18
       subst c18
       have H1:(laws_FnSpread.j6 kj6 l1)=some r:=by rw [if_neg (show ¬ (false=true) by decide)] at H;exact H
       clear H
       have H:=H1
       clear H1
       as_aux_lemma=>
        have H':=Aside0.mk H
        clear H
        go_wp2
        repeat(go_quiet (fail);try go_wp2)
        go_meet
        case rel=>exact⟨_,H',⟨by have:=HJ6.out;first|omega|exact Nat.le_refl _⟩,⟨by exact zk1 HB⟩⟩
     case rest=>
      clear HC17
      try clear c1
      try clear p1
      try clear q1
      try clear hx1
      try clear c2
      try clear p2
      try clear c3
      try clear c3b0
      try clear c4
      try clear c5
      try clear c6
      try clear p6
      try clear c7
      try clear c8
      try clear p9
      try clear q9
      try clear hx9
      try clear p10
      try clear q10
      try clear hx10
      try clear c11
      try clear c12
      try clear c12b0
      try clear c12b1
      try clear c12b2
      try clear c16
      try clear c18
      try clear c23
      try clear c25
      try clear c26
      try clear c26b0
      try clear c27
      try clear c27b0
      try clear c28
      try clear c28b0
      try clear c29
      try clear c29b0
      try clear c30
      try clear c30b0
      try clear c31
      try clear c31b0
      try clear c31b1
      try clear c33
      try clear c40
      try clear c40b0
      try clear c41
      try clear c41b0
      try clear c42
      try clear c42b0
      try clear c44
      try clear c45
      try clear c45b0
      try clear c45b1
      try clear c47
      try clear c49
      try clear c50
      try clear c57
      try clear c57b0
      try clear c59
      try clear c59b0
      try clear c60
      try clear c60b0
      try clear c61
      try clear c61b0
      try clear c62
      try clear c62b0
      try clear c63
      try clear c63b0
      try clear c63b1
      try clear c63b2
      try clear p64
      try clear c69
      try clear c69b0
      try clear c72
      try clear c73
      try clear c73b0
      try clear c74
      try clear c74b0
      try clear c75
      try clear c75b0
      try clear c76
      try clear c76b0
      try clear c77
      try clear c77b0
      try clear c77b1
      try clear c77b2
      try clear c78
      try clear c79
      try clear c80
      try clear c80b0
      try clear c81
      try clear c81b0
      try clear c81b1
      try clear hcz52_0
      try clear hcz52_1
      try clear hcz54_0
      try clear hcz54_1
      try clear hfz52_0
      try clear hfz52_1
      try clear hfz54_0
      try clear hfz54_1
      try clear hx1004_0
      try clear hx1005_0
      try clear hx1016_0
      try clear hx1017_0
      try clear hx1018_0
      try clear hx985_0
      try clear hx986_0
      try clear hx994_0
      try clear hx994_1
      try clear p1
      try clear p10
      try clear p1004
      try clear p1005
      try clear p1016
      try clear p1017
      try clear p1018
      try clear p2
      try clear p6
      try clear p64
      try clear p9
      try clear p985
      try clear p986
      try clear p994
      try clear q1
      try clear q10
      try clear q1004
      try clear q1005
      try clear q1016
      try clear q1017
      try clear q1018
      try clear q9
      try clear q985
      try clear q986
      try clear q994
      obtain⟨kq,HA,HJ16,HB⟩:=hcut
      cases kq with
      |zero=>exact absurd HA.out (by simp [laws_FnSpread.j6])
      |succ kj16=>
       have H:=HA.out
       clear HA
       simp only [laws_FnSpread.j6] at H
       replace H:=Option.bind_eq_some_iff.mp H
       obtain⟨⟨t1019,t1020⟩,A910,H⟩:=H
       replace H:((impl_SpreadOn.f kj16 t1019 t1020).bind fun bt1023=>((spec_SpreadOn.f kj16 t1019 t1020).bind fun bt1027=>((spec_DrawComesFrom.f kj16 l1).bind fun bt1031=>((impl_ComesFrom.f kj16 bt1031.1 bt1031.2.1 bt1031.2.2).bind fun bt1036=>((spec_ComesFrom.f kj16 bt1031.1 bt1031.2.1 bt1031.2.2).bind fun bt1038=>((impl_OnTree.f kj16 bt1031.1 bt1031.2.1 bt1031.2.2).bind fun bt1040=>((spec_OnTree.f kj16 bt1031.1 bt1031.2.1 bt1031.2.2).bind fun bt1044=>(if (bt1023.2==bt1027.2)=true then((laws_sameHops.f kj16 bt1023.1 bt1027.1).bind fun t1048=>(if t1048=true then(if (bt1036.2==bt1038.2)=true then(if bt1036.1=bt1038.1 then(if (bt1040.2==bt1044.2)=true then((laws_sameInts.f kj16 bt1040.1 bt1044.1).bind fun t1049=>(if t1049=true then((impl_GoodParents.f kj16 t1019).bind fun t1050=>((spec_GoodParents.f kj16 t1019).bind fun t1051=>(some (t1050==t1051)))) else(some false))) else(some false)) else(some false)) else(some false)) else(some false))) else(some false)))))))))=some r:=H
       have A91:=Aside0.mk A910
       clear A910
       replace H:=Option.bind_eq_some_iff.mp H
       obtain⟨⟨t1023,t1024⟩,A920,H⟩:=H
       replace H:((spec_SpreadOn.f kj16 t1019 t1020).bind fun bt1027=>((spec_DrawComesFrom.f kj16 l1).bind fun bt1031=>((impl_ComesFrom.f kj16 bt1031.1 bt1031.2.1 bt1031.2.2).bind fun bt1036=>((spec_ComesFrom.f kj16 bt1031.1 bt1031.2.1 bt1031.2.2).bind fun bt1038=>((impl_OnTree.f kj16 bt1031.1 bt1031.2.1 bt1031.2.2).bind fun bt1040=>((spec_OnTree.f kj16 bt1031.1 bt1031.2.1 bt1031.2.2).bind fun bt1044=>(if (t1024==bt1027.2)=true then((laws_sameHops.f kj16 t1023 bt1027.1).bind fun t1048=>(if t1048=true then(if (bt1036.2==bt1038.2)=true then(if bt1036.1=bt1038.1 then(if (bt1040.2==bt1044.2)=true then((laws_sameInts.f kj16 bt1040.1 bt1044.1).bind fun t1049=>(if t1049=true then((impl_GoodParents.f kj16 t1019).bind fun t1050=>((spec_GoodParents.f kj16 t1019).bind fun t1051=>(some (t1050==t1051)))) else(some false))) else(some false)) else(some false)) else(some false)) else(some false))) else(some false))))))))=some r:=H
       have A92:=Aside0.mk A920
       clear A920
       replace H:=Option.bind_eq_some_iff.mp H
       obtain⟨⟨t1027,t1028⟩,A930,H⟩:=H
       replace H:((spec_DrawComesFrom.f kj16 l1).bind fun bt1031=>((impl_ComesFrom.f kj16 bt1031.1 bt1031.2.1 bt1031.2.2).bind fun bt1036=>((spec_ComesFrom.f kj16 bt1031.1 bt1031.2.1 bt1031.2.2).bind fun bt1038=>((impl_OnTree.f kj16 bt1031.1 bt1031.2.1 bt1031.2.2).bind fun bt1040=>((spec_OnTree.f kj16 bt1031.1 bt1031.2.1 bt1031.2.2).bind fun bt1044=>(if (t1024==t1028)=true then((laws_sameHops.f kj16 t1023 t1027).bind fun t1048=>(if t1048=true then(if (bt1036.2==bt1038.2)=true then(if bt1036.1=bt1038.1 then(if (bt1040.2==bt1044.2)=true then((laws_sameInts.f kj16 bt1040.1 bt1044.1).bind fun t1049=>(if t1049=true then((impl_GoodParents.f kj16 t1019).bind fun t1050=>((spec_GoodParents.f kj16 t1019).bind fun t1051=>(some (t1050==t1051)))) else(some false))) else(some false)) else(some false)) else(some false)) else(some false))) else(some false)))))))=some r:=H
       have A93:=Aside0.mk A930
       clear A930
       replace H:=Option.bind_eq_some_iff.mp H
       obtain⟨⟨t1031,t1032,t1033⟩,A940,H⟩:=H
       replace H:((impl_ComesFrom.f kj16 t1031 t1032 t1033).bind fun bt1036=>((spec_ComesFrom.f kj16 t1031 t1032 t1033).bind fun bt1038=>((impl_OnTree.f kj16 t1031 t1032 t1033).bind fun bt1040=>((spec_OnTree.f kj16 t1031 t1032 t1033).bind fun bt1044=>(if (t1024==t1028)=true then((laws_sameHops.f kj16 t1023 t1027).bind fun t1048=>(if t1048=true then(if (bt1036.2==bt1038.2)=true then(if bt1036.1=bt1038.1 then(if (bt1040.2==bt1044.2)=true then((laws_sameInts.f kj16 bt1040.1 bt1044.1).bind fun t1049=>(if t1049=true then((impl_GoodParents.f kj16 t1019).bind fun t1050=>((spec_GoodParents.f kj16 t1019).bind fun t1051=>(some (t1050==t1051)))) else(some false))) else(some false)) else(some false)) else(some false)) else(some false))) else(some false))))))=some r:=H
       have A94:=Aside0.mk A940
       clear A940
       replace H:=Option.bind_eq_some_iff.mp H
       obtain⟨⟨t1036,t1037⟩,A950,H⟩:=H
       replace H:((spec_ComesFrom.f kj16 t1031 t1032 t1033).bind fun bt1038=>((impl_OnTree.f kj16 t1031 t1032 t1033).bind fun bt1040=>((spec_OnTree.f kj16 t1031 t1032 t1033).bind fun bt1044=>(if (t1024==t1028)=true then((laws_sameHops.f kj16 t1023 t1027).bind fun t1048=>(if t1048=true then(if (t1037==bt1038.2)=true then(if t1036=bt1038.1 then(if (bt1040.2==bt1044.2)=true then((laws_sameInts.f kj16 bt1040.1 bt1044.1).bind fun t1049=>(if t1049=true then((impl_GoodParents.f kj16 t1019).bind fun t1050=>((spec_GoodParents.f kj16 t1019).bind fun t1051=>(some (t1050==t1051)))) else(some false))) else(some false)) else(some false)) else(some false)) else(some false))) else(some false)))))=some r:=H
       have A95:=Aside0.mk A950
       clear A950
       replace H:=Option.bind_eq_some_iff.mp H
       obtain⟨⟨t1038,t1039⟩,A960,H⟩:=H
       replace H:((impl_OnTree.f kj16 t1031 t1032 t1033).bind fun bt1040=>((spec_OnTree.f kj16 t1031 t1032 t1033).bind fun bt1044=>(if (t1024==t1028)=true then((laws_sameHops.f kj16 t1023 t1027).bind fun t1048=>(if t1048=true then(if (t1037==t1039)=true then(if t1036=t1038 then(if (bt1040.2==bt1044.2)=true then((laws_sameInts.f kj16 bt1040.1 bt1044.1).bind fun t1049=>(if t1049=true then((impl_GoodParents.f kj16 t1019).bind fun t1050=>((spec_GoodParents.f kj16 t1019).bind fun t1051=>(some (t1050==t1051)))) else(some false))) else(some false)) else(some false)) else(some false)) else(some false))) else(some false))))=some r:=H
       have A96:=Aside0.mk A960
       clear A960
       replace H:=Option.bind_eq_some_iff.mp H
       obtain⟨⟨t1040,t1041⟩,A970,H⟩:=H
       replace H:((spec_OnTree.f kj16 t1031 t1032 t1033).bind fun bt1044=>(if (t1024==t1028)=true then((laws_sameHops.f kj16 t1023 t1027).bind fun t1048=>(if t1048=true then(if (t1037==t1039)=true then(if t1036=t1038 then(if (t1041==bt1044.2)=true then((laws_sameInts.f kj16 t1040 bt1044.1).bind fun t1049=>(if t1049=true then((impl_GoodParents.f kj16 t1019).bind fun t1050=>((spec_GoodParents.f kj16 t1019).bind fun t1051=>(some (t1050==t1051)))) else(some false))) else(some false)) else(some false)) else(some false)) else(some false))) else(some false)))=some r:=H
       have A97:=Aside0.mk A970
       clear A970
       replace H:=Option.bind_eq_some_iff.mp H
       obtain⟨⟨t1044,t1045⟩,A980,H⟩:=H
       replace H:(if (t1024==t1028)=true then((laws_sameHops.f kj16 t1023 t1027).bind fun t1048=>(if t1048=true then(if (t1037==t1039)=true then(if t1036=t1038 then(if (t1041==t1045)=true then((laws_sameInts.f kj16 t1040 t1044).bind fun t1049=>(if t1049=true then((impl_GoodParents.f kj16 t1019).bind fun t1050=>((spec_GoodParents.f kj16 t1019).bind fun t1051=>(some (t1050==t1051)))) else(some false))) else(some false)) else(some false)) else(some false)) else(some false))) else(some false))=some r:=H
       have A98:=Aside0.mk A980
       clear A980
       by_cases c99:(t1024==t1028)=true
       ·rw [if_pos c99] at H
        have c99b0:(t1024==t1028)=true:=c99
        (try(have c99b1:decide (t1024=t1028)=true:=by simpa using c99))
        (try(have c99b2:(t1024==t1028)=true:=by simpa using c99))
        clear c99
        replace H:=Option.bind_eq_some_iff.mp H
        obtain⟨t1048,A1000,H⟩:=H
        replace H:(if t1048=true then(if (t1037==t1039)=true then(if t1036=t1038 then(if (t1041==t1045)=true then((laws_sameInts.f kj16 t1040 t1044).bind fun t1049=>(if t1049=true then((impl_GoodParents.f kj16 t1019).bind fun t1050=>((spec_GoodParents.f kj16 t1019).bind fun t1051=>(some (t1050==t1051)))) else(some false))) else(some false)) else(some false)) else(some false)) else(some false))=some r:=H
        have A100:=Aside0.mk A1000
        clear A1000
        by_cases c101:t1048=true
        ·subst c101
         have H1:(if (t1037==t1039)=true then(if t1036=t1038 then(if (t1041==t1045)=true then((laws_sameInts.f kj16 t1040 t1044).bind fun t1049=>(if t1049=true then((impl_GoodParents.f kj16 t1019).bind fun t1050=>((spec_GoodParents.f kj16 t1019).bind fun t1051=>(some (t1050==t1051)))) else(some false))) else(some false)) else(some false)) else(some false))=some r:=by rw [if_pos rfl] at H;exact H
         clear H
         have H:=H1
         clear H1
         by_cases c102:(t1037==t1039)=true
         ·rw [if_pos c102] at H
          have c102b0:(t1037==t1039)=true:=c102
          (try(have c102b1:decide (t1037=t1039)=true:=by simpa using c102))
          (try(have c102b2:(t1037==t1039)=true:=by simpa using c102))
          clear c102
          by_cases c103:t1036=t1038
          ·rw [if_pos c103] at H
           have c103b0:(t1036==t1038)=true:=beq_iff_eq.mpr c103
           have c103b1:(t1036 !=t1038)=false:=bne_eq_false_iff_eq.mpr c103
           clear c103
           by_cases c104:(t1041==t1045)=true
           ·rw [if_pos c104] at H
            have c104b0:(t1041==t1045)=true:=c104
            (try(have c104b1:decide (t1041=t1045)=true:=by simpa using c104))
            (try(have c104b2:(t1041==t1045)=true:=by simpa using c104))
            clear c104
            replace H:=Option.bind_eq_some_iff.mp H
            obtain⟨t1049,A1050,H⟩:=H
            replace H:(if t1049=true then((impl_GoodParents.f kj16 t1019).bind fun t1050=>((spec_GoodParents.f kj16 t1019).bind fun t1051=>(some (t1050==t1051)))) else(some false))=some r:=H
            have A105:=Aside0.mk A1050
            clear A1050
            by_cases c106:t1049=true
            ·subst c106
             have H1:((impl_GoodParents.f kj16 t1019).bind fun t1050=>((spec_GoodParents.f kj16 t1019).bind fun t1051=>(some (t1050==t1051))))=some r:=by rw [if_pos rfl] at H;exact H
             clear H
             have H:=H1
             clear H1
             replace H:=Option.bind_eq_some_iff.mp H
             obtain⟨t1050,A1070,H⟩:=H
             replace H:((spec_GoodParents.f kj16 t1019).bind fun t1051=>(some (t1050==t1051)))=some r:=H
             have A107:=Aside0.mk A1070
             clear A1070
             replace H:=Option.bind_eq_some_iff.mp H
             obtain⟨t1051,A1080,H⟩:=H
             replace H:(some (t1050==t1051))=some r:=H
             have A108:=Aside0.mk A1080
             clear A1080
             as_aux_lemma=>
              obtain rfl:=Option.some.inj H
              go_wp2_with (first|(go_at_call 50;(with_reducible refine(spec_DrawSpreadOn.calls kj16 _ _ l1 t1019 t1020 _ ?side1 ?side2 A91.out).mono ?_);(case side1=>exact zcc ((Kd.C_below HR1.out HB.out)));(case side2=>exact HC1.out);rintro e w109 ⟨v1021,rfl,ho0,hb⟩;have HO1022:=Aside0.mk (Kd.R_lower ho0 (below_size (by exact zk1 HB)));replace HB:=Aside0.mk (below_step (by exact zk1 HB) hb);(try clear hb);(try clear hb2);(try clear hk);(try clear hi);(try clear ho0);obtain⟨Ao110,co110,eo110⟩:=Kd.R_slice HO1022.out;subst eo110)|(go_at_call 29;(with_reducible refine(impl_SpreadOn.calls kj16 _ _ t1019 t1020 t1023 t1024 _ ?side1 ?side2 A92.out).mono ?_);(case side1=>exact zcc ((Kd.R_reads' HO1022.out).2.2));(case side2=>exact(Kd.R_reads' HO1022.out).2.1);rintro e w111 ⟨v1025,rfl,ho0,hb⟩;have HO1026:=Aside0.mk (Kd.R_lower ho0 (below_size (by exact zk1 HB)));replace HO1022:=Aside0.mk (Kd.R_below (zq4 HO1022) hb);replace HB:=Aside0.mk (below_step (by exact zk1 HB) hb);(try clear hb);(try clear hb2);(try clear hk);(try clear hi);(try clear ho0))|(go_at_call 28;(with_reducible refine(spec_SpreadOn.calls kj16 _ _ t1019 t1020 t1027 t1028 _ ?side1 ?side2 A93.out).mono ?_);(case side1=>exact zcc ((Kd.R_reads' HO1022.out).2.2));(case side2=>exact(Kd.R_reads' HO1022.out).2.1);rintro e w112 ⟨v1029,rfl,ho0,hb⟩;have HO1030:=Aside0.mk (Kd.R_lower (Kd.R_new' ho0 (Kd.R_lt (zq4 HO1026))) (below_size (by exact zk1 HB)));replace HO1022:=Aside0.mk (Kd.R_below (zq4 HO1022) hb);replace HO1026:=Aside0.mk (Kd.R_elder' (zq4 HO1026) (Kd.R_base ho0) hb);replace HB:=Aside0.mk (below_step (by exact zk1 HB) hb);(try clear hb);(try clear hb2);(try clear hk);(try clear hi);(try clear ho0))|(go_at_call 51;(with_reducible refine(spec_DrawComesFrom.calls kj16 _ _ l1 t1031 t1032 t1033 _ ?side1 ?side2 A94.out).mono ?_);(case side1=>exact zcc ((Kd.C_below HR1.out HB.out)));(case side2=>exact HC1.out);rintro e w113 ⟨v1034,rfl,ho0,hb⟩;have HO1035:=Aside0.mk (Kd.R_lower (Kd.R_new' ho0 (Kd.R_lt (zq4 HO1022))) (below_size (by exact zk1 HB)));replace HO1022:=Aside0.mk (Kd.R_elder' (zq4 HO1022) (Kd.R_base ho0) hb);replace HO1026:=Aside0.mk (Kd.R_below (zq4 HO1026) hb);replace HO1030:=Aside0.mk (Kd.R_below (zq4 HO1030) hb);replace HB:=Aside0.mk (below_step (by exact zk1 HB) hb);(try clear hb);(try clear hb2);(try clear hk);(try clear hi);(try clear ho0);obtain⟨Ao114,co114,eo114⟩:=Kd.R_slice HO1035.out;subst eo114)|(go_at_call 18;(with_reducible refine(impl_ComesFrom.calls kj16 _ _ t1031 t1032 t1033 t1036 t1037 _ ?side1 ?side2 A95.out).mono ?_);(case side1=>exact zcc ((Kd.R_reads' HO1035.out).2.2));(case side2=>exact(Kd.R_reads' HO1035.out).2.1);rintro e w115 ⟨rfl,hb⟩;replace HO1022:=Aside0.mk (Kd.R_below (zq4 HO1022) hb);replace HO1026:=Aside0.mk (Kd.R_below (zq4 HO1026) hb);replace HO1030:=Aside0.mk (Kd.R_below (zq4 HO1030) hb);replace HO1035:=Aside0.mk (Kd.R_below (zq4 HO1035) hb);replace HB:=Aside0.mk (below_step (by exact zk1 HB) hb);(try clear hb);(try clear hb2);(try clear hk);(try clear hi))|(go_at_call 17;(with_reducible refine(spec_ComesFrom.calls kj16 _ _ t1031 t1032 t1033 t1038 t1039 _ ?side1 ?side2 A96.out).mono ?_);(case side1=>exact zcc ((Kd.R_reads' HO1035.out).2.2));(case side2=>exact(Kd.R_reads' HO1035.out).2.1);rintro e w116 ⟨rfl,hb⟩;replace HO1022:=Aside0.mk (Kd.R_below (zq4 HO1022) hb);replace HO1026:=Aside0.mk (Kd.R_below (zq4 HO1026) hb);replace HO1030:=Aside0.mk (Kd.R_below (zq4 HO1030) hb);replace HO1035:=Aside0.mk (Kd.R_below (zq4 HO1035) hb);replace HB:=Aside0.mk (below_step (by exact zk1 HB) hb);(try clear hb);(try clear hb2);(try clear hk);(try clear hi))|(go_at_call 20;(with_reducible refine(impl_OnTree.calls kj16 _ _ t1031 t1032 t1033 t1040 t1041 _ ?side1 ?side2 A97.out).mono ?_);(case side1=>exact zcc ((Kd.R_reads' HO1035.out).2.2));(case side2=>exact(Kd.R_reads' HO1035.out).2.1);rintro e w117 ⟨v1042,rfl,ho0,hb⟩;have HO1043:=Aside0.mk (Kd.R_lower (Kd.R_new' (Kd.R_new' ho0 (Kd.R_lt (zq4 HO1022))) (Kd.R_lt (zq4 HO1035))) (below_size (by exact zk1 HB)));replace HO1022:=Aside0.mk (Kd.R_elder' (zq4 HO1022) (Kd.R_base ho0) hb);replace HO1026:=Aside0.mk (Kd.R_below (zq4 HO1026) hb);replace HO1030:=Aside0.mk (Kd.R_below (zq4 HO1030) hb);replace HO1035:=Aside0.mk (Kd.R_elder' (zq4 HO1035) (Kd.R_base ho0) hb);replace HB:=Aside0.mk (below_step (by exact zk1 HB) hb);(try clear hb);(try clear hb2);(try clear hk);(try clear hi);(try clear ho0))|(go_at_call 19;(with_reducible refine(spec_OnTree.calls kj16 _ _ t1031 t1032 t1033 t1044 t1045 _ ?side1 ?side2 A98.out).mono ?_);(case side1=>exact zcc ((Kd.R_reads' HO1035.out).2.2));(case side2=>exact(Kd.R_reads' HO1035.out).2.1);rintro e w118 ⟨v1046,rfl,ho0,hb⟩;have HO1047:=Aside0.mk (Kd.R_lower (Kd.R_new' (Kd.R_new' (Kd.R_new' ho0 (Kd.R_lt (zq4 HO1022))) (Kd.R_lt (zq4 HO1035))) (Kd.R_lt (zq4 HO1043))) (below_size (by exact zk1 HB)));replace HO1022:=Aside0.mk (Kd.R_elder' (zq4 HO1022) (Kd.R_base ho0) hb);replace HO1026:=Aside0.mk (Kd.R_below (zq4 HO1026) hb);replace HO1030:=Aside0.mk (Kd.R_below (zq4 HO1030) hb);replace HO1035:=Aside0.mk (Kd.R_elder' (zq4 HO1035) (Kd.R_base ho0) hb);replace HO1043:=Aside0.mk (Kd.R_elder' (zq4 HO1043) (Kd.R_base ho0) hb);replace HB:=Aside0.mk (below_step (by exact zk1 HB) hb);(try clear hb);(try clear hb2);(try clear hk);(try clear hi);(try clear ho0);obtain⟨Ao119,co119,eo119⟩:=Kd.R_slice HO1026.out;subst eo119;obtain⟨Ao120,co120,eo120⟩:=Kd.R_slice HO1030.out;subst eo120)|(go_at_call 52;(with_reducible refine(laws_sameHops.calls kj16 _ _ t1023 _ _ t1027 true _ ?side1 ?side2 ?side3 ?side4 A100.out).mono ?_);(case side1=>exact zcc ((Kd.R_reads' HO1026.out).2.2));(case side2=>exact(Kd.R_reads' HO1026.out).2.1);(case side3=>exact zcc ((Kd.R_reads' HO1030.out).2.2));(case side4=>exact(Kd.R_reads' HO1030.out).2.1);rintro e w' ⟨rfl,⟨nd,rfl⟩⟩;(try first|exact⟨rfl,_,World.drewN_drewN _ _ _⟩|exact⟨rfl,_,Eq.trans (World.drewN_drewN _ _ _) (congrArg (World.drewN _) (Nat.add_assoc _ _ _))⟩);obtain⟨Ao121,co121,eo121⟩:=Kd.R_slice HO1043.out;subst eo121;obtain⟨Ao122,co122,eo122⟩:=Kd.R_slice HO1047.out;subst eo122)|(go_at_call 45;(with_reducible refine(laws_sameInts.calls kj16 _ _ t1040 _ _ t1044 true _ ?side1 ?side2 ?side3 ?side4 A105.out).mono ?_);(case side1=>exact zcc ((Kd.R_reads' HO1043.out).2.2));(case side2=>exact(Kd.R_reads' HO1043.out).2.1);(case side3=>exact zcc ((Kd.R_reads' HO1047.out).2.2));(case side4=>exact(Kd.R_reads' HO1047.out).2.1);rintro e w' ⟨rfl,⟨nd,rfl⟩⟩;(try first|exact⟨rfl,_,World.drewN_drewN _ _ _⟩|exact⟨rfl,_,Eq.trans (World.drewN_drewN _ _ _) (congrArg (World.drewN _) (Nat.add_assoc _ _ _))⟩))|(go_at_call 15;(with_reducible refine(impl_GoodParents.calls kj16 _ _ t1019 t1050 _ ?side1 ?side2 A107.out).mono ?_);(case side1=>exact zcc ((Kd.R_reads' HO1022.out).2.2));(case side2=>exact(Kd.R_reads' HO1022.out).2.1);rintro e w' ⟨rfl,⟨nd,rfl⟩⟩;(try first|exact⟨rfl,_,World.drewN_drewN _ _ _⟩|exact⟨rfl,_,Eq.trans (World.drewN_drewN _ _ _) (congrArg (World.drewN _) (Nat.add_assoc _ _ _))⟩))|(go_at_call 13;(with_reducible refine(spec_GoodParents.calls kj16 _ _ t1019 t1051 _ ?side1 ?side2 A108.out).mono ?_);(case side1=>exact zcc ((Kd.R_reads' HO1022.out).2.2));(case side2=>exact(Kd.R_reads' HO1022.out).2.1);rintro e w' ⟨rfl,⟨nd,rfl⟩⟩;(try first|exact⟨rfl,_,World.drewN_drewN _ _ _⟩|exact⟨rfl,_,Eq.trans (World.drewN_drewN _ _ _) (congrArg (World.drewN _) (Nat.add_assoc _ _ _))⟩)))
              repeat(go_quiet (first|(go_at_call 50;(with_reducible refine(spec_DrawSpreadOn.calls kj16 _ _ l1 t1019 t1020 _ ?side1 ?side2 A91.out).mono ?_);(case side1=>exact zcc ((Kd.C_below HR1.out HB.out)));(case side2=>exact HC1.out);rintro e w109 ⟨v1021,rfl,ho0,hb⟩;have HO1022:=Aside0.mk (Kd.R_lower ho0 (below_size (by exact zk1 HB)));replace HB:=Aside0.mk (below_step (by exact zk1 HB) hb);(try clear hb);(try clear hb2);(try clear hk);(try clear hi);(try clear ho0);obtain⟨Ao110,co110,eo110⟩:=Kd.R_slice HO1022.out;subst eo110)|(go_at_call 29;(with_reducible refine(impl_SpreadOn.calls kj16 _ _ t1019 t1020 t1023 t1024 _ ?side1 ?side2 A92.out).mono ?_);(case side1=>exact zcc ((Kd.R_reads' HO1022.out).2.2));(case side2=>exact(Kd.R_reads' HO1022.out).2.1);rintro e w111 ⟨v1025,rfl,ho0,hb⟩;have HO1026:=Aside0.mk (Kd.R_lower ho0 (below_size (by exact zk1 HB)));replace HO1022:=Aside0.mk (Kd.R_below (zq4 HO1022) hb);replace HB:=Aside0.mk (below_step (by exact zk1 HB) hb);(try clear hb);(try clear hb2);(try clear hk);(try clear hi);(try clear ho0))|(go_at_call 28;(with_reducible refine(spec_SpreadOn.calls kj16 _ _ t1019 t1020 t1027 t1028 _ ?side1 ?side2 A93.out).mono ?_);(case side1=>exact zcc ((Kd.R_reads' HO1022.out).2.2));(case side2=>exact(Kd.R_reads' HO1022.out).2.1);rintro e w112 ⟨v1029,rfl,ho0,hb⟩;have HO1030:=Aside0.mk (Kd.R_lower (Kd.R_new' ho0 (Kd.R_lt (zq4 HO1026))) (below_size (by exact zk1 HB)));replace HO1022:=Aside0.mk (Kd.R_below (zq4 HO1022) hb);replace HO1026:=Aside0.mk (Kd.R_elder' (zq4 HO1026) (Kd.R_base ho0) hb);replace HB:=Aside0.mk (below_step (by exact zk1 HB) hb);(try clear hb);(try clear hb2);(try clear hk);(try clear hi);(try clear ho0))|(go_at_call 51;(with_reducible refine(spec_DrawComesFrom.calls kj16 _ _ l1 t1031 t1032 t1033 _ ?side1 ?side2 A94.out).mono ?_);(case side1=>exact zcc ((Kd.C_below HR1.out HB.out)));(case side2=>exact HC1.out);rintro e w113 ⟨v1034,rfl,ho0,hb⟩;have HO1035:=Aside0.mk (Kd.R_lower (Kd.R_new' ho0 (Kd.R_lt (zq4 HO1022))) (below_size (by exact zk1 HB)));replace HO1022:=Aside0.mk (Kd.R_elder' (zq4 HO1022) (Kd.R_base ho0) hb);replace HO1026:=Aside0.mk (Kd.R_below (zq4 HO1026) hb);replace HO1030:=Aside0.mk (Kd.R_below (zq4 HO1030) hb);replace HB:=Aside0.mk (below_step (by exact zk1 HB) hb);(try clear hb);(try clear hb2);(try clear hk);(try clear hi);(try clear ho0);obtain⟨Ao114,co114,eo114⟩:=Kd.R_slice HO1035.out;subst eo114)|(go_at_call 18;(with_reducible refine(impl_ComesFrom.calls kj16 _ _ t1031 t1032 t1033 t1036 t1037 _ ?side1 ?side2 A95.out).mono ?_);(case side1=>exact zcc ((Kd.R_reads' HO1035.out).2.2));(case side2=>exact(Kd.R_reads' HO1035.out).2.1);rintro e w115 ⟨rfl,hb⟩;replace HO1022:=Aside0.mk (Kd.R_below (zq4 HO1022) hb);replace HO1026:=Aside0.mk (Kd.R_below (zq4 HO1026) hb);replace HO1030:=Aside0.mk (Kd.R_below (zq4 HO1030) hb);replace HO1035:=Aside0.mk (Kd.R_below (zq4 HO1035) hb);replace HB:=Aside0.mk (below_step (by exact zk1 HB) hb);(try clear hb);(try clear hb2);(try clear hk);(try clear hi))|(go_at_call 17;(with_reducible refine(spec_ComesFrom.calls kj16 _ _ t1031 t1032 t1033 t1038 t1039 _ ?side1 ?side2 A96.out).mono ?_);(case side1=>exact zcc ((Kd.R_reads' HO1035.out).2.2));(case side2=>exact(Kd.R_reads' HO1035.out).2.1);rintro e w116 ⟨rfl,hb⟩;replace HO1022:=Aside0.mk (Kd.R_below (zq4 HO1022) hb);replace HO1026:=Aside0.mk (Kd.R_below (zq4 HO1026) hb);replace HO1030:=Aside0.mk (Kd.R_below (zq4 HO1030) hb);replace HO1035:=Aside0.mk (Kd.R_below (zq4 HO1035) hb);replace HB:=Aside0.mk (below_step (by exact zk1 HB) hb);(try clear hb);(try clear hb2);(try clear hk);(try clear hi))|(go_at_call 20;(with_reducible refine(impl_OnTree.calls kj16 _ _ t1031 t1032 t1033 t1040 t1041 _ ?side1 ?side2 A97.out).mono ?_);(case side1=>exact zcc ((Kd.R_reads' HO1035.out).2.2));(case side2=>exact(Kd.R_reads' HO1035.out).2.1);rintro e w117 ⟨v1042,rfl,ho0,hb⟩;have HO1043:=Aside0.mk (Kd.R_lower (Kd.R_new' (Kd.R_new' ho0 (Kd.R_lt (zq4 HO1022))) (Kd.R_lt (zq4 HO1035))) (below_size (by exact zk1 HB)));replace HO1022:=Aside0.mk (Kd.R_elder' (zq4 HO1022) (Kd.R_base ho0) hb);replace HO1026:=Aside0.mk (Kd.R_below (zq4 HO1026) hb);replace HO1030:=Aside0.mk (Kd.R_below (zq4 HO1030) hb);replace HO1035:=Aside0.mk (Kd.R_elder' (zq4 HO1035) (Kd.R_base ho0) hb);replace HB:=Aside0.mk (below_step (by exact zk1 HB) hb);(try clear hb);(try clear hb2);(try clear hk);(try clear hi);(try clear ho0))|(go_at_call 19;(with_reducible refine(spec_OnTree.calls kj16 _ _ t1031 t1032 t1033 t1044 t1045 _ ?side1 ?side2 A98.out).mono ?_);(case side1=>exact zcc ((Kd.R_reads' HO1035.out).2.2));(case side2=>exact(Kd.R_reads' HO1035.out).2.1);rintro e w118 ⟨v1046,rfl,ho0,hb⟩;have HO1047:=Aside0.mk (Kd.R_lower (Kd.R_new' (Kd.R_new' (Kd.R_new' ho0 (Kd.R_lt (zq4 HO1022))) (Kd.R_lt (zq4 HO1035))) (Kd.R_lt (zq4 HO1043))) (below_size (by exact zk1 HB)));replace HO1022:=Aside0.mk (Kd.R_elder' (zq4 HO1022) (Kd.R_base ho0) hb);replace HO1026:=Aside0.mk (Kd.R_below (zq4 HO1026) hb);replace HO1030:=Aside0.mk (Kd.R_below (zq4 HO1030) hb);replace HO1035:=Aside0.mk (Kd.R_elder' (zq4 HO1035) (Kd.R_base ho0) hb);replace HO1043:=Aside0.mk (Kd.R_elder' (zq4 HO1043) (Kd.R_base ho0) hb);replace HB:=Aside0.mk (below_step (by exact zk1 HB) hb);(try clear hb);(try clear hb2);(try clear hk);(try clear hi);(try clear ho0);obtain⟨Ao119,co119,eo119⟩:=Kd.R_slice HO1026.out;subst eo119;obtain⟨Ao120,co120,eo120⟩:=Kd.R_slice HO1030.out;subst eo120)|(go_at_call 52;(with_reducible refine(laws_sameHops.calls kj16 _ _ t1023 _ _ t1027 true _ ?side1 ?side2 ?side3 ?side4 A100.out).mono ?_);(case side1=>exact zcc ((Kd.R_reads' HO1026.out).2.2));(case side2=>exact(Kd.R_reads' HO1026.out).2.1);(case side3=>exact zcc ((Kd.R_reads' HO1030.out).2.2));(case side4=>exact(Kd.R_reads' HO1030.out).2.1);rintro e w' ⟨rfl,⟨nd,rfl⟩⟩;(try first|exact⟨rfl,_,World.drewN_drewN _ _ _⟩|exact⟨rfl,_,Eq.trans (World.drewN_drewN _ _ _) (congrArg (World.drewN _) (Nat.add_assoc _ _ _))⟩);obtain⟨Ao121,co121,eo121⟩:=Kd.R_slice HO1043.out;subst eo121;obtain⟨Ao122,co122,eo122⟩:=Kd.R_slice HO1047.out;subst eo122)|(go_at_call 45;(with_reducible refine(laws_sameInts.calls kj16 _ _ t1040 _ _ t1044 true _ ?side1 ?side2 ?side3 ?side4 A105.out).mono ?_);(case side1=>exact zcc ((Kd.R_reads' HO1043.out).2.2));(case side2=>exact(Kd.R_reads' HO1043.out).2.1);(case side3=>exact zcc ((Kd.R_reads' HO1047.out).2.2));(case side4=>exact(Kd.R_reads' HO1047.out).2.1);rintro e w' ⟨rfl,⟨nd,rfl⟩⟩;(try first|exact⟨rfl,_,World.drewN_drewN _ _ _⟩|exact⟨rfl,_,Eq.trans (World.drewN_drewN _ _ _) (congrArg (World.drewN _) (Nat.add_assoc _ _ _))⟩))|(go_at_call 15;(with_reducible refine(impl_GoodParents.calls kj16 _ _ t1019 t1050 _ ?side1 ?side2 A107.out).mono ?_);(case side1=>exact zcc ((Kd.R_reads' HO1022.out).2.2));(case side2=>exact(Kd.R_reads' HO1022.out).2.1);rintro e w' ⟨rfl,⟨nd,rfl⟩⟩;(try first|exact⟨rfl,_,World.drewN_drewN _ _ _⟩|exact⟨rfl,_,Eq.trans (World.drewN_drewN _ _ _) (congrArg (World.drewN _) (Nat.add_assoc _ _ _))⟩))|(go_at_call 13;(with_reducible refine(spec_GoodParents.calls kj16 _ _ t1019 t1051 _ ?side1 ?side2 A108.out).mono ?_);(case side1=>exact zcc ((Kd.R_reads' HO1022.out).2.2));(case side2=>exact(Kd.R_reads' HO1022.out).2.1);rintro e w' ⟨rfl,⟨nd,rfl⟩⟩;(try first|exact⟨rfl,_,World.drewN_drewN _ _ _⟩|exact⟨rfl,_,Eq.trans (World.drewN_drewN _ _ _) (congrArg (World.drewN _) (Nat.add_assoc _ _ _))⟩)));try go_wp2_with (first|(go_at_call 50;(with_reducible refine(spec_DrawSpreadOn.calls kj16 _ _ l1 t1019 t1020 _ ?side1 ?side2 A91.out).mono ?_);(case side1=>exact zcc ((Kd.C_below HR1.out HB.out)));(case side2=>exact HC1.out);rintro e w109 ⟨v1021,rfl,ho0,hb⟩;have HO1022:=Aside0.mk (Kd.R_lower ho0 (below_size (by exact zk1 HB)));replace HB:=Aside0.mk (below_step (by exact zk1 HB) hb);(try clear hb);(try clear hb2);(try clear hk);(try clear hi);(try clear ho0);obtain⟨Ao110,co110,eo110⟩:=Kd.R_slice HO1022.out;subst eo110)|(go_at_call 29;(with_reducible refine(impl_SpreadOn.calls kj16 _ _ t1019 t1020 t1023 t1024 _ ?side1 ?side2 A92.out).mono ?_);(case side1=>exact zcc ((Kd.R_reads' HO1022.out).2.2));(case side2=>exact(Kd.R_reads' HO1022.out).2.1);rintro e w111 ⟨v1025,rfl,ho0,hb⟩;have HO1026:=Aside0.mk (Kd.R_lower ho0 (below_size (by exact zk1 HB)));replace HO1022:=Aside0.mk (Kd.R_below (zq4 HO1022) hb);replace HB:=Aside0.mk (below_step (by exact zk1 HB) hb);(try clear hb);(try clear hb2);(try clear hk);(try clear hi);(try clear ho0))|(go_at_call 28;(with_reducible refine(spec_SpreadOn.calls kj16 _ _ t1019 t1020 t1027 t1028 _ ?side1 ?side2 A93.out).mono ?_);(case side1=>exact zcc ((Kd.R_reads' HO1022.out).2.2));(case side2=>exact(Kd.R_reads' HO1022.out).2.1);rintro e w112 ⟨v1029,rfl,ho0,hb⟩;have HO1030:=Aside0.mk (Kd.R_lower (Kd.R_new' ho0 (Kd.R_lt (zq4 HO1026))) (below_size (by exact zk1 HB)));replace HO1022:=Aside0.mk (Kd.R_below (zq4 HO1022) hb);replace HO1026:=Aside0.mk (Kd.R_elder' (zq4 HO1026) (Kd.R_base ho0) hb);replace HB:=Aside0.mk (below_step (by exact zk1 HB) hb);(try clear hb);(try clear hb2);(try clear hk);(try clear hi);(try clear ho0))|(go_at_call 51;(with_reducible refine(spec_DrawComesFrom.calls kj16 _ _ l1 t1031 t1032 t1033 _ ?side1 ?side2 A94.out).mono ?_);(case side1=>exact zcc ((Kd.C_below HR1.out HB.out)));(case side2=>exact HC1.out);rintro e w113 ⟨v1034,rfl,ho0,hb⟩;have HO1035:=Aside0.mk (Kd.R_lower (Kd.R_new' ho0 (Kd.R_lt (zq4 HO1022))) (below_size (by exact zk1 HB)));replace HO1022:=Aside0.mk (Kd.R_elder' (zq4 HO1022) (Kd.R_base ho0) hb);replace HO1026:=Aside0.mk (Kd.R_below (zq4 HO1026) hb);replace HO1030:=Aside0.mk (Kd.R_below (zq4 HO1030) hb);replace HB:=Aside0.mk (below_step (by exact zk1 HB) hb);(try clear hb);(try clear hb2);(try clear hk);(try clear hi);(try clear ho0);obtain⟨Ao114,co114,eo114⟩:=Kd.R_slice HO1035.out;subst eo114)|(go_at_call 18;(with_reducible refine(impl_ComesFrom.calls kj16 _ _ t1031 t1032 t1033 t1036 t1037 _ ?side1 ?side2 A95.out).mono ?_);(case side1=>exact zcc ((Kd.R_reads' HO1035.out).2.2));(case side2=>exact(Kd.R_reads' HO1035.out).2.1);rintro e w115 ⟨rfl,hb⟩;replace HO1022:=Aside0.mk (Kd.R_below (zq4 HO1022) hb);replace HO1026:=Aside0.mk (Kd.R_below (zq4 HO1026) hb);replace HO1030:=Aside0.mk (Kd.R_below (zq4 HO1030) hb);replace HO1035:=Aside0.mk (Kd.R_below (zq4 HO1035) hb);replace HB:=Aside0.mk (below_step (by exact zk1 HB) hb);(try clear hb);(try clear hb2);(try clear hk);(try clear hi))|(go_at_call 17;(with_reducible refine(spec_ComesFrom.calls kj16 _ _ t1031 t1032 t1033 t1038 t1039 _ ?side1 ?side2 A96.out).mono ?_);(case side1=>exact zcc ((Kd.R_reads' HO1035.out).2.2));(case side2=>exact(Kd.R_reads' HO1035.out).2.1);rintro e w116 ⟨rfl,hb⟩;replace HO1022:=Aside0.mk (Kd.R_below (zq4 HO1022) hb);replace HO1026:=Aside0.mk (Kd.R_below (zq4 HO1026) hb);replace HO1030:=Aside0.mk (Kd.R_below (zq4 HO1030) hb);replace HO1035:=Aside0.mk (Kd.R_below (zq4 HO1035) hb);replace HB:=Aside0.mk (below_step (by exact zk1 HB) hb);(try clear hb);(try clear hb2);(try clear hk);(try clear hi))|(go_at_call 20;(with_reducible refine(impl_OnTree.calls kj16 _ _ t1031 t1032 t1033 t1040 t1041 _ ?side1 ?side2 A97.out).mono ?_);(case side1=>exact zcc ((Kd.R_reads' HO1035.out).2.2));(case side2=>exact(Kd.R_reads' HO1035.out).2.1);rintro e w117 ⟨v1042,rfl,ho0,hb⟩;have HO1043:=Aside0.mk (Kd.R_lower (Kd.R_new' (Kd.R_new' ho0 (Kd.R_lt (zq4 HO1022))) (Kd.R_lt (zq4 HO1035))) (below_size (by exact zk1 HB)));replace HO1022:=Aside0.mk (Kd.R_elder' (zq4 HO1022) (Kd.R_base ho0) hb);replace HO1026:=Aside0.mk (Kd.R_below (zq4 HO1026) hb);replace HO1030:=Aside0.mk (Kd.R_below (zq4 HO1030) hb);replace HO1035:=Aside0.mk (Kd.R_elder' (zq4 HO1035) (Kd.R_base ho0) hb);replace HB:=Aside0.mk (below_step (by exact zk1 HB) hb);(try clear hb);(try clear hb2);(try clear hk);(try clear hi);(try clear ho0))|(go_at_call 19;(with_reducible refine(spec_OnTree.calls kj16 _ _ t1031 t1032 t1033 t1044 t1045 _ ?side1 ?side2 A98.out).mono ?_);(case side1=>exact zcc ((Kd.R_reads' HO1035.out).2.2));(case side2=>exact(Kd.R_reads' HO1035.out).2.1);rintro e w118 ⟨v1046,rfl,ho0,hb⟩;have HO1047:=Aside0.mk (Kd.R_lower (Kd.R_new' (Kd.R_new' (Kd.R_new' ho0 (Kd.R_lt (zq4 HO1022))) (Kd.R_lt (zq4 HO1035))) (Kd.R_lt (zq4 HO1043))) (below_size (by exact zk1 HB)));replace HO1022:=Aside0.mk (Kd.R_elder' (zq4 HO1022) (Kd.R_base ho0) hb);replace HO1026:=Aside0.mk (Kd.R_below (zq4 HO1026) hb);replace HO1030:=Aside0.mk (Kd.R_below (zq4 HO1030) hb);replace HO1035:=Aside0.mk (Kd.R_elder' (zq4 HO1035) (Kd.R_base ho0) hb);replace HO1043:=Aside0.mk (Kd.R_elder' (zq4 HO1043) (Kd.R_base ho0) hb);replace HB:=Aside0.mk (below_step (by exact zk1 HB) hb);(try clear hb);(try clear hb2);(try clear hk);(try clear hi);(try clear ho0);obtain⟨Ao119,co119,eo119⟩:=Kd.R_slice HO1026.out;subst eo119;obtain⟨Ao120,co120,eo120⟩:=Kd.R_slice HO1030.out;subst eo120)|(go_at_call 52;(with_reducible refine(laws_sameHops.calls kj16 _ _ t1023 _ _ t1027 true _ ?side1 ?side2 ?side3 ?side4 A100.out).mono ?_);(case side1=>exact zcc ((Kd.R_reads' HO1026.out).2.2));(case side2=>exact(Kd.R_reads' HO1026.out).2.1);(case side3=>exact zcc ((Kd.R_reads' HO1030.out).2.2));(case side4=>exact(Kd.R_reads' HO1030.out).2.1);rintro e w' ⟨rfl,⟨nd,rfl⟩⟩;(try first|exact⟨rfl,_,World.drewN_drewN _ _ _⟩|exact⟨rfl,_,Eq.trans (World.drewN_drewN _ _ _) (congrArg (World.drewN _) (Nat.add_assoc _ _ _))⟩);obtain⟨Ao121,co121,eo121⟩:=Kd.R_slice HO1043.out;subst eo121;obtain⟨Ao122,co122,eo122⟩:=Kd.R_slice HO1047.out;subst eo122)|(go_at_call 45;(with_reducible refine(laws_sameInts.calls kj16 _ _ t1040 _ _ t1044 true _ ?side1 ?side2 ?side3 ?side4 A105.out).mono ?_);(case side1=>exact zcc ((Kd.R_reads' HO1043.out).2.2));(case side2=>exact(Kd.R_reads' HO1043.out).2.1);(case side3=>exact zcc ((Kd.R_reads' HO1047.out).2.2));(case side4=>exact(Kd.R_reads' HO1047.out).2.1);rintro e w' ⟨rfl,⟨nd,rfl⟩⟩;(try first|exact⟨rfl,_,World.drewN_drewN _ _ _⟩|exact⟨rfl,_,Eq.trans (World.drewN_drewN _ _ _) (congrArg (World.drewN _) (Nat.add_assoc _ _ _))⟩))|(go_at_call 15;(with_reducible refine(impl_GoodParents.calls kj16 _ _ t1019 t1050 _ ?side1 ?side2 A107.out).mono ?_);(case side1=>exact zcc ((Kd.R_reads' HO1022.out).2.2));(case side2=>exact(Kd.R_reads' HO1022.out).2.1);rintro e w' ⟨rfl,⟨nd,rfl⟩⟩;(try first|exact⟨rfl,_,World.drewN_drewN _ _ _⟩|exact⟨rfl,_,Eq.trans (World.drewN_drewN _ _ _) (congrArg (World.drewN _) (Nat.add_assoc _ _ _))⟩))|(go_at_call 13;(with_reducible refine(spec_GoodParents.calls kj16 _ _ t1019 t1051 _ ?side1 ?side2 A108.out).mono ?_);(case side1=>exact zcc ((Kd.R_reads' HO1022.out).2.2));(case side2=>exact(Kd.R_reads' HO1022.out).2.1);rintro e w' ⟨rfl,⟨nd,rfl⟩⟩;(try first|exact⟨rfl,_,World.drewN_drewN _ _ _⟩|exact⟨rfl,_,Eq.trans (World.drewN_drewN _ _ _) (congrArg (World.drewN _) (Nat.add_assoc _ _ _))⟩))))
              go_ret
              exact⟨by first|rfl|(simp [errW_none,errW_some]<;>rfl)|(simp [*,errW_none,errW_some]<;>rfl),by exact zk1 HB⟩
            ·replace c106:=Bool.eq_false_iff.mpr c106
             subst c106
             have H1:(some false)=some r:=by rw [if_neg (show ¬ (false=true) by decide)] at H;exact H
             clear H
             have H:=H1
             clear H1
             exact absurd ((Option.some.inj H).trans HRT.out) (by decide)
           ·rw [if_neg c104] at H
            have c104b0:(t1041==t1045)=false:=by simpa using c104
            (try(have c104b1:decide (t1041=t1045)=false:=by simpa using c104))
            (try(have c104b2:(t1041==t1045)=false:=by simpa using c104))
            (try(have c104b3:¬ (t1041=t1045):=by simpa using c104))
            clear c104
            exact absurd ((Option.some.inj H).trans HRT.out) (by decide)
          ·rw [if_neg c103] at H
           have c103b0:(t1036==t1038)=false:=beq_eq_false_iff_ne.mpr c103
           have c103b1:(t1036 !=t1038)=true:=bne_iff_ne.mpr c103
           exact absurd ((Option.some.inj H).trans HRT.out) (by decide)
         ·rw [if_neg c102] at H
          have c102b0:(t1037==t1039)=false:=by simpa using c102
          (try(have c102b1:decide (t1037=t1039)=false:=by simpa using c102))
          (try(have c102b2:(t1037==t1039)=false:=by simpa using c102))
          (try(have c102b3:¬ (t1037=t1039):=by simpa using c102))
          clear c102
          exact absurd ((Option.some.inj H).trans HRT.out) (by decide)
        ·replace c101:=Bool.eq_false_iff.mpr c101
         subst c101
         have H1:(some false)=some r:=by rw [if_neg (show ¬ (false=true) by decide)] at H;exact H
         clear H
         have H:=H1
         clear H1
         exact absurd ((Option.some.inj H).trans HRT.out) (by decide)
       ·rw [if_neg c99] at H
        have c99b0:(t1024==t1028)=false:=by simpa using c99
        (try(have c99b1:decide (t1024=t1028)=false:=by simpa using c99))
        (try(have c99b2:(t1024==t1028)=false:=by simpa using c99))
        (try(have c99b3:¬ (t1024=t1028):=by simpa using c99))
        clear c99
        exact absurd ((Option.some.inj H).trans HRT.out) (by decide)
/-- THE ONE PURE STATEMENT of laws_FnSpread: yours. -/
def laws_FnSpread.Pure:Prop:= ∀ (l0:List Int) (l1:List Int),l0.length≤maxLen→l0.length * 1≤140737488351232→ (∀ x ∈ l0,(Lit.int .u8 x).wf=true)→l1.length≤maxLen→l1.length * 1≤140737488351232→ (∀ x ∈ l1,(Lit.int .u8 x).wf=true)→ ∃ k,laws_FnSpread.f k l0 l1=some true
theorem laws_FnSpread.walk (P:laws_FnSpread.Pure) (a0:Option Addr) (len0 cap0:Nat) (z0:List Int) (a1:Option Addr) (len1 cap1:Nat) (z1:List Int) (w:World) (w0:(a0=none∧len0=0∧cap0=0∧z0= [])∨ ∃ x,a0=some x∧len0≤cap0∧cap0≤maxLen∧z0.length=cap0∧ (∀ i,i<z0.length→w.cell? (x.add i)=some (.int .u8 (z0.getD i 0)))∧ ∀ n ∈ z0,(Lit.int .u8 n).wf=true) (y0:len0 * 1≤140737488351232) (w1:(a1=none∧len1=0∧cap1=0∧z1= [])∨ ∃ x,a1=some x∧len1≤cap1∧cap1≤maxLen∧z1.length=cap1∧ (∀ i,i<z1.length→w.cell? (x.add i)=some (.int .u8 (z1.getD i 0)))∧ ∀ n ∈ z1,(Lit.int .u8 n).wf=true) (y1:len1 * 1≤140737488351232):
  Calls Try.prog 11 #[.slice a0 len0 cap0,.slice a1 len1 cap1] w fun e w'=>e= .returned (.bool true)∧Below w.heap.size w w':=by
 obtain⟨l0,rfl,hr0,hm0,hw0,hc0⟩:=ReadsInt.ofRowC w0
 obtain⟨l1,rfl,hr1,hm1,hw1,hc1⟩:=ReadsInt.ofRowC w1
 obtain⟨k,h⟩:=P l0 l1 hm0 y0 hw0 hm1 y1 hw1
 refine(laws_FnSpread.calls k _ _ l0 _ _ l1 true w (Kd.C_of_reads (d:=(0:Int)) (h1:=fun _=>rfl) hr0) hc0 (Kd.C_of_reads (d:=(0:Int)) (h1:=fun _=>rfl) hr1) hc1 h).mono ?_
 rintro e w' ⟨rfl,hd⟩
 exact⟨rfl,hd⟩
open Go.RowKit Go.Proofs.YtedegfbheihopaaW.PrintWords
theorem wrap_id {x : Int} (h0 : -9223372036854775808 ≤ x) (h1 : x ≤ 9223372036854775807) : wrap64 x = x := by unfold wrap64; omega
theorem Ev.succ {α : Type} {g : Nat → Option α} {r : α} (h : Ev (fun k => g (k + 1)) r) : Ev g r := Ev.step (fun _ => rfl) h
theorem Ev.some_ {α : Type} {r s : α} (h : r = s) : Ev (fun _ => some r) s := h ▸ Ev.now r
theorem getD_mid {α : Type} (d : α) (pre : List α) (x : α) (suf : List α) : (pre ++ x :: suf).getD ((pre.length : Int)).toNat d = x := by simp
theorem set_mid {α : Type} (pre : List α) (x y : α) (suf : List α) : (pre ++ x :: suf).set ((pre.length : Int)).toNat y = pre ++ y :: suf := by simp
theorem app_one {α : Type} (pre : List α) (x : α) (suf : List α) : pre ++ x :: suf = (pre ++ [x]) ++ suf := by simp
theorem len_mid {α : Type} (pre : List α) (x : α) (suf : List α) : ((pre ++ x :: suf).length : Int) = pre.length + suf.length + 1 := by simp; omega
theorem len_one {α : Type} (pre : List α) (x : α) : ((pre ++ [x]).length : Int) = pre.length + 1 := by simp
theorem nil_or_snoc {α : Type} (l : List α) : l = [] ∨ ∃ p y, l = p ++ [y] := by
 rcases List.eq_nil_or_concat l with rfl | ⟨p, y, rfl⟩
 ·exact .inl rfl
 ·exact .inr ⟨p, y, by simp⟩
open Go.RowKit Go.Proofs.YtedegfbheihopaaW.PrintWords Go.Proofs.YtedegfbheihopaaW.PrintLast
theorem rdEdge_mid (pre : List S79) (x : S79) (suf : List S79) : rd_T79 (pre ++ x :: suf) (pre.length : Int) = x := getD_mid _ pre x suf
theorem rd_mid (pre : List Int) (x : Int) (suf : List Int) : rd (pre ++ x :: suf) (pre.length : Int) = x := getD_mid _ pre x suf
-- sweeps over a list of numbers, and a list taken over, both sides
theorem specIn (a b c : Int) : spec_l1In.f a b c = some (decide (b ≤ a ∧ a ≤ c)) := by
 unfold spec_l1In.f
 by_cases h : a ≥ b
 ·rw [if_pos h]
  congr 1
  by_cases h2 : a ≤ c
  ·rw [decide_eq_true h2, decide_eq_true ⟨h, h2⟩]
  ·rw [decide_eq_false h2, decide_eq_false (fun hc => h2 hc.2)]
 ·rw [if_neg h, decide_eq_false (fun hc => h hc.1)]
theorem implIn (a b c : Int) : impl_in.f a b c = some (decide (b ≤ a ∧ a ≤ c)) := specIn a b c
def allIn (a b : Int) (l : List Int) : Bool := l.all fun x => decide (a ≤ x ∧ x ≤ b)
theorem implAll_l (a b : Int) (suf : List Int) : ∀ (pre : List Int), ((pre ++ suf).length : Int) ≤ 1099511627776 → Ev (fun k => impl_allIn.l0 k a b (pre ++ suf) ((pre ++ suf).length : Int) pre.length) (allIn a b suf) := by
 induction suf with
 | nil =>
  intro pre h
  refine Ev.succ ?_
  simp only [impl_allIn.l0, List.append_nil, Int.lt_irrefl, if_false]
  exact Ev.now _
 | cons x suf ih =>
  intro pre h
  refine Ev.succ ?_
  rw [len_mid] at h ⊢
  simp only [impl_allIn.l0]
  simp only [if_pos (show ((pre.length : Int) < pre.length + suf.length + 1) by omega), if_pos (show (0 : Int) ≤ pre.length by omega), len_mid, rd_mid, implIn, Option.bind_some, wrap_id (show (-9223372036854775808 : Int) ≤ pre.length + 1 by omega) (show ((pre.length : Int) + 1 ≤ 9223372036854775807) by omega)]
  by_cases hx : a ≤ x ∧ x ≤ b
  ·have := ih (pre ++ [x]) (by rw [← app_one, len_mid]; exact h)
   rw [← app_one, len_mid, len_one] at this
   simp only [hx, and_self, decide_true, if_true]
   rw [show allIn a b (x :: suf) = allIn a b suf by simp [allIn, hx]]
   exact this
  ·simp only [decide_eq_true_eq, if_neg hx]
   rw [show allIn a b (x :: suf) = false by simp [allIn]; intro h1 h2; exact absurd ⟨h1, h2⟩ hx]
   exact Ev.now _
theorem implAll_ev (a b : Int) (l : List Int) (h : (l.length : Int) ≤ 1099511627776) : Ev (fun k => impl_allIn.f k l a b) (allIn a b l) := by
 have := implAll_l a b l [] h
 exact this
def isEdge (m : Int) (x : S79) : Bool := decide (0 ≤ x.f0 ∧ x.f0 ≤ m ∧ 0 ≤ x.f1 ∧ x.f1 ≤ m ∧ x.f0 < x.f1 ∧ 1 ≤ x.f2 ∧ x.f2 ≤ 100)
def edgeLt (y x : S79) : Bool := decide (y.f0 < x.f0 ∨ y.f0 = x.f0 ∧ y.f1 < x.f1)
def goodEF (m : Int) : Option S79 → List S79 → Bool
 | _, [] => true
 | none, x :: r => isEdge m x && goodEF m (some x) r
 | some y, x :: r => isEdge m x && (edgeLt y x && goodEF m (some x) r)
def goodE (n : Int) (l : List S79) : Bool := goodEF (wrap64 (n - 1)) none l && (decide (1 ≤ n ∧ n ≤ 12) && decide (l.length ≤ 40))
theorem isEdge_iff (m : Int) (x : S79) : isEdge m x = true ↔ (0 ≤ x.f0 ∧ x.f0 ≤ m ∧ 0 ≤ x.f1 ∧ x.f1 ≤ m ∧ x.f0 < x.f1 ∧ 1 ≤ x.f2 ∧ x.f2 ≤ 100) := by unfold isEdge; simp only [decide_eq_true_eq]
theorem specGoodE_l (n : Int) (suf : List S79) : ∀ (pre : List S79), (pre.length : Int) + suf.length ≤ 1099511627776 →
  Ev (fun k => spec_GoodEdges.l0 k n (pre ++ suf) (pre ++ suf) ((pre ++ suf).length : Int) (pre.length : Int)) (goodEF (wrap64 (n - 1)) pre.getLast? suf && (decide (1 ≤ n ∧ n ≤ 12) && decide ((pre ++ suf).length ≤ 40))) := by
 induction suf with
 | nil =>
  intro pre hb
  refine Ev.succ ?_
  simp only [spec_GoodEdges.l0]
  simp only [if_neg (show ¬ (pre.length : Int) < ((pre ++ ([] : List S79)).length : Int) by simp), specIn, Option.bind_some]
  have : goodEF (wrap64 (n - 1)) pre.getLast? [] = true := by cases pre.getLast? <;> rfl
  rw [this, Bool.true_and]
  by_cases h : 1 ≤ n ∧ n ≤ 12
  ·simp only [h, and_self, decide_true, if_true, Bool.true_and]
   refine Ev.some_ ?_
   congr 1
   simp only [eq_iff_iff]
   omega
  ·simp only [h, decide_false, Bool.false_eq_true, if_false, Bool.false_and]
   exact Ev.now _
 | cons x suf ih =>
  intro pre hb
  simp only [List.length_cons] at hb
  have c1 : (pre.length : Int) < ((pre ++ x :: suf).length : Int) := by simp <;> omega
  have c0 : (0 : Int) ≤ (pre.length : Int) := by omega
  have h := ih (pre ++ [x]) (by simp <;> omega)
  rw [← app_one, len_one, List.getLast?_concat] at h
  refine Ev.succ ?_
  simp only [spec_GoodEdges.l0]
  simp only [if_pos c1, if_pos c0, rdEdge_mid, specIn, Option.bind_some]
  generalize wrap64 (n - 1) = m at h ⊢
  generalize hfin : (decide (1 ≤ n ∧ n ≤ 12) && decide ((pre ++ x :: suf).length ≤ 40)) = fin at h ⊢
  have bad : ∀ (b : Bool), isEdge m x = false → b = true → Ev (fun k => spec_GoodEdges.j1 k n (pre ++ x :: suf) (pre.length : Int) (pre ++ x :: suf) ((pre ++ x :: suf).length : Int) (pre.length : Int) b x.f0 x.f1 x.f2) (goodEF m pre.getLast? (x :: suf) && fin) := by
   intro b he hb
   refine Ev.succ ?_
   simp only [spec_GoodEdges.j1, hb, if_true]
   refine Ev.some_ ?_
   cases pre.getLast? <;> simp [goodEF, he]
  by_cases h1 : 0 ≤ x.f0 ∧ x.f0 ≤ m
  ·simp only [h1, and_self, decide_true, if_true]
   by_cases h2 : 0 ≤ x.f1 ∧ x.f1 ≤ m
   ·simp only [h2, and_self, decide_true, if_true]
    by_cases h3 : x.f0 ≥ x.f1
    ·simp only [if_pos h3]
     refine bad true ?_ rfl
     unfold isEdge; simp only [decide_eq_false_iff_not]; omega
    ·simp only [if_neg h3]
     by_cases h4 : 1 ≤ x.f2 ∧ x.f2 ≤ 100
     ·have he : isEdge m x = true := by rw [isEdge_iff]; omega
      simp only [h4, and_self, decide_true, Bool.not_true]
      refine Ev.succ ?_
      simp only [spec_GoodEdges.j1, Bool.false_eq_true, if_false]
      rw [wrap_id (x := (pre.length : Int) + 1) (by omega) (by omega)]
      rcases nil_or_snoc pre with rfl | ⟨pre', y, rfl⟩
      ·simp only [if_neg (show ¬ (([] : List S79).length : Int) > 0 by simp)]
       have e : goodEF m ([] : List S79).getLast? (x :: suf) = goodEF m (some x) suf := by simp [goodEF, he]
       rw [e]
       exact h
      ·have hy : rd_T79 ((pre' ++ [y]) ++ x :: suf) (((pre' ++ [y]).length : Int) - 1) = y := by
        rw [show ((pre' ++ [y]) ++ x :: suf) = pre' ++ y :: (x :: suf) by simp, show (((pre' ++ [y]).length : Int) - 1) = (pre'.length : Int) by simp]
        exact rdEdge_mid _ _ _
       have q0 : (((pre' ++ [y]).length : Int)) > 0 := by simp <;> omega
       rw [wrap_id (x := ((pre' ++ [y]).length : Int) - 1) (by omega) (by omega)]
       simp only [if_pos q0, if_pos (show 0 ≤ ((pre' ++ [y]).length : Int) - 1 by omega), if_pos (show ((pre' ++ [y]).length : Int) - 1 < (((pre' ++ [y]) ++ x :: suf).length : Int) by omega), hy]
       have e : goodEF m (pre' ++ [y]).getLast? (x :: suf) = (edgeLt y x && goodEF m (some x) suf) := by simp [goodEF, he]
       rw [e]
       by_cases g1 : y.f0 > x.f0
       ·simp only [if_pos g1]
        refine Ev.some_ ?_
        have : edgeLt y x = false := by unfold edgeLt; simp only [decide_eq_false_iff_not]; omega
        rw [this]; rfl
       ·simp only [if_neg g1]
        by_cases g2 : y.f0 = x.f0
        ·simp only [if_pos g2]
         by_cases g3 : y.f1 ≥ x.f1
         ·simp only [if_pos g3]
          refine Ev.some_ ?_
          have : edgeLt y x = false := by unfold edgeLt; simp only [decide_eq_false_iff_not]; omega
          rw [this]; rfl
         ·simp only [if_neg g3]
          have : edgeLt y x = true := by unfold edgeLt; simp only [decide_eq_true_eq]; omega
          rw [this, Bool.true_and]
          exact h
        ·simp only [if_neg g2]
         have : edgeLt y x = true := by unfold edgeLt; simp only [decide_eq_true_eq]; omega
         rw [this, Bool.true_and]
         exact h
     ·simp only [h4, decide_false, Bool.not_false]
      refine bad true ?_ rfl
      unfold isEdge; simp only [decide_eq_false_iff_not]; omega
   ·simp only [h2, decide_false, Bool.false_eq_true, if_false]
    refine bad true ?_ rfl
    unfold isEdge; simp only [decide_eq_false_iff_not]; omega
  ·simp only [h1, decide_false, Bool.false_eq_true, if_false]
   refine bad true ?_ rfl
   unfold isEdge; simp only [decide_eq_false_iff_not]; omega
theorem specGoodE_ev (n : Int) (l : List S79) (hl : l.length ≤ 1048576) : Ev (fun k => spec_GoodEdges.f k n l) (goodE n l) := by
 unfold spec_GoodEdges.f
 exact specGoodE_l n l [] (by simp <;> omega)
theorem implGoodE_l (n : Int) (hm : wrap64 (n - 1) ≤ 9223372036854775807) (suf : List S79) : ∀ (pre : List S79), (pre.length : Int) + suf.length ≤ 1099511627776 → (∀ y, pre.getLast? = some y → isEdge (wrap64 (n - 1)) y = true) →
  Ev (fun k => impl_GoodEdges.l0 k n (pre ++ suf) (pre ++ suf) ((pre ++ suf).length : Int) (pre.length : Int)) (goodEF (wrap64 (n - 1)) pre.getLast? suf && (decide (1 ≤ n ∧ n ≤ 12) && decide ((pre ++ suf).length ≤ 40))) := by
 induction suf with
 | nil =>
  intro pre hb _
  refine Ev.succ ?_
  simp only [impl_GoodEdges.l0]
  simp only [if_neg (show ¬ (pre.length : Int) < ((pre ++ ([] : List S79)).length : Int) by simp), impl_isSpots.f, implIn, Option.bind_some]
  have : goodEF (wrap64 (n - 1)) pre.getLast? [] = true := by cases pre.getLast? <;> rfl
  rw [this, Bool.true_and]
  by_cases h : 1 ≤ n ∧ n ≤ 12
  ·simp only [h, and_self, decide_true, if_true, Bool.true_and]
   refine Ev.some_ ?_
   congr 1
   simp only [eq_iff_iff]
   omega
  ·simp only [h, decide_false, Bool.false_eq_true, if_false, Bool.false_and]
   exact Ev.now _
 | cons x suf ih =>
  intro pre hb hlast
  simp only [List.length_cons] at hb
  have c1 : (pre.length : Int) < ((pre ++ x :: suf).length : Int) := by simp <;> omega
  have c0 : (0 : Int) ≤ (pre.length : Int) := by omega
  have h := ih (pre ++ [x]) (by simp <;> omega)
  rw [← app_one, len_one, List.getLast?_concat] at h
  refine Ev.succ ?_
  simp only [impl_GoodEdges.l0]
  simp only [if_pos c1, if_pos c0, rdEdge_mid, implIn, Option.bind_some]
  generalize wrap64 (n - 1) = m at h hm hlast ⊢
  generalize hfin : (decide (1 ≤ n ∧ n ≤ 12) && decide ((pre ++ x :: suf).length ≤ 40)) = fin at h ⊢
  have bad : isEdge m x = false → Ev (fun k => some false) (goodEF m pre.getLast? (x :: suf) && fin) := by
   intro he
   refine Ev.some_ ?_
   cases pre.getLast? <;> simp [goodEF, he]
  by_cases h1 : 0 ≤ x.f0 ∧ x.f0 ≤ m
  ·simp only [h1, and_self, decide_true, if_true]
   by_cases h2 : 0 ≤ x.f1 ∧ x.f1 ≤ m
   ·simp only [h2, and_self, decide_true, if_true]
    by_cases h3 : x.f0 ≥ x.f1
    ·simp only [if_pos h3]
     refine bad ?_
     unfold isEdge; simp only [decide_eq_false_iff_not]; omega
    ·simp only [if_neg h3]
     by_cases h4 : 1 ≤ x.f2 ∧ x.f2 ≤ 100
     ·have he : isEdge m x = true := by rw [isEdge_iff]; omega
      have h := h (fun y hy => by cases hy; exact he)
      simp only [h4, and_self, decide_true, if_true]
      rw [wrap_id (x := (pre.length : Int) + 1) (by omega) (by omega)]
      rcases nil_or_snoc pre with rfl | ⟨pre', y, rfl⟩
      ·simp only [if_neg (show ¬ (([] : List S79).length : Int) > 0 by simp)]
       have e : goodEF m ([] : List S79).getLast? (x :: suf) = goodEF m (some x) suf := by simp [goodEF, he]
       rw [e]
       exact h
      ·have hy : rd_T79 ((pre' ++ [y]) ++ x :: suf) (((pre' ++ [y]).length : Int) - 1) = y := by
        rw [show ((pre' ++ [y]) ++ x :: suf) = pre' ++ y :: (x :: suf) by simp, show (((pre' ++ [y]).length : Int) - 1) = (pre'.length : Int) by simp]
        exact rdEdge_mid _ _ _
       have hye := (isEdge_iff m y).1 (hlast y (by simp))
       have hxe := (isEdge_iff m x).1 he
       have q0 : (((pre' ++ [y]).length : Int)) > 0 := by simp <;> omega
       rw [wrap_id (x := ((pre' ++ [y]).length : Int) - 1) (by omega) (by omega)]
       simp only [if_pos q0, if_pos (show 0 ≤ ((pre' ++ [y]).length : Int) - 1 by omega), if_pos (show ((pre' ++ [y]).length : Int) - 1 < (((pre' ++ [y]) ++ x :: suf).length : Int) by omega), hy]
       have e : goodEF m (pre' ++ [y]).getLast? (x :: suf) = (edgeLt y x && goodEF m (some x) suf) := by simp [goodEF, he]
       rw [e]
       have eb : impl_byEnds.f y.f0 y.f1 y.f2 x.f0 x.f1 x.f2 = some (if y.f0 = x.f0 then y.f1 - x.f1 else y.f0 - x.f0) := by
        unfold impl_byEnds.f
        split
        ·rw [wrap_id (by omega) (by omega)]
        ·rw [wrap_id (by omega) (by omega)]
       simp only [eb, Option.bind_some]
       by_cases g : edgeLt y x = true
       ·have g' : (y.f0 < x.f0 ∨ y.f0 = x.f0 ∧ y.f1 < x.f1) := by unfold edgeLt at g; simpa only [decide_eq_true_eq] using g
        rw [g, Bool.true_and]
        simp only [if_neg (show ¬ (if y.f0 = x.f0 then y.f1 - x.f1 else y.f0 - x.f0) ≥ 0 by split <;> omega)]
        exact h
       ·have g' : ¬ (y.f0 < x.f0 ∨ y.f0 = x.f0 ∧ y.f1 < x.f1) := by unfold edgeLt at g; simpa only [decide_eq_true_eq] using g
        simp only [if_pos (show (if y.f0 = x.f0 then y.f1 - x.f1 else y.f0 - x.f0) ≥ 0 by split <;> omega)]
        refine Ev.some_ ?_
        rw [Bool.not_eq_true] at g
        rw [g]; rfl
     ·simp only [h4, decide_false, Bool.false_eq_true, if_false]
      refine bad ?_
      unfold isEdge; simp only [decide_eq_false_iff_not]; omega
   ·simp only [h2, decide_false, Bool.false_eq_true, if_false]
    refine bad ?_
    unfold isEdge; simp only [decide_eq_false_iff_not]; omega
  ·simp only [h1, decide_false, Bool.false_eq_true, if_false]
   refine bad ?_
   unfold isEdge; simp only [decide_eq_false_iff_not]; omega
theorem wrap_top (x : Int) : -9223372036854775808 ≤ wrap64 x ∧ wrap64 x ≤ 9223372036854775807 := by unfold wrap64; omega
theorem implGoodE_ev (n : Int) (l : List S79) (hl : l.length ≤ 1048576) : Ev (fun k => impl_GoodEdges.f k n l) (goodE n l) := by
 unfold impl_GoodEdges.f
 exact implGoodE_l n (wrap_top _).2 l [] (by simp <;> omega) (fun y hy => by simp at hy)
/-- What good edges are. -/
theorem goodE_n {n : Int} {l : List S79} (h : goodE n l = true) : 1 ≤ n ∧ n ≤ 12 ∧ l.length ≤ 40 := by
 unfold goodE at h
 simp only [Bool.and_eq_true, decide_eq_true_eq] at h
 exact ⟨h.2.1.1, h.2.1.2, h.2.2⟩
theorem goodEF_all {m : Int} : ∀ (l : List S79) (o : Option S79), goodEF m o l = true → ∀ x ∈ l, isEdge m x = true
 | [], _, _, x, hx => by simp at hx
 | y :: r, o, h, x, hx => by
  have h2 : isEdge m y = true ∧ goodEF m (some y) r = true := by
   cases o with
   | none => simpa [goodEF] using h
   | some z =>
    simp only [goodEF, Bool.and_eq_true] at h
    exact ⟨h.1, h.2.2⟩
  rcases List.mem_cons.1 hx with rfl | hx
  ·exact h2.1
  ·exact goodEF_all r _ h2.2 x hx
theorem goodE_edge {n : Int} {l : List S79} (h : goodE n l = true) : ∀ x ∈ l, 0 ≤ x.f0 ∧ x.f0 < x.f1 ∧ x.f1 < n ∧ 1 ≤ x.f2 ∧ x.f2 ≤ 100 := by
 have hn := goodE_n h
 intro x hx
 unfold goodE at h
 simp only [Bool.and_eq_true] at h
 have := (isEdge_iff _ _).1 (goodEF_all l none h.1 x hx)
 rw [wrap_id (by omega) (by omega)] at this
 omega
theorem goodEF_rise {m : Int} : ∀ (l : List S79) (y : S79), goodEF m (some y) l = true → ∀ x ∈ l, (y.f0 < x.f0 ∨ y.f0 = x.f0 ∧ y.f1 < x.f1)
 | [], _, _, x, hx => by simp at hx
 | a :: r, y, h, x, hx => by
  simp only [goodEF, Bool.and_eq_true, edgeLt, decide_eq_true_eq] at h
  rcases List.mem_cons.1 hx with rfl | hx
  ·exact h.2.1
  ·have := goodEF_rise r a h.2.2 x hx
   omega
theorem goodEF_pair {m : Int} : ∀ (l : List S79) (o : Option S79), goodEF m o l = true → l.Pairwise (fun y x => y.f0 < x.f0 ∨ y.f0 = x.f0 ∧ y.f1 < x.f1)
 | [], _, _ => List.Pairwise.nil
 | y :: r, o, h => by
  have h2 : goodEF m (some y) r = true := by
   cases o with
   | none => simp only [goodEF, Bool.and_eq_true] at h; exact h.2
   | some z => simp only [goodEF, Bool.and_eq_true] at h; exact h.2.2
  exact List.Pairwise.cons (goodEF_rise r y h2) (goodEF_pair r _ h2)
theorem goodE_pair {n : Int} {l : List S79} (h : goodE n l = true) : l.Pairwise (fun y x => y.f0 < x.f0 ∨ y.f0 = x.f0 ∧ y.f1 < x.f1) := by
 unfold goodE at h
 simp only [Bool.and_eq_true] at h
 exact goodEF_pair l none h.1
end Go.Proofs.Ytedegfbheihopaa.P
