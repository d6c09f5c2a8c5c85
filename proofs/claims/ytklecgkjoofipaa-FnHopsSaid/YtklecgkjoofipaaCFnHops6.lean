/- Functions, walks and plain lemmas that the law FnHops reaches, part 6. -/
import Derived.Test.YtklecgkjoofipaaCFnHops5
import Derived.Below
import Derived.Deep.Draws
import Derived.Deep.AppendLies
import Derived.Maps.AppendAt
import Derived.OwnWalk
import Derived.Laws.BytesArg
import Derived.Laws.MakeOwn
import Derived.Laws.OwnMore
import Derived.Deep.OwnRows
import Derived.Tactics
import Derived.Lib.ConvBytes
import Derived.Laws.Slices
import Derived.WalkKit
import Derived.KernelRfl
import Derived.RowKit3
import Derived.Deep.LoopGhost
import Derived.Deep.QuietTactic
import Derived.BigQuiet
import Derived.WideLaws
import Derived.Deep.DeepCutAuto
import Derived.Deep.CutBlock
import Derived.Deep.RegionHeld3
import Derived.Laws.Rows
import Derived.Lib.AppendStr
import Derived.ArgAppend
import Derived.Laws.IdiomCopy
import Derived.OrdersHeld
import Derived.Laws.BitsLemmas
import Derived.RowKit
import Derived.WalkSpells
import Derived.Lib.SliceRun
import Derived.Shelf.Abstract
import Derived.ProofKit
import Derived.OpenShut
import Derived.ShutString
import Derived.ChangeOld
import Derived.SizedLaws
namespace Go.Proofs.Ytklecgkjoofipaa.P
open Go.RowKit Go.Proofs.YtklecgkjoofipaaW.PrintWords Go.Proofs.YtklecgkjoofipaaW.PrintLast Go.Proofs.YtklecgkjoofipaaW.PrintMore
attribute [local go_sem] max2_int min2_int max_two min_two max_three min_three max_four min_four   -- for this text's walks alone
set_option linter.unusedVariables false
set_option linter.unusedSimpArgs false
mutual
def laws_FnHops.j0:Nat→List Int→Int→List (S67)→Int→Int→List Int→Int→Bool→Bool→Option (Bool)
 | 0,_,_,_,_,_,_,_,_,_=>none
 |k+1,x1,x5,x6,x7,x8,x9,x10,x11,x95=>if x95=true then(some false) else(if x11=true then((impl_CostOf.f k x5 x6 x9).bind fun bt896=>((impl_FarsFrom.f k x5 x6 x7).bind fun bt898=>(if bt896.2=true then(if bt896.1=x10 then(if bt898.2=true then(if 0≤x8 then(if x8< (bt898.1.length:Int) then(if (rd bt898.1 x8)=x10 then(if 0< (x9.length:Int) then(if (rd x9 0)=x7 then(if 0≤ (wrap64 ((x9.length:Int) - 1)) then(if (wrap64 ((x9.length:Int) - 1))< (x9.length:Int) then(if (rd x9 (wrap64 ((x9.length:Int) - 1)))=x8 then(laws_FnHops.j1 k x1) else(some false)) else(none)) else(none)) else(some false)) else(none)) else(some false)) else(none)) else(none)) else(some false)) else(some false)) else(some false)))) else(laws_FnHops.j1 k x1))
def laws_FnHops.j1:Nat→List Int→Option (Bool)
 | 0,_=>none
 |k+1,x1=>(spec_DrawFirstHops.f k x1).bind fun bt905=>((impl_FirstHops.f k bt905.1 bt905.2.1 bt905.2.2.1 bt905.2.2.2).bind fun bt911=>((spec_FirstHops.f k bt905.1 bt905.2.1 bt905.2.2.1 bt905.2.2.2).bind fun bt915=>(if (bt911.2 !=bt915.2)=true then(laws_FnHops.j2 k x1 bt905.1 bt905.2.1 bt905.2.2.1 bt905.2.2.2 bt911.1 bt911.2 true) else((laws_sameInts.f k bt911.1 bt915.1).bind fun t919=>(laws_FnHops.j2 k x1 bt905.1 bt905.2.1 bt905.2.2.1 bt905.2.2.2 bt911.1 bt911.2 (!t919))))))
def laws_FnHops.j2:Nat→List Int→Int→List (S67)→Int→Int→List Int→Bool→Bool→Option (Bool)
 | 0,_,_,_,_,_,_,_,_=>none
 |k+1,x1,x19,x20,x21,x22,x23,x24,x178=>if x178=true then(some false) else(if x24=true then((impl_FarsFrom.f k x19 x20 x22).bind fun bt920=>(laws_FnHops.l0 k x1 x19 x20 x21 bt920.1 bt920.2 x23 (x23.length:Int) 0)) else(laws_FnHops.j4 k x1))
def laws_FnHops.j4:Nat→List Int→Option (Bool)
 | 0,_=>none
 |k+1,x1=>(spec_DrawHopFor.f k x1).bind fun bt932=>((impl_HopFor.f k bt932.1 bt932.2.1 bt932.2.2.1 bt932.2.2.2.1 bt932.2.2.2.2).bind fun bt939=>((spec_HopFor.f k bt932.1 bt932.2.1 bt932.2.2.1 bt932.2.2.2.1 bt932.2.2.2.2).bind fun bt941=>((spec_DrawCostOf.f k x1).bind fun bt943=>((impl_CostOf.f k bt943.1 bt943.2.1 bt943.2.2).bind fun bt950=>((spec_CostOf.f k bt943.1 bt943.2.1 bt943.2.2).bind fun bt952=>(if (bt939.2 !=bt941.2)=true then(laws_FnHops.j5 k bt932.1 bt932.2.1 bt932.2.2.1 bt932.2.2.2.1 bt939.1 bt939.2 true) else(if bt939.1=bt941.1 then(if (bt950.2 !=bt952.2)=true then(laws_FnHops.j5 k bt932.1 bt932.2.1 bt932.2.2.1 bt932.2.2.2.1 bt939.1 bt939.2 true) else(laws_FnHops.j5 k bt932.1 bt932.2.1 bt932.2.2.1 bt932.2.2.2.1 bt939.1 bt939.2 (bt950.1 !=bt952.1))) else(laws_FnHops.j5 k bt932.1 bt932.2.1 bt932.2.2.1 bt932.2.2.2.1 bt939.1 bt939.2 true))))))))
def laws_FnHops.j5:Nat→Int→List (S67)→Int→Int→Int→Bool→Bool→Option (Bool)
 | 0,_,_,_,_,_,_,_=>none
 |k+1,x33,x34,x35,x36,x38,x39,x285=>if x285=true then(some false) else(if x39=true then((impl_FirstHops.f k x33 x34 x35 x36).bind fun bt954=>(if bt954.2=true then((laws_has.f k bt954.1 x38).bind fun t958=>(some t958)) else(some false))) else(some true))
def laws_FnHops.l0:Nat→List Int→Int→List (S67)→Int→List Int→Bool→List Int→Int→Int→Option (Bool)
 | 0,_,_,_,_,_,_,_,_,_=>none
 |k+1,x1,x19,x20,x21,x27,x28,x187,x188,x189=>if x189<x188 then(if 0≤x189 then(if x189< (x187.length:Int) then((impl_CostOf.f k x19 x20 (([x21,rd x187 x189] :List Int))).bind fun bt928=>(if x28=true then(if bt928.2=true then(if 0≤ (rd x187 x189) then(if (rd x187 x189)< (x27.length:Int) then(if 0≤x21 then(if x21< (x27.length:Int) then(if (wrap64 ((rd x27 (rd x187 x189))+bt928.1))= (rd x27 x21) then(laws_FnHops.l0 k x1 x19 x20 x21 x27 x28 x187 x188 (wrap64 (x189+1))) else(some false)) else(none)) else(none)) else(none)) else(none)) else(some false)) else(some false))) else(none)) else(none)) else(laws_FnHops.j4 k x1)
end
def laws_FnHops.f (k:Nat) (l0:List Int) (l1:List Int):Option (Bool):=if (wrap64 ((l0.length:Int)+ (l1.length:Int))) > 1048576 then(some true) else((spec_DrawWayTo.f k l0).bind fun bt879=>((impl_WayTo.f k bt879.1 bt879.2.1 bt879.2.2.1 bt879.2.2.2).bind fun bt885=>((spec_WayTo.f k bt879.1 bt879.2.1 bt879.2.2.1 bt879.2.2.2).bind fun bt890=>(if (bt885.2.2 !=bt890.2.2)=true then(laws_FnHops.j0 k l1 bt879.1 bt879.2.1 bt879.2.2.1 bt879.2.2.2 bt885.1 bt885.2.1 bt885.2.2 true) else(if bt885.2.1=bt890.2.1 then((laws_sameInts.f k bt885.1 bt890.1).bind fun t895=>(laws_FnHops.j0 k l1 bt879.1 bt879.2.1 bt879.2.2.1 bt879.2.2.2 bt885.1 bt885.2.1 bt885.2.2 (!t895))) else(laws_FnHops.j0 k l1 bt879.1 bt879.2.1 bt879.2.2.1 bt879.2.2.2 bt885.1 bt885.2.1 bt885.2.2 true))))))
set_option maxHeartbeats 8000000 in
set_option maxRecDepth 100000 in
theorem laws_FnHops.calls (k:Nat) (A0:Option Addr) (c0:Nat) (l0:List Int) (A1:Option Addr) (c1:Nat) (l1:List Int) (r:Bool) (w:World) (hr0:Kd.C (Kd.int .u8) w A0 l0.length l0) (hc0:l0.length≤c0) (hr1:Kd.C (Kd.int .u8) w A1 l1.length l1) (hc1:l1.length≤c1) (h:laws_FnHops.f k l0 l1=some r):
  Calls Try.prog 11 #[.slice A0 l0.length c0,.slice A1 l1.length c1] w fun e w'=>e= .returned (.bool r)∧Below w.heap.size w w':=by
 have HR0:=Aside0.mk hr0
 have HC0:=Aside0.mk hc0
 clear hr0 hc0
 have HR1:=Aside0.mk hr1
 have HC1:=Aside0.mk hc1
 clear hr1 hc1
 have HB:=Aside0.mk (Below.refl w.heap.size w)
 have H:(if (wrap64 ((l0.length:Int)+ (l1.length:Int))) > 1048576 then(some true) else((spec_DrawWayTo.f k l0).bind fun bt879=>((impl_WayTo.f k bt879.1 bt879.2.1 bt879.2.2.1 bt879.2.2.2).bind fun bt885=>((spec_WayTo.f k bt879.1 bt879.2.1 bt879.2.2.1 bt879.2.2.2).bind fun bt890=>(if (bt885.2.2 !=bt890.2.2)=true then(laws_FnHops.j0 k l1 bt879.1 bt879.2.1 bt879.2.2.1 bt879.2.2.2 bt885.1 bt885.2.1 bt885.2.2 true) else(if bt885.2.1=bt890.2.1 then((laws_sameInts.f k bt885.1 bt890.1).bind fun t895=>(laws_FnHops.j0 k l1 bt879.1 bt879.2.1 bt879.2.2.1 bt879.2.2.2 bt885.1 bt885.2.1 bt885.2.2 (!t895))) else(laws_FnHops.j0 k l1 bt879.1 bt879.2.1 bt879.2.2.1 bt879.2.2.2 bt885.1 bt885.2.1 bt885.2.2 true)))))))=some r:=h
 clear h
 by_cases c3:(wrap64 ((l0.length:Int)+ (l1.length:Int))) > 1048576
 ·rw [if_pos c3] at H
  have c3b0:decide (1048576< (wrap64 ((l0.length:Int)+ (l1.length:Int))))=true:=decide_eq_true c3
  clear c3
  as_aux_lemma=>
   obtain rfl:=Option.some.inj H
   go_enter Try.func11,Try.ntmps11
   go_wp2
   repeat(go_quiet (fail);try go_wp2)
   go_ret
   exact⟨by first|rfl|(simp [errW_none,errW_some]<;>rfl)|(simp [*,errW_none,errW_some]<;>rfl),by repeat(first|(with_reducible first|exact HB.out|apply below_alloc|apply pw_below_drewN|apply below_drew1)|exact HB.out)⟩
 ·rw [if_neg c3] at H
  have c3b0:decide (1048576< (wrap64 ((l0.length:Int)+ (l1.length:Int))))=false:=decide_eq_false c3
  clear c3
  replace H:=Option.bind_eq_some_iff.mp H
  obtain⟨⟨t879,t880,t881,t882⟩,A40,H⟩:=H
  replace H:((impl_WayTo.f k t879 t880 t881 t882).bind fun bt885=>((spec_WayTo.f k t879 t880 t881 t882).bind fun bt890=>(if (bt885.2.2 !=bt890.2.2)=true then(laws_FnHops.j0 k l1 t879 t880 t881 t882 bt885.1 bt885.2.1 bt885.2.2 true) else(if bt885.2.1=bt890.2.1 then((laws_sameInts.f k bt885.1 bt890.1).bind fun t895=>(laws_FnHops.j0 k l1 t879 t880 t881 t882 bt885.1 bt885.2.1 bt885.2.2 (!t895))) else(laws_FnHops.j0 k l1 t879 t880 t881 t882 bt885.1 bt885.2.1 bt885.2.2 true)))))=some r:=H
  have A4:=Aside0.mk A40
  clear A40
  replace H:=Option.bind_eq_some_iff.mp H
  obtain⟨⟨t885,t886,t887⟩,A50,H⟩:=H
  replace H:((spec_WayTo.f k t879 t880 t881 t882).bind fun bt890=>(if (t887 !=bt890.2.2)=true then(laws_FnHops.j0 k l1 t879 t880 t881 t882 t885 t886 t887 true) else(if t886=bt890.2.1 then((laws_sameInts.f k t885 bt890.1).bind fun t895=>(laws_FnHops.j0 k l1 t879 t880 t881 t882 t885 t886 t887 (!t895))) else(laws_FnHops.j0 k l1 t879 t880 t881 t882 t885 t886 t887 true))))=some r:=H
  have A5:=Aside0.mk A50
  clear A50
  replace H:=Option.bind_eq_some_iff.mp H
  obtain⟨⟨t890,t891,t892⟩,A60,H⟩:=H
  replace H:(if (t887 !=t892)=true then(laws_FnHops.j0 k l1 t879 t880 t881 t882 t885 t886 t887 true) else(if t886=t891 then((laws_sameInts.f k t885 t890).bind fun t895=>(laws_FnHops.j0 k l1 t879 t880 t881 t882 t885 t886 t887 (!t895))) else(laws_FnHops.j0 k l1 t879 t880 t881 t882 t885 t886 t887 true)))=some r:=H
  have A6:=Aside0.mk A60
  clear A60
  have HC7:=Aside0.mk H
  clear H
  go_enter Try.func11,Try.ntmps11
  go_upto_region 6 with (first|(go_at_call 39;(with_reducible refine(spec_DrawWayTo.calls k _ _ l0 t879 t880 t881 t882 _ ?side1 ?side2 A4.out).mono ?_);(case side1=>repeat(first|exact HR0.out|(with_reducible refine Kd.C_alloc ?_ _)|(with_reducible refine Kd.C_drewN ?_ _)|(with_reducible refine Kd.C_drew ?_)));(case side2=>exact HC0.out);rintro e w8 ⟨v883,rfl,ho0,hb⟩;have n0_:=Aside0.mk (Kd.R_lower ho0 (below_size (zb0 HB)));have n1_:=Aside0.mk (below_step (zb0 HB) hb);clear HB;have HO884:=n0_;have HB:=n1_;clear n0_ n1_;(try clear hb);(try clear hb2);(try clear hk);(try clear hi);(try clear ho0);obtain⟨Ao9,co9,eo9⟩:=Kd.R_slice HO884.out;subst eo9)|(go_at_call 33;(with_reducible refine(impl_WayTo.calls k t879 _ _ t880 t881 t882 t885 t886 t887 _ ?side1 ?side2 A5.out).mono ?_);(case side1=>repeat(first|exact(Kd.R_reads' HO884.out).2.2|(with_reducible refine Kd.C_alloc ?_ _)|(with_reducible refine Kd.C_drewN ?_ _)|(with_reducible refine Kd.C_drew ?_)));(case side2=>exact(Kd.R_reads' HO884.out).2.1);rintro e w10 ⟨v888,rfl,ho0,hb⟩;have n0_:=Aside0.mk (Kd.R_below (zq4 HO884) hb);have n1_:=Aside0.mk (Kd.R_lower ho0 (below_size (zb0 HB)));have n2_:=Aside0.mk (below_step (zb0 HB) hb);clear HO884;clear HB;have HO884:=n0_;have HO889:=n1_;have HB:=n2_;clear n0_ n1_ n2_;(try clear hb);(try clear hb2);(try clear hk);(try clear hi);(try clear ho0))|(go_at_call 32;(with_reducible refine(spec_WayTo.calls k t879 _ _ t880 t881 t882 t890 t891 t892 _ ?side1 ?side2 A6.out).mono ?_);(case side1=>repeat(first|exact(Kd.R_reads' HO884.out).2.2|(with_reducible refine Kd.C_alloc ?_ _)|(with_reducible refine Kd.C_drewN ?_ _)|(with_reducible refine Kd.C_drew ?_)));(case side2=>exact(Kd.R_reads' HO884.out).2.1);rintro e w11 ⟨v893,rfl,ho0,hb⟩;have n0_:=Aside0.mk (Kd.R_below (zq4 HO884) hb);have n1_:=Aside0.mk (Kd.R_elder' (zq4 HO889) (Kd.R_base ho0) hb);have n2_:=Aside0.mk (Kd.R_lower (Kd.R_new' ho0 (Kd.R_lt (zq4 HO889))) (below_size (zb0 HB)));have n3_:=Aside0.mk (below_step (zb0 HB) hb);clear HO884;clear HO889;clear HB;have HO884:=n0_;have HO889:=n1_;have HO894:=n2_;have HB:=n3_;clear n0_ n1_ n2_ n3_;(try clear hb);(try clear hb2);(try clear hk);(try clear hi);(try clear ho0)))
  repeat(go_quiet (first|(go_at_call 39;(with_reducible refine(spec_DrawWayTo.calls k _ _ l0 t879 t880 t881 t882 _ ?side1 ?side2 A4.out).mono ?_);(case side1=>repeat(first|exact HR0.out|(with_reducible refine Kd.C_alloc ?_ _)|(with_reducible refine Kd.C_drewN ?_ _)|(with_reducible refine Kd.C_drew ?_)));(case side2=>exact HC0.out);rintro e w8 ⟨v883,rfl,ho0,hb⟩;have n0_:=Aside0.mk (Kd.R_lower ho0 (below_size (zb0 HB)));have n1_:=Aside0.mk (below_step (zb0 HB) hb);clear HB;have HO884:=n0_;have HB:=n1_;clear n0_ n1_;(try clear hb);(try clear hb2);(try clear hk);(try clear hi);(try clear ho0);obtain⟨Ao9,co9,eo9⟩:=Kd.R_slice HO884.out;subst eo9)|(go_at_call 33;(with_reducible refine(impl_WayTo.calls k t879 _ _ t880 t881 t882 t885 t886 t887 _ ?side1 ?side2 A5.out).mono ?_);(case side1=>repeat(first|exact(Kd.R_reads' HO884.out).2.2|(with_reducible refine Kd.C_alloc ?_ _)|(with_reducible refine Kd.C_drewN ?_ _)|(with_reducible refine Kd.C_drew ?_)));(case side2=>exact(Kd.R_reads' HO884.out).2.1);rintro e w10 ⟨v888,rfl,ho0,hb⟩;have n0_:=Aside0.mk (Kd.R_below (zq4 HO884) hb);have n1_:=Aside0.mk (Kd.R_lower ho0 (below_size (zb0 HB)));have n2_:=Aside0.mk (below_step (zb0 HB) hb);clear HO884;clear HB;have HO884:=n0_;have HO889:=n1_;have HB:=n2_;clear n0_ n1_ n2_;(try clear hb);(try clear hb2);(try clear hk);(try clear hi);(try clear ho0))|(go_at_call 32;(with_reducible refine(spec_WayTo.calls k t879 _ _ t880 t881 t882 t890 t891 t892 _ ?side1 ?side2 A6.out).mono ?_);(case side1=>repeat(first|exact(Kd.R_reads' HO884.out).2.2|(with_reducible refine Kd.C_alloc ?_ _)|(with_reducible refine Kd.C_drewN ?_ _)|(with_reducible refine Kd.C_drew ?_)));(case side2=>exact(Kd.R_reads' HO884.out).2.1);rintro e w11 ⟨v893,rfl,ho0,hb⟩;have n0_:=Aside0.mk (Kd.R_below (zq4 HO884) hb);have n1_:=Aside0.mk (Kd.R_elder' (zq4 HO889) (Kd.R_base ho0) hb);have n2_:=Aside0.mk (Kd.R_lower (Kd.R_new' ho0 (Kd.R_lt (zq4 HO889))) (below_size (zb0 HB)));have n3_:=Aside0.mk (below_step (zb0 HB) hb);clear HO884;clear HO889;clear HB;have HO884:=n0_;have HO889:=n1_;have HO894:=n2_;have HB:=n3_;clear n0_ n1_ n2_ n3_;(try clear hb);(try clear hb2);(try clear hk);(try clear hi);(try clear ho0)));go_upto_region 6 with (first|(go_at_call 39;(with_reducible refine(spec_DrawWayTo.calls k _ _ l0 t879 t880 t881 t882 _ ?side1 ?side2 A4.out).mono ?_);(case side1=>repeat(first|exact HR0.out|(with_reducible refine Kd.C_alloc ?_ _)|(with_reducible refine Kd.C_drewN ?_ _)|(with_reducible refine Kd.C_drew ?_)));(case side2=>exact HC0.out);rintro e w8 ⟨v883,rfl,ho0,hb⟩;have n0_:=Aside0.mk (Kd.R_lower ho0 (below_size (zb0 HB)));have n1_:=Aside0.mk (below_step (zb0 HB) hb);clear HB;have HO884:=n0_;have HB:=n1_;clear n0_ n1_;(try clear hb);(try clear hb2);(try clear hk);(try clear hi);(try clear ho0);obtain⟨Ao9,co9,eo9⟩:=Kd.R_slice HO884.out;subst eo9)|(go_at_call 33;(with_reducible refine(impl_WayTo.calls k t879 _ _ t880 t881 t882 t885 t886 t887 _ ?side1 ?side2 A5.out).mono ?_);(case side1=>repeat(first|exact(Kd.R_reads' HO884.out).2.2|(with_reducible refine Kd.C_alloc ?_ _)|(with_reducible refine Kd.C_drewN ?_ _)|(with_reducible refine Kd.C_drew ?_)));(case side2=>exact(Kd.R_reads' HO884.out).2.1);rintro e w10 ⟨v888,rfl,ho0,hb⟩;have n0_:=Aside0.mk (Kd.R_below (zq4 HO884) hb);have n1_:=Aside0.mk (Kd.R_lower ho0 (below_size (zb0 HB)));have n2_:=Aside0.mk (below_step (zb0 HB) hb);clear HO884;clear HB;have HO884:=n0_;have HO889:=n1_;have HB:=n2_;clear n0_ n1_ n2_;(try clear hb);(try clear hb2);(try clear hk);(try clear hi);(try clear ho0))|(go_at_call 32;(with_reducible refine(spec_WayTo.calls k t879 _ _ t880 t881 t882 t890 t891 t892 _ ?side1 ?side2 A6.out).mono ?_);(case side1=>repeat(first|exact(Kd.R_reads' HO884.out).2.2|(with_reducible refine Kd.C_alloc ?_ _)|(with_reducible refine Kd.C_drewN ?_ _)|(with_reducible refine Kd.C_drew ?_)));(case side2=>exact(Kd.R_reads' HO884.out).2.1);rintro e w11 ⟨v893,rfl,ho0,hb⟩;have n0_:=Aside0.mk (Kd.R_below (zq4 HO884) hb);have n1_:=Aside0.mk (Kd.R_elder' (zq4 HO889) (Kd.R_base ho0) hb);have n2_:=Aside0.mk (Kd.R_lower (Kd.R_new' ho0 (Kd.R_lt (zq4 HO889))) (below_size (zb0 HB)));have n3_:=Aside0.mk (below_step (zb0 HB) hb);clear HO884;clear HO889;clear HB;have HO884:=n0_;have HO889:=n1_;have HO894:=n2_;have HB:=n3_;clear n0_ n1_ n2_ n3_;(try clear hb);(try clear hb2);(try clear hk);(try clear hi);(try clear ho0))))
  (try simp only [Act.put,List.setIfInBounds_toArray,List.set_cons_zero,List.set_cons_succ])
  go_cut [95] (fun v95 wc=> ∃ (kq:Nat) (x95_6:Bool),v95= .bool x95_6∧Aside0 (laws_FnHops.j0 kq l1 t879 t880 t881 t882 t885 t886 t887 x95_6=some r)∧Aside0 (kq≤k)∧Aside0 (Kd.R k67 67 wc w.heap.size (fun _=>True) (.slice Ao9 t880.length co9) t880)∧Aside0 (Kd.R (Kd.int .i64) 3 wc w.heap.size (fun _=>True) v888 t885)∧Aside0 (Below w.heap.size w wc))
  case first=>
   have H:=HC7.out
   clear HC7
   by_cases c12:(t887 !=t892)=true
   ·rw [if_pos c12] at H
    have c12b0:(t887 !=t892)=true:=c12
    (try(have c12b1:decide (t887=t892)=false:=by simpa using c12))
    (try(have c12b2:(t887==t892)=false:=by simpa using c12))
    (try(have c12b3:¬ (t887=t892):=by simpa using c12))
    clear c12
    (first|rw [c12b0]|(simp only [i64_w,i32_w];rw [c12b0])|skip)
    as_aux_lemma=>
     have H':=Aside0.mk H
     clear H
     go_wp2
     repeat(go_quiet (fail);try go_wp2)
     go_meet
     case rel=>exact⟨_,(true),(by first|rfl|(simp;done)|(simp [*];done)),H',⟨by first|omega|exact Nat.le_refl _⟩,⟨by(with_reducible repeat(first|apply Kd.R_alloc|apply Kd.R_drewN|apply Kd.R_drew));exact HO884.out⟩,⟨by(with_reducible repeat(first|apply Kd.R_alloc|apply Kd.R_drewN|apply Kd.R_drew));exact Kd.R_mono HO889.out (fun _ hk=>trivial)⟩,⟨by repeat(first|(with_reducible first|exact HB.out|apply below_alloc|apply pw_below_drewN|apply below_drew1)|exact HB.out)⟩⟩
   ·rw [if_neg c12] at H
    have c12b0:(t887 !=t892)=false:=by simpa using c12
    (try(have c12b1:decide (t887=t892)=true:=by simpa using c12))
    (try(have c12b2:(t887==t892)=true:=by simpa using c12))
    clear c12
    (first|rw [c12b0]|(simp only [i64_w,i32_w];rw [c12b0])|skip)
    by_cases c13:t886=t891
    ·rw [if_pos c13] at H
     have c13b0:(t886==t891)=true:=beq_iff_eq.mpr c13
     have c13b1:(t886 !=t891)=false:=bne_eq_false_iff_eq.mpr c13
     clear c13
     replace H:=Option.bind_eq_some_iff.mp H
     obtain⟨t895,A140,H⟩:=H
     replace H:(laws_FnHops.j0 k l1 t879 t880 t881 t882 t885 t886 t887 (!t895))=some r:=H
     have A14:=Aside0.mk A140
     clear A140
     as_aux_lemma=>
      have H':=Aside0.mk H
      clear H
      obtain⟨Ao15,co15,eo15⟩:=Kd.R_slice HO889.out
      subst eo15
      obtain⟨Ao16,co16,eo16⟩:=Kd.R_slice HO894.out
      subst eo16
      go_wp2_with (first|(go_at_call 35;(with_reducible refine(laws_sameInts.calls k _ _ t885 _ _ t890 t895 _ ?side1 ?side2 ?side3 ?side4 A14.out).mono ?_);(case side1=>repeat(first|exact(Kd.R_reads' HO889.out).2.2|(with_reducible refine Kd.C_alloc ?_ _)|(with_reducible refine Kd.C_drewN ?_ _)|(with_reducible refine Kd.C_drew ?_)));(case side2=>exact(Kd.R_reads' HO889.out).2.1);(case side3=>repeat(first|exact(Kd.R_reads' HO894.out).2.2|(with_reducible refine Kd.C_alloc ?_ _)|(with_reducible refine Kd.C_drewN ?_ _)|(with_reducible refine Kd.C_drew ?_)));(case side4=>exact(Kd.R_reads' HO894.out).2.1);rintro e w' ⟨rfl,⟨nd,rfl⟩⟩;(try first|exact⟨rfl,_,World.drewN_drewN _ _ _⟩|exact⟨rfl,_,Eq.trans (World.drewN_drewN _ _ _) (congrArg (World.drewN _) (Nat.add_assoc _ _ _))⟩)))
      repeat(go_quiet (first|(go_at_call 35;(with_reducible refine(laws_sameInts.calls k _ _ t885 _ _ t890 t895 _ ?side1 ?side2 ?side3 ?side4 A14.out).mono ?_);(case side1=>repeat(first|exact(Kd.R_reads' HO889.out).2.2|(with_reducible refine Kd.C_alloc ?_ _)|(with_reducible refine Kd.C_drewN ?_ _)|(with_reducible refine Kd.C_drew ?_)));(case side2=>exact(Kd.R_reads' HO889.out).2.1);(case side3=>repeat(first|exact(Kd.R_reads' HO894.out).2.2|(with_reducible refine Kd.C_alloc ?_ _)|(with_reducible refine Kd.C_drewN ?_ _)|(with_reducible refine Kd.C_drew ?_)));(case side4=>exact(Kd.R_reads' HO894.out).2.1);rintro e w' ⟨rfl,⟨nd,rfl⟩⟩;(try first|exact⟨rfl,_,World.drewN_drewN _ _ _⟩|exact⟨rfl,_,Eq.trans (World.drewN_drewN _ _ _) (congrArg (World.drewN _) (Nat.add_assoc _ _ _))⟩)));try go_wp2_with (first|(go_at_call 35;(with_reducible refine(laws_sameInts.calls k _ _ t885 _ _ t890 t895 _ ?side1 ?side2 ?side3 ?side4 A14.out).mono ?_);(case side1=>repeat(first|exact(Kd.R_reads' HO889.out).2.2|(with_reducible refine Kd.C_alloc ?_ _)|(with_reducible refine Kd.C_drewN ?_ _)|(with_reducible refine Kd.C_drew ?_)));(case side2=>exact(Kd.R_reads' HO889.out).2.1);(case side3=>repeat(first|exact(Kd.R_reads' HO894.out).2.2|(with_reducible refine Kd.C_alloc ?_ _)|(with_reducible refine Kd.C_drewN ?_ _)|(with_reducible refine Kd.C_drew ?_)));(case side4=>exact(Kd.R_reads' HO894.out).2.1);rintro e w' ⟨rfl,⟨nd,rfl⟩⟩;(try first|exact⟨rfl,_,World.drewN_drewN _ _ _⟩|exact⟨rfl,_,Eq.trans (World.drewN_drewN _ _ _) (congrArg (World.drewN _) (Nat.add_assoc _ _ _))⟩))))
      go_meet
      case rel=>exact⟨_,(!t895),(by first|rfl|(simp;done)|(simp [*];done)),H',⟨by first|omega|exact Nat.le_refl _⟩,⟨by(with_reducible repeat(first|apply Kd.R_alloc|apply Kd.R_drewN|apply Kd.R_drew));exact HO884.out⟩,⟨by(with_reducible repeat(first|apply Kd.R_alloc|apply Kd.R_drewN|apply Kd.R_drew));exact Kd.R_mono HO889.out (fun _ hk=>trivial)⟩,⟨by repeat(first|(with_reducible first|exact HB.out|apply below_alloc|apply pw_below_drewN|apply below_drew1)|exact HB.out)⟩⟩
    ·rw [if_neg c13] at H
     have c13b0:(t886==t891)=false:=beq_eq_false_iff_ne.mpr c13
     have c13b1:(t886 !=t891)=true:=bne_iff_ne.mpr c13
     as_aux_lemma=>
      have H':=Aside0.mk H
      clear H
      go_wp2
      repeat(go_quiet (fail);try go_wp2)
      go_meet
      case rel=>exact⟨_,(true),(by first|rfl|(simp;done)|(simp [*];done)),H',⟨by first|omega|exact Nat.le_refl _⟩,⟨by(with_reducible repeat(first|apply Kd.R_alloc|apply Kd.R_drewN|apply Kd.R_drew));exact HO884.out⟩,⟨by(with_reducible repeat(first|apply Kd.R_alloc|apply Kd.R_drewN|apply Kd.R_drew));exact Kd.R_mono HO889.out (fun _ hk=>trivial)⟩,⟨by repeat(first|(with_reducible first|exact HB.out|apply below_alloc|apply pw_below_drewN|apply below_drew1)|exact HB.out)⟩⟩
  case rest=>
   clear HC7
   try clear c1
   try clear p2
   try clear c3
   try clear c3b0
   try clear p6
   try clear c11
   try clear c12
   try clear c12b0
   try clear c12b1
   try clear c12b2
   try clear c13
   try clear c13b0
   try clear c13b1
   obtain⟨kq,x95_6,rfl,HA,HJ6,HO_6,HO_9,HB⟩:=hcut
   cases kq with
   |zero=>exact absurd HA.out (by simp [laws_FnHops.j0])
   |succ kj6=>
    have H:=HA.out
    clear HA
    simp only [laws_FnHops.j0] at H
    by_cases c17:x95_6=true
    ·subst c17
     have H1:(some false)=some r:=by rw [if_pos rfl] at H;exact H
     clear H
     have H:=H1
     clear H1
     as_aux_lemma=>
      obtain rfl:=Option.some.inj H
      go_wp2
      repeat(go_quiet (fail);try go_wp2)
      go_ret
      exact⟨by first|rfl|(simp [errW_none,errW_some]<;>rfl)|(simp [*,errW_none,errW_some]<;>rfl),by repeat(first|(with_reducible first|exact HB.out|apply below_alloc|apply pw_below_drewN|apply below_drew1)|exact HB.out)⟩
    ·replace c17:=Bool.eq_false_iff.mpr c17
     subst c17
     have H1:(if t887=true then((impl_CostOf.f kj6 t879 t880 t885).bind fun bt896=>((impl_FarsFrom.f kj6 t879 t880 t881).bind fun bt898=>(if bt896.2=true then(if bt896.1=t886 then(if bt898.2=true then(if 0≤t882 then(if t882< (bt898.1.length:Int) then(if (rd bt898.1 t882)=t886 then(if 0< (t885.length:Int) then(if (rd t885 0)=t881 then(if 0≤ (wrap64 ((t885.length:Int) - 1)) then(if (wrap64 ((t885.length:Int) - 1))< (t885.length:Int) then(if (rd t885 (wrap64 ((t885.length:Int) - 1)))=t882 then(laws_FnHops.j1 kj6 l1) else(some false)) else(none)) else(none)) else(some false)) else(none)) else(some false)) else(none)) else(none)) else(some false)) else(some false)) else(some false)))) else(laws_FnHops.j1 kj6 l1))=some r:=by rw [if_neg (show ¬ (false=true) by decide)] at H;exact H
     clear H
     have H:=H1
     clear H1
     have HC18:=Aside0.mk H
     clear H
     go_upto_if 96 with (fail)
     repeat(go_quiet (fail);go_upto_if 96 with (fail))
     go_cut [] (fun wc=> ∃ (kq:Nat),Aside0 (laws_FnHops.j1 kq l1=some r)∧Aside0 (kq≤kj6)∧Aside0 (Below w.heap.size w wc))
     case first=>
      have H:=HC18.out
      clear HC18
      by_cases c19:t887=true
      ·subst c19
       have H1:((impl_CostOf.f kj6 t879 t880 t885).bind fun bt896=>((impl_FarsFrom.f kj6 t879 t880 t881).bind fun bt898=>(if bt896.2=true then(if bt896.1=t886 then(if bt898.2=true then(if 0≤t882 then(if t882< (bt898.1.length:Int) then(if (rd bt898.1 t882)=t886 then(if 0< (t885.length:Int) then(if (rd t885 0)=t881 then(if 0≤ (wrap64 ((t885.length:Int) - 1)) then(if (wrap64 ((t885.length:Int) - 1))< (t885.length:Int) then(if (rd t885 (wrap64 ((t885.length:Int) - 1)))=t882 then(laws_FnHops.j1 kj6 l1) else(some false)) else(none)) else(none)) else(some false)) else(none)) else(some false)) else(none)) else(none)) else(some false)) else(some false)) else(some false))))=some r:=by rw [if_pos rfl] at H;exact H
       clear H
       have H:=H1
       clear H1
       replace H:=Option.bind_eq_some_iff.mp H
       obtain⟨⟨t896,t897⟩,A200,H⟩:=H
       replace H:((impl_FarsFrom.f kj6 t879 t880 t881).bind fun bt898=>(if t897=true then(if t896=t886 then(if bt898.2=true then(if 0≤t882 then(if t882< (bt898.1.length:Int) then(if (rd bt898.1 t882)=t886 then(if 0< (t885.length:Int) then(if (rd t885 0)=t881 then(if 0≤ (wrap64 ((t885.length:Int) - 1)) then(if (wrap64 ((t885.length:Int) - 1))< (t885.length:Int) then(if (rd t885 (wrap64 ((t885.length:Int) - 1)))=t882 then(laws_FnHops.j1 kj6 l1) else(some false)) else(none)) else(none)) else(some false)) else(none)) else(some false)) else(none)) else(none)) else(some false)) else(some false)) else(some false)))=some r:=H
       have A20:=Aside0.mk A200
       clear A200
       replace H:=Option.bind_eq_some_iff.mp H
       obtain⟨⟨t898,t899⟩,A210,H⟩:=H
       replace H:(if t897=true then(if t896=t886 then(if t899=true then(if 0≤t882 then(if t882< (t898.length:Int) then(if (rd t898 t882)=t886 then(if 0< (t885.length:Int) then(if (rd t885 0)=t881 then(if 0≤ (wrap64 ((t885.length:Int) - 1)) then(if (wrap64 ((t885.length:Int) - 1))< (t885.length:Int) then(if (rd t885 (wrap64 ((t885.length:Int) - 1)))=t882 then(laws_FnHops.j1 kj6 l1) else(some false)) else(none)) else(none)) else(some false)) else(none)) else(some false)) else(none)) else(none)) else(some false)) else(some false)) else(some false))=some r:=H
       have A21:=Aside0.mk A210
       clear A210
       by_cases c22:t897=true
       ·subst c22
        have H1:(if t896=t886 then(if t899=true then(if 0≤t882 then(if t882< (t898.length:Int) then(if (rd t898 t882)=t886 then(if 0< (t885.length:Int) then(if (rd t885 0)=t881 then(if 0≤ (wrap64 ((t885.length:Int) - 1)) then(if (wrap64 ((t885.length:Int) - 1))< (t885.length:Int) then(if (rd t885 (wrap64 ((t885.length:Int) - 1)))=t882 then(laws_FnHops.j1 kj6 l1) else(some false)) else(none)) else(none)) else(some false)) else(none)) else(some false)) else(none)) else(none)) else(some false)) else(some false))=some r:=by rw [if_pos rfl] at H;exact H
        clear H
        have H:=H1
        clear H1
        by_cases c23:t896=t886
        ·rw [if_pos c23] at H
         have c23b0:(t896==t886)=true:=beq_iff_eq.mpr c23
         have c23b1:(t896 !=t886)=false:=bne_eq_false_iff_eq.mpr c23
         clear c23
         (first|rw [c23b0]|(simp only [i64_w,i32_w];rw [c23b0])|skip)
         by_cases c24:t899=true
         ·subst c24
          have H1:(if 0≤t882 then(if t882< (t898.length:Int) then(if (rd t898 t882)=t886 then(if 0< (t885.length:Int) then(if (rd t885 0)=t881 then(if 0≤ (wrap64 ((t885.length:Int) - 1)) then(if (wrap64 ((t885.length:Int) - 1))< (t885.length:Int) then(if (rd t885 (wrap64 ((t885.length:Int) - 1)))=t882 then(laws_FnHops.j1 kj6 l1) else(some false)) else(none)) else(none)) else(some false)) else(none)) else(some false)) else(none)) else(none))=some r:=by rw [if_pos rfl] at H;exact H
          clear H
          have H:=H1
          clear H1
          by_cases c25: 0≤t882
          ·rw [if_pos c25] at H
           have c25b0:decide (0≤t882)=true:=decide_eq_true c25
           clear c25
           by_cases c26:t882< (t898.length:Int)
           ·rw [if_pos c26] at H
            have c26b0:decide (t882< (t898.length:Int))=true:=decide_eq_true c26
            clear c26
            by_cases c27:(rd t898 t882)=t886
            ·rw [if_pos c27] at H
             have c27b0:((rd t898 t882)==t886)=true:=beq_iff_eq.mpr c27
             have c27b1:((rd t898 t882) !=t886)=false:=bne_eq_false_iff_eq.mpr c27
             clear c27
             by_cases c28: 0< (t885.length:Int)
             ·rw [if_pos c28] at H
              have c28b0:decide (0< (t885.length:Int))=true:=decide_eq_true c28
              have c28b1:decide (0<t885.length)=true:=decide_eq_true (by omega)
              clear c28
              by_cases c29:(rd t885 0)=t881
              ·rw [if_pos c29] at H
               have c29b0:((rd t885 0)==t881)=true:=beq_iff_eq.mpr c29
               have c29b1:((rd t885 0) !=t881)=false:=bne_eq_false_iff_eq.mpr c29
               clear c29
               obtain⟨ji30,hji30⟩ :∃ j_:Int,(wrap64 ((t885.length:Int) - 1))=j_:=⟨_,rfl⟩
               replace H:(if 0≤ (ji30) then(if (ji30)< (t885.length:Int) then(if (rd t885 (ji30))=t882 then(laws_FnHops.j1 kj6 l1) else(some false)) else(none)) else(none))=some r:=by first|(rw [hji30] at H;exact H)|(simp only [hji30] at H ⊢;exact H)
               (try rw [hji30] at A20)
               (try rw [hji30] at A21)
               have hji30w:(IntKind.i64.wrap ((t885.length:Int) - 1))=ji30:=(i64_w _).trans hji30
               by_cases c31: 0≤ (ji30)
               ·rw [if_pos c31] at H
                have c31b0:decide (0≤ (ji30))=true:=decide_eq_true c31
                clear c31
                by_cases c32:(ji30)< (t885.length:Int)
                ·rw [if_pos c32] at H
                 have c32b0:decide ((ji30)< (t885.length:Int))=true:=decide_eq_true c32
                 clear c32
                 by_cases c33:(rd t885 (ji30))=t882
                 ·rw [if_pos c33] at H
                  have c33b0:((rd t885 (ji30))==t882)=true:=beq_iff_eq.mpr c33
                  have c33b1:((rd t885 (ji30)) !=t882)=false:=bne_eq_false_iff_eq.mpr c33
                  clear c33
                  as_aux_lemma=>
                   have H':=Aside0.mk H
                   clear H
                   obtain⟨Ao34,co34,eo34⟩:=Kd.R_slice HO_9.out
                   subst eo34
                   go_wp2_with (first|(go_at_call 16;(with_reducible refine(impl_CostOf.calls kj6 t879 _ _ t880 _ _ t885 t896 true _ ?side1 ?side2 ?side3 ?side4 A20.out).mono ?_);(case side1=>repeat(first|exact(Kd.R_reads' HO_6.out).2.2|(with_reducible refine Kd.C_alloc ?_ _)|(with_reducible refine Kd.C_drewN ?_ _)|(with_reducible refine Kd.C_drew ?_)));(case side2=>exact(Kd.R_reads' HO_6.out).2.1);(case side3=>repeat(first|exact(Kd.R_reads' HO_9.out).2.2|(with_reducible refine Kd.C_alloc ?_ _)|(with_reducible refine Kd.C_drewN ?_ _)|(with_reducible refine Kd.C_drew ?_)));(case side4=>exact(Kd.R_reads' HO_9.out).2.1);rintro e w35 ⟨rfl,hb⟩;have n0_:=Aside0.mk (Kd.R_below (zq4 HO_6) hb);have n1_:=Aside0.mk (Kd.R_below (zq4 HO_9) hb);have n2_:=Aside0.mk (below_step (zb0 HB) hb);clear HO_6;clear HO_9;clear HB;have HO_6:=n0_;have HO_9:=n1_;have HB:=n2_;clear n0_ n1_ n2_;(try clear hb);(try clear hb2);(try clear hk);(try clear hi))|(go_at_call 27;(with_reducible refine(impl_FarsFrom.calls kj6 t879 _ _ t880 t881 t898 true _ ?side1 ?side2 A21.out).mono ?_);(case side1=>repeat(first|exact(Kd.R_reads' HO_6.out).2.2|(with_reducible refine Kd.C_alloc ?_ _)|(with_reducible refine Kd.C_drewN ?_ _)|(with_reducible refine Kd.C_drew ?_)));(case side2=>exact(Kd.R_reads' HO_6.out).2.1);rintro e w36 ⟨v900,rfl,ho0,hb⟩;have n0_:=Aside0.mk (Kd.R_below (zq4 HO_6) hb);have n1_:=Aside0.mk (Kd.R_elder' (zq4 HO_9) (Kd.R_base ho0) hb);have n2_:=Aside0.mk (Kd.R_lower (Kd.R_new' ho0 (Kd.R_lt (zq4 HO_9))) (below_size (zb0 HB)));have n3_:=Aside0.mk (below_step (zb0 HB) hb);clear HO_6;clear HO_9;clear HB;have HO_6:=n0_;have HO_9:=n1_;have HO901:=n2_;have HB:=n3_;clear n0_ n1_ n2_ n3_;(try clear hb);(try clear hb2);(try clear hk);(try clear hi);(try clear ho0);obtain⟨Ao37,co37,eo37⟩:=Kd.R_slice HO901.out;subst eo37;have p902: 0≤ (t882:Int):=of_decide_eq_true zq1;have q902:t882< (t898.length:Int):=of_decide_eq_true zq1;obtain⟨ad902,e902,hx902_0⟩:=Kd.at_int (Kd.R_reads' HO901.out).2.2 t882 p902 q902;cases e902;replace p902:=eq_true p902;replace q902:=eq_true q902;have p903: 0≤ (0:Int):=(by omega);have q903: 0< (t885.length:Int):=of_decide_eq_true zq1;obtain⟨ad903,e903,hx903_0⟩:=Kd.at_int (Kd.R_reads' HO_9.out).2.2 0 p903 q903;cases e903;have qi903:(0<t885.length)=True:=eq_true (by omega);(try rw [show ((0:Int)).toNat=0 from rfl] at hx903_0);(try rw [Addr.add_zero'] at hx903_0);replace p903:=eq_true p903;replace q903:=eq_true q903;have p904: 0≤ ((ji30):Int):=of_decide_eq_true zq1;have q904:(ji30)< (t885.length:Int):=of_decide_eq_true zq1;obtain⟨ad904,e904,hx904_0⟩:=Kd.at_int (Kd.R_reads' HO_9.out).2.2 (ji30) p904 q904;obtain rfl:ad903=ad904:=(by injection e904);replace p904:=eq_true p904;replace q904:=eq_true q904))
                   repeat(go_quiet (first|(go_at_call 16;(with_reducible refine(impl_CostOf.calls kj6 t879 _ _ t880 _ _ t885 t896 true _ ?side1 ?side2 ?side3 ?side4 A20.out).mono ?_);(case side1=>repeat(first|exact(Kd.R_reads' HO_6.out).2.2|(with_reducible refine Kd.C_alloc ?_ _)|(with_reducible refine Kd.C_drewN ?_ _)|(with_reducible refine Kd.C_drew ?_)));(case side2=>exact(Kd.R_reads' HO_6.out).2.1);(case side3=>repeat(first|exact(Kd.R_reads' HO_9.out).2.2|(with_reducible refine Kd.C_alloc ?_ _)|(with_reducible refine Kd.C_drewN ?_ _)|(with_reducible refine Kd.C_drew ?_)));(case side4=>exact(Kd.R_reads' HO_9.out).2.1);rintro e w35 ⟨rfl,hb⟩;have n0_:=Aside0.mk (Kd.R_below (zq4 HO_6) hb);have n1_:=Aside0.mk (Kd.R_below (zq4 HO_9) hb);have n2_:=Aside0.mk (below_step (zb0 HB) hb);clear HO_6;clear HO_9;clear HB;have HO_6:=n0_;have HO_9:=n1_;have HB:=n2_;clear n0_ n1_ n2_;(try clear hb);(try clear hb2);(try clear hk);(try clear hi))|(go_at_call 27;(with_reducible refine(impl_FarsFrom.calls kj6 t879 _ _ t880 t881 t898 true _ ?side1 ?side2 A21.out).mono ?_);(case side1=>repeat(first|exact(Kd.R_reads' HO_6.out).2.2|(with_reducible refine Kd.C_alloc ?_ _)|(with_reducible refine Kd.C_drewN ?_ _)|(with_reducible refine Kd.C_drew ?_)));(case side2=>exact(Kd.R_reads' HO_6.out).2.1);rintro e w36 ⟨v900,rfl,ho0,hb⟩;have n0_:=Aside0.mk (Kd.R_below (zq4 HO_6) hb);have n1_:=Aside0.mk (Kd.R_elder' (zq4 HO_9) (Kd.R_base ho0) hb);have n2_:=Aside0.mk (Kd.R_lower (Kd.R_new' ho0 (Kd.R_lt (zq4 HO_9))) (below_size (zb0 HB)));have n3_:=Aside0.mk (below_step (zb0 HB) hb);clear HO_6;clear HO_9;clear HB;have HO_6:=n0_;have HO_9:=n1_;have HO901:=n2_;have HB:=n3_;clear n0_ n1_ n2_ n3_;(try clear hb);(try clear hb2);(try clear hk);(try clear hi);(try clear ho0);obtain⟨Ao37,co37,eo37⟩:=Kd.R_slice HO901.out;subst eo37;have p902: 0≤ (t882:Int):=of_decide_eq_true zq1;have q902:t882< (t898.length:Int):=of_decide_eq_true zq1;obtain⟨ad902,e902,hx902_0⟩:=Kd.at_int (Kd.R_reads' HO901.out).2.2 t882 p902 q902;cases e902;replace p902:=eq_true p902;replace q902:=eq_true q902;have p903: 0≤ (0:Int):=(by omega);have q903: 0< (t885.length:Int):=of_decide_eq_true zq1;obtain⟨ad903,e903,hx903_0⟩:=Kd.at_int (Kd.R_reads' HO_9.out).2.2 0 p903 q903;cases e903;have qi903:(0<t885.length)=True:=eq_true (by omega);(try rw [show ((0:Int)).toNat=0 from rfl] at hx903_0);(try rw [Addr.add_zero'] at hx903_0);replace p903:=eq_true p903;replace q903:=eq_true q903;have p904: 0≤ ((ji30):Int):=of_decide_eq_true zq1;have q904:(ji30)< (t885.length:Int):=of_decide_eq_true zq1;obtain⟨ad904,e904,hx904_0⟩:=Kd.at_int (Kd.R_reads' HO_9.out).2.2 (ji30) p904 q904;obtain rfl:ad903=ad904:=(by injection e904);replace p904:=eq_true p904;replace q904:=eq_true q904));try go_wp2_with (first|(go_at_call 16;(with_reducible refine(impl_CostOf.calls kj6 t879 _ _ t880 _ _ t885 t896 true _ ?side1 ?side2 ?side3 ?side4 A20.out).mono ?_);(case side1=>repeat(first|exact(Kd.R_reads' HO_6.out).2.2|(with_reducible refine Kd.C_alloc ?_ _)|(with_reducible refine Kd.C_drewN ?_ _)|(with_reducible refine Kd.C_drew ?_)));(case side2=>exact(Kd.R_reads' HO_6.out).2.1);(case side3=>repeat(first|exact(Kd.R_reads' HO_9.out).2.2|(with_reducible refine Kd.C_alloc ?_ _)|(with_reducible refine Kd.C_drewN ?_ _)|(with_reducible refine Kd.C_drew ?_)));(case side4=>exact(Kd.R_reads' HO_9.out).2.1);rintro e w35 ⟨rfl,hb⟩;have n0_:=Aside0.mk (Kd.R_below (zq4 HO_6) hb);have n1_:=Aside0.mk (Kd.R_below (zq4 HO_9) hb);have n2_:=Aside0.mk (below_step (zb0 HB) hb);clear HO_6;clear HO_9;clear HB;have HO_6:=n0_;have HO_9:=n1_;have HB:=n2_;clear n0_ n1_ n2_;(try clear hb);(try clear hb2);(try clear hk);(try clear hi))|(go_at_call 27;(with_reducible refine(impl_FarsFrom.calls kj6 t879 _ _ t880 t881 t898 true _ ?side1 ?side2 A21.out).mono ?_);(case side1=>repeat(first|exact(Kd.R_reads' HO_6.out).2.2|(with_reducible refine Kd.C_alloc ?_ _)|(with_reducible refine Kd.C_drewN ?_ _)|(with_reducible refine Kd.C_drew ?_)));(case side2=>exact(Kd.R_reads' HO_6.out).2.1);rintro e w36 ⟨v900,rfl,ho0,hb⟩;have n0_:=Aside0.mk (Kd.R_below (zq4 HO_6) hb);have n1_:=Aside0.mk (Kd.R_elder' (zq4 HO_9) (Kd.R_base ho0) hb);have n2_:=Aside0.mk (Kd.R_lower (Kd.R_new' ho0 (Kd.R_lt (zq4 HO_9))) (below_size (zb0 HB)));have n3_:=Aside0.mk (below_step (zb0 HB) hb);clear HO_6;clear HO_9;clear HB;have HO_6:=n0_;have HO_9:=n1_;have HO901:=n2_;have HB:=n3_;clear n0_ n1_ n2_ n3_;(try clear hb);(try clear hb2);(try clear hk);(try clear hi);(try clear ho0);obtain⟨Ao37,co37,eo37⟩:=Kd.R_slice HO901.out;subst eo37;have p902: 0≤ (t882:Int):=of_decide_eq_true zq1;have q902:t882< (t898.length:Int):=of_decide_eq_true zq1;obtain⟨ad902,e902,hx902_0⟩:=Kd.at_int (Kd.R_reads' HO901.out).2.2 t882 p902 q902;cases e902;replace p902:=eq_true p902;replace q902:=eq_true q902;have p903: 0≤ (0:Int):=(by omega);have q903: 0< (t885.length:Int):=of_decide_eq_true zq1;obtain⟨ad903,e903,hx903_0⟩:=Kd.at_int (Kd.R_reads' HO_9.out).2.2 0 p903 q903;cases e903;have qi903:(0<t885.length)=True:=eq_true (by omega);(try rw [show ((0:Int)).toNat=0 from rfl] at hx903_0);(try rw [Addr.add_zero'] at hx903_0);replace p903:=eq_true p903;replace q903:=eq_true q903;have p904: 0≤ ((ji30):Int):=of_decide_eq_true zq1;have q904:(ji30)< (t885.length:Int):=of_decide_eq_true zq1;obtain⟨ad904,e904,hx904_0⟩:=Kd.at_int (Kd.R_reads' HO_9.out).2.2 (ji30) p904 q904;obtain rfl:ad903=ad904:=(by injection e904);replace p904:=eq_true p904;replace q904:=eq_true q904)))
                   go_meet
                   case rel=>exact⟨_,H',⟨by have:=HJ6.out;first|omega|exact Nat.le_refl _⟩,⟨by repeat(first|(with_reducible first|exact HB.out|apply below_alloc|apply pw_below_drewN|apply below_drew1)|exact HB.out)⟩⟩
                 ·rw [if_neg c33] at H
                  have c33b0:((rd t885 (ji30))==t882)=false:=beq_eq_false_iff_ne.mpr c33
                  have c33b1:((rd t885 (ji30)) !=t882)=true:=bne_iff_ne.mpr c33
                  as_aux_lemma=>
                   obtain rfl:=Option.some.inj H
                   obtain⟨Ao38,co38,eo38⟩:=Kd.R_slice HO_9.out
                   subst eo38
                   go_wp2_with (first|(go_at_call 16;(with_reducible refine(impl_CostOf.calls kj6 t879 _ _ t880 _ _ t885 t896 true _ ?side1 ?side2 ?side3 ?side4 A20.out).mono ?_);(case side1=>repeat(first|exact(Kd.R_reads' HO_6.out).2.2|(with_reducible refine Kd.C_alloc ?_ _)|(with_reducible refine Kd.C_drewN ?_ _)|(with_reducible refine Kd.C_drew ?_)));(case side2=>exact(Kd.R_reads' HO_6.out).2.1);(case side3=>repeat(first|exact(Kd.R_reads' HO_9.out).2.2|(with_reducible refine Kd.C_alloc ?_ _)|(with_reducible refine Kd.C_drewN ?_ _)|(with_reducible refine Kd.C_drew ?_)));(case side4=>exact(Kd.R_reads' HO_9.out).2.1);rintro e w39 ⟨rfl,hb⟩;have n0_:=Aside0.mk (Kd.R_below (zq4 HO_6) hb);have n1_:=Aside0.mk (Kd.R_below (zq4 HO_9) hb);have n2_:=Aside0.mk (below_step (zb0 HB) hb);clear HO_6;clear HO_9;clear HB;have HO_6:=n0_;have HO_9:=n1_;have HB:=n2_;clear n0_ n1_ n2_;(try clear hb);(try clear hb2);(try clear hk);(try clear hi))|(go_at_call 27;(with_reducible refine(impl_FarsFrom.calls kj6 t879 _ _ t880 t881 t898 true _ ?side1 ?side2 A21.out).mono ?_);(case side1=>repeat(first|exact(Kd.R_reads' HO_6.out).2.2|(with_reducible refine Kd.C_alloc ?_ _)|(with_reducible refine Kd.C_drewN ?_ _)|(with_reducible refine Kd.C_drew ?_)));(case side2=>exact(Kd.R_reads' HO_6.out).2.1);rintro e w40 ⟨v900,rfl,ho0,hb⟩;have n0_:=Aside0.mk (Kd.R_below (zq4 HO_6) hb);have n1_:=Aside0.mk (Kd.R_elder' (zq4 HO_9) (Kd.R_base ho0) hb);have n2_:=Aside0.mk (Kd.R_lower (Kd.R_new' ho0 (Kd.R_lt (zq4 HO_9))) (below_size (zb0 HB)));have n3_:=Aside0.mk (below_step (zb0 HB) hb);clear HO_6;clear HO_9;clear HB;have HO_6:=n0_;have HO_9:=n1_;have HO901:=n2_;have HB:=n3_;clear n0_ n1_ n2_ n3_;(try clear hb);(try clear hb2);(try clear hk);(try clear hi);(try clear ho0);obtain⟨Ao41,co41,eo41⟩:=Kd.R_slice HO901.out;subst eo41;have p902: 0≤ (t882:Int):=of_decide_eq_true zq1;have q902:t882< (t898.length:Int):=of_decide_eq_true zq1;obtain⟨ad902,e902,hx902_0⟩:=Kd.at_int (Kd.R_reads' HO901.out).2.2 t882 p902 q902;cases e902;replace p902:=eq_true p902;replace q902:=eq_true q902;have p903: 0≤ (0:Int):=(by omega);have q903: 0< (t885.length:Int):=of_decide_eq_true zq1;obtain⟨ad903,e903,hx903_0⟩:=Kd.at_int (Kd.R_reads' HO_9.out).2.2 0 p903 q903;cases e903;have qi903:(0<t885.length)=True:=eq_true (by omega);(try rw [show ((0:Int)).toNat=0 from rfl] at hx903_0);(try rw [Addr.add_zero'] at hx903_0);replace p903:=eq_true p903;replace q903:=eq_true q903;have p904: 0≤ ((ji30):Int):=of_decide_eq_true zq1;have q904:(ji30)< (t885.length:Int):=of_decide_eq_true zq1;obtain⟨ad904,e904,hx904_0⟩:=Kd.at_int (Kd.R_reads' HO_9.out).2.2 (ji30) p904 q904;obtain rfl:ad903=ad904:=(by injection e904);replace p904:=eq_true p904;replace q904:=eq_true q904))
                   repeat(go_quiet (first|(go_at_call 16;(with_reducible refine(impl_CostOf.calls kj6 t879 _ _ t880 _ _ t885 t896 true _ ?side1 ?side2 ?side3 ?side4 A20.out).mono ?_);(case side1=>repeat(first|exact(Kd.R_reads' HO_6.out).2.2|(with_reducible refine Kd.C_alloc ?_ _)|(with_reducible refine Kd.C_drewN ?_ _)|(with_reducible refine Kd.C_drew ?_)));(case side2=>exact(Kd.R_reads' HO_6.out).2.1);(case side3=>repeat(first|exact(Kd.R_reads' HO_9.out).2.2|(with_reducible refine Kd.C_alloc ?_ _)|(with_reducible refine Kd.C_drewN ?_ _)|(with_reducible refine Kd.C_drew ?_)));(case side4=>exact(Kd.R_reads' HO_9.out).2.1);rintro e w39 ⟨rfl,hb⟩;have n0_:=Aside0.mk (Kd.R_below (zq4 HO_6) hb);have n1_:=Aside0.mk (Kd.R_below (zq4 HO_9) hb);have n2_:=Aside0.mk (below_step (zb0 HB) hb);clear HO_6;clear HO_9;clear HB;have HO_6:=n0_;have HO_9:=n1_;have HB:=n2_;clear n0_ n1_ n2_;(try clear hb);(try clear hb2);(try clear hk);(try clear hi))|(go_at_call 27;(with_reducible refine(impl_FarsFrom.calls kj6 t879 _ _ t880 t881 t898 true _ ?side1 ?side2 A21.out).mono ?_);(case side1=>repeat(first|exact(Kd.R_reads' HO_6.out).2.2|(with_reducible refine Kd.C_alloc ?_ _)|(with_reducible refine Kd.C_drewN ?_ _)|(with_reducible refine Kd.C_drew ?_)));(case side2=>exact(Kd.R_reads' HO_6.out).2.1);rintro e w40 ⟨v900,rfl,ho0,hb⟩;have n0_:=Aside0.mk (Kd.R_below (zq4 HO_6) hb);have n1_:=Aside0.mk (Kd.R_elder' (zq4 HO_9) (Kd.R_base ho0) hb);have n2_:=Aside0.mk (Kd.R_lower (Kd.R_new' ho0 (Kd.R_lt (zq4 HO_9))) (below_size (zb0 HB)));have n3_:=Aside0.mk (below_step (zb0 HB) hb);clear HO_6;clear HO_9;clear HB;have HO_6:=n0_;have HO_9:=n1_;have HO901:=n2_;have HB:=n3_;clear n0_ n1_ n2_ n3_;(try clear hb);(try clear hb2);(try clear hk);(try clear hi);(try clear ho0);obtain⟨Ao41,co41,eo41⟩:=Kd.R_slice HO901.out;subst eo41;have p902: 0≤ (t882:Int):=of_decide_eq_true zq1;have q902:t882< (t898.length:Int):=of_decide_eq_true zq1;obtain⟨ad902,e902,hx902_0⟩:=Kd.at_int (Kd.R_reads' HO901.out).2.2 t882 p902 q902;cases e902;replace p902:=eq_true p902;replace q902:=eq_true q902;have p903: 0≤ (0:Int):=(by omega);have q903: 0< (t885.length:Int):=of_decide_eq_true zq1;obtain⟨ad903,e903,hx903_0⟩:=Kd.at_int (Kd.R_reads' HO_9.out).2.2 0 p903 q903;cases e903;have qi903:(0<t885.length)=True:=eq_true (by omega);(try rw [show ((0:Int)).toNat=0 from rfl] at hx903_0);(try rw [Addr.add_zero'] at hx903_0);replace p903:=eq_true p903;replace q903:=eq_true q903;have p904: 0≤ ((ji30):Int):=of_decide_eq_true zq1;have q904:(ji30)< (t885.length:Int):=of_decide_eq_true zq1;obtain⟨ad904,e904,hx904_0⟩:=Kd.at_int (Kd.R_reads' HO_9.out).2.2 (ji30) p904 q904;obtain rfl:ad903=ad904:=(by injection e904);replace p904:=eq_true p904;replace q904:=eq_true q904));try go_wp2_with (first|(go_at_call 16;(with_reducible refine(impl_CostOf.calls kj6 t879 _ _ t880 _ _ t885 t896 true _ ?side1 ?side2 ?side3 ?side4 A20.out).mono ?_);(case side1=>repeat(first|exact(Kd.R_reads' HO_6.out).2.2|(with_reducible refine Kd.C_alloc ?_ _)|(with_reducible refine Kd.C_drewN ?_ _)|(with_reducible refine Kd.C_drew ?_)));(case side2=>exact(Kd.R_reads' HO_6.out).2.1);(case side3=>repeat(first|exact(Kd.R_reads' HO_9.out).2.2|(with_reducible refine Kd.C_alloc ?_ _)|(with_reducible refine Kd.C_drewN ?_ _)|(with_reducible refine Kd.C_drew ?_)));(case side4=>exact(Kd.R_reads' HO_9.out).2.1);rintro e w39 ⟨rfl,hb⟩;have n0_:=Aside0.mk (Kd.R_below (zq4 HO_6) hb);have n1_:=Aside0.mk (Kd.R_below (zq4 HO_9) hb);have n2_:=Aside0.mk (below_step (zb0 HB) hb);clear HO_6;clear HO_9;clear HB;have HO_6:=n0_;have HO_9:=n1_;have HB:=n2_;clear n0_ n1_ n2_;(try clear hb);(try clear hb2);(try clear hk);(try clear hi))|(go_at_call 27;(with_reducible refine(impl_FarsFrom.calls kj6 t879 _ _ t880 t881 t898 true _ ?side1 ?side2 A21.out).mono ?_);(case side1=>repeat(first|exact(Kd.R_reads' HO_6.out).2.2|(with_reducible refine Kd.C_alloc ?_ _)|(with_reducible refine Kd.C_drewN ?_ _)|(with_reducible refine Kd.C_drew ?_)));(case side2=>exact(Kd.R_reads' HO_6.out).2.1);rintro e w40 ⟨v900,rfl,ho0,hb⟩;have n0_:=Aside0.mk (Kd.R_below (zq4 HO_6) hb);have n1_:=Aside0.mk (Kd.R_elder' (zq4 HO_9) (Kd.R_base ho0) hb);have n2_:=Aside0.mk (Kd.R_lower (Kd.R_new' ho0 (Kd.R_lt (zq4 HO_9))) (below_size (zb0 HB)));have n3_:=Aside0.mk (below_step (zb0 HB) hb);clear HO_6;clear HO_9;clear HB;have HO_6:=n0_;have HO_9:=n1_;have HO901:=n2_;have HB:=n3_;clear n0_ n1_ n2_ n3_;(try clear hb);(try clear hb2);(try clear hk);(try clear hi);(try clear ho0);obtain⟨Ao41,co41,eo41⟩:=Kd.R_slice HO901.out;subst eo41;have p902: 0≤ (t882:Int):=of_decide_eq_true zq1;have q902:t882< (t898.length:Int):=of_decide_eq_true zq1;obtain⟨ad902,e902,hx902_0⟩:=Kd.at_int (Kd.R_reads' HO901.out).2.2 t882 p902 q902;cases e902;replace p902:=eq_true p902;replace q902:=eq_true q902;have p903: 0≤ (0:Int):=(by omega);have q903: 0< (t885.length:Int):=of_decide_eq_true zq1;obtain⟨ad903,e903,hx903_0⟩:=Kd.at_int (Kd.R_reads' HO_9.out).2.2 0 p903 q903;cases e903;have qi903:(0<t885.length)=True:=eq_true (by omega);(try rw [show ((0:Int)).toNat=0 from rfl] at hx903_0);(try rw [Addr.add_zero'] at hx903_0);replace p903:=eq_true p903;replace q903:=eq_true q903;have p904: 0≤ ((ji30):Int):=of_decide_eq_true zq1;have q904:(ji30)< (t885.length:Int):=of_decide_eq_true zq1;obtain⟨ad904,e904,hx904_0⟩:=Kd.at_int (Kd.R_reads' HO_9.out).2.2 (ji30) p904 q904;obtain rfl:ad903=ad904:=(by injection e904);replace p904:=eq_true p904;replace q904:=eq_true q904)))
                   go_ret
                   exact⟨by first|rfl|(simp [errW_none,errW_some]<;>rfl)|(simp only [← hji30];first|rfl|(simp [errW_none,errW_some]<;>rfl))|(simp [*,errW_none,errW_some]<;>rfl),by repeat(first|(with_reducible first|exact HB.out|apply below_alloc|apply pw_below_drewN|apply below_drew1)|exact HB.out)⟩
                ·rw [if_neg c32] at H
                 exact absurd H (by simp)
               ·rw [if_neg c31] at H
                exact absurd H (by simp)
              ·rw [if_neg c29] at H
               have c29b0:((rd t885 0)==t881)=false:=beq_eq_false_iff_ne.mpr c29
               have c29b1:((rd t885 0) !=t881)=true:=bne_iff_ne.mpr c29
               as_aux_lemma=>
                obtain rfl:=Option.some.inj H
                obtain⟨Ao42,co42,eo42⟩:=Kd.R_slice HO_9.out
                subst eo42
                go_wp2_with (first|(go_at_call 16;(with_reducible refine(impl_CostOf.calls kj6 t879 _ _ t880 _ _ t885 t896 true _ ?side1 ?side2 ?side3 ?side4 A20.out).mono ?_);(case side1=>repeat(first|exact(Kd.R_reads' HO_6.out).2.2|(with_reducible refine Kd.C_alloc ?_ _)|(with_reducible refine Kd.C_drewN ?_ _)|(with_reducible refine Kd.C_drew ?_)));(case side2=>exact(Kd.R_reads' HO_6.out).2.1);(case side3=>repeat(first|exact(Kd.R_reads' HO_9.out).2.2|(with_reducible refine Kd.C_alloc ?_ _)|(with_reducible refine Kd.C_drewN ?_ _)|(with_reducible refine Kd.C_drew ?_)));(case side4=>exact(Kd.R_reads' HO_9.out).2.1);rintro e w43 ⟨rfl,hb⟩;have n0_:=Aside0.mk (Kd.R_below (zq4 HO_6) hb);have n1_:=Aside0.mk (Kd.R_below (zq4 HO_9) hb);have n2_:=Aside0.mk (below_step (zb0 HB) hb);clear HO_6;clear HO_9;clear HB;have HO_6:=n0_;have HO_9:=n1_;have HB:=n2_;clear n0_ n1_ n2_;(try clear hb);(try clear hb2);(try clear hk);(try clear hi))|(go_at_call 27;(with_reducible refine(impl_FarsFrom.calls kj6 t879 _ _ t880 t881 t898 true _ ?side1 ?side2 A21.out).mono ?_);(case side1=>repeat(first|exact(Kd.R_reads' HO_6.out).2.2|(with_reducible refine Kd.C_alloc ?_ _)|(with_reducible refine Kd.C_drewN ?_ _)|(with_reducible refine Kd.C_drew ?_)));(case side2=>exact(Kd.R_reads' HO_6.out).2.1);rintro e w44 ⟨v900,rfl,ho0,hb⟩;have n0_:=Aside0.mk (Kd.R_below (zq4 HO_6) hb);have n1_:=Aside0.mk (Kd.R_elder' (zq4 HO_9) (Kd.R_base ho0) hb);have n2_:=Aside0.mk (Kd.R_lower (Kd.R_new' ho0 (Kd.R_lt (zq4 HO_9))) (below_size (zb0 HB)));have n3_:=Aside0.mk (below_step (zb0 HB) hb);clear HO_6;clear HO_9;clear HB;have HO_6:=n0_;have HO_9:=n1_;have HO901:=n2_;have HB:=n3_;clear n0_ n1_ n2_ n3_;(try clear hb);(try clear hb2);(try clear hk);(try clear hi);(try clear ho0);obtain⟨Ao45,co45,eo45⟩:=Kd.R_slice HO901.out;subst eo45;have p902: 0≤ (t882:Int):=of_decide_eq_true zq1;have q902:t882< (t898.length:Int):=of_decide_eq_true zq1;obtain⟨ad902,e902,hx902_0⟩:=Kd.at_int (Kd.R_reads' HO901.out).2.2 t882 p902 q902;cases e902;replace p902:=eq_true p902;replace q902:=eq_true q902;have p903: 0≤ (0:Int):=(by omega);have q903: 0< (t885.length:Int):=of_decide_eq_true zq1;obtain⟨ad903,e903,hx903_0⟩:=Kd.at_int (Kd.R_reads' HO_9.out).2.2 0 p903 q903;cases e903;have qi903:(0<t885.length)=True:=eq_true (by omega);(try rw [show ((0:Int)).toNat=0 from rfl] at hx903_0);(try rw [Addr.add_zero'] at hx903_0);replace p903:=eq_true p903;replace q903:=eq_true q903))
                repeat(go_quiet (first|(go_at_call 16;(with_reducible refine(impl_CostOf.calls kj6 t879 _ _ t880 _ _ t885 t896 true _ ?side1 ?side2 ?side3 ?side4 A20.out).mono ?_);(case side1=>repeat(first|exact(Kd.R_reads' HO_6.out).2.2|(with_reducible refine Kd.C_alloc ?_ _)|(with_reducible refine Kd.C_drewN ?_ _)|(with_reducible refine Kd.C_drew ?_)));(case side2=>exact(Kd.R_reads' HO_6.out).2.1);(case side3=>repeat(first|exact(Kd.R_reads' HO_9.out).2.2|(with_reducible refine Kd.C_alloc ?_ _)|(with_reducible refine Kd.C_drewN ?_ _)|(with_reducible refine Kd.C_drew ?_)));(case side4=>exact(Kd.R_reads' HO_9.out).2.1);rintro e w43 ⟨rfl,hb⟩;have n0_:=Aside0.mk (Kd.R_below (zq4 HO_6) hb);have n1_:=Aside0.mk (Kd.R_below (zq4 HO_9) hb);have n2_:=Aside0.mk (below_step (zb0 HB) hb);clear HO_6;clear HO_9;clear HB;have HO_6:=n0_;have HO_9:=n1_;have HB:=n2_;clear n0_ n1_ n2_;(try clear hb);(try clear hb2);(try clear hk);(try clear hi))|(go_at_call 27;(with_reducible refine(impl_FarsFrom.calls kj6 t879 _ _ t880 t881 t898 true _ ?side1 ?side2 A21.out).mono ?_);(case side1=>repeat(first|exact(Kd.R_reads' HO_6.out).2.2|(with_reducible refine Kd.C_alloc ?_ _)|(with_reducible refine Kd.C_drewN ?_ _)|(with_reducible refine Kd.C_drew ?_)));(case side2=>exact(Kd.R_reads' HO_6.out).2.1);rintro e w44 ⟨v900,rfl,ho0,hb⟩;have n0_:=Aside0.mk (Kd.R_below (zq4 HO_6) hb);have n1_:=Aside0.mk (Kd.R_elder' (zq4 HO_9) (Kd.R_base ho0) hb);have n2_:=Aside0.mk (Kd.R_lower (Kd.R_new' ho0 (Kd.R_lt (zq4 HO_9))) (below_size (zb0 HB)));have n3_:=Aside0.mk (below_step (zb0 HB) hb);clear HO_6;clear HO_9;clear HB;have HO_6:=n0_;have HO_9:=n1_;have HO901:=n2_;have HB:=n3_;clear n0_ n1_ n2_ n3_;(try clear hb);(try clear hb2);(try clear hk);(try clear hi);(try clear ho0);obtain⟨Ao45,co45,eo45⟩:=Kd.R_slice HO901.out;subst eo45;have p902: 0≤ (t882:Int):=of_decide_eq_true zq1;have q902:t882< (t898.length:Int):=of_decide_eq_true zq1;obtain⟨ad902,e902,hx902_0⟩:=Kd.at_int (Kd.R_reads' HO901.out).2.2 t882 p902 q902;cases e902;replace p902:=eq_true p902;replace q902:=eq_true q902;have p903: 0≤ (0:Int):=(by omega);have q903: 0< (t885.length:Int):=of_decide_eq_true zq1;obtain⟨ad903,e903,hx903_0⟩:=Kd.at_int (Kd.R_reads' HO_9.out).2.2 0 p903 q903;cases e903;have qi903:(0<t885.length)=True:=eq_true (by omega);(try rw [show ((0:Int)).toNat=0 from rfl] at hx903_0);(try rw [Addr.add_zero'] at hx903_0);replace p903:=eq_true p903;replace q903:=eq_true q903));try go_wp2_with (first|(go_at_call 16;(with_reducible refine(impl_CostOf.calls kj6 t879 _ _ t880 _ _ t885 t896 true _ ?side1 ?side2 ?side3 ?side4 A20.out).mono ?_);(case side1=>repeat(first|exact(Kd.R_reads' HO_6.out).2.2|(with_reducible refine Kd.C_alloc ?_ _)|(with_reducible refine Kd.C_drewN ?_ _)|(with_reducible refine Kd.C_drew ?_)));(case side2=>exact(Kd.R_reads' HO_6.out).2.1);(case side3=>repeat(first|exact(Kd.R_reads' HO_9.out).2.2|(with_reducible refine Kd.C_alloc ?_ _)|(with_reducible refine Kd.C_drewN ?_ _)|(with_reducible refine Kd.C_drew ?_)));(case side4=>exact(Kd.R_reads' HO_9.out).2.1);rintro e w43 ⟨rfl,hb⟩;have n0_:=Aside0.mk (Kd.R_below (zq4 HO_6) hb);have n1_:=Aside0.mk (Kd.R_below (zq4 HO_9) hb);have n2_:=Aside0.mk (below_step (zb0 HB) hb);clear HO_6;clear HO_9;clear HB;have HO_6:=n0_;have HO_9:=n1_;have HB:=n2_;clear n0_ n1_ n2_;(try clear hb);(try clear hb2);(try clear hk);(try clear hi))|(go_at_call 27;(with_reducible refine(impl_FarsFrom.calls kj6 t879 _ _ t880 t881 t898 true _ ?side1 ?side2 A21.out).mono ?_);(case side1=>repeat(first|exact(Kd.R_reads' HO_6.out).2.2|(with_reducible refine Kd.C_alloc ?_ _)|(with_reducible refine Kd.C_drewN ?_ _)|(with_reducible refine Kd.C_drew ?_)));(case side2=>exact(Kd.R_reads' HO_6.out).2.1);rintro e w44 ⟨v900,rfl,ho0,hb⟩;have n0_:=Aside0.mk (Kd.R_below (zq4 HO_6) hb);have n1_:=Aside0.mk (Kd.R_elder' (zq4 HO_9) (Kd.R_base ho0) hb);have n2_:=Aside0.mk (Kd.R_lower (Kd.R_new' ho0 (Kd.R_lt (zq4 HO_9))) (below_size (zb0 HB)));have n3_:=Aside0.mk (below_step (zb0 HB) hb);clear HO_6;clear HO_9;clear HB;have HO_6:=n0_;have HO_9:=n1_;have HO901:=n2_;have HB:=n3_;clear n0_ n1_ n2_ n3_;(try clear hb);(try clear hb2);(try clear hk);(try clear hi);(try clear ho0);obtain⟨Ao45,co45,eo45⟩:=Kd.R_slice HO901.out;subst eo45;have p902: 0≤ (t882:Int):=of_decide_eq_true zq1;have q902:t882< (t898.length:Int):=of_decide_eq_true zq1;obtain⟨ad902,e902,hx902_0⟩:=Kd.at_int (Kd.R_reads' HO901.out).2.2 t882 p902 q902;cases e902;replace p902:=eq_true p902;replace q902:=eq_true q902;have p903: 0≤ (0:Int):=(by omega);have q903: 0< (t885.length:Int):=of_decide_eq_true zq1;obtain⟨ad903,e903,hx903_0⟩:=Kd.at_int (Kd.R_reads' HO_9.out).2.2 0 p903 q903;cases e903;have qi903:(0<t885.length)=True:=eq_true (by omega);(try rw [show ((0:Int)).toNat=0 from rfl] at hx903_0);(try rw [Addr.add_zero'] at hx903_0);replace p903:=eq_true p903;replace q903:=eq_true q903)))
                go_ret
                exact⟨by first|rfl|(simp [errW_none,errW_some]<;>rfl)|(simp [*,errW_none,errW_some]<;>rfl),by repeat(first|(with_reducible first|exact HB.out|apply below_alloc|apply pw_below_drewN|apply below_drew1)|exact HB.out)⟩
             ·rw [if_neg c28] at H
              exact absurd H (by simp)
            ·rw [if_neg c27] at H
             have c27b0:((rd t898 t882)==t886)=false:=beq_eq_false_iff_ne.mpr c27
             have c27b1:((rd t898 t882) !=t886)=true:=bne_iff_ne.mpr c27
             as_aux_lemma=>
              obtain rfl:=Option.some.inj H
              obtain⟨Ao46,co46,eo46⟩:=Kd.R_slice HO_9.out
              subst eo46
              go_wp2_with (first|(go_at_call 16;(with_reducible refine(impl_CostOf.calls kj6 t879 _ _ t880 _ _ t885 t896 true _ ?side1 ?side2 ?side3 ?side4 A20.out).mono ?_);(case side1=>repeat(first|exact(Kd.R_reads' HO_6.out).2.2|(with_reducible refine Kd.C_alloc ?_ _)|(with_reducible refine Kd.C_drewN ?_ _)|(with_reducible refine Kd.C_drew ?_)));(case side2=>exact(Kd.R_reads' HO_6.out).2.1);(case side3=>repeat(first|exact(Kd.R_reads' HO_9.out).2.2|(with_reducible refine Kd.C_alloc ?_ _)|(with_reducible refine Kd.C_drewN ?_ _)|(with_reducible refine Kd.C_drew ?_)));(case side4=>exact(Kd.R_reads' HO_9.out).2.1);rintro e w47 ⟨rfl,hb⟩;have n0_:=Aside0.mk (Kd.R_below (zq4 HO_6) hb);have n1_:=Aside0.mk (Kd.R_below (zq4 HO_9) hb);have n2_:=Aside0.mk (below_step (zb0 HB) hb);clear HO_6;clear HO_9;clear HB;have HO_6:=n0_;have HO_9:=n1_;have HB:=n2_;clear n0_ n1_ n2_;(try clear hb);(try clear hb2);(try clear hk);(try clear hi))|(go_at_call 27;(with_reducible refine(impl_FarsFrom.calls kj6 t879 _ _ t880 t881 t898 true _ ?side1 ?side2 A21.out).mono ?_);(case side1=>repeat(first|exact(Kd.R_reads' HO_6.out).2.2|(with_reducible refine Kd.C_alloc ?_ _)|(with_reducible refine Kd.C_drewN ?_ _)|(with_reducible refine Kd.C_drew ?_)));(case side2=>exact(Kd.R_reads' HO_6.out).2.1);rintro e w48 ⟨v900,rfl,ho0,hb⟩;have n0_:=Aside0.mk (Kd.R_below (zq4 HO_6) hb);have n1_:=Aside0.mk (Kd.R_elder' (zq4 HO_9) (Kd.R_base ho0) hb);have n2_:=Aside0.mk (Kd.R_lower (Kd.R_new' ho0 (Kd.R_lt (zq4 HO_9))) (below_size (zb0 HB)));have n3_:=Aside0.mk (below_step (zb0 HB) hb);clear HO_6;clear HO_9;clear HB;have HO_6:=n0_;have HO_9:=n1_;have HO901:=n2_;have HB:=n3_;clear n0_ n1_ n2_ n3_;(try clear hb);(try clear hb2);(try clear hk);(try clear hi);(try clear ho0);obtain⟨Ao49,co49,eo49⟩:=Kd.R_slice HO901.out;subst eo49;have p902: 0≤ (t882:Int):=of_decide_eq_true zq1;have q902:t882< (t898.length:Int):=of_decide_eq_true zq1;obtain⟨ad902,e902,hx902_0⟩:=Kd.at_int (Kd.R_reads' HO901.out).2.2 t882 p902 q902;cases e902;replace p902:=eq_true p902;replace q902:=eq_true q902))
              repeat(go_quiet (first|(go_at_call 16;(with_reducible refine(impl_CostOf.calls kj6 t879 _ _ t880 _ _ t885 t896 true _ ?side1 ?side2 ?side3 ?side4 A20.out).mono ?_);(case side1=>repeat(first|exact(Kd.R_reads' HO_6.out).2.2|(with_reducible refine Kd.C_alloc ?_ _)|(with_reducible refine Kd.C_drewN ?_ _)|(with_reducible refine Kd.C_drew ?_)));(case side2=>exact(Kd.R_reads' HO_6.out).2.1);(case side3=>repeat(first|exact(Kd.R_reads' HO_9.out).2.2|(with_reducible refine Kd.C_alloc ?_ _)|(with_reducible refine Kd.C_drewN ?_ _)|(with_reducible refine Kd.C_drew ?_)));(case side4=>exact(Kd.R_reads' HO_9.out).2.1);rintro e w47 ⟨rfl,hb⟩;have n0_:=Aside0.mk (Kd.R_below (zq4 HO_6) hb);have n1_:=Aside0.mk (Kd.R_below (zq4 HO_9) hb);have n2_:=Aside0.mk (below_step (zb0 HB) hb);clear HO_6;clear HO_9;clear HB;have HO_6:=n0_;have HO_9:=n1_;have HB:=n2_;clear n0_ n1_ n2_;(try clear hb);(try clear hb2);(try clear hk);(try clear hi))|(go_at_call 27;(with_reducible refine(impl_FarsFrom.calls kj6 t879 _ _ t880 t881 t898 true _ ?side1 ?side2 A21.out).mono ?_);(case side1=>repeat(first|exact(Kd.R_reads' HO_6.out).2.2|(with_reducible refine Kd.C_alloc ?_ _)|(with_reducible refine Kd.C_drewN ?_ _)|(with_reducible refine Kd.C_drew ?_)));(case side2=>exact(Kd.R_reads' HO_6.out).2.1);rintro e w48 ⟨v900,rfl,ho0,hb⟩;have n0_:=Aside0.mk (Kd.R_below (zq4 HO_6) hb);have n1_:=Aside0.mk (Kd.R_elder' (zq4 HO_9) (Kd.R_base ho0) hb);have n2_:=Aside0.mk (Kd.R_lower (Kd.R_new' ho0 (Kd.R_lt (zq4 HO_9))) (below_size (zb0 HB)));have n3_:=Aside0.mk (below_step (zb0 HB) hb);clear HO_6;clear HO_9;clear HB;have HO_6:=n0_;have HO_9:=n1_;have HO901:=n2_;have HB:=n3_;clear n0_ n1_ n2_ n3_;(try clear hb);(try clear hb2);(try clear hk);(try clear hi);(try clear ho0);obtain⟨Ao49,co49,eo49⟩:=Kd.R_slice HO901.out;subst eo49;have p902: 0≤ (t882:Int):=of_decide_eq_true zq1;have q902:t882< (t898.length:Int):=of_decide_eq_true zq1;obtain⟨ad902,e902,hx902_0⟩:=Kd.at_int (Kd.R_reads' HO901.out).2.2 t882 p902 q902;cases e902;replace p902:=eq_true p902;replace q902:=eq_true q902));try go_wp2_with (first|(go_at_call 16;(with_reducible refine(impl_CostOf.calls kj6 t879 _ _ t880 _ _ t885 t896 true _ ?side1 ?side2 ?side3 ?side4 A20.out).mono ?_);(case side1=>repeat(first|exact(Kd.R_reads' HO_6.out).2.2|(with_reducible refine Kd.C_alloc ?_ _)|(with_reducible refine Kd.C_drewN ?_ _)|(with_reducible refine Kd.C_drew ?_)));(case side2=>exact(Kd.R_reads' HO_6.out).2.1);(case side3=>repeat(first|exact(Kd.R_reads' HO_9.out).2.2|(with_reducible refine Kd.C_alloc ?_ _)|(with_reducible refine Kd.C_drewN ?_ _)|(with_reducible refine Kd.C_drew ?_)));(case side4=>exact(Kd.R_reads' HO_9.out).2.1);rintro e w47 ⟨rfl,hb⟩;have n0_:=Aside0.mk (Kd.R_below (zq4 HO_6) hb);have n1_:=Aside0.mk (Kd.R_below (zq4 HO_9) hb);have n2_:=Aside0.mk (below_step (zb0 HB) hb);clear HO_6;clear HO_9;clear HB;have HO_6:=n0_;have HO_9:=n1_;have HB:=n2_;clear n0_ n1_ n2_;(try clear hb);(try clear hb2);(try clear hk);(try clear hi))|(go_at_call 27;(with_reducible refine(impl_FarsFrom.calls kj6 t879 _ _ t880 t881 t898 true _ ?side1 ?side2 A21.out).mono ?_);(case side1=>repeat(first|exact(Kd.R_reads' HO_6.out).2.2|(with_reducible refine Kd.C_alloc ?_ _)|(with_reducible refine Kd.C_drewN ?_ _)|(with_reducible refine Kd.C_drew ?_)));(case side2=>exact(Kd.R_reads' HO_6.out).2.1);rintro e w48 ⟨v900,rfl,ho0,hb⟩;have n0_:=Aside0.mk (Kd.R_below (zq4 HO_6) hb);have n1_:=Aside0.mk (Kd.R_elder' (zq4 HO_9) (Kd.R_base ho0) hb);have n2_:=Aside0.mk (Kd.R_lower (Kd.R_new' ho0 (Kd.R_lt (zq4 HO_9))) (below_size (zb0 HB)));have n3_:=Aside0.mk (below_step (zb0 HB) hb);clear HO_6;clear HO_9;clear HB;have HO_6:=n0_;have HO_9:=n1_;have HO901:=n2_;have HB:=n3_;clear n0_ n1_ n2_ n3_;(try clear hb);(try clear hb2);(try clear hk);(try clear hi);(try clear ho0);obtain⟨Ao49,co49,eo49⟩:=Kd.R_slice HO901.out;subst eo49;have p902: 0≤ (t882:Int):=of_decide_eq_true zq1;have q902:t882< (t898.length:Int):=of_decide_eq_true zq1;obtain⟨ad902,e902,hx902_0⟩:=Kd.at_int (Kd.R_reads' HO901.out).2.2 t882 p902 q902;cases e902;replace p902:=eq_true p902;replace q902:=eq_true q902)))
              go_ret
              exact⟨by first|rfl|(simp [errW_none,errW_some]<;>rfl)|(simp [*,errW_none,errW_some]<;>rfl),by repeat(first|(with_reducible first|exact HB.out|apply below_alloc|apply pw_below_drewN|apply below_drew1)|exact HB.out)⟩
           ·rw [if_neg c26] at H
            exact absurd H (by simp)
          ·rw [if_neg c25] at H
           exact absurd H (by simp)
         ·replace c24:=Bool.eq_false_iff.mpr c24
          subst c24
          have H1:(some false)=some r:=by rw [if_neg (show ¬ (false=true) by decide)] at H;exact H
          clear H
          have H:=H1
          clear H1
          as_aux_lemma=>
           obtain rfl:=Option.some.inj H
           obtain⟨Ao50,co50,eo50⟩:=Kd.R_slice HO_9.out
           subst eo50
           go_wp2_with (first|(go_at_call 16;(with_reducible refine(impl_CostOf.calls kj6 t879 _ _ t880 _ _ t885 t896 true _ ?side1 ?side2 ?side3 ?side4 A20.out).mono ?_);(case side1=>repeat(first|exact(Kd.R_reads' HO_6.out).2.2|(with_reducible refine Kd.C_alloc ?_ _)|(with_reducible refine Kd.C_drewN ?_ _)|(with_reducible refine Kd.C_drew ?_)));(case side2=>exact(Kd.R_reads' HO_6.out).2.1);(case side3=>repeat(first|exact(Kd.R_reads' HO_9.out).2.2|(with_reducible refine Kd.C_alloc ?_ _)|(with_reducible refine Kd.C_drewN ?_ _)|(with_reducible refine Kd.C_drew ?_)));(case side4=>exact(Kd.R_reads' HO_9.out).2.1);rintro e w51 ⟨rfl,hb⟩;have n0_:=Aside0.mk (Kd.R_below (zq4 HO_6) hb);have n1_:=Aside0.mk (Kd.R_below (zq4 HO_9) hb);have n2_:=Aside0.mk (below_step (zb0 HB) hb);clear HO_6;clear HO_9;clear HB;have HO_6:=n0_;have HO_9:=n1_;have HB:=n2_;clear n0_ n1_ n2_;(try clear hb);(try clear hb2);(try clear hk);(try clear hi))|(go_at_call 27;(with_reducible refine(impl_FarsFrom.calls kj6 t879 _ _ t880 t881 t898 false _ ?side1 ?side2 A21.out).mono ?_);(case side1=>repeat(first|exact(Kd.R_reads' HO_6.out).2.2|(with_reducible refine Kd.C_alloc ?_ _)|(with_reducible refine Kd.C_drewN ?_ _)|(with_reducible refine Kd.C_drew ?_)));(case side2=>exact(Kd.R_reads' HO_6.out).2.1);rintro e w52 ⟨v900,rfl,ho0,hb⟩;have n0_:=Aside0.mk (Kd.R_below (zq4 HO_6) hb);have n1_:=Aside0.mk (Kd.R_elder' (zq4 HO_9) (Kd.R_base ho0) hb);have n2_:=Aside0.mk (Kd.R_lower (Kd.R_new' ho0 (Kd.R_lt (zq4 HO_9))) (below_size (zb0 HB)));have n3_:=Aside0.mk (below_step (zb0 HB) hb);clear HO_6;clear HO_9;clear HB;have HO_6:=n0_;have HO_9:=n1_;have HO901:=n2_;have HB:=n3_;clear n0_ n1_ n2_ n3_;(try clear hb);(try clear hb2);(try clear hk);(try clear hi);(try clear ho0)))
           repeat(go_quiet (first|(go_at_call 16;(with_reducible refine(impl_CostOf.calls kj6 t879 _ _ t880 _ _ t885 t896 true _ ?side1 ?side2 ?side3 ?side4 A20.out).mono ?_);(case side1=>repeat(first|exact(Kd.R_reads' HO_6.out).2.2|(with_reducible refine Kd.C_alloc ?_ _)|(with_reducible refine Kd.C_drewN ?_ _)|(with_reducible refine Kd.C_drew ?_)));(case side2=>exact(Kd.R_reads' HO_6.out).2.1);(case side3=>repeat(first|exact(Kd.R_reads' HO_9.out).2.2|(with_reducible refine Kd.C_alloc ?_ _)|(with_reducible refine Kd.C_drewN ?_ _)|(with_reducible refine Kd.C_drew ?_)));(case side4=>exact(Kd.R_reads' HO_9.out).2.1);rintro e w51 ⟨rfl,hb⟩;have n0_:=Aside0.mk (Kd.R_below (zq4 HO_6) hb);have n1_:=Aside0.mk (Kd.R_below (zq4 HO_9) hb);have n2_:=Aside0.mk (below_step (zb0 HB) hb);clear HO_6;clear HO_9;clear HB;have HO_6:=n0_;have HO_9:=n1_;have HB:=n2_;clear n0_ n1_ n2_;(try clear hb);(try clear hb2);(try clear hk);(try clear hi))|(go_at_call 27;(with_reducible refine(impl_FarsFrom.calls kj6 t879 _ _ t880 t881 t898 false _ ?side1 ?side2 A21.out).mono ?_);(case side1=>repeat(first|exact(Kd.R_reads' HO_6.out).2.2|(with_reducible refine Kd.C_alloc ?_ _)|(with_reducible refine Kd.C_drewN ?_ _)|(with_reducible refine Kd.C_drew ?_)));(case side2=>exact(Kd.R_reads' HO_6.out).2.1);rintro e w52 ⟨v900,rfl,ho0,hb⟩;have n0_:=Aside0.mk (Kd.R_below (zq4 HO_6) hb);have n1_:=Aside0.mk (Kd.R_elder' (zq4 HO_9) (Kd.R_base ho0) hb);have n2_:=Aside0.mk (Kd.R_lower (Kd.R_new' ho0 (Kd.R_lt (zq4 HO_9))) (below_size (zb0 HB)));have n3_:=Aside0.mk (below_step (zb0 HB) hb);clear HO_6;clear HO_9;clear HB;have HO_6:=n0_;have HO_9:=n1_;have HO901:=n2_;have HB:=n3_;clear n0_ n1_ n2_ n3_;(try clear hb);(try clear hb2);(try clear hk);(try clear hi);(try clear ho0)));try go_wp2_with (first|(go_at_call 16;(with_reducible refine(impl_CostOf.calls kj6 t879 _ _ t880 _ _ t885 t896 true _ ?side1 ?side2 ?side3 ?side4 A20.out).mono ?_);(case side1=>repeat(first|exact(Kd.R_reads' HO_6.out).2.2|(with_reducible refine Kd.C_alloc ?_ _)|(with_reducible refine Kd.C_drewN ?_ _)|(with_reducible refine Kd.C_drew ?_)));(case side2=>exact(Kd.R_reads' HO_6.out).2.1);(case side3=>repeat(first|exact(Kd.R_reads' HO_9.out).2.2|(with_reducible refine Kd.C_alloc ?_ _)|(with_reducible refine Kd.C_drewN ?_ _)|(with_reducible refine Kd.C_drew ?_)));(case side4=>exact(Kd.R_reads' HO_9.out).2.1);rintro e w51 ⟨rfl,hb⟩;have n0_:=Aside0.mk (Kd.R_below (zq4 HO_6) hb);have n1_:=Aside0.mk (Kd.R_below (zq4 HO_9) hb);have n2_:=Aside0.mk (below_step (zb0 HB) hb);clear HO_6;clear HO_9;clear HB;have HO_6:=n0_;have HO_9:=n1_;have HB:=n2_;clear n0_ n1_ n2_;(try clear hb);(try clear hb2);(try clear hk);(try clear hi))|(go_at_call 27;(with_reducible refine(impl_FarsFrom.calls kj6 t879 _ _ t880 t881 t898 false _ ?side1 ?side2 A21.out).mono ?_);(case side1=>repeat(first|exact(Kd.R_reads' HO_6.out).2.2|(with_reducible refine Kd.C_alloc ?_ _)|(with_reducible refine Kd.C_drewN ?_ _)|(with_reducible refine Kd.C_drew ?_)));(case side2=>exact(Kd.R_reads' HO_6.out).2.1);rintro e w52 ⟨v900,rfl,ho0,hb⟩;have n0_:=Aside0.mk (Kd.R_below (zq4 HO_6) hb);have n1_:=Aside0.mk (Kd.R_elder' (zq4 HO_9) (Kd.R_base ho0) hb);have n2_:=Aside0.mk (Kd.R_lower (Kd.R_new' ho0 (Kd.R_lt (zq4 HO_9))) (below_size (zb0 HB)));have n3_:=Aside0.mk (below_step (zb0 HB) hb);clear HO_6;clear HO_9;clear HB;have HO_6:=n0_;have HO_9:=n1_;have HO901:=n2_;have HB:=n3_;clear n0_ n1_ n2_ n3_;(try clear hb);(try clear hb2);(try clear hk);(try clear hi);(try clear ho0))))
           go_ret
           exact⟨by first|rfl|(simp [errW_none,errW_some]<;>rfl)|(simp [*,errW_none,errW_some]<;>rfl),by repeat(first|(with_reducible first|exact HB.out|apply below_alloc|apply pw_below_drewN|apply below_drew1)|exact HB.out)⟩
        ·rw [if_neg c23] at H
         have c23b0:(t896==t886)=false:=beq_eq_false_iff_ne.mpr c23
         have c23b1:(t896 !=t886)=true:=bne_iff_ne.mpr c23
         (first|rw [c23b0]|(simp only [i64_w,i32_w];rw [c23b0])|skip)
         as_aux_lemma=>
          obtain rfl:=Option.some.inj H
          obtain⟨Ao53,co53,eo53⟩:=Kd.R_slice HO_9.out
          subst eo53
          go_wp2_with (first|(go_at_call 16;(with_reducible refine(impl_CostOf.calls kj6 t879 _ _ t880 _ _ t885 t896 true _ ?side1 ?side2 ?side3 ?side4 A20.out).mono ?_);(case side1=>repeat(first|exact(Kd.R_reads' HO_6.out).2.2|(with_reducible refine Kd.C_alloc ?_ _)|(with_reducible refine Kd.C_drewN ?_ _)|(with_reducible refine Kd.C_drew ?_)));(case side2=>exact(Kd.R_reads' HO_6.out).2.1);(case side3=>repeat(first|exact(Kd.R_reads' HO_9.out).2.2|(with_reducible refine Kd.C_alloc ?_ _)|(with_reducible refine Kd.C_drewN ?_ _)|(with_reducible refine Kd.C_drew ?_)));(case side4=>exact(Kd.R_reads' HO_9.out).2.1);rintro e w54 ⟨rfl,hb⟩;have n0_:=Aside0.mk (Kd.R_below (zq4 HO_6) hb);have n1_:=Aside0.mk (Kd.R_below (zq4 HO_9) hb);have n2_:=Aside0.mk (below_step (zb0 HB) hb);clear HO_6;clear HO_9;clear HB;have HO_6:=n0_;have HO_9:=n1_;have HB:=n2_;clear n0_ n1_ n2_;(try clear hb);(try clear hb2);(try clear hk);(try clear hi))|(go_at_call 27;(with_reducible refine(impl_FarsFrom.calls kj6 t879 _ _ t880 t881 t898 t899 _ ?side1 ?side2 A21.out).mono ?_);(case side1=>repeat(first|exact(Kd.R_reads' HO_6.out).2.2|(with_reducible refine Kd.C_alloc ?_ _)|(with_reducible refine Kd.C_drewN ?_ _)|(with_reducible refine Kd.C_drew ?_)));(case side2=>exact(Kd.R_reads' HO_6.out).2.1);rintro e w55 ⟨v900,rfl,ho0,hb⟩;have n0_:=Aside0.mk (Kd.R_below (zq4 HO_6) hb);have n1_:=Aside0.mk (Kd.R_elder' (zq4 HO_9) (Kd.R_base ho0) hb);have n2_:=Aside0.mk (Kd.R_lower (Kd.R_new' ho0 (Kd.R_lt (zq4 HO_9))) (below_size (zb0 HB)));have n3_:=Aside0.mk (below_step (zb0 HB) hb);clear HO_6;clear HO_9;clear HB;have HO_6:=n0_;have HO_9:=n1_;have HO901:=n2_;have HB:=n3_;clear n0_ n1_ n2_ n3_;(try clear hb);(try clear hb2);(try clear hk);(try clear hi);(try clear ho0)))
          repeat(go_quiet (first|(go_at_call 16;(with_reducible refine(impl_CostOf.calls kj6 t879 _ _ t880 _ _ t885 t896 true _ ?side1 ?side2 ?side3 ?side4 A20.out).mono ?_);(case side1=>repeat(first|exact(Kd.R_reads' HO_6.out).2.2|(with_reducible refine Kd.C_alloc ?_ _)|(with_reducible refine Kd.C_drewN ?_ _)|(with_reducible refine Kd.C_drew ?_)));(case side2=>exact(Kd.R_reads' HO_6.out).2.1);(case side3=>repeat(first|exact(Kd.R_reads' HO_9.out).2.2|(with_reducible refine Kd.C_alloc ?_ _)|(with_reducible refine Kd.C_drewN ?_ _)|(with_reducible refine Kd.C_drew ?_)));(case side4=>exact(Kd.R_reads' HO_9.out).2.1);rintro e w54 ⟨rfl,hb⟩;have n0_:=Aside0.mk (Kd.R_below (zq4 HO_6) hb);have n1_:=Aside0.mk (Kd.R_below (zq4 HO_9) hb);have n2_:=Aside0.mk (below_step (zb0 HB) hb);clear HO_6;clear HO_9;clear HB;have HO_6:=n0_;have HO_9:=n1_;have HB:=n2_;clear n0_ n1_ n2_;(try clear hb);(try clear hb2);(try clear hk);(try clear hi))|(go_at_call 27;(with_reducible refine(impl_FarsFrom.calls kj6 t879 _ _ t880 t881 t898 t899 _ ?side1 ?side2 A21.out).mono ?_);(case side1=>repeat(first|exact(Kd.R_reads' HO_6.out).2.2|(with_reducible refine Kd.C_alloc ?_ _)|(with_reducible refine Kd.C_drewN ?_ _)|(with_reducible refine Kd.C_drew ?_)));(case side2=>exact(Kd.R_reads' HO_6.out).2.1);rintro e w55 ⟨v900,rfl,ho0,hb⟩;have n0_:=Aside0.mk (Kd.R_below (zq4 HO_6) hb);have n1_:=Aside0.mk (Kd.R_elder' (zq4 HO_9) (Kd.R_base ho0) hb);have n2_:=Aside0.mk (Kd.R_lower (Kd.R_new' ho0 (Kd.R_lt (zq4 HO_9))) (below_size (zb0 HB)));have n3_:=Aside0.mk (below_step (zb0 HB) hb);clear HO_6;clear HO_9;clear HB;have HO_6:=n0_;have HO_9:=n1_;have HO901:=n2_;have HB:=n3_;clear n0_ n1_ n2_ n3_;(try clear hb);(try clear hb2);(try clear hk);(try clear hi);(try clear ho0)));try go_wp2_with (first|(go_at_call 16;(with_reducible refine(impl_CostOf.calls kj6 t879 _ _ t880 _ _ t885 t896 true _ ?side1 ?side2 ?side3 ?side4 A20.out).mono ?_);(case side1=>repeat(first|exact(Kd.R_reads' HO_6.out).2.2|(with_reducible refine Kd.C_alloc ?_ _)|(with_reducible refine Kd.C_drewN ?_ _)|(with_reducible refine Kd.C_drew ?_)));(case side2=>exact(Kd.R_reads' HO_6.out).2.1);(case side3=>repeat(first|exact(Kd.R_reads' HO_9.out).2.2|(with_reducible refine Kd.C_alloc ?_ _)|(with_reducible refine Kd.C_drewN ?_ _)|(with_reducible refine Kd.C_drew ?_)));(case side4=>exact(Kd.R_reads' HO_9.out).2.1);rintro e w54 ⟨rfl,hb⟩;have n0_:=Aside0.mk (Kd.R_below (zq4 HO_6) hb);have n1_:=Aside0.mk (Kd.R_below (zq4 HO_9) hb);have n2_:=Aside0.mk (below_step (zb0 HB) hb);clear HO_6;clear HO_9;clear HB;have HO_6:=n0_;have HO_9:=n1_;have HB:=n2_;clear n0_ n1_ n2_;(try clear hb);(try clear hb2);(try clear hk);(try clear hi))|(go_at_call 27;(with_reducible refine(impl_FarsFrom.calls kj6 t879 _ _ t880 t881 t898 t899 _ ?side1 ?side2 A21.out).mono ?_);(case side1=>repeat(first|exact(Kd.R_reads' HO_6.out).2.2|(with_reducible refine Kd.C_alloc ?_ _)|(with_reducible refine Kd.C_drewN ?_ _)|(with_reducible refine Kd.C_drew ?_)));(case side2=>exact(Kd.R_reads' HO_6.out).2.1);rintro e w55 ⟨v900,rfl,ho0,hb⟩;have n0_:=Aside0.mk (Kd.R_below (zq4 HO_6) hb);have n1_:=Aside0.mk (Kd.R_elder' (zq4 HO_9) (Kd.R_base ho0) hb);have n2_:=Aside0.mk (Kd.R_lower (Kd.R_new' ho0 (Kd.R_lt (zq4 HO_9))) (below_size (zb0 HB)));have n3_:=Aside0.mk (below_step (zb0 HB) hb);clear HO_6;clear HO_9;clear HB;have HO_6:=n0_;have HO_9:=n1_;have HO901:=n2_;have HB:=n3_;clear n0_ n1_ n2_ n3_;(try clear hb);(try clear hb2);(try clear hk);(try clear hi);(try clear ho0))))
          go_ret
          exact⟨by first|rfl|(simp [errW_none,errW_some]<;>rfl)|(simp [*,errW_none,errW_some]<;>rfl),by repeat(first|(with_reducible first|exact HB.out|apply below_alloc|apply pw_below_drewN|apply below_drew1)|exact HB.out)⟩
       ·replace c22:=Bool.eq_false_iff.mpr c22
        subst c22
        have H1:(some false)=some r:=by rw [if_neg (show ¬ (false=true) by decide)] at H;exact H
        clear H
        have H:=H1
        clear H1
        as_aux_lemma=>
         obtain rfl:=Option.some.inj H
         obtain⟨Ao56,co56,eo56⟩:=Kd.R_slice HO_9.out
         subst eo56
         go_wp2_with (first|(go_at_call 16;(with_reducible refine(impl_CostOf.calls kj6 t879 _ _ t880 _ _ t885 t896 false _ ?side1 ?side2 ?side3 ?side4 A20.out).mono ?_);(case side1=>repeat(first|exact(Kd.R_reads' HO_6.out).2.2|(with_reducible refine Kd.C_alloc ?_ _)|(with_reducible refine Kd.C_drewN ?_ _)|(with_reducible refine Kd.C_drew ?_)));(case side2=>exact(Kd.R_reads' HO_6.out).2.1);(case side3=>repeat(first|exact(Kd.R_reads' HO_9.out).2.2|(with_reducible refine Kd.C_alloc ?_ _)|(with_reducible refine Kd.C_drewN ?_ _)|(with_reducible refine Kd.C_drew ?_)));(case side4=>exact(Kd.R_reads' HO_9.out).2.1);rintro e w57 ⟨rfl,hb⟩;have n0_:=Aside0.mk (Kd.R_below (zq4 HO_6) hb);have n1_:=Aside0.mk (Kd.R_below (zq4 HO_9) hb);have n2_:=Aside0.mk (below_step (zb0 HB) hb);clear HO_6;clear HO_9;clear HB;have HO_6:=n0_;have HO_9:=n1_;have HB:=n2_;clear n0_ n1_ n2_;(try clear hb);(try clear hb2);(try clear hk);(try clear hi))|(go_at_call 27;(with_reducible refine(impl_FarsFrom.calls kj6 t879 _ _ t880 t881 t898 t899 _ ?side1 ?side2 A21.out).mono ?_);(case side1=>repeat(first|exact(Kd.R_reads' HO_6.out).2.2|(with_reducible refine Kd.C_alloc ?_ _)|(with_reducible refine Kd.C_drewN ?_ _)|(with_reducible refine Kd.C_drew ?_)));(case side2=>exact(Kd.R_reads' HO_6.out).2.1);rintro e w58 ⟨v900,rfl,ho0,hb⟩;have n0_:=Aside0.mk (Kd.R_below (zq4 HO_6) hb);have n1_:=Aside0.mk (Kd.R_elder' (zq4 HO_9) (Kd.R_base ho0) hb);have n2_:=Aside0.mk (Kd.R_lower (Kd.R_new' ho0 (Kd.R_lt (zq4 HO_9))) (below_size (zb0 HB)));have n3_:=Aside0.mk (below_step (zb0 HB) hb);clear HO_6;clear HO_9;clear HB;have HO_6:=n0_;have HO_9:=n1_;have HO901:=n2_;have HB:=n3_;clear n0_ n1_ n2_ n3_;(try clear hb);(try clear hb2);(try clear hk);(try clear hi);(try clear ho0)))
         repeat(go_quiet (first|(go_at_call 16;(with_reducible refine(impl_CostOf.calls kj6 t879 _ _ t880 _ _ t885 t896 false _ ?side1 ?side2 ?side3 ?side4 A20.out).mono ?_);(case side1=>repeat(first|exact(Kd.R_reads' HO_6.out).2.2|(with_reducible refine Kd.C_alloc ?_ _)|(with_reducible refine Kd.C_drewN ?_ _)|(with_reducible refine Kd.C_drew ?_)));(case side2=>exact(Kd.R_reads' HO_6.out).2.1);(case side3=>repeat(first|exact(Kd.R_reads' HO_9.out).2.2|(with_reducible refine Kd.C_alloc ?_ _)|(with_reducible refine Kd.C_drewN ?_ _)|(with_reducible refine Kd.C_drew ?_)));(case side4=>exact(Kd.R_reads' HO_9.out).2.1);rintro e w57 ⟨rfl,hb⟩;have n0_:=Aside0.mk (Kd.R_below (zq4 HO_6) hb);have n1_:=Aside0.mk (Kd.R_below (zq4 HO_9) hb);have n2_:=Aside0.mk (below_step (zb0 HB) hb);clear HO_6;clear HO_9;clear HB;have HO_6:=n0_;have HO_9:=n1_;have HB:=n2_;clear n0_ n1_ n2_;(try clear hb);(try clear hb2);(try clear hk);(try clear hi))|(go_at_call 27;(with_reducible refine(impl_FarsFrom.calls kj6 t879 _ _ t880 t881 t898 t899 _ ?side1 ?side2 A21.out).mono ?_);(case side1=>repeat(first|exact(Kd.R_reads' HO_6.out).2.2|(with_reducible refine Kd.C_alloc ?_ _)|(with_reducible refine Kd.C_drewN ?_ _)|(with_reducible refine Kd.C_drew ?_)));(case side2=>exact(Kd.R_reads' HO_6.out).2.1);rintro e w58 ⟨v900,rfl,ho0,hb⟩;have n0_:=Aside0.mk (Kd.R_below (zq4 HO_6) hb);have n1_:=Aside0.mk (Kd.R_elder' (zq4 HO_9) (Kd.R_base ho0) hb);have n2_:=Aside0.mk (Kd.R_lower (Kd.R_new' ho0 (Kd.R_lt (zq4 HO_9))) (below_size (zb0 HB)));have n3_:=Aside0.mk (below_step (zb0 HB) hb);clear HO_6;clear HO_9;clear HB;have HO_6:=n0_;have HO_9:=n1_;have HO901:=n2_;have HB:=n3_;clear n0_ n1_ n2_ n3_;(try clear hb);(try clear hb2);(try clear hk);(try clear hi);(try clear ho0)));try go_wp2_with (first|(go_at_call 16;(with_reducible refine(impl_CostOf.calls kj6 t879 _ _ t880 _ _ t885 t896 false _ ?side1 ?side2 ?side3 ?side4 A20.out).mono ?_);(case side1=>repeat(first|exact(Kd.R_reads' HO_6.out).2.2|(with_reducible refine Kd.C_alloc ?_ _)|(with_reducible refine Kd.C_drewN ?_ _)|(with_reducible refine Kd.C_drew ?_)));(case side2=>exact(Kd.R_reads' HO_6.out).2.1);(case side3=>repeat(first|exact(Kd.R_reads' HO_9.out).2.2|(with_reducible refine Kd.C_alloc ?_ _)|(with_reducible refine Kd.C_drewN ?_ _)|(with_reducible refine Kd.C_drew ?_)));(case side4=>exact(Kd.R_reads' HO_9.out).2.1);rintro e w57 ⟨rfl,hb⟩;have n0_:=Aside0.mk (Kd.R_below (zq4 HO_6) hb);have n1_:=Aside0.mk (Kd.R_below (zq4 HO_9) hb);have n2_:=Aside0.mk (below_step (zb0 HB) hb);clear HO_6;clear HO_9;clear HB;have HO_6:=n0_;have HO_9:=n1_;have HB:=n2_;clear n0_ n1_ n2_;(try clear hb);(try clear hb2);(try clear hk);(try clear hi))|(go_at_call 27;(with_reducible refine(impl_FarsFrom.calls kj6 t879 _ _ t880 t881 t898 t899 _ ?side1 ?side2 A21.out).mono ?_);(case side1=>repeat(first|exact(Kd.R_reads' HO_6.out).2.2|(with_reducible refine Kd.C_alloc ?_ _)|(with_reducible refine Kd.C_drewN ?_ _)|(with_reducible refine Kd.C_drew ?_)));(case side2=>exact(Kd.R_reads' HO_6.out).2.1);rintro e w58 ⟨v900,rfl,ho0,hb⟩;have n0_:=Aside0.mk (Kd.R_below (zq4 HO_6) hb);have n1_:=Aside0.mk (Kd.R_elder' (zq4 HO_9) (Kd.R_base ho0) hb);have n2_:=Aside0.mk (Kd.R_lower (Kd.R_new' ho0 (Kd.R_lt (zq4 HO_9))) (below_size (zb0 HB)));have n3_:=Aside0.mk (below_step (zb0 HB) hb);clear HO_6;clear HO_9;clear HB;have HO_6:=n0_;have HO_9:=n1_;have HO901:=n2_;have HB:=n3_;clear n0_ n1_ n2_ n3_;(try clear hb);(try clear hb2);(try clear hk);(try clear hi);(try clear ho0))))
         go_ret
         exact⟨by first|rfl|(simp [errW_none,errW_some]<;>rfl)|(simp [*,errW_none,errW_some]<;>rfl),by repeat(first|(with_reducible first|exact HB.out|apply below_alloc|apply pw_below_drewN|apply below_drew1)|exact HB.out)⟩
      ·replace c19:=Bool.eq_false_iff.mpr c19
       subst c19
       have H1:(laws_FnHops.j1 kj6 l1)=some r:=by rw [if_neg (show ¬ (false=true) by decide)] at H;exact H
       clear H
       have H:=H1
       clear H1
       as_aux_lemma=>
        have H':=Aside0.mk H
        clear H
        go_wp2
        repeat(go_quiet (fail);try go_wp2)
        go_meet
        case rel=>exact⟨_,H',⟨by have:=HJ6.out;first|omega|exact Nat.le_refl _⟩,⟨by repeat(first|(with_reducible first|exact HB.out|apply below_alloc|apply pw_below_drewN|apply below_drew1)|exact HB.out)⟩⟩
     case rest=>
      clear HC18
      try clear c1
      try clear c2
      try clear p2
      try clear c3
      try clear c3b0
      try clear p6
      try clear p9
      try clear q9
      try clear hx9
      try clear qi9
      try clear c11
      try clear c12
      try clear c12b0
      try clear c12b1
      try clear c12b2
      try clear c13
      try clear c13b0
      try clear c13b1
      try clear c17
      try clear c19
      try clear c22
      try clear c23
      try clear c23b0
      try clear c23b1
      try clear c24
      try clear c25
      try clear c25b0
      try clear c26
      try clear c26b0
      try clear c27
      try clear c27b0
      try clear c27b1
      try clear c28
      try clear c28b0
      try clear c28b1
      try clear c29
      try clear c29b0
      try clear c29b1
      try clear c31
      try clear c31b0
      try clear c32
      try clear c32b0
      try clear c33
      try clear c33b0
      try clear c33b1
      try clear hx902_0
      try clear hx903_0
      try clear hx904_0
      try clear p2
      try clear p6
      try clear p902
      try clear p903
      try clear p904
      try clear q902
      try clear q903
      try clear q904
      obtain⟨kq,HA,HJ17,HB⟩:=hcut
      cases kq with
      |zero=>exact absurd HA.out (by simp [laws_FnHops.j1])
      |succ kj17=>
       have H:=HA.out
       clear HA
       simp only [laws_FnHops.j1] at H
       replace H:=Option.bind_eq_some_iff.mp H
       obtain⟨⟨t905,t906,t907,t908⟩,A590,H⟩:=H
       replace H:((impl_FirstHops.f kj17 t905 t906 t907 t908).bind fun bt911=>((spec_FirstHops.f kj17 t905 t906 t907 t908).bind fun bt915=>(if (bt911.2 !=bt915.2)=true then(laws_FnHops.j2 kj17 l1 t905 t906 t907 t908 bt911.1 bt911.2 true) else((laws_sameInts.f kj17 bt911.1 bt915.1).bind fun t919=>(laws_FnHops.j2 kj17 l1 t905 t906 t907 t908 bt911.1 bt911.2 (!t919))))))=some r:=H
       have A59:=Aside0.mk A590
       clear A590
       replace H:=Option.bind_eq_some_iff.mp H
       obtain⟨⟨t911,t912⟩,A600,H⟩:=H
       replace H:((spec_FirstHops.f kj17 t905 t906 t907 t908).bind fun bt915=>(if (t912 !=bt915.2)=true then(laws_FnHops.j2 kj17 l1 t905 t906 t907 t908 t911 t912 true) else((laws_sameInts.f kj17 t911 bt915.1).bind fun t919=>(laws_FnHops.j2 kj17 l1 t905 t906 t907 t908 t911 t912 (!t919)))))=some r:=H
       have A60:=Aside0.mk A600
       clear A600
       replace H:=Option.bind_eq_some_iff.mp H
       obtain⟨⟨t915,t916⟩,A610,H⟩:=H
       replace H:(if (t912 !=t916)=true then(laws_FnHops.j2 kj17 l1 t905 t906 t907 t908 t911 t912 true) else((laws_sameInts.f kj17 t911 t915).bind fun t919=>(laws_FnHops.j2 kj17 l1 t905 t906 t907 t908 t911 t912 (!t919))))=some r:=H
       have A61:=Aside0.mk A610
       clear A610
       have HC62:=Aside0.mk H
       clear H
       go_upto_region 16 with (first|(go_at_call 40;(with_reducible refine(spec_DrawFirstHops.calls kj17 _ _ l1 t905 t906 t907 t908 _ ?side1 ?side2 A59.out).mono ?_);(case side1=>repeat(first|exact(Kd.C_below HR1.out HB.out)|(with_reducible refine Kd.C_alloc ?_ _)|(with_reducible refine Kd.C_drewN ?_ _)|(with_reducible refine Kd.C_drew ?_)));(case side2=>exact HC1.out);rintro e w63 ⟨v909,rfl,ho0,hb⟩;have n0_:=Aside0.mk (Kd.R_lower ho0 (below_size (zb0 HB)));have n1_:=Aside0.mk (below_step (zb0 HB) hb);clear HB;have HO910:=n0_;have HB:=n1_;clear n0_ n1_;(try clear hb);(try clear hb2);(try clear hk);(try clear hi);(try clear ho0);obtain⟨Ao64,co64,eo64⟩:=Kd.R_slice HO910.out;subst eo64)|(go_at_call 31;(with_reducible refine(impl_FirstHops.calls kj17 t905 _ _ t906 t907 t908 t911 t912 _ ?side1 ?side2 A60.out).mono ?_);(case side1=>repeat(first|exact(Kd.R_reads' HO910.out).2.2|(with_reducible refine Kd.C_alloc ?_ _)|(with_reducible refine Kd.C_drewN ?_ _)|(with_reducible refine Kd.C_drew ?_)));(case side2=>exact(Kd.R_reads' HO910.out).2.1);rintro e w65 ⟨v913,rfl,ho0,hb⟩;have n0_:=Aside0.mk (Kd.R_below (zq4 HO910) hb);have n1_:=Aside0.mk (Kd.R_lower ho0 (below_size (zb0 HB)));have n2_:=Aside0.mk (below_step (zb0 HB) hb);clear HO910;clear HB;have HO910:=n0_;have HO914:=n1_;have HB:=n2_;clear n0_ n1_ n2_;(try clear hb);(try clear hb2);(try clear hk);(try clear hi);(try clear ho0))|(go_at_call 30;(with_reducible refine(spec_FirstHops.calls kj17 t905 _ _ t906 t907 t908 t915 t916 _ ?side1 ?side2 A61.out).mono ?_);(case side1=>repeat(first|exact(Kd.R_reads' HO910.out).2.2|(with_reducible refine Kd.C_alloc ?_ _)|(with_reducible refine Kd.C_drewN ?_ _)|(with_reducible refine Kd.C_drew ?_)));(case side2=>exact(Kd.R_reads' HO910.out).2.1);rintro e w66 ⟨v917,rfl,ho0,hb⟩;have n0_:=Aside0.mk (Kd.R_below (zq4 HO910) hb);have n1_:=Aside0.mk (Kd.R_elder' (zq4 HO914) (Kd.R_base ho0) hb);have n2_:=Aside0.mk (Kd.R_lower (Kd.R_new' ho0 (Kd.R_lt (zq4 HO914))) (below_size (zb0 HB)));have n3_:=Aside0.mk (below_step (zb0 HB) hb);clear HO910;clear HO914;clear HB;have HO910:=n0_;have HO914:=n1_;have HO918:=n2_;have HB:=n3_;clear n0_ n1_ n2_ n3_;(try clear hb);(try clear hb2);(try clear hk);(try clear hi);(try clear ho0)))
       repeat(go_quiet (first|(go_at_call 40;(with_reducible refine(spec_DrawFirstHops.calls kj17 _ _ l1 t905 t906 t907 t908 _ ?side1 ?side2 A59.out).mono ?_);(case side1=>repeat(first|exact(Kd.C_below HR1.out HB.out)|(with_reducible refine Kd.C_alloc ?_ _)|(with_reducible refine Kd.C_drewN ?_ _)|(with_reducible refine Kd.C_drew ?_)));(case side2=>exact HC1.out);rintro e w63 ⟨v909,rfl,ho0,hb⟩;have n0_:=Aside0.mk (Kd.R_lower ho0 (below_size (zb0 HB)));have n1_:=Aside0.mk (below_step (zb0 HB) hb);clear HB;have HO910:=n0_;have HB:=n1_;clear n0_ n1_;(try clear hb);(try clear hb2);(try clear hk);(try clear hi);(try clear ho0);obtain⟨Ao64,co64,eo64⟩:=Kd.R_slice HO910.out;subst eo64)|(go_at_call 31;(with_reducible refine(impl_FirstHops.calls kj17 t905 _ _ t906 t907 t908 t911 t912 _ ?side1 ?side2 A60.out).mono ?_);(case side1=>repeat(first|exact(Kd.R_reads' HO910.out).2.2|(with_reducible refine Kd.C_alloc ?_ _)|(with_reducible refine Kd.C_drewN ?_ _)|(with_reducible refine Kd.C_drew ?_)));(case side2=>exact(Kd.R_reads' HO910.out).2.1);rintro e w65 ⟨v913,rfl,ho0,hb⟩;have n0_:=Aside0.mk (Kd.R_below (zq4 HO910) hb);have n1_:=Aside0.mk (Kd.R_lower ho0 (below_size (zb0 HB)));have n2_:=Aside0.mk (below_step (zb0 HB) hb);clear HO910;clear HB;have HO910:=n0_;have HO914:=n1_;have HB:=n2_;clear n0_ n1_ n2_;(try clear hb);(try clear hb2);(try clear hk);(try clear hi);(try clear ho0))|(go_at_call 30;(with_reducible refine(spec_FirstHops.calls kj17 t905 _ _ t906 t907 t908 t915 t916 _ ?side1 ?side2 A61.out).mono ?_);(case side1=>repeat(first|exact(Kd.R_reads' HO910.out).2.2|(with_reducible refine Kd.C_alloc ?_ _)|(with_reducible refine Kd.C_drewN ?_ _)|(with_reducible refine Kd.C_drew ?_)));(case side2=>exact(Kd.R_reads' HO910.out).2.1);rintro e w66 ⟨v917,rfl,ho0,hb⟩;have n0_:=Aside0.mk (Kd.R_below (zq4 HO910) hb);have n1_:=Aside0.mk (Kd.R_elder' (zq4 HO914) (Kd.R_base ho0) hb);have n2_:=Aside0.mk (Kd.R_lower (Kd.R_new' ho0 (Kd.R_lt (zq4 HO914))) (below_size (zb0 HB)));have n3_:=Aside0.mk (below_step (zb0 HB) hb);clear HO910;clear HO914;clear HB;have HO910:=n0_;have HO914:=n1_;have HO918:=n2_;have HB:=n3_;clear n0_ n1_ n2_ n3_;(try clear hb);(try clear hb2);(try clear hk);(try clear hi);(try clear ho0)));go_upto_region 16 with (first|(go_at_call 40;(with_reducible refine(spec_DrawFirstHops.calls kj17 _ _ l1 t905 t906 t907 t908 _ ?side1 ?side2 A59.out).mono ?_);(case side1=>repeat(first|exact(Kd.C_below HR1.out HB.out)|(with_reducible refine Kd.C_alloc ?_ _)|(with_reducible refine Kd.C_drewN ?_ _)|(with_reducible refine Kd.C_drew ?_)));(case side2=>exact HC1.out);rintro e w63 ⟨v909,rfl,ho0,hb⟩;have n0_:=Aside0.mk (Kd.R_lower ho0 (below_size (zb0 HB)));have n1_:=Aside0.mk (below_step (zb0 HB) hb);clear HB;have HO910:=n0_;have HB:=n1_;clear n0_ n1_;(try clear hb);(try clear hb2);(try clear hk);(try clear hi);(try clear ho0);obtain⟨Ao64,co64,eo64⟩:=Kd.R_slice HO910.out;subst eo64)|(go_at_call 31;(with_reducible refine(impl_FirstHops.calls kj17 t905 _ _ t906 t907 t908 t911 t912 _ ?side1 ?side2 A60.out).mono ?_);(case side1=>repeat(first|exact(Kd.R_reads' HO910.out).2.2|(with_reducible refine Kd.C_alloc ?_ _)|(with_reducible refine Kd.C_drewN ?_ _)|(with_reducible refine Kd.C_drew ?_)));(case side2=>exact(Kd.R_reads' HO910.out).2.1);rintro e w65 ⟨v913,rfl,ho0,hb⟩;have n0_:=Aside0.mk (Kd.R_below (zq4 HO910) hb);have n1_:=Aside0.mk (Kd.R_lower ho0 (below_size (zb0 HB)));have n2_:=Aside0.mk (below_step (zb0 HB) hb);clear HO910;clear HB;have HO910:=n0_;have HO914:=n1_;have HB:=n2_;clear n0_ n1_ n2_;(try clear hb);(try clear hb2);(try clear hk);(try clear hi);(try clear ho0))|(go_at_call 30;(with_reducible refine(spec_FirstHops.calls kj17 t905 _ _ t906 t907 t908 t915 t916 _ ?side1 ?side2 A61.out).mono ?_);(case side1=>repeat(first|exact(Kd.R_reads' HO910.out).2.2|(with_reducible refine Kd.C_alloc ?_ _)|(with_reducible refine Kd.C_drewN ?_ _)|(with_reducible refine Kd.C_drew ?_)));(case side2=>exact(Kd.R_reads' HO910.out).2.1);rintro e w66 ⟨v917,rfl,ho0,hb⟩;have n0_:=Aside0.mk (Kd.R_below (zq4 HO910) hb);have n1_:=Aside0.mk (Kd.R_elder' (zq4 HO914) (Kd.R_base ho0) hb);have n2_:=Aside0.mk (Kd.R_lower (Kd.R_new' ho0 (Kd.R_lt (zq4 HO914))) (below_size (zb0 HB)));have n3_:=Aside0.mk (below_step (zb0 HB) hb);clear HO910;clear HO914;clear HB;have HO910:=n0_;have HO914:=n1_;have HO918:=n2_;have HB:=n3_;clear n0_ n1_ n2_ n3_;(try clear hb);(try clear hb2);(try clear hk);(try clear hi);(try clear ho0))))
       (try simp only [Act.put,List.setIfInBounds_toArray,List.set_cons_zero,List.set_cons_succ])
       go_cut [178] (fun v178 wc=> ∃ (kq:Nat) (x178_61:Bool),v178= .bool x178_61∧Aside0 (laws_FnHops.j2 kq l1 t905 t906 t907 t908 t911 t912 x178_61=some r)∧Aside0 (kq≤kj17)∧Aside0 (Kd.R k67 67 wc w.heap.size (fun _=>True) (.slice Ao64 t906.length co64) t906)∧Aside0 (Kd.R (Kd.int .i64) 3 wc w.heap.size (fun _=>True) v913 t911)∧Aside0 (Below w.heap.size w wc))
       case first=>
        have H:=HC62.out
        clear HC62
        by_cases c67:(t912 !=t916)=true
        ·rw [if_pos c67] at H
         have c67b0:(t912 !=t916)=true:=c67
         (try(have c67b1:decide (t912=t916)=false:=by simpa using c67))
         (try(have c67b2:(t912==t916)=false:=by simpa using c67))
         (try(have c67b3:¬ (t912=t916):=by simpa using c67))
         clear c67
         (first|rw [c67b0]|(simp only [i64_w,i32_w];rw [c67b0])|skip)
         as_aux_lemma=>
          have H':=Aside0.mk H
          clear H
          go_wp2
          repeat(go_quiet (fail);try go_wp2)
          go_meet
          case rel=>exact⟨_,(true),(by first|rfl|(simp;done)|(simp [*];done)),H',⟨by have:=HJ6.out;have:=HJ17.out;first|omega|exact Nat.le_refl _⟩,⟨by(with_reducible repeat(first|apply Kd.R_alloc|apply Kd.R_drewN|apply Kd.R_drew));exact HO910.out⟩,⟨by(with_reducible repeat(first|apply Kd.R_alloc|apply Kd.R_drewN|apply Kd.R_drew));exact Kd.R_mono HO914.out (fun _ hk=>trivial)⟩,⟨by repeat(first|(with_reducible first|exact HB.out|apply below_alloc|apply pw_below_drewN|apply below_drew1)|exact HB.out)⟩⟩
        ·rw [if_neg c67] at H
         have c67b0:(t912 !=t916)=false:=by simpa using c67
         (try(have c67b1:decide (t912=t916)=true:=by simpa using c67))
         (try(have c67b2:(t912==t916)=true:=by simpa using c67))
         clear c67
         (first|rw [c67b0]|(simp only [i64_w,i32_w];rw [c67b0])|skip)
         replace H:=Option.bind_eq_some_iff.mp H
         obtain⟨t919,A680,H⟩:=H
         replace H:(laws_FnHops.j2 kj17 l1 t905 t906 t907 t908 t911 t912 (!t919))=some r:=H
         have A68:=Aside0.mk A680
         clear A680
         as_aux_lemma=>
          have H':=Aside0.mk H
          clear H
          obtain⟨Ao69,co69,eo69⟩:=Kd.R_slice HO914.out
          subst eo69
          obtain⟨Ao70,co70,eo70⟩:=Kd.R_slice HO918.out
          subst eo70
          go_wp2_with (first|(go_at_call 35;(with_reducible refine(laws_sameInts.calls kj17 _ _ t911 _ _ t915 t919 _ ?side1 ?side2 ?side3 ?side4 A68.out).mono ?_);(case side1=>repeat(first|exact(Kd.R_reads' HO914.out).2.2|(with_reducible refine Kd.C_alloc ?_ _)|(with_reducible refine Kd.C_drewN ?_ _)|(with_reducible refine Kd.C_drew ?_)));(case side2=>exact(Kd.R_reads' HO914.out).2.1);(case side3=>repeat(first|exact(Kd.R_reads' HO918.out).2.2|(with_reducible refine Kd.C_alloc ?_ _)|(with_reducible refine Kd.C_drewN ?_ _)|(with_reducible refine Kd.C_drew ?_)));(case side4=>exact(Kd.R_reads' HO918.out).2.1);rintro e w' ⟨rfl,⟨nd,rfl⟩⟩;(try first|exact⟨rfl,_,World.drewN_drewN _ _ _⟩|exact⟨rfl,_,Eq.trans (World.drewN_drewN _ _ _) (congrArg (World.drewN _) (Nat.add_assoc _ _ _))⟩)))
          repeat(go_quiet (first|(go_at_call 35;(with_reducible refine(laws_sameInts.calls kj17 _ _ t911 _ _ t915 t919 _ ?side1 ?side2 ?side3 ?side4 A68.out).mono ?_);(case side1=>repeat(first|exact(Kd.R_reads' HO914.out).2.2|(with_reducible refine Kd.C_alloc ?_ _)|(with_reducible refine Kd.C_drewN ?_ _)|(with_reducible refine Kd.C_drew ?_)));(case side2=>exact(Kd.R_reads' HO914.out).2.1);(case side3=>repeat(first|exact(Kd.R_reads' HO918.out).2.2|(with_reducible refine Kd.C_alloc ?_ _)|(with_reducible refine Kd.C_drewN ?_ _)|(with_reducible refine Kd.C_drew ?_)));(case side4=>exact(Kd.R_reads' HO918.out).2.1);rintro e w' ⟨rfl,⟨nd,rfl⟩⟩;(try first|exact⟨rfl,_,World.drewN_drewN _ _ _⟩|exact⟨rfl,_,Eq.trans (World.drewN_drewN _ _ _) (congrArg (World.drewN _) (Nat.add_assoc _ _ _))⟩)));try go_wp2_with (first|(go_at_call 35;(with_reducible refine(laws_sameInts.calls kj17 _ _ t911 _ _ t915 t919 _ ?side1 ?side2 ?side3 ?side4 A68.out).mono ?_);(case side1=>repeat(first|exact(Kd.R_reads' HO914.out).2.2|(with_reducible refine Kd.C_alloc ?_ _)|(with_reducible refine Kd.C_drewN ?_ _)|(with_reducible refine Kd.C_drew ?_)));(case side2=>exact(Kd.R_reads' HO914.out).2.1);(case side3=>repeat(first|exact(Kd.R_reads' HO918.out).2.2|(with_reducible refine Kd.C_alloc ?_ _)|(with_reducible refine Kd.C_drewN ?_ _)|(with_reducible refine Kd.C_drew ?_)));(case side4=>exact(Kd.R_reads' HO918.out).2.1);rintro e w' ⟨rfl,⟨nd,rfl⟩⟩;(try first|exact⟨rfl,_,World.drewN_drewN _ _ _⟩|exact⟨rfl,_,Eq.trans (World.drewN_drewN _ _ _) (congrArg (World.drewN _) (Nat.add_assoc _ _ _))⟩))))
          go_meet
          case rel=>exact⟨_,(!t919),(by first|rfl|(simp;done)|(simp [*];done)),H',⟨by have:=HJ6.out;have:=HJ17.out;first|omega|exact Nat.le_refl _⟩,⟨by(with_reducible repeat(first|apply Kd.R_alloc|apply Kd.R_drewN|apply Kd.R_drew));exact HO910.out⟩,⟨by(with_reducible repeat(first|apply Kd.R_alloc|apply Kd.R_drewN|apply Kd.R_drew));exact Kd.R_mono HO914.out (fun _ hk=>trivial)⟩,⟨by repeat(first|(with_reducible first|exact HB.out|apply below_alloc|apply pw_below_drewN|apply below_drew1)|exact HB.out)⟩⟩
       case rest=>
        clear HC62
        try clear c1
        try clear c2
        try clear p2
        try clear c3
        try clear c3b0
        try clear c6
        try clear p6
        try clear p9
        try clear q9
        try clear hx9
        try clear qi9
        try clear c11
        try clear c12
        try clear c12b0
        try clear c12b1
        try clear c12b2
        try clear c13
        try clear c13b0
        try clear c13b1
        try clear c17
        try clear c19
        try clear c22
        try clear c23
        try clear c23b0
        try clear c23b1
        try clear c24
        try clear c25
        try clear c25b0
        try clear c26
        try clear c26b0
        try clear c27
        try clear c27b0
        try clear c27b1
        try clear c28
        try clear c28b0
        try clear c28b1
        try clear c29
        try clear c29b0
        try clear c29b1
        try clear c31
        try clear c31b0
        try clear c32
        try clear c32b0
        try clear c33
        try clear c33b0
        try clear c33b1
        try clear p64
        try clear c67
        try clear c67b0
        try clear c67b1
        try clear c67b2
        try clear hx902_0
        try clear hx903_0
        try clear hx904_0
        try clear p2
        try clear p6
        try clear p9
        try clear p902
        try clear p903
        try clear p904
        try clear q9
        try clear q902
        try clear q903
        try clear q904
        obtain⟨kq,x178_61,rfl,HA,HJ61,HO_20,HO_23,HB⟩:=hcut
        cases kq with
        |zero=>exact absurd HA.out (by simp [laws_FnHops.j2])
        |succ kj61=>
         have H:=HA.out
         clear HA
         simp only [laws_FnHops.j2] at H
         by_cases c71:x178_61=true
         ·subst c71
          have H1:(some false)=some r:=by rw [if_pos rfl] at H;exact H
          clear H
          have H:=H1
          clear H1
          as_aux_lemma=>
           obtain rfl:=Option.some.inj H
           go_wp2
           repeat(go_quiet (fail);try go_wp2)
           go_ret
           exact⟨by first|rfl|(simp [errW_none,errW_some]<;>rfl)|(simp [*,errW_none,errW_some]<;>rfl),by repeat(first|(with_reducible first|exact HB.out|apply below_alloc|apply pw_below_drewN|apply below_drew1)|exact HB.out)⟩
         ·replace c71:=Bool.eq_false_iff.mpr c71
          subst c71
          have H1:(if t912=true then((impl_FarsFrom.f kj61 t905 t906 t908).bind fun bt920=>(laws_FnHops.l0 kj61 l1 t905 t906 t907 bt920.1 bt920.2 t911 (t911.length:Int) 0)) else(laws_FnHops.j4 kj61 l1))=some r:=by rw [if_neg (show ¬ (false=true) by decide)] at H;exact H
          clear H
          have H:=H1
          clear H1
          have HC72:=Aside0.mk H
          clear H
          go_upto_if 179 with (fail)
          repeat(go_quiet (fail);go_upto_if 179 with (fail))
          go_cut [] (fun wc=> ∃ (kq:Nat),Aside0 (laws_FnHops.j4 kq l1=some r)∧Aside0 (kq≤kj61)∧Aside0 (Below w.heap.size w wc))
          case first=>
           have H:=HC72.out
           clear HC72
           by_cases c73:t912=true
           ·subst c73
            have H1:((impl_FarsFrom.f kj61 t905 t906 t908).bind fun bt920=>(laws_FnHops.l0 kj61 l1 t905 t906 t907 bt920.1 bt920.2 t911 (t911.length:Int) 0))=some r:=by rw [if_pos rfl] at H;exact H
            clear H
            have H:=H1
            clear H1
            replace H:=Option.bind_eq_some_iff.mp H
            obtain⟨⟨t920,t921⟩,A740,H⟩:=H
            replace H:(laws_FnHops.l0 kj61 l1 t905 t906 t907 t920 t921 t911 (t911.length:Int) 0)=some r:=H
            have A74:=Aside0.mk A740
            clear A740
            have H':=Aside0.mk H
            clear H
            go_wp2_with (first|(go_at_call 27;(with_reducible refine(impl_FarsFrom.calls kj61 t905 _ _ t906 t908 t920 t921 _ ?side1 ?side2 A74.out).mono ?_);(case side1=>repeat(first|exact(Kd.R_reads' HO_20.out).2.2|(with_reducible refine Kd.C_alloc ?_ _)|(with_reducible refine Kd.C_drewN ?_ _)|(with_reducible refine Kd.C_drew ?_)));(case side2=>exact(Kd.R_reads' HO_20.out).2.1);rintro e w75 ⟨v922,rfl,ho0,hb⟩;have n0_:=Aside0.mk (Kd.R_below (zq4 HO_20) hb);have n1_:=Aside0.mk (Kd.R_elder' (zq4 HO_23) (Kd.R_base ho0) hb);have n2_:=Aside0.mk (Kd.R_lower (Kd.R_new' ho0 (Kd.R_lt (zq4 HO_23))) (below_size (zb0 HB)));have n3_:=Aside0.mk (below_step (zb0 HB) hb);clear HO_20;clear HO_23;clear HB;have HO_20:=n0_;have HO_23:=n1_;have HO923:=n2_;have HB:=n3_;clear n0_ n1_ n2_ n3_;(try clear hb);(try clear hb2);(try clear hk);(try clear hi);(try clear ho0);obtain⟨Ao76,co76,eo76⟩:=Kd.R_slice HO_23.out;subst eo76))
            repeat(go_quiet (first|(go_at_call 27;(with_reducible refine(impl_FarsFrom.calls kj61 t905 _ _ t906 t908 t920 t921 _ ?side1 ?side2 A74.out).mono ?_);(case side1=>repeat(first|exact(Kd.R_reads' HO_20.out).2.2|(with_reducible refine Kd.C_alloc ?_ _)|(with_reducible refine Kd.C_drewN ?_ _)|(with_reducible refine Kd.C_drew ?_)));(case side2=>exact(Kd.R_reads' HO_20.out).2.1);rintro e w75 ⟨v922,rfl,ho0,hb⟩;have n0_:=Aside0.mk (Kd.R_below (zq4 HO_20) hb);have n1_:=Aside0.mk (Kd.R_elder' (zq4 HO_23) (Kd.R_base ho0) hb);have n2_:=Aside0.mk (Kd.R_lower (Kd.R_new' ho0 (Kd.R_lt (zq4 HO_23))) (below_size (zb0 HB)));have n3_:=Aside0.mk (below_step (zb0 HB) hb);clear HO_20;clear HO_23;clear HB;have HO_20:=n0_;have HO_23:=n1_;have HO923:=n2_;have HB:=n3_;clear n0_ n1_ n2_ n3_;(try clear hb);(try clear hb2);(try clear hk);(try clear hi);(try clear ho0);obtain⟨Ao76,co76,eo76⟩:=Kd.R_slice HO_23.out;subst eo76));try go_wp2_with (first|(go_at_call 27;(with_reducible refine(impl_FarsFrom.calls kj61 t905 _ _ t906 t908 t920 t921 _ ?side1 ?side2 A74.out).mono ?_);(case side1=>repeat(first|exact(Kd.R_reads' HO_20.out).2.2|(with_reducible refine Kd.C_alloc ?_ _)|(with_reducible refine Kd.C_drewN ?_ _)|(with_reducible refine Kd.C_drew ?_)));(case side2=>exact(Kd.R_reads' HO_20.out).2.1);rintro e w75 ⟨v922,rfl,ho0,hb⟩;have n0_:=Aside0.mk (Kd.R_below (zq4 HO_20) hb);have n1_:=Aside0.mk (Kd.R_elder' (zq4 HO_23) (Kd.R_base ho0) hb);have n2_:=Aside0.mk (Kd.R_lower (Kd.R_new' ho0 (Kd.R_lt (zq4 HO_23))) (below_size (zb0 HB)));have n3_:=Aside0.mk (below_step (zb0 HB) hb);clear HO_20;clear HO_23;clear HB;have HO_20:=n0_;have HO_23:=n1_;have HO923:=n2_;have HB:=n3_;clear n0_ n1_ n2_ n3_;(try clear hb);(try clear hb2);(try clear hk);(try clear hi);(try clear ho0);obtain⟨Ao76,co76,eo76⟩:=Kd.R_slice HO_23.out;subst eo76)))
            go_loopg [189] kj61 (fun kq v189 w'=> ∃ (x189_4:Int),v189= .int .i64 x189_4∧Aside0 (laws_FnHops.l0 kq l1 t905 t906 t907 t920 t921 t911 (t911.length:Int) x189_4=some r)∧Aside0 (kq≤kj61)∧Aside0 (Kd.R k67 67 w' w.heap.size (fun _=>True) (.slice Ao64 t906.length co64) t906)∧Aside0 (Kd.R (Kd.int .i64) 3 w' w.heap.size (fun k_=>some k_≠ ((.slice Ao76 t911.length co76):Value).ownBlock) v922 t920)∧Aside0 (Kd.R (Kd.int .i64) 3 w' w.heap.size (fun k_=>some k_≠ (v922:Value).ownBlock) (.slice Ao76 t911.length co76) t911)∧Aside0 (Below w.heap.size w w'))
            case atStart=>exact⟨(0),(by first|rfl|(simp;done)|(simp [*];done)),H',⟨Nat.le_refl _⟩,⟨by(with_reducible repeat(first|apply Kd.R_alloc|apply Kd.R_drewN|apply Kd.R_drew));exact HO_20.out⟩,⟨by(with_reducible repeat(first|apply Kd.R_alloc|apply Kd.R_drewN|apply Kd.R_drew));exact Kd.R_mono HO923.out (fun _ hk=>hk.2)⟩,⟨by(with_reducible repeat(first|apply Kd.R_alloc|apply Kd.R_drewN|apply Kd.R_drew));exact Kd.R_mono HO_23.out (fun _ hk=>hk.2)⟩,⟨by repeat(first|(with_reducible first|exact HB.out|apply below_alloc|apply pw_below_drewN|apply below_drew1)|exact HB.out)⟩⟩
            case round=>
             clear H'
             try clear c1
             try clear c2
             try clear p2
             try clear c3
             try clear c3b0
             try clear c6
             try clear p6
             try clear c7
             try clear p9
             try clear q9
             try clear hx9
             try clear qi9
             try clear c11
             try clear c12
             try clear c12b0
             try clear c12b1
             try clear c12b2
             try clear c13
             try clear c13b0
             try clear c13b1
             try clear c17
             try clear c19
             try clear c22
             try clear c23
             try clear c23b0
             try clear c23b1
             try clear c24
             try clear c25
             try clear c25b0
             try clear c26
             try clear c26b0
             try clear c27
             try clear c27b0
             try clear c27b1
             try clear c28
             try clear c28b0
             try clear c28b1
             try clear c29
             try clear c29b0
             try clear c29b1
             try clear c31
             try clear c31b0
             try clear c32
             try clear c32b0
             try clear c33
             try clear c33b0
             try clear c33b1
             try clear p64
             try clear c67
             try clear c67b0
             try clear c67b1
             try clear c67b2
             try clear c71
             try clear c73
             try clear hx902_0
             try clear hx903_0
             try clear hx904_0
             try clear p2
             try clear p6
             try clear p64
             try clear p9
             try clear p902
             try clear p903
             try clear p904
             try clear q9
             try clear q902
             try clear q903
             try clear q904
             obtain⟨x189_4,rfl,HA,HK4,HO_20,HO_27,HO_187,HB⟩:=hrel
             cases gk with
             |zero=>exact absurd HA.out (by simp [laws_FnHops.l0])
             |succ k4=>
              have H:=HA.out
              clear HA
              simp only [laws_FnHops.l0] at H
              by_cases c77:x189_4< (t911.length:Int)
              ·rw [if_pos c77] at H
               have c77b0:decide (x189_4< (t911.length:Int))=true:=decide_eq_true c77
               clear c77
               (first|rw [c77b0]|(simp only [i64_w,i32_w];rw [c77b0])|skip)
               by_cases c78: 0≤x189_4
               ·rw [if_pos c78] at H
                have c78b0:decide (0≤x189_4)=true:=decide_eq_true c78
                clear c78
                by_cases c79:x189_4< (t911.length:Int)
                ·rw [if_pos c79] at H
                 have c79b0:decide (x189_4< (t911.length:Int))=true:=decide_eq_true c79
                 clear c79
                 obtain⟨y925,hy925⟩ :∃ y_:List Int,y_= (([t907,rd t911 x189_4] :List Int)):=⟨_,rfl⟩
                 replace H:((impl_CostOf.f k4 t905 t906 y925).bind fun bt928=>(if t921=true then(if bt928.2=true then(if 0≤ (rd t911 x189_4) then(if (rd t911 x189_4)< (t920.length:Int) then(if 0≤t907 then(if t907< (t920.length:Int) then(if (wrap64 ((rd t920 (rd t911 x189_4))+bt928.1))= (rd t920 t907) then(laws_FnHops.l0 k4 l1 t905 t906 t907 t920 t921 t911 (t911.length:Int) (wrap64 (x189_4+1))) else(some false)) else(none)) else(none)) else(none)) else(none)) else(some false)) else(some false)))=some r:=by first|(rw [hy925];with_reducible exact H)|(have H2_:=(Option.bind_some _ _).symm.trans H;rw [hy925];with_reducible exact H2_)|(have H2_:=(Option.bind_some _ _).symm.trans H;with_reducible exact H2_)|with_reducible exact H|(rw [hy925];exact H)|exact H
                 have Ny925:=Aside0.mk hy925
                 clear hy925
                 replace H:=Option.bind_eq_some_iff.mp H
                 obtain⟨⟨t928,t929⟩,A800,H⟩:=H
                 replace H:(if t921=true then(if t929=true then(if 0≤ (rd t911 x189_4) then(if (rd t911 x189_4)< (t920.length:Int) then(if 0≤t907 then(if t907< (t920.length:Int) then(if (wrap64 ((rd t920 (rd t911 x189_4))+t928))= (rd t920 t907) then(laws_FnHops.l0 k4 l1 t905 t906 t907 t920 t921 t911 (t911.length:Int) (wrap64 (x189_4+1))) else(some false)) else(none)) else(none)) else(none)) else(none)) else(some false)) else(some false))=some r:=H
                 have A80:=Aside0.mk A800
                 clear A800
                 by_cases c81:t921=true
                 ·subst c81
                  have H1:(if t929=true then(if 0≤ (rd t911 x189_4) then(if (rd t911 x189_4)< (t920.length:Int) then(if 0≤t907 then(if t907< (t920.length:Int) then(if (wrap64 ((rd t920 (rd t911 x189_4))+t928))= (rd t920 t907) then(laws_FnHops.l0 k4 l1 t905 t906 t907 t920 true t911 (t911.length:Int) (wrap64 (x189_4+1))) else(some false)) else(none)) else(none)) else(none)) else(none)) else(some false))=some r:=by rw [if_pos rfl] at H;exact H
                  clear H
                  have H:=H1
                  clear H1
                  by_cases c82:t929=true
                  ·subst c82
                   have H1:(if 0≤ (rd t911 x189_4) then(if (rd t911 x189_4)< (t920.length:Int) then(if 0≤t907 then(if t907< (t920.length:Int) then(if (wrap64 ((rd t920 (rd t911 x189_4))+t928))= (rd t920 t907) then(laws_FnHops.l0 k4 l1 t905 t906 t907 t920 true t911 (t911.length:Int) (wrap64 (x189_4+1))) else(some false)) else(none)) else(none)) else(none)) else(none))=some r:=by rw [if_pos rfl] at H;exact H
                   clear H
                   have H:=H1
                   clear H1
                   by_cases c83: 0≤ (rd t911 x189_4)
                   ·rw [if_pos c83] at H
                    have c83b0:decide (0≤ (rd t911 x189_4))=true:=decide_eq_true c83
                    clear c83
                    by_cases c84:(rd t911 x189_4)< (t920.length:Int)
                    ·rw [if_pos c84] at H
                     have c84b0:decide ((rd t911 x189_4)< (t920.length:Int))=true:=decide_eq_true c84
                     clear c84
                     by_cases c85: 0≤t907
                     ·rw [if_pos c85] at H
                      have c85b0:decide (0≤t907)=true:=decide_eq_true c85
                      clear c85
                      by_cases c86:t907< (t920.length:Int)
                      ·rw [if_pos c86] at H
                       have c86b0:decide (t907< (t920.length:Int))=true:=decide_eq_true c86
                       clear c86
                       by_cases c87:(wrap64 ((rd t920 (rd t911 x189_4))+t928))= (rd t920 t907)
                       ·rw [if_pos c87] at H
                        have c87b0:((wrap64 ((rd t920 (rd t911 x189_4))+t928))== (rd t920 t907))=true:=beq_iff_eq.mpr c87
                        have c87b1:((wrap64 ((rd t920 (rd t911 x189_4))+t928)) != (rd t920 t907))=false:=bne_eq_false_iff_eq.mpr c87
                        clear c87
                        as_aux_lemma=>
                         have H':=Aside0.mk H
                         clear H
                         have p924: 0≤ (x189_4:Int):=of_decide_eq_true zq1
                         have q924:x189_4< (t911.length:Int):=of_decide_eq_true zq1
                         obtain⟨ad924,e924,hx924_0⟩:=Kd.at_int (Kd.R_reads' HO_187.out).2.2 x189_4 p924 q924
                         cases e924
                         replace p924:=eq_true p924
                         replace q924:=eq_true q924
                         go_wp2_with (first|((with_reducible refine gate_dst (N:=198) rfl ?_);(try(refine gate_guard (by rfl) ?_;dsimp only));refine Kd.R_lit (Kd.int .i64) _ 3 ?hg (N:=198) ?hd (xs:=([t907,rd t911 x189_4] :List Int)) (inner:= [.int .i64 t907,.int .i64 (rd t911 x189_4)]) (ok:=fun _=>True) (okp:=fun _=>True) ?hr ?hp (fun _ hk=>hk) trivial (Below.refl _ _) (Nat.le_refl _) (by simp) ?_;(case hd=>rfl);(case hg=>rfl);(case hr=>first|(go_simp;done)|(go_simp;rfl));(case hp=>exact(Reps.one (show Kd.M (Kd.int .i64) _ _ _ t907 [.int .i64 t907] from rfl) (Reps.one (show Kd.M (Kd.int .i64) _ _ _ (rd t911 x189_4) [.int .i64 (rd t911 x189_4)] from rfl) (Reps.none _ _))));intro v926 w88 ho89 hb hg_ hnew_;clear hg_ hnew_;(first|rw [← Ny925.out] at ho89|(simp only [Int.reduceToNat] at ho89;rw [← Ny925.out] at ho89));have n0_:=Aside0.mk (Kd.R_below (zq4 HO_20) hb);have n1_:=Aside0.mk (Kd.R_elder' (zq4 HO_27) (Kd.R_base ho89) hb);have n2_:=Aside0.mk (Kd.R_elder' (zq4 HO_187) (Kd.R_base ho89) hb);have n3_:=Aside0.mk (Kd.R_lower (Kd.R_new' (Kd.R_new' ho89 (Kd.R_lt (zq4 HO_27))) (Kd.R_lt (zq4 HO_187))) (below_size (zb0 HB)));have n4_:=Aside0.mk (below_step (zb0 HB) hb);clear HO_20;clear HO_27;clear HO_187;clear HB;have HO_20:=n0_;have HO_27:=n1_;have HO_187:=n2_;have HO927:=n3_;have HB:=n4_;clear n0_ n1_ n2_ n3_ n4_;clear hb ho89;obtain⟨Ao90,co90,eo90⟩:=Kd.R_slice HO927.out;subst eo90)|(go_at_call 16;(with_reducible refine(impl_CostOf.calls k4 t905 _ _ t906 _ _ y925 t928 true _ ?side1 ?side2 ?side3 ?side4 A80.out).mono ?_);(case side1=>repeat(first|exact(Kd.R_reads' HO_20.out).2.2|(with_reducible refine Kd.C_alloc ?_ _)|(with_reducible refine Kd.C_drewN ?_ _)|(with_reducible refine Kd.C_drew ?_)));(case side2=>exact(Kd.R_reads' HO_20.out).2.1);(case side3=>repeat(first|exact(Kd.R_reads' HO927.out).2.2|(with_reducible refine Kd.C_alloc ?_ _)|(with_reducible refine Kd.C_drewN ?_ _)|(with_reducible refine Kd.C_drew ?_)));(case side4=>exact(Kd.R_reads' HO927.out).2.1);rintro e w91 ⟨rfl,hb⟩;have n0_:=Aside0.mk (Kd.R_below (zq4 HO_20) hb);have n1_:=Aside0.mk (Kd.R_below (zq4 HO_27) hb);have n2_:=Aside0.mk (Kd.R_below (zq4 HO_187) hb);have n3_:=Aside0.mk (Kd.R_below (zq4 HO927) hb);have n4_:=Aside0.mk (below_step (zb0 HB) hb);clear HO_20;clear HO_27;clear HO_187;clear HO927;clear HB;have HO_20:=n0_;have HO_27:=n1_;have HO_187:=n2_;have HO927:=n3_;have HB:=n4_;clear n0_ n1_ n2_ n3_ n4_;(try clear hb);(try clear hb2);(try clear hk);(try clear hi);obtain⟨Ao92,co92,eo92⟩:=Kd.R_slice HO_27.out;subst eo92;have p930: 0≤ ((rd t911 x189_4):Int):=of_decide_eq_true zq1;have q930:(rd t911 x189_4)< (t920.length:Int):=of_decide_eq_true zq1;obtain⟨ad930,e930,hx930_0⟩:=Kd.at_int (Kd.R_reads' HO_27.out).2.2 (rd t911 x189_4) p930 q930;cases e930;replace p930:=eq_true p930;replace q930:=eq_true q930;have p931: 0≤ (t907:Int):=of_decide_eq_true zq1;have q931:t907< (t920.length:Int):=of_decide_eq_true zq1;obtain⟨ad931,e931,hx931_0⟩:=Kd.at_int (Kd.R_reads' HO_27.out).2.2 t907 p931 q931;obtain rfl:ad930=ad931:=(by injection e931);replace p931:=eq_true p931;replace q931:=eq_true q931))
                         repeat(go_quiet (first|((with_reducible refine gate_dst (N:=198) rfl ?_);(try(refine gate_guard (by rfl) ?_;dsimp only));refine Kd.R_lit (Kd.int .i64) _ 3 ?hg (N:=198) ?hd (xs:=([t907,rd t911 x189_4] :List Int)) (inner:= [.int .i64 t907,.int .i64 (rd t911 x189_4)]) (ok:=fun _=>True) (okp:=fun _=>True) ?hr ?hp (fun _ hk=>hk) trivial (Below.refl _ _) (Nat.le_refl _) (by simp) ?_;(case hd=>rfl);(case hg=>rfl);(case hr=>first|(go_simp;done)|(go_simp;rfl));(case hp=>exact(Reps.one (show Kd.M (Kd.int .i64) _ _ _ t907 [.int .i64 t907] from rfl) (Reps.one (show Kd.M (Kd.int .i64) _ _ _ (rd t911 x189_4) [.int .i64 (rd t911 x189_4)] from rfl) (Reps.none _ _))));intro v926 w88 ho89 hb hg_ hnew_;clear hg_ hnew_;(first|rw [← Ny925.out] at ho89|(simp only [Int.reduceToNat] at ho89;rw [← Ny925.out] at ho89));have n0_:=Aside0.mk (Kd.R_below (zq4 HO_20) hb);have n1_:=Aside0.mk (Kd.R_elder' (zq4 HO_27) (Kd.R_base ho89) hb);have n2_:=Aside0.mk (Kd.R_elder' (zq4 HO_187) (Kd.R_base ho89) hb);have n3_:=Aside0.mk (Kd.R_lower (Kd.R_new' (Kd.R_new' ho89 (Kd.R_lt (zq4 HO_27))) (Kd.R_lt (zq4 HO_187))) (below_size (zb0 HB)));have n4_:=Aside0.mk (below_step (zb0 HB) hb);clear HO_20;clear HO_27;clear HO_187;clear HB;have HO_20:=n0_;have HO_27:=n1_;have HO_187:=n2_;have HO927:=n3_;have HB:=n4_;clear n0_ n1_ n2_ n3_ n4_;clear hb ho89;obtain⟨Ao90,co90,eo90⟩:=Kd.R_slice HO927.out;subst eo90)|(go_at_call 16;(with_reducible refine(impl_CostOf.calls k4 t905 _ _ t906 _ _ y925 t928 true _ ?side1 ?side2 ?side3 ?side4 A80.out).mono ?_);(case side1=>repeat(first|exact(Kd.R_reads' HO_20.out).2.2|(with_reducible refine Kd.C_alloc ?_ _)|(with_reducible refine Kd.C_drewN ?_ _)|(with_reducible refine Kd.C_drew ?_)));(case side2=>exact(Kd.R_reads' HO_20.out).2.1);(case side3=>repeat(first|exact(Kd.R_reads' HO927.out).2.2|(with_reducible refine Kd.C_alloc ?_ _)|(with_reducible refine Kd.C_drewN ?_ _)|(with_reducible refine Kd.C_drew ?_)));(case side4=>exact(Kd.R_reads' HO927.out).2.1);rintro e w91 ⟨rfl,hb⟩;have n0_:=Aside0.mk (Kd.R_below (zq4 HO_20) hb);have n1_:=Aside0.mk (Kd.R_below (zq4 HO_27) hb);have n2_:=Aside0.mk (Kd.R_below (zq4 HO_187) hb);have n3_:=Aside0.mk (Kd.R_below (zq4 HO927) hb);have n4_:=Aside0.mk (below_step (zb0 HB) hb);clear HO_20;clear HO_27;clear HO_187;clear HO927;clear HB;have HO_20:=n0_;have HO_27:=n1_;have HO_187:=n2_;have HO927:=n3_;have HB:=n4_;clear n0_ n1_ n2_ n3_ n4_;(try clear hb);(try clear hb2);(try clear hk);(try clear hi);obtain⟨Ao92,co92,eo92⟩:=Kd.R_slice HO_27.out;subst eo92;have p930: 0≤ ((rd t911 x189_4):Int):=of_decide_eq_true zq1;have q930:(rd t911 x189_4)< (t920.length:Int):=of_decide_eq_true zq1;obtain⟨ad930,e930,hx930_0⟩:=Kd.at_int (Kd.R_reads' HO_27.out).2.2 (rd t911 x189_4) p930 q930;cases e930;replace p930:=eq_true p930;replace q930:=eq_true q930;have p931: 0≤ (t907:Int):=of_decide_eq_true zq1;have q931:t907< (t920.length:Int):=of_decide_eq_true zq1;obtain⟨ad931,e931,hx931_0⟩:=Kd.at_int (Kd.R_reads' HO_27.out).2.2 t907 p931 q931;obtain rfl:ad930=ad931:=(by injection e931);replace p931:=eq_true p931;replace q931:=eq_true q931));try go_wp2_with (first|((with_reducible refine gate_dst (N:=198) rfl ?_);(try(refine gate_guard (by rfl) ?_;dsimp only));refine Kd.R_lit (Kd.int .i64) _ 3 ?hg (N:=198) ?hd (xs:=([t907,rd t911 x189_4] :List Int)) (inner:= [.int .i64 t907,.int .i64 (rd t911 x189_4)]) (ok:=fun _=>True) (okp:=fun _=>True) ?hr ?hp (fun _ hk=>hk) trivial (Below.refl _ _) (Nat.le_refl _) (by simp) ?_;(case hd=>rfl);(case hg=>rfl);(case hr=>first|(go_simp;done)|(go_simp;rfl));(case hp=>exact(Reps.one (show Kd.M (Kd.int .i64) _ _ _ t907 [.int .i64 t907] from rfl) (Reps.one (show Kd.M (Kd.int .i64) _ _ _ (rd t911 x189_4) [.int .i64 (rd t911 x189_4)] from rfl) (Reps.none _ _))));intro v926 w88 ho89 hb hg_ hnew_;clear hg_ hnew_;(first|rw [← Ny925.out] at ho89|(simp only [Int.reduceToNat] at ho89;rw [← Ny925.out] at ho89));have n0_:=Aside0.mk (Kd.R_below (zq4 HO_20) hb);have n1_:=Aside0.mk (Kd.R_elder' (zq4 HO_27) (Kd.R_base ho89) hb);have n2_:=Aside0.mk (Kd.R_elder' (zq4 HO_187) (Kd.R_base ho89) hb);have n3_:=Aside0.mk (Kd.R_lower (Kd.R_new' (Kd.R_new' ho89 (Kd.R_lt (zq4 HO_27))) (Kd.R_lt (zq4 HO_187))) (below_size (zb0 HB)));have n4_:=Aside0.mk (below_step (zb0 HB) hb);clear HO_20;clear HO_27;clear HO_187;clear HB;have HO_20:=n0_;have HO_27:=n1_;have HO_187:=n2_;have HO927:=n3_;have HB:=n4_;clear n0_ n1_ n2_ n3_ n4_;clear hb ho89;obtain⟨Ao90,co90,eo90⟩:=Kd.R_slice HO927.out;subst eo90)|(go_at_call 16;(with_reducible refine(impl_CostOf.calls k4 t905 _ _ t906 _ _ y925 t928 true _ ?side1 ?side2 ?side3 ?side4 A80.out).mono ?_);(case side1=>repeat(first|exact(Kd.R_reads' HO_20.out).2.2|(with_reducible refine Kd.C_alloc ?_ _)|(with_reducible refine Kd.C_drewN ?_ _)|(with_reducible refine Kd.C_drew ?_)));(case side2=>exact(Kd.R_reads' HO_20.out).2.1);(case side3=>repeat(first|exact(Kd.R_reads' HO927.out).2.2|(with_reducible refine Kd.C_alloc ?_ _)|(with_reducible refine Kd.C_drewN ?_ _)|(with_reducible refine Kd.C_drew ?_)));(case side4=>exact(Kd.R_reads' HO927.out).2.1);rintro e w91 ⟨rfl,hb⟩;have n0_:=Aside0.mk (Kd.R_below (zq4 HO_20) hb);have n1_:=Aside0.mk (Kd.R_below (zq4 HO_27) hb);have n2_:=Aside0.mk (Kd.R_below (zq4 HO_187) hb);have n3_:=Aside0.mk (Kd.R_below (zq4 HO927) hb);have n4_:=Aside0.mk (below_step (zb0 HB) hb);clear HO_20;clear HO_27;clear HO_187;clear HO927;clear HB;have HO_20:=n0_;have HO_27:=n1_;have HO_187:=n2_;have HO927:=n3_;have HB:=n4_;clear n0_ n1_ n2_ n3_ n4_;(try clear hb);(try clear hb2);(try clear hk);(try clear hi);obtain⟨Ao92,co92,eo92⟩:=Kd.R_slice HO_27.out;subst eo92;have p930: 0≤ ((rd t911 x189_4):Int):=of_decide_eq_true zq1;have q930:(rd t911 x189_4)< (t920.length:Int):=of_decide_eq_true zq1;obtain⟨ad930,e930,hx930_0⟩:=Kd.at_int (Kd.R_reads' HO_27.out).2.2 (rd t911 x189_4) p930 q930;cases e930;replace p930:=eq_true p930;replace q930:=eq_true q930;have p931: 0≤ (t907:Int):=of_decide_eq_true zq1;have q931:t907< (t920.length:Int):=of_decide_eq_true zq1;obtain⟨ad931,e931,hx931_0⟩:=Kd.at_int (Kd.R_reads' HO_27.out).2.2 t907 p931 q931;obtain rfl:ad930=ad931:=(by injection e931);replace p931:=eq_true p931;replace q931:=eq_true q931)))
                         go_roundg k4
                         case measure=>have:=HJ6.out;have:=HJ17.out;have:=HJ61.out;have:=HK4.out;omega
                         case rel=>exact⟨(wrap64 (x189_4+1)),(by first|rfl|(simp;done)|(simp [*];done)),H',⟨by have:=HJ6.out;have:=HJ17.out;have:=HJ61.out;have:=HK4.out;omega⟩,⟨by(with_reducible repeat(first|apply Kd.R_alloc|apply Kd.R_drewN|apply Kd.R_drew));exact HO_20.out⟩,⟨by(with_reducible repeat(first|apply Kd.R_alloc|apply Kd.R_drewN|apply Kd.R_drew));exact Kd.R_mono HO_27.out (fun _ hk=>hk.1)⟩,⟨by(with_reducible repeat(first|apply Kd.R_alloc|apply Kd.R_drewN|apply Kd.R_drew));exact Kd.R_mono HO_187.out (fun _ hk=>hk.1)⟩,⟨by repeat(first|(with_reducible first|exact HB.out|apply below_alloc|apply pw_below_drewN|apply below_drew1)|exact HB.out)⟩⟩
                       ·rw [if_neg c87] at H
                        have c87b0:((wrap64 ((rd t920 (rd t911 x189_4))+t928))== (rd t920 t907))=false:=beq_eq_false_iff_ne.mpr c87
                        have c87b1:((wrap64 ((rd t920 (rd t911 x189_4))+t928)) != (rd t920 t907))=true:=bne_iff_ne.mpr c87
                        as_aux_lemma=>
                         obtain rfl:=Option.some.inj H
                         have p924: 0≤ (x189_4:Int):=of_decide_eq_true zq1
                         have q924:x189_4< (t911.length:Int):=of_decide_eq_true zq1
                         obtain⟨ad924,e924,hx924_0⟩:=Kd.at_int (Kd.R_reads' HO_187.out).2.2 x189_4 p924 q924
                         cases e924
                         replace p924:=eq_true p924
                         replace q924:=eq_true q924
                         go_wp2_with (first|((with_reducible refine gate_dst (N:=198) rfl ?_);(try(refine gate_guard (by rfl) ?_;dsimp only));refine Kd.R_lit (Kd.int .i64) _ 3 ?hg (N:=198) ?hd (xs:=([t907,rd t911 x189_4] :List Int)) (inner:= [.int .i64 t907,.int .i64 (rd t911 x189_4)]) (ok:=fun _=>True) (okp:=fun _=>True) ?hr ?hp (fun _ hk=>hk) trivial (Below.refl _ _) (Nat.le_refl _) (by simp) ?_;(case hd=>rfl);(case hg=>rfl);(case hr=>first|(go_simp;done)|(go_simp;rfl));(case hp=>exact(Reps.one (show Kd.M (Kd.int .i64) _ _ _ t907 [.int .i64 t907] from rfl) (Reps.one (show Kd.M (Kd.int .i64) _ _ _ (rd t911 x189_4) [.int .i64 (rd t911 x189_4)] from rfl) (Reps.none _ _))));intro v926 w93 ho94 hb hg_ hnew_;clear hg_ hnew_;(first|rw [← Ny925.out] at ho94|(simp only [Int.reduceToNat] at ho94;rw [← Ny925.out] at ho94));have n0_:=Aside0.mk (Kd.R_below (zq4 HO_20) hb);have n1_:=Aside0.mk (Kd.R_elder' (zq4 HO_27) (Kd.R_base ho94) hb);have n2_:=Aside0.mk (Kd.R_elder' (zq4 HO_187) (Kd.R_base ho94) hb);have n3_:=Aside0.mk (Kd.R_lower (Kd.R_new' (Kd.R_new' ho94 (Kd.R_lt (zq4 HO_27))) (Kd.R_lt (zq4 HO_187))) (below_size (zb0 HB)));have n4_:=Aside0.mk (below_step (zb0 HB) hb);clear HO_20;clear HO_27;clear HO_187;clear HB;have HO_20:=n0_;have HO_27:=n1_;have HO_187:=n2_;have HO927:=n3_;have HB:=n4_;clear n0_ n1_ n2_ n3_ n4_;clear hb ho94;obtain⟨Ao95,co95,eo95⟩:=Kd.R_slice HO927.out;subst eo95)|(go_at_call 16;(with_reducible refine(impl_CostOf.calls k4 t905 _ _ t906 _ _ y925 t928 true _ ?side1 ?side2 ?side3 ?side4 A80.out).mono ?_);(case side1=>repeat(first|exact(Kd.R_reads' HO_20.out).2.2|(with_reducible refine Kd.C_alloc ?_ _)|(with_reducible refine Kd.C_drewN ?_ _)|(with_reducible refine Kd.C_drew ?_)));(case side2=>exact(Kd.R_reads' HO_20.out).2.1);(case side3=>repeat(first|exact(Kd.R_reads' HO927.out).2.2|(with_reducible refine Kd.C_alloc ?_ _)|(with_reducible refine Kd.C_drewN ?_ _)|(with_reducible refine Kd.C_drew ?_)));(case side4=>exact(Kd.R_reads' HO927.out).2.1);rintro e w96 ⟨rfl,hb⟩;have n0_:=Aside0.mk (Kd.R_below (zq4 HO_20) hb);have n1_:=Aside0.mk (Kd.R_below (zq4 HO_27) hb);have n2_:=Aside0.mk (Kd.R_below (zq4 HO_187) hb);have n3_:=Aside0.mk (Kd.R_below (zq4 HO927) hb);have n4_:=Aside0.mk (below_step (zb0 HB) hb);clear HO_20;clear HO_27;clear HO_187;clear HO927;clear HB;have HO_20:=n0_;have HO_27:=n1_;have HO_187:=n2_;have HO927:=n3_;have HB:=n4_;clear n0_ n1_ n2_ n3_ n4_;(try clear hb);(try clear hb2);(try clear hk);(try clear hi);obtain⟨Ao97,co97,eo97⟩:=Kd.R_slice HO_27.out;subst eo97;have p930: 0≤ ((rd t911 x189_4):Int):=of_decide_eq_true zq1;have q930:(rd t911 x189_4)< (t920.length:Int):=of_decide_eq_true zq1;obtain⟨ad930,e930,hx930_0⟩:=Kd.at_int (Kd.R_reads' HO_27.out).2.2 (rd t911 x189_4) p930 q930;cases e930;replace p930:=eq_true p930;replace q930:=eq_true q930;have p931: 0≤ (t907:Int):=of_decide_eq_true zq1;have q931:t907< (t920.length:Int):=of_decide_eq_true zq1;obtain⟨ad931,e931,hx931_0⟩:=Kd.at_int (Kd.R_reads' HO_27.out).2.2 t907 p931 q931;obtain rfl:ad930=ad931:=(by injection e931);replace p931:=eq_true p931;replace q931:=eq_true q931))
                         repeat(go_quiet (first|((with_reducible refine gate_dst (N:=198) rfl ?_);(try(refine gate_guard (by rfl) ?_;dsimp only));refine Kd.R_lit (Kd.int .i64) _ 3 ?hg (N:=198) ?hd (xs:=([t907,rd t911 x189_4] :List Int)) (inner:= [.int .i64 t907,.int .i64 (rd t911 x189_4)]) (ok:=fun _=>True) (okp:=fun _=>True) ?hr ?hp (fun _ hk=>hk) trivial (Below.refl _ _) (Nat.le_refl _) (by simp) ?_;(case hd=>rfl);(case hg=>rfl);(case hr=>first|(go_simp;done)|(go_simp;rfl));(case hp=>exact(Reps.one (show Kd.M (Kd.int .i64) _ _ _ t907 [.int .i64 t907] from rfl) (Reps.one (show Kd.M (Kd.int .i64) _ _ _ (rd t911 x189_4) [.int .i64 (rd t911 x189_4)] from rfl) (Reps.none _ _))));intro v926 w93 ho94 hb hg_ hnew_;clear hg_ hnew_;(first|rw [← Ny925.out] at ho94|(simp only [Int.reduceToNat] at ho94;rw [← Ny925.out] at ho94));have n0_:=Aside0.mk (Kd.R_below (zq4 HO_20) hb);have n1_:=Aside0.mk (Kd.R_elder' (zq4 HO_27) (Kd.R_base ho94) hb);have n2_:=Aside0.mk (Kd.R_elder' (zq4 HO_187) (Kd.R_base ho94) hb);have n3_:=Aside0.mk (Kd.R_lower (Kd.R_new' (Kd.R_new' ho94 (Kd.R_lt (zq4 HO_27))) (Kd.R_lt (zq4 HO_187))) (below_size (zb0 HB)));have n4_:=Aside0.mk (below_step (zb0 HB) hb);clear HO_20;clear HO_27;clear HO_187;clear HB;have HO_20:=n0_;have HO_27:=n1_;have HO_187:=n2_;have HO927:=n3_;have HB:=n4_;clear n0_ n1_ n2_ n3_ n4_;clear hb ho94;obtain⟨Ao95,co95,eo95⟩:=Kd.R_slice HO927.out;subst eo95)|(go_at_call 16;(with_reducible refine(impl_CostOf.calls k4 t905 _ _ t906 _ _ y925 t928 true _ ?side1 ?side2 ?side3 ?side4 A80.out).mono ?_);(case side1=>repeat(first|exact(Kd.R_reads' HO_20.out).2.2|(with_reducible refine Kd.C_alloc ?_ _)|(with_reducible refine Kd.C_drewN ?_ _)|(with_reducible refine Kd.C_drew ?_)));(case side2=>exact(Kd.R_reads' HO_20.out).2.1);(case side3=>repeat(first|exact(Kd.R_reads' HO927.out).2.2|(with_reducible refine Kd.C_alloc ?_ _)|(with_reducible refine Kd.C_drewN ?_ _)|(with_reducible refine Kd.C_drew ?_)));(case side4=>exact(Kd.R_reads' HO927.out).2.1);rintro e w96 ⟨rfl,hb⟩;have n0_:=Aside0.mk (Kd.R_below (zq4 HO_20) hb);have n1_:=Aside0.mk (Kd.R_below (zq4 HO_27) hb);have n2_:=Aside0.mk (Kd.R_below (zq4 HO_187) hb);have n3_:=Aside0.mk (Kd.R_below (zq4 HO927) hb);have n4_:=Aside0.mk (below_step (zb0 HB) hb);clear HO_20;clear HO_27;clear HO_187;clear HO927;clear HB;have HO_20:=n0_;have HO_27:=n1_;have HO_187:=n2_;have HO927:=n3_;have HB:=n4_;clear n0_ n1_ n2_ n3_ n4_;(try clear hb);(try clear hb2);(try clear hk);(try clear hi);obtain⟨Ao97,co97,eo97⟩:=Kd.R_slice HO_27.out;subst eo97;have p930: 0≤ ((rd t911 x189_4):Int):=of_decide_eq_true zq1;have q930:(rd t911 x189_4)< (t920.length:Int):=of_decide_eq_true zq1;obtain⟨ad930,e930,hx930_0⟩:=Kd.at_int (Kd.R_reads' HO_27.out).2.2 (rd t911 x189_4) p930 q930;cases e930;replace p930:=eq_true p930;replace q930:=eq_true q930;have p931: 0≤ (t907:Int):=of_decide_eq_true zq1;have q931:t907< (t920.length:Int):=of_decide_eq_true zq1;obtain⟨ad931,e931,hx931_0⟩:=Kd.at_int (Kd.R_reads' HO_27.out).2.2 t907 p931 q931;obtain rfl:ad930=ad931:=(by injection e931);replace p931:=eq_true p931;replace q931:=eq_true q931));try go_wp2_with (first|((with_reducible refine gate_dst (N:=198) rfl ?_);(try(refine gate_guard (by rfl) ?_;dsimp only));refine Kd.R_lit (Kd.int .i64) _ 3 ?hg (N:=198) ?hd (xs:=([t907,rd t911 x189_4] :List Int)) (inner:= [.int .i64 t907,.int .i64 (rd t911 x189_4)]) (ok:=fun _=>True) (okp:=fun _=>True) ?hr ?hp (fun _ hk=>hk) trivial (Below.refl _ _) (Nat.le_refl _) (by simp) ?_;(case hd=>rfl);(case hg=>rfl);(case hr=>first|(go_simp;done)|(go_simp;rfl));(case hp=>exact(Reps.one (show Kd.M (Kd.int .i64) _ _ _ t907 [.int .i64 t907] from rfl) (Reps.one (show Kd.M (Kd.int .i64) _ _ _ (rd t911 x189_4) [.int .i64 (rd t911 x189_4)] from rfl) (Reps.none _ _))));intro v926 w93 ho94 hb hg_ hnew_;clear hg_ hnew_;(first|rw [← Ny925.out] at ho94|(simp only [Int.reduceToNat] at ho94;rw [← Ny925.out] at ho94));have n0_:=Aside0.mk (Kd.R_below (zq4 HO_20) hb);have n1_:=Aside0.mk (Kd.R_elder' (zq4 HO_27) (Kd.R_base ho94) hb);have n2_:=Aside0.mk (Kd.R_elder' (zq4 HO_187) (Kd.R_base ho94) hb);have n3_:=Aside0.mk (Kd.R_lower (Kd.R_new' (Kd.R_new' ho94 (Kd.R_lt (zq4 HO_27))) (Kd.R_lt (zq4 HO_187))) (below_size (zb0 HB)));have n4_:=Aside0.mk (below_step (zb0 HB) hb);clear HO_20;clear HO_27;clear HO_187;clear HB;have HO_20:=n0_;have HO_27:=n1_;have HO_187:=n2_;have HO927:=n3_;have HB:=n4_;clear n0_ n1_ n2_ n3_ n4_;clear hb ho94;obtain⟨Ao95,co95,eo95⟩:=Kd.R_slice HO927.out;subst eo95)|(go_at_call 16;(with_reducible refine(impl_CostOf.calls k4 t905 _ _ t906 _ _ y925 t928 true _ ?side1 ?side2 ?side3 ?side4 A80.out).mono ?_);(case side1=>repeat(first|exact(Kd.R_reads' HO_20.out).2.2|(with_reducible refine Kd.C_alloc ?_ _)|(with_reducible refine Kd.C_drewN ?_ _)|(with_reducible refine Kd.C_drew ?_)));(case side2=>exact(Kd.R_reads' HO_20.out).2.1);(case side3=>repeat(first|exact(Kd.R_reads' HO927.out).2.2|(with_reducible refine Kd.C_alloc ?_ _)|(with_reducible refine Kd.C_drewN ?_ _)|(with_reducible refine Kd.C_drew ?_)));(case side4=>exact(Kd.R_reads' HO927.out).2.1);rintro e w96 ⟨rfl,hb⟩;have n0_:=Aside0.mk (Kd.R_below (zq4 HO_20) hb);have n1_:=Aside0.mk (Kd.R_below (zq4 HO_27) hb);have n2_:=Aside0.mk (Kd.R_below (zq4 HO_187) hb);have n3_:=Aside0.mk (Kd.R_below (zq4 HO927) hb);have n4_:=Aside0.mk (below_step (zb0 HB) hb);clear HO_20;clear HO_27;clear HO_187;clear HO927;clear HB;have HO_20:=n0_;have HO_27:=n1_;have HO_187:=n2_;have HO927:=n3_;have HB:=n4_;clear n0_ n1_ n2_ n3_ n4_;(try clear hb);(try clear hb2);(try clear hk);(try clear hi);obtain⟨Ao97,co97,eo97⟩:=Kd.R_slice HO_27.out;subst eo97;have p930: 0≤ ((rd t911 x189_4):Int):=of_decide_eq_true zq1;have q930:(rd t911 x189_4)< (t920.length:Int):=of_decide_eq_true zq1;obtain⟨ad930,e930,hx930_0⟩:=Kd.at_int (Kd.R_reads' HO_27.out).2.2 (rd t911 x189_4) p930 q930;cases e930;replace p930:=eq_true p930;replace q930:=eq_true q930;have p931: 0≤ (t907:Int):=of_decide_eq_true zq1;have q931:t907< (t920.length:Int):=of_decide_eq_true zq1;obtain⟨ad931,e931,hx931_0⟩:=Kd.at_int (Kd.R_reads' HO_27.out).2.2 t907 p931 q931;obtain rfl:ad930=ad931:=(by injection e931);replace p931:=eq_true p931;replace q931:=eq_true q931)))
                         go_ret
                         exact⟨by first|rfl|(simp [errW_none,errW_some]<;>rfl)|(simp [*,errW_none,errW_some]<;>rfl),by repeat(first|(with_reducible first|exact HB.out|apply below_alloc|apply pw_below_drewN|apply below_drew1)|exact HB.out)⟩
                      ·rw [if_neg c86] at H
                       exact absurd H (by simp)
                     ·rw [if_neg c85] at H
                      exact absurd H (by simp)
                    ·rw [if_neg c84] at H
                     exact absurd H (by simp)
                   ·rw [if_neg c83] at H
                    exact absurd H (by simp)
                  ·replace c82:=Bool.eq_false_iff.mpr c82
                   subst c82
                   have H1:(some false)=some r:=by rw [if_neg (show ¬ (false=true) by decide)] at H;exact H
                   clear H
                   have H:=H1
                   clear H1
                   as_aux_lemma=>
                    obtain rfl:=Option.some.inj H
                    have p924: 0≤ (x189_4:Int):=of_decide_eq_true zq1
                    have q924:x189_4< (t911.length:Int):=of_decide_eq_true zq1
                    obtain⟨ad924,e924,hx924_0⟩:=Kd.at_int (Kd.R_reads' HO_187.out).2.2 x189_4 p924 q924
                    cases e924
                    replace p924:=eq_true p924
                    replace q924:=eq_true q924
                    go_wp2_with (first|((with_reducible refine gate_dst (N:=198) rfl ?_);(try(refine gate_guard (by rfl) ?_;dsimp only));refine Kd.R_lit (Kd.int .i64) _ 3 ?hg (N:=198) ?hd (xs:=([t907,rd t911 x189_4] :List Int)) (inner:= [.int .i64 t907,.int .i64 (rd t911 x189_4)]) (ok:=fun _=>True) (okp:=fun _=>True) ?hr ?hp (fun _ hk=>hk) trivial (Below.refl _ _) (Nat.le_refl _) (by simp) ?_;(case hd=>rfl);(case hg=>rfl);(case hr=>first|(go_simp;done)|(go_simp;rfl));(case hp=>exact(Reps.one (show Kd.M (Kd.int .i64) _ _ _ t907 [.int .i64 t907] from rfl) (Reps.one (show Kd.M (Kd.int .i64) _ _ _ (rd t911 x189_4) [.int .i64 (rd t911 x189_4)] from rfl) (Reps.none _ _))));intro v926 w98 ho99 hb hg_ hnew_;clear hg_ hnew_;(first|rw [← Ny925.out] at ho99|(simp only [Int.reduceToNat] at ho99;rw [← Ny925.out] at ho99));have n0_:=Aside0.mk (Kd.R_below (zq4 HO_20) hb);have n1_:=Aside0.mk (Kd.R_elder' (zq4 HO_27) (Kd.R_base ho99) hb);have n2_:=Aside0.mk (Kd.R_elder' (zq4 HO_187) (Kd.R_base ho99) hb);have n3_:=Aside0.mk (Kd.R_lower (Kd.R_new' (Kd.R_new' ho99 (Kd.R_lt (zq4 HO_27))) (Kd.R_lt (zq4 HO_187))) (below_size (zb0 HB)));have n4_:=Aside0.mk (below_step (zb0 HB) hb);clear HO_20;clear HO_27;clear HO_187;clear HB;have HO_20:=n0_;have HO_27:=n1_;have HO_187:=n2_;have HO927:=n3_;have HB:=n4_;clear n0_ n1_ n2_ n3_ n4_;clear hb ho99;obtain⟨Ao100,co100,eo100⟩:=Kd.R_slice HO927.out;subst eo100)|(go_at_call 16;(with_reducible refine(impl_CostOf.calls k4 t905 _ _ t906 _ _ y925 t928 false _ ?side1 ?side2 ?side3 ?side4 A80.out).mono ?_);(case side1=>repeat(first|exact(Kd.R_reads' HO_20.out).2.2|(with_reducible refine Kd.C_alloc ?_ _)|(with_reducible refine Kd.C_drewN ?_ _)|(with_reducible refine Kd.C_drew ?_)));(case side2=>exact(Kd.R_reads' HO_20.out).2.1);(case side3=>repeat(first|exact(Kd.R_reads' HO927.out).2.2|(with_reducible refine Kd.C_alloc ?_ _)|(with_reducible refine Kd.C_drewN ?_ _)|(with_reducible refine Kd.C_drew ?_)));(case side4=>exact(Kd.R_reads' HO927.out).2.1);rintro e w101 ⟨rfl,hb⟩;have n0_:=Aside0.mk (Kd.R_below (zq4 HO_20) hb);have n1_:=Aside0.mk (Kd.R_below (zq4 HO_27) hb);have n2_:=Aside0.mk (Kd.R_below (zq4 HO_187) hb);have n3_:=Aside0.mk (Kd.R_below (zq4 HO927) hb);have n4_:=Aside0.mk (below_step (zb0 HB) hb);clear HO_20;clear HO_27;clear HO_187;clear HO927;clear HB;have HO_20:=n0_;have HO_27:=n1_;have HO_187:=n2_;have HO927:=n3_;have HB:=n4_;clear n0_ n1_ n2_ n3_ n4_;(try clear hb);(try clear hb2);(try clear hk);(try clear hi)))
                    repeat(go_quiet (first|((with_reducible refine gate_dst (N:=198) rfl ?_);(try(refine gate_guard (by rfl) ?_;dsimp only));refine Kd.R_lit (Kd.int .i64) _ 3 ?hg (N:=198) ?hd (xs:=([t907,rd t911 x189_4] :List Int)) (inner:= [.int .i64 t907,.int .i64 (rd t911 x189_4)]) (ok:=fun _=>True) (okp:=fun _=>True) ?hr ?hp (fun _ hk=>hk) trivial (Below.refl _ _) (Nat.le_refl _) (by simp) ?_;(case hd=>rfl);(case hg=>rfl);(case hr=>first|(go_simp;done)|(go_simp;rfl));(case hp=>exact(Reps.one (show Kd.M (Kd.int .i64) _ _ _ t907 [.int .i64 t907] from rfl) (Reps.one (show Kd.M (Kd.int .i64) _ _ _ (rd t911 x189_4) [.int .i64 (rd t911 x189_4)] from rfl) (Reps.none _ _))));intro v926 w98 ho99 hb hg_ hnew_;clear hg_ hnew_;(first|rw [← Ny925.out] at ho99|(simp only [Int.reduceToNat] at ho99;rw [← Ny925.out] at ho99));have n0_:=Aside0.mk (Kd.R_below (zq4 HO_20) hb);have n1_:=Aside0.mk (Kd.R_elder' (zq4 HO_27) (Kd.R_base ho99) hb);have n2_:=Aside0.mk (Kd.R_elder' (zq4 HO_187) (Kd.R_base ho99) hb);have n3_:=Aside0.mk (Kd.R_lower (Kd.R_new' (Kd.R_new' ho99 (Kd.R_lt (zq4 HO_27))) (Kd.R_lt (zq4 HO_187))) (below_size (zb0 HB)));have n4_:=Aside0.mk (below_step (zb0 HB) hb);clear HO_20;clear HO_27;clear HO_187;clear HB;have HO_20:=n0_;have HO_27:=n1_;have HO_187:=n2_;have HO927:=n3_;have HB:=n4_;clear n0_ n1_ n2_ n3_ n4_;clear hb ho99;obtain⟨Ao100,co100,eo100⟩:=Kd.R_slice HO927.out;subst eo100)|(go_at_call 16;(with_reducible refine(impl_CostOf.calls k4 t905 _ _ t906 _ _ y925 t928 false _ ?side1 ?side2 ?side3 ?side4 A80.out).mono ?_);(case side1=>repeat(first|exact(Kd.R_reads' HO_20.out).2.2|(with_reducible refine Kd.C_alloc ?_ _)|(with_reducible refine Kd.C_drewN ?_ _)|(with_reducible refine Kd.C_drew ?_)));(case side2=>exact(Kd.R_reads' HO_20.out).2.1);(case side3=>repeat(first|exact(Kd.R_reads' HO927.out).2.2|(with_reducible refine Kd.C_alloc ?_ _)|(with_reducible refine Kd.C_drewN ?_ _)|(with_reducible refine Kd.C_drew ?_)));(case side4=>exact(Kd.R_reads' HO927.out).2.1);rintro e w101 ⟨rfl,hb⟩;have n0_:=Aside0.mk (Kd.R_below (zq4 HO_20) hb);have n1_:=Aside0.mk (Kd.R_below (zq4 HO_27) hb);have n2_:=Aside0.mk (Kd.R_below (zq4 HO_187) hb);have n3_:=Aside0.mk (Kd.R_below (zq4 HO927) hb);have n4_:=Aside0.mk (below_step (zb0 HB) hb);clear HO_20;clear HO_27;clear HO_187;clear HO927;clear HB;have HO_20:=n0_;have HO_27:=n1_;have HO_187:=n2_;have HO927:=n3_;have HB:=n4_;clear n0_ n1_ n2_ n3_ n4_;(try clear hb);(try clear hb2);(try clear hk);(try clear hi)));try go_wp2_with (first|((with_reducible refine gate_dst (N:=198) rfl ?_);(try(refine gate_guard (by rfl) ?_;dsimp only));refine Kd.R_lit (Kd.int .i64) _ 3 ?hg (N:=198) ?hd (xs:=([t907,rd t911 x189_4] :List Int)) (inner:= [.int .i64 t907,.int .i64 (rd t911 x189_4)]) (ok:=fun _=>True) (okp:=fun _=>True) ?hr ?hp (fun _ hk=>hk) trivial (Below.refl _ _) (Nat.le_refl _) (by simp) ?_;(case hd=>rfl);(case hg=>rfl);(case hr=>first|(go_simp;done)|(go_simp;rfl));(case hp=>exact(Reps.one (show Kd.M (Kd.int .i64) _ _ _ t907 [.int .i64 t907] from rfl) (Reps.one (show Kd.M (Kd.int .i64) _ _ _ (rd t911 x189_4) [.int .i64 (rd t911 x189_4)] from rfl) (Reps.none _ _))));intro v926 w98 ho99 hb hg_ hnew_;clear hg_ hnew_;(first|rw [← Ny925.out] at ho99|(simp only [Int.reduceToNat] at ho99;rw [← Ny925.out] at ho99));have n0_:=Aside0.mk (Kd.R_below (zq4 HO_20) hb);have n1_:=Aside0.mk (Kd.R_elder' (zq4 HO_27) (Kd.R_base ho99) hb);have n2_:=Aside0.mk (Kd.R_elder' (zq4 HO_187) (Kd.R_base ho99) hb);have n3_:=Aside0.mk (Kd.R_lower (Kd.R_new' (Kd.R_new' ho99 (Kd.R_lt (zq4 HO_27))) (Kd.R_lt (zq4 HO_187))) (below_size (zb0 HB)));have n4_:=Aside0.mk (below_step (zb0 HB) hb);clear HO_20;clear HO_27;clear HO_187;clear HB;have HO_20:=n0_;have HO_27:=n1_;have HO_187:=n2_;have HO927:=n3_;have HB:=n4_;clear n0_ n1_ n2_ n3_ n4_;clear hb ho99;obtain⟨Ao100,co100,eo100⟩:=Kd.R_slice HO927.out;subst eo100)|(go_at_call 16;(with_reducible refine(impl_CostOf.calls k4 t905 _ _ t906 _ _ y925 t928 false _ ?side1 ?side2 ?side3 ?side4 A80.out).mono ?_);(case side1=>repeat(first|exact(Kd.R_reads' HO_20.out).2.2|(with_reducible refine Kd.C_alloc ?_ _)|(with_reducible refine Kd.C_drewN ?_ _)|(with_reducible refine Kd.C_drew ?_)));(case side2=>exact(Kd.R_reads' HO_20.out).2.1);(case side3=>repeat(first|exact(Kd.R_reads' HO927.out).2.2|(with_reducible refine Kd.C_alloc ?_ _)|(with_reducible refine Kd.C_drewN ?_ _)|(with_reducible refine Kd.C_drew ?_)));(case side4=>exact(Kd.R_reads' HO927.out).2.1);rintro e w101 ⟨rfl,hb⟩;have n0_:=Aside0.mk (Kd.R_below (zq4 HO_20) hb);have n1_:=Aside0.mk (Kd.R_below (zq4 HO_27) hb);have n2_:=Aside0.mk (Kd.R_below (zq4 HO_187) hb);have n3_:=Aside0.mk (Kd.R_below (zq4 HO927) hb);have n4_:=Aside0.mk (below_step (zb0 HB) hb);clear HO_20;clear HO_27;clear HO_187;clear HO927;clear HB;have HO_20:=n0_;have HO_27:=n1_;have HO_187:=n2_;have HO927:=n3_;have HB:=n4_;clear n0_ n1_ n2_ n3_ n4_;(try clear hb);(try clear hb2);(try clear hk);(try clear hi))))
                    go_ret
                    exact⟨by first|rfl|(simp [errW_none,errW_some]<;>rfl)|(simp [*,errW_none,errW_some]<;>rfl),by repeat(first|(with_reducible first|exact HB.out|apply below_alloc|apply pw_below_drewN|apply below_drew1)|exact HB.out)⟩
                 ·replace c81:=Bool.eq_false_iff.mpr c81
                  subst c81
                  have H1:(some false)=some r:=by rw [if_neg (show ¬ (false=true) by decide)] at H;exact H
                  clear H
                  have H:=H1
                  clear H1
                  as_aux_lemma=>
                   obtain rfl:=Option.some.inj H
                   have p924: 0≤ (x189_4:Int):=of_decide_eq_true zq1
                   have q924:x189_4< (t911.length:Int):=of_decide_eq_true zq1
                   obtain⟨ad924,e924,hx924_0⟩:=Kd.at_int (Kd.R_reads' HO_187.out).2.2 x189_4 p924 q924
                   cases e924
                   replace p924:=eq_true p924
                   replace q924:=eq_true q924
                   go_wp2_with (first|((with_reducible refine gate_dst (N:=198) rfl ?_);(try(refine gate_guard (by rfl) ?_;dsimp only));refine Kd.R_lit (Kd.int .i64) _ 3 ?hg (N:=198) ?hd (xs:=([t907,rd t911 x189_4] :List Int)) (inner:= [.int .i64 t907,.int .i64 (rd t911 x189_4)]) (ok:=fun _=>True) (okp:=fun _=>True) ?hr ?hp (fun _ hk=>hk) trivial (Below.refl _ _) (Nat.le_refl _) (by simp) ?_;(case hd=>rfl);(case hg=>rfl);(case hr=>first|(go_simp;done)|(go_simp;rfl));(case hp=>exact(Reps.one (show Kd.M (Kd.int .i64) _ _ _ t907 [.int .i64 t907] from rfl) (Reps.one (show Kd.M (Kd.int .i64) _ _ _ (rd t911 x189_4) [.int .i64 (rd t911 x189_4)] from rfl) (Reps.none _ _))));intro v926 w102 ho103 hb hg_ hnew_;clear hg_ hnew_;(first|rw [← Ny925.out] at ho103|(simp only [Int.reduceToNat] at ho103;rw [← Ny925.out] at ho103));have n0_:=Aside0.mk (Kd.R_below (zq4 HO_20) hb);have n1_:=Aside0.mk (Kd.R_elder' (zq4 HO_27) (Kd.R_base ho103) hb);have n2_:=Aside0.mk (Kd.R_elder' (zq4 HO_187) (Kd.R_base ho103) hb);have n3_:=Aside0.mk (Kd.R_lower (Kd.R_new' (Kd.R_new' ho103 (Kd.R_lt (zq4 HO_27))) (Kd.R_lt (zq4 HO_187))) (below_size (zb0 HB)));have n4_:=Aside0.mk (below_step (zb0 HB) hb);clear HO_20;clear HO_27;clear HO_187;clear HB;have HO_20:=n0_;have HO_27:=n1_;have HO_187:=n2_;have HO927:=n3_;have HB:=n4_;clear n0_ n1_ n2_ n3_ n4_;clear hb ho103;obtain⟨Ao104,co104,eo104⟩:=Kd.R_slice HO927.out;subst eo104)|(go_at_call 16;(with_reducible refine(impl_CostOf.calls k4 t905 _ _ t906 _ _ y925 t928 t929 _ ?side1 ?side2 ?side3 ?side4 A80.out).mono ?_);(case side1=>repeat(first|exact(Kd.R_reads' HO_20.out).2.2|(with_reducible refine Kd.C_alloc ?_ _)|(with_reducible refine Kd.C_drewN ?_ _)|(with_reducible refine Kd.C_drew ?_)));(case side2=>exact(Kd.R_reads' HO_20.out).2.1);(case side3=>repeat(first|exact(Kd.R_reads' HO927.out).2.2|(with_reducible refine Kd.C_alloc ?_ _)|(with_reducible refine Kd.C_drewN ?_ _)|(with_reducible refine Kd.C_drew ?_)));(case side4=>exact(Kd.R_reads' HO927.out).2.1);rintro e w105 ⟨rfl,hb⟩;have n0_:=Aside0.mk (Kd.R_below (zq4 HO_20) hb);have n1_:=Aside0.mk (Kd.R_below (zq4 HO_27) hb);have n2_:=Aside0.mk (Kd.R_below (zq4 HO_187) hb);have n3_:=Aside0.mk (Kd.R_below (zq4 HO927) hb);have n4_:=Aside0.mk (below_step (zb0 HB) hb);clear HO_20;clear HO_27;clear HO_187;clear HO927;clear HB;have HO_20:=n0_;have HO_27:=n1_;have HO_187:=n2_;have HO927:=n3_;have HB:=n4_;clear n0_ n1_ n2_ n3_ n4_;(try clear hb);(try clear hb2);(try clear hk);(try clear hi)))
                   repeat(go_quiet (first|((with_reducible refine gate_dst (N:=198) rfl ?_);(try(refine gate_guard (by rfl) ?_;dsimp only));refine Kd.R_lit (Kd.int .i64) _ 3 ?hg (N:=198) ?hd (xs:=([t907,rd t911 x189_4] :List Int)) (inner:= [.int .i64 t907,.int .i64 (rd t911 x189_4)]) (ok:=fun _=>True) (okp:=fun _=>True) ?hr ?hp (fun _ hk=>hk) trivial (Below.refl _ _) (Nat.le_refl _) (by simp) ?_;(case hd=>rfl);(case hg=>rfl);(case hr=>first|(go_simp;done)|(go_simp;rfl));(case hp=>exact(Reps.one (show Kd.M (Kd.int .i64) _ _ _ t907 [.int .i64 t907] from rfl) (Reps.one (show Kd.M (Kd.int .i64) _ _ _ (rd t911 x189_4) [.int .i64 (rd t911 x189_4)] from rfl) (Reps.none _ _))));intro v926 w102 ho103 hb hg_ hnew_;clear hg_ hnew_;(first|rw [← Ny925.out] at ho103|(simp only [Int.reduceToNat] at ho103;rw [← Ny925.out] at ho103));have n0_:=Aside0.mk (Kd.R_below (zq4 HO_20) hb);have n1_:=Aside0.mk (Kd.R_elder' (zq4 HO_27) (Kd.R_base ho103) hb);have n2_:=Aside0.mk (Kd.R_elder' (zq4 HO_187) (Kd.R_base ho103) hb);have n3_:=Aside0.mk (Kd.R_lower (Kd.R_new' (Kd.R_new' ho103 (Kd.R_lt (zq4 HO_27))) (Kd.R_lt (zq4 HO_187))) (below_size (zb0 HB)));have n4_:=Aside0.mk (below_step (zb0 HB) hb);clear HO_20;clear HO_27;clear HO_187;clear HB;have HO_20:=n0_;have HO_27:=n1_;have HO_187:=n2_;have HO927:=n3_;have HB:=n4_;clear n0_ n1_ n2_ n3_ n4_;clear hb ho103;obtain⟨Ao104,co104,eo104⟩:=Kd.R_slice HO927.out;subst eo104)|(go_at_call 16;(with_reducible refine(impl_CostOf.calls k4 t905 _ _ t906 _ _ y925 t928 t929 _ ?side1 ?side2 ?side3 ?side4 A80.out).mono ?_);(case side1=>repeat(first|exact(Kd.R_reads' HO_20.out).2.2|(with_reducible refine Kd.C_alloc ?_ _)|(with_reducible refine Kd.C_drewN ?_ _)|(with_reducible refine Kd.C_drew ?_)));(case side2=>exact(Kd.R_reads' HO_20.out).2.1);(case side3=>repeat(first|exact(Kd.R_reads' HO927.out).2.2|(with_reducible refine Kd.C_alloc ?_ _)|(with_reducible refine Kd.C_drewN ?_ _)|(with_reducible refine Kd.C_drew ?_)));(case side4=>exact(Kd.R_reads' HO927.out).2.1);rintro e w105 ⟨rfl,hb⟩;have n0_:=Aside0.mk (Kd.R_below (zq4 HO_20) hb);have n1_:=Aside0.mk (Kd.R_below (zq4 HO_27) hb);have n2_:=Aside0.mk (Kd.R_below (zq4 HO_187) hb);have n3_:=Aside0.mk (Kd.R_below (zq4 HO927) hb);have n4_:=Aside0.mk (below_step (zb0 HB) hb);clear HO_20;clear HO_27;clear HO_187;clear HO927;clear HB;have HO_20:=n0_;have HO_27:=n1_;have HO_187:=n2_;have HO927:=n3_;have HB:=n4_;clear n0_ n1_ n2_ n3_ n4_;(try clear hb);(try clear hb2);(try clear hk);(try clear hi)));try go_wp2_with (first|((with_reducible refine gate_dst (N:=198) rfl ?_);(try(refine gate_guard (by rfl) ?_;dsimp only));refine Kd.R_lit (Kd.int .i64) _ 3 ?hg (N:=198) ?hd (xs:=([t907,rd t911 x189_4] :List Int)) (inner:= [.int .i64 t907,.int .i64 (rd t911 x189_4)]) (ok:=fun _=>True) (okp:=fun _=>True) ?hr ?hp (fun _ hk=>hk) trivial (Below.refl _ _) (Nat.le_refl _) (by simp) ?_;(case hd=>rfl);(case hg=>rfl);(case hr=>first|(go_simp;done)|(go_simp;rfl));(case hp=>exact(Reps.one (show Kd.M (Kd.int .i64) _ _ _ t907 [.int .i64 t907] from rfl) (Reps.one (show Kd.M (Kd.int .i64) _ _ _ (rd t911 x189_4) [.int .i64 (rd t911 x189_4)] from rfl) (Reps.none _ _))));intro v926 w102 ho103 hb hg_ hnew_;clear hg_ hnew_;(first|rw [← Ny925.out] at ho103|(simp only [Int.reduceToNat] at ho103;rw [← Ny925.out] at ho103));have n0_:=Aside0.mk (Kd.R_below (zq4 HO_20) hb);have n1_:=Aside0.mk (Kd.R_elder' (zq4 HO_27) (Kd.R_base ho103) hb);have n2_:=Aside0.mk (Kd.R_elder' (zq4 HO_187) (Kd.R_base ho103) hb);have n3_:=Aside0.mk (Kd.R_lower (Kd.R_new' (Kd.R_new' ho103 (Kd.R_lt (zq4 HO_27))) (Kd.R_lt (zq4 HO_187))) (below_size (zb0 HB)));have n4_:=Aside0.mk (below_step (zb0 HB) hb);clear HO_20;clear HO_27;clear HO_187;clear HB;have HO_20:=n0_;have HO_27:=n1_;have HO_187:=n2_;have HO927:=n3_;have HB:=n4_;clear n0_ n1_ n2_ n3_ n4_;clear hb ho103;obtain⟨Ao104,co104,eo104⟩:=Kd.R_slice HO927.out;subst eo104)|(go_at_call 16;(with_reducible refine(impl_CostOf.calls k4 t905 _ _ t906 _ _ y925 t928 t929 _ ?side1 ?side2 ?side3 ?side4 A80.out).mono ?_);(case side1=>repeat(first|exact(Kd.R_reads' HO_20.out).2.2|(with_reducible refine Kd.C_alloc ?_ _)|(with_reducible refine Kd.C_drewN ?_ _)|(with_reducible refine Kd.C_drew ?_)));(case side2=>exact(Kd.R_reads' HO_20.out).2.1);(case side3=>repeat(first|exact(Kd.R_reads' HO927.out).2.2|(with_reducible refine Kd.C_alloc ?_ _)|(with_reducible refine Kd.C_drewN ?_ _)|(with_reducible refine Kd.C_drew ?_)));(case side4=>exact(Kd.R_reads' HO927.out).2.1);rintro e w105 ⟨rfl,hb⟩;have n0_:=Aside0.mk (Kd.R_below (zq4 HO_20) hb);have n1_:=Aside0.mk (Kd.R_below (zq4 HO_27) hb);have n2_:=Aside0.mk (Kd.R_below (zq4 HO_187) hb);have n3_:=Aside0.mk (Kd.R_below (zq4 HO927) hb);have n4_:=Aside0.mk (below_step (zb0 HB) hb);clear HO_20;clear HO_27;clear HO_187;clear HO927;clear HB;have HO_20:=n0_;have HO_27:=n1_;have HO_187:=n2_;have HO927:=n3_;have HB:=n4_;clear n0_ n1_ n2_ n3_ n4_;(try clear hb);(try clear hb2);(try clear hk);(try clear hi))))
                   go_ret
                   exact⟨by first|rfl|(simp [errW_none,errW_some]<;>rfl)|(simp [*,errW_none,errW_some]<;>rfl),by repeat(first|(with_reducible first|exact HB.out|apply below_alloc|apply pw_below_drewN|apply below_drew1)|exact HB.out)⟩
                ·rw [if_neg c79] at H
                 exact absurd H (by simp)
               ·rw [if_neg c78] at H
                exact absurd H (by simp)
              ·rw [if_neg c77] at H
               have c77b0:decide (x189_4< (t911.length:Int))=false:=decide_eq_false c77
               clear c77
               (first|rw [c77b0]|(simp only [i64_w,i32_w];rw [c77b0])|skip)
               as_aux_lemma=>
                have H':=Aside0.mk H
                clear H
                go_wp2
                repeat(go_quiet (fail);try go_wp2)
                go_meet
                case rel=>exact⟨_,H',⟨by have:=HJ6.out;have:=HJ17.out;have:=HJ61.out;have:=HK4.out;first|omega|exact Nat.le_refl _⟩,⟨by repeat(first|(with_reducible first|exact HB.out|apply below_alloc|apply pw_below_drewN|apply below_drew1)|exact HB.out)⟩⟩
           ·replace c73:=Bool.eq_false_iff.mpr c73
            subst c73
            have H1:(laws_FnHops.j4 kj61 l1)=some r:=by rw [if_neg (show ¬ (false=true) by decide)] at H;exact H
            clear H
            have H:=H1
            clear H1
            as_aux_lemma=>
             have H':=Aside0.mk H
             clear H
             go_wp2
             repeat(go_quiet (fail);try go_wp2)
             go_meet
             case rel=>exact⟨_,H',⟨by have:=HJ6.out;have:=HJ17.out;have:=HJ61.out;first|omega|exact Nat.le_refl _⟩,⟨by repeat(first|(with_reducible first|exact HB.out|apply below_alloc|apply pw_below_drewN|apply below_drew1)|exact HB.out)⟩⟩
          case rest=>
           clear HC72
           try clear c1
           try clear c2
           try clear p2
           try clear c3
           try clear c3b0
           try clear c6
           try clear p6
           try clear c7
           try clear c8
           try clear p9
           try clear q9
           try clear hx9
           try clear qi9
           try clear c11
           try clear c12
           try clear c12b0
           try clear c12b1
           try clear c12b2
           try clear c13
           try clear c13b0
           try clear c13b1
           try clear c17
           try clear c19
           try clear c22
           try clear c23
           try clear c23b0
           try clear c23b1
           try clear c24
           try clear c25
           try clear c25b0
           try clear c26
           try clear c26b0
           try clear c27
           try clear c27b0
           try clear c27b1
           try clear c28
           try clear c28b0
           try clear c28b1
           try clear c29
           try clear c29b0
           try clear c29b1
           try clear c31
           try clear c31b0
           try clear c32
           try clear c32b0
           try clear c33
           try clear c33b0
           try clear c33b1
           try clear p64
           try clear c67
           try clear c67b0
           try clear c67b1
           try clear c67b2
           try clear c71
           try clear c73
           try clear c77
           try clear c77b0
           try clear c78
           try clear c78b0
           try clear c79
           try clear c79b0
           try clear c81
           try clear c82
           try clear c83
           try clear c83b0
           try clear c84
           try clear c84b0
           try clear c85
           try clear c85b0
           try clear c86
           try clear c86b0
           try clear c87
           try clear c87b0
           try clear c87b1
           try clear p90
           try clear q90
           try clear hx90
           try clear qi90
           try clear p92
           try clear q92
           try clear hx92
           try clear p93
           try clear q93
           try clear hx93
           try clear hx902_0
           try clear hx903_0
           try clear hx904_0
           try clear hx924_0
           try clear hx930_0
           try clear hx931_0
           try clear p2
           try clear p6
           try clear p64
           try clear p9
           try clear p902
           try clear p903
           try clear p904
           try clear p924
           try clear p930
           try clear p931
           try clear q9
           try clear q902
           try clear q903
           try clear q904
           try clear q924
           try clear q930
           try clear q931
           obtain⟨kq,HA,HJ71,HB⟩:=hcut
           cases kq with
           |zero=>exact absurd HA.out (by simp [laws_FnHops.j4])
           |succ kj71=>
            have H:=HA.out
            clear HA
            simp only [laws_FnHops.j4] at H
            replace H:=Option.bind_eq_some_iff.mp H
            obtain⟨⟨t932,t933,t934,t935,t936⟩,A1060,H⟩:=H
            replace H:((impl_HopFor.f kj71 t932 t933 t934 t935 t936).bind fun bt939=>((spec_HopFor.f kj71 t932 t933 t934 t935 t936).bind fun bt941=>((spec_DrawCostOf.f kj71 l1).bind fun bt943=>((impl_CostOf.f kj71 bt943.1 bt943.2.1 bt943.2.2).bind fun bt950=>((spec_CostOf.f kj71 bt943.1 bt943.2.1 bt943.2.2).bind fun bt952=>(if (bt939.2 !=bt941.2)=true then(laws_FnHops.j5 kj71 t932 t933 t934 t935 bt939.1 bt939.2 true) else(if bt939.1=bt941.1 then(if (bt950.2 !=bt952.2)=true then(laws_FnHops.j5 kj71 t932 t933 t934 t935 bt939.1 bt939.2 true) else(laws_FnHops.j5 kj71 t932 t933 t934 t935 bt939.1 bt939.2 (bt950.1 !=bt952.1))) else(laws_FnHops.j5 kj71 t932 t933 t934 t935 bt939.1 bt939.2 true))))))))=some r:=H
            have A106:=Aside0.mk A1060
            clear A1060
            replace H:=Option.bind_eq_some_iff.mp H
            obtain⟨⟨t939,t940⟩,A1070,H⟩:=H
            replace H:((spec_HopFor.f kj71 t932 t933 t934 t935 t936).bind fun bt941=>((spec_DrawCostOf.f kj71 l1).bind fun bt943=>((impl_CostOf.f kj71 bt943.1 bt943.2.1 bt943.2.2).bind fun bt950=>((spec_CostOf.f kj71 bt943.1 bt943.2.1 bt943.2.2).bind fun bt952=>(if (t940 !=bt941.2)=true then(laws_FnHops.j5 kj71 t932 t933 t934 t935 t939 t940 true) else(if t939=bt941.1 then(if (bt950.2 !=bt952.2)=true then(laws_FnHops.j5 kj71 t932 t933 t934 t935 t939 t940 true) else(laws_FnHops.j5 kj71 t932 t933 t934 t935 t939 t940 (bt950.1 !=bt952.1))) else(laws_FnHops.j5 kj71 t932 t933 t934 t935 t939 t940 true)))))))=some r:=H
            have A107:=Aside0.mk A1070
            clear A1070
            replace H:=Option.bind_eq_some_iff.mp H
            obtain⟨⟨t941,t942⟩,A1080,H⟩:=H
            replace H:((spec_DrawCostOf.f kj71 l1).bind fun bt943=>((impl_CostOf.f kj71 bt943.1 bt943.2.1 bt943.2.2).bind fun bt950=>((spec_CostOf.f kj71 bt943.1 bt943.2.1 bt943.2.2).bind fun bt952=>(if (t940 !=t942)=true then(laws_FnHops.j5 kj71 t932 t933 t934 t935 t939 t940 true) else(if t939=t941 then(if (bt950.2 !=bt952.2)=true then(laws_FnHops.j5 kj71 t932 t933 t934 t935 t939 t940 true) else(laws_FnHops.j5 kj71 t932 t933 t934 t935 t939 t940 (bt950.1 !=bt952.1))) else(laws_FnHops.j5 kj71 t932 t933 t934 t935 t939 t940 true))))))=some r:=H
            have A108:=Aside0.mk A1080
            clear A1080
            replace H:=Option.bind_eq_some_iff.mp H
            obtain⟨⟨t943,t944,t945⟩,A1090,H⟩:=H
            replace H:((impl_CostOf.f kj71 t943 t944 t945).bind fun bt950=>((spec_CostOf.f kj71 t943 t944 t945).bind fun bt952=>(if (t940 !=t942)=true then(laws_FnHops.j5 kj71 t932 t933 t934 t935 t939 t940 true) else(if t939=t941 then(if (bt950.2 !=bt952.2)=true then(laws_FnHops.j5 kj71 t932 t933 t934 t935 t939 t940 true) else(laws_FnHops.j5 kj71 t932 t933 t934 t935 t939 t940 (bt950.1 !=bt952.1))) else(laws_FnHops.j5 kj71 t932 t933 t934 t935 t939 t940 true)))))=some r:=H
            have A109:=Aside0.mk A1090
            clear A1090
            replace H:=Option.bind_eq_some_iff.mp H
            obtain⟨⟨t950,t951⟩,A1100,H⟩:=H
            replace H:((spec_CostOf.f kj71 t943 t944 t945).bind fun bt952=>(if (t940 !=t942)=true then(laws_FnHops.j5 kj71 t932 t933 t934 t935 t939 t940 true) else(if t939=t941 then(if (t951 !=bt952.2)=true then(laws_FnHops.j5 kj71 t932 t933 t934 t935 t939 t940 true) else(laws_FnHops.j5 kj71 t932 t933 t934 t935 t939 t940 (t950 !=bt952.1))) else(laws_FnHops.j5 kj71 t932 t933 t934 t935 t939 t940 true))))=some r:=H
            have A110:=Aside0.mk A1100
            clear A1100
            replace H:=Option.bind_eq_some_iff.mp H
            obtain⟨⟨t952,t953⟩,A1110,H⟩:=H
            replace H:(if (t940 !=t942)=true then(laws_FnHops.j5 kj71 t932 t933 t934 t935 t939 t940 true) else(if t939=t941 then(if (t951 !=t953)=true then(laws_FnHops.j5 kj71 t932 t933 t934 t935 t939 t940 true) else(laws_FnHops.j5 kj71 t932 t933 t934 t935 t939 t940 (t950 !=t952))) else(laws_FnHops.j5 kj71 t932 t933 t934 t935 t939 t940 true)))=some r:=H
            have A111:=Aside0.mk A1110
            clear A1110
            have HC112:=Aside0.mk H
            clear H
            go_upto_region 33 with (first|(go_at_call 41;(with_reducible refine(spec_DrawHopFor.calls kj71 _ _ l1 t932 t933 t934 t935 t936 _ ?side1 ?side2 A106.out).mono ?_);(case side1=>repeat(first|exact(Kd.C_below HR1.out HB.out)|(with_reducible refine Kd.C_alloc ?_ _)|(with_reducible refine Kd.C_drewN ?_ _)|(with_reducible refine Kd.C_drew ?_)));(case side2=>exact HC1.out);rintro e w113 ⟨v937,rfl,ho0,hb⟩;have n0_:=Aside0.mk (Kd.R_lower ho0 (below_size (zb0 HB)));have n1_:=Aside0.mk (below_step (zb0 HB) hb);clear HB;have HO938:=n0_;have HB:=n1_;clear n0_ n1_;(try clear hb);(try clear hb2);(try clear hk);(try clear hi);(try clear ho0);obtain⟨Ao114,co114,eo114⟩:=Kd.R_slice HO938.out;subst eo114)|(go_at_call 29;(with_reducible refine(impl_HopFor.calls kj71 t932 _ _ t933 t934 t935 t936 t939 t940 _ ?side1 ?side2 A107.out).mono ?_);(case side1=>repeat(first|exact(Kd.R_reads' HO938.out).2.2|(with_reducible refine Kd.C_alloc ?_ _)|(with_reducible refine Kd.C_drewN ?_ _)|(with_reducible refine Kd.C_drew ?_)));(case side2=>exact(Kd.R_reads' HO938.out).2.1);rintro e w115 ⟨rfl,hb⟩;have n0_:=Aside0.mk (Kd.R_below (zq4 HO938) hb);have n1_:=Aside0.mk (below_step (zb0 HB) hb);clear HO938;clear HB;have HO938:=n0_;have HB:=n1_;clear n0_ n1_;(try clear hb);(try clear hb2);(try clear hk);(try clear hi))|(go_at_call 28;(with_reducible refine(spec_HopFor.calls kj71 t932 _ _ t933 t934 t935 t936 t941 t942 _ ?side1 ?side2 A108.out).mono ?_);(case side1=>repeat(first|exact(Kd.R_reads' HO938.out).2.2|(with_reducible refine Kd.C_alloc ?_ _)|(with_reducible refine Kd.C_drewN ?_ _)|(with_reducible refine Kd.C_drew ?_)));(case side2=>exact(Kd.R_reads' HO938.out).2.1);rintro e w116 ⟨rfl,hb⟩;have n0_:=Aside0.mk (Kd.R_below (zq4 HO938) hb);have n1_:=Aside0.mk (below_step (zb0 HB) hb);clear HO938;clear HB;have HO938:=n0_;have HB:=n1_;clear n0_ n1_;(try clear hb);(try clear hb2);(try clear hk);(try clear hi))|(go_at_call 42;(with_reducible refine(spec_DrawCostOf.calls kj71 _ _ l1 t943 t944 t945 _ ?side1 ?side2 A109.out).mono ?_);(case side1=>repeat(first|exact(Kd.C_below HR1.out HB.out)|(with_reducible refine Kd.C_alloc ?_ _)|(with_reducible refine Kd.C_drewN ?_ _)|(with_reducible refine Kd.C_drew ?_)));(case side2=>exact HC1.out);rintro e w117 ⟨v946,v948,rfl,ho0,ho1,hb⟩;have n0_:=Aside0.mk (Kd.R_elder' (zq4 HO938) (Kd.R_base ho0) hb);have n1_:=Aside0.mk (Kd.R_lower (Kd.R_new' ho0 (Kd.R_lt (zq4 HO938))) (below_size (zb0 HB)));have n2_:=Aside0.mk (Kd.R_lower ho1 (below_size (zb0 HB)));have n3_:=Aside0.mk (below_step (zb0 HB) hb);clear HO938;clear HB;have HO938:=n0_;have HO947:=n1_;have HO949:=n2_;have HB:=n3_;clear n0_ n1_ n2_ n3_;(try clear hb);(try clear hb2);(try clear hk);(try clear hi);(try clear ho0);(try clear ho1);obtain⟨Ao118,co118,eo118⟩:=Kd.R_slice HO947.out;subst eo118;obtain⟨Ao119,co119,eo119⟩:=Kd.R_slice HO949.out;subst eo119)|(go_at_call 16;(with_reducible refine(impl_CostOf.calls kj71 t943 _ _ t944 _ _ t945 t950 t951 _ ?side1 ?side2 ?side3 ?side4 A110.out).mono ?_);(case side1=>repeat(first|exact(Kd.R_reads' HO947.out).2.2|(with_reducible refine Kd.C_alloc ?_ _)|(with_reducible refine Kd.C_drewN ?_ _)|(with_reducible refine Kd.C_drew ?_)));(case side2=>exact(Kd.R_reads' HO947.out).2.1);(case side3=>repeat(first|exact(Kd.R_reads' HO949.out).2.2|(with_reducible refine Kd.C_alloc ?_ _)|(with_reducible refine Kd.C_drewN ?_ _)|(with_reducible refine Kd.C_drew ?_)));(case side4=>exact(Kd.R_reads' HO949.out).2.1);rintro e w120 ⟨rfl,hb⟩;have n0_:=Aside0.mk (Kd.R_below (zq4 HO938) hb);have n1_:=Aside0.mk (Kd.R_below (zq4 HO947) hb);have n2_:=Aside0.mk (Kd.R_below (zq4 HO949) hb);have n3_:=Aside0.mk (below_step (zb0 HB) hb);clear HO938;clear HO947;clear HO949;clear HB;have HO938:=n0_;have HO947:=n1_;have HO949:=n2_;have HB:=n3_;clear n0_ n1_ n2_ n3_;(try clear hb);(try clear hb2);(try clear hk);(try clear hi))|(go_at_call 13;(with_reducible refine(spec_CostOf.calls kj71 t943 _ _ t944 _ _ t945 t952 t953 _ ?side1 ?side2 ?side3 ?side4 A111.out).mono ?_);(case side1=>repeat(first|exact(Kd.R_reads' HO947.out).2.2|(with_reducible refine Kd.C_alloc ?_ _)|(with_reducible refine Kd.C_drewN ?_ _)|(with_reducible refine Kd.C_drew ?_)));(case side2=>exact(Kd.R_reads' HO947.out).2.1);(case side3=>repeat(first|exact(Kd.R_reads' HO949.out).2.2|(with_reducible refine Kd.C_alloc ?_ _)|(with_reducible refine Kd.C_drewN ?_ _)|(with_reducible refine Kd.C_drew ?_)));(case side4=>exact(Kd.R_reads' HO949.out).2.1);rintro e w121 ⟨rfl,hb⟩;have n0_:=Aside0.mk (Kd.R_below (zq4 HO938) hb);have n1_:=Aside0.mk (Kd.R_below (zq4 HO947) hb);have n2_:=Aside0.mk (Kd.R_below (zq4 HO949) hb);have n3_:=Aside0.mk (below_step (zb0 HB) hb);clear HO938;clear HO947;clear HO949;clear HB;have HO938:=n0_;have HO947:=n1_;have HO949:=n2_;have HB:=n3_;clear n0_ n1_ n2_ n3_;(try clear hb);(try clear hb2);(try clear hk);(try clear hi)))
            repeat(go_quiet (first|(go_at_call 41;(with_reducible refine(spec_DrawHopFor.calls kj71 _ _ l1 t932 t933 t934 t935 t936 _ ?side1 ?side2 A106.out).mono ?_);(case side1=>repeat(first|exact(Kd.C_below HR1.out HB.out)|(with_reducible refine Kd.C_alloc ?_ _)|(with_reducible refine Kd.C_drewN ?_ _)|(with_reducible refine Kd.C_drew ?_)));(case side2=>exact HC1.out);rintro e w113 ⟨v937,rfl,ho0,hb⟩;have n0_:=Aside0.mk (Kd.R_lower ho0 (below_size (zb0 HB)));have n1_:=Aside0.mk (below_step (zb0 HB) hb);clear HB;have HO938:=n0_;have HB:=n1_;clear n0_ n1_;(try clear hb);(try clear hb2);(try clear hk);(try clear hi);(try clear ho0);obtain⟨Ao114,co114,eo114⟩:=Kd.R_slice HO938.out;subst eo114)|(go_at_call 29;(with_reducible refine(impl_HopFor.calls kj71 t932 _ _ t933 t934 t935 t936 t939 t940 _ ?side1 ?side2 A107.out).mono ?_);(case side1=>repeat(first|exact(Kd.R_reads' HO938.out).2.2|(with_reducible refine Kd.C_alloc ?_ _)|(with_reducible refine Kd.C_drewN ?_ _)|(with_reducible refine Kd.C_drew ?_)));(case side2=>exact(Kd.R_reads' HO938.out).2.1);rintro e w115 ⟨rfl,hb⟩;have n0_:=Aside0.mk (Kd.R_below (zq4 HO938) hb);have n1_:=Aside0.mk (below_step (zb0 HB) hb);clear HO938;clear HB;have HO938:=n0_;have HB:=n1_;clear n0_ n1_;(try clear hb);(try clear hb2);(try clear hk);(try clear hi))|(go_at_call 28;(with_reducible refine(spec_HopFor.calls kj71 t932 _ _ t933 t934 t935 t936 t941 t942 _ ?side1 ?side2 A108.out).mono ?_);(case side1=>repeat(first|exact(Kd.R_reads' HO938.out).2.2|(with_reducible refine Kd.C_alloc ?_ _)|(with_reducible refine Kd.C_drewN ?_ _)|(with_reducible refine Kd.C_drew ?_)));(case side2=>exact(Kd.R_reads' HO938.out).2.1);rintro e w116 ⟨rfl,hb⟩;have n0_:=Aside0.mk (Kd.R_below (zq4 HO938) hb);have n1_:=Aside0.mk (below_step (zb0 HB) hb);clear HO938;clear HB;have HO938:=n0_;have HB:=n1_;clear n0_ n1_;(try clear hb);(try clear hb2);(try clear hk);(try clear hi))|(go_at_call 42;(with_reducible refine(spec_DrawCostOf.calls kj71 _ _ l1 t943 t944 t945 _ ?side1 ?side2 A109.out).mono ?_);(case side1=>repeat(first|exact(Kd.C_below HR1.out HB.out)|(with_reducible refine Kd.C_alloc ?_ _)|(with_reducible refine Kd.C_drewN ?_ _)|(with_reducible refine Kd.C_drew ?_)));(case side2=>exact HC1.out);rintro e w117 ⟨v946,v948,rfl,ho0,ho1,hb⟩;have n0_:=Aside0.mk (Kd.R_elder' (zq4 HO938) (Kd.R_base ho0) hb);have n1_:=Aside0.mk (Kd.R_lower (Kd.R_new' ho0 (Kd.R_lt (zq4 HO938))) (below_size (zb0 HB)));have n2_:=Aside0.mk (Kd.R_lower ho1 (below_size (zb0 HB)));have n3_:=Aside0.mk (below_step (zb0 HB) hb);clear HO938;clear HB;have HO938:=n0_;have HO947:=n1_;have HO949:=n2_;have HB:=n3_;clear n0_ n1_ n2_ n3_;(try clear hb);(try clear hb2);(try clear hk);(try clear hi);(try clear ho0);(try clear ho1);obtain⟨Ao118,co118,eo118⟩:=Kd.R_slice HO947.out;subst eo118;obtain⟨Ao119,co119,eo119⟩:=Kd.R_slice HO949.out;subst eo119)|(go_at_call 16;(with_reducible refine(impl_CostOf.calls kj71 t943 _ _ t944 _ _ t945 t950 t951 _ ?side1 ?side2 ?side3 ?side4 A110.out).mono ?_);(case side1=>repeat(first|exact(Kd.R_reads' HO947.out).2.2|(with_reducible refine Kd.C_alloc ?_ _)|(with_reducible refine Kd.C_drewN ?_ _)|(with_reducible refine Kd.C_drew ?_)));(case side2=>exact(Kd.R_reads' HO947.out).2.1);(case side3=>repeat(first|exact(Kd.R_reads' HO949.out).2.2|(with_reducible refine Kd.C_alloc ?_ _)|(with_reducible refine Kd.C_drewN ?_ _)|(with_reducible refine Kd.C_drew ?_)));(case side4=>exact(Kd.R_reads' HO949.out).2.1);rintro e w120 ⟨rfl,hb⟩;have n0_:=Aside0.mk (Kd.R_below (zq4 HO938) hb);have n1_:=Aside0.mk (Kd.R_below (zq4 HO947) hb);have n2_:=Aside0.mk (Kd.R_below (zq4 HO949) hb);have n3_:=Aside0.mk (below_step (zb0 HB) hb);clear HO938;clear HO947;clear HO949;clear HB;have HO938:=n0_;have HO947:=n1_;have HO949:=n2_;have HB:=n3_;clear n0_ n1_ n2_ n3_;(try clear hb);(try clear hb2);(try clear hk);(try clear hi))|(go_at_call 13;(with_reducible refine(spec_CostOf.calls kj71 t943 _ _ t944 _ _ t945 t952 t953 _ ?side1 ?side2 ?side3 ?side4 A111.out).mono ?_);(case side1=>repeat(first|exact(Kd.R_reads' HO947.out).2.2|(with_reducible refine Kd.C_alloc ?_ _)|(with_reducible refine Kd.C_drewN ?_ _)|(with_reducible refine Kd.C_drew ?_)));(case side2=>exact(Kd.R_reads' HO947.out).2.1);(case side3=>repeat(first|exact(Kd.R_reads' HO949.out).2.2|(with_reducible refine Kd.C_alloc ?_ _)|(with_reducible refine Kd.C_drewN ?_ _)|(with_reducible refine Kd.C_drew ?_)));(case side4=>exact(Kd.R_reads' HO949.out).2.1);rintro e w121 ⟨rfl,hb⟩;have n0_:=Aside0.mk (Kd.R_below (zq4 HO938) hb);have n1_:=Aside0.mk (Kd.R_below (zq4 HO947) hb);have n2_:=Aside0.mk (Kd.R_below (zq4 HO949) hb);have n3_:=Aside0.mk (below_step (zb0 HB) hb);clear HO938;clear HO947;clear HO949;clear HB;have HO938:=n0_;have HO947:=n1_;have HO949:=n2_;have HB:=n3_;clear n0_ n1_ n2_ n3_;(try clear hb);(try clear hb2);(try clear hk);(try clear hi)));go_upto_region 33 with (first|(go_at_call 41;(with_reducible refine(spec_DrawHopFor.calls kj71 _ _ l1 t932 t933 t934 t935 t936 _ ?side1 ?side2 A106.out).mono ?_);(case side1=>repeat(first|exact(Kd.C_below HR1.out HB.out)|(with_reducible refine Kd.C_alloc ?_ _)|(with_reducible refine Kd.C_drewN ?_ _)|(with_reducible refine Kd.C_drew ?_)));(case side2=>exact HC1.out);rintro e w113 ⟨v937,rfl,ho0,hb⟩;have n0_:=Aside0.mk (Kd.R_lower ho0 (below_size (zb0 HB)));have n1_:=Aside0.mk (below_step (zb0 HB) hb);clear HB;have HO938:=n0_;have HB:=n1_;clear n0_ n1_;(try clear hb);(try clear hb2);(try clear hk);(try clear hi);(try clear ho0);obtain⟨Ao114,co114,eo114⟩:=Kd.R_slice HO938.out;subst eo114)|(go_at_call 29;(with_reducible refine(impl_HopFor.calls kj71 t932 _ _ t933 t934 t935 t936 t939 t940 _ ?side1 ?side2 A107.out).mono ?_);(case side1=>repeat(first|exact(Kd.R_reads' HO938.out).2.2|(with_reducible refine Kd.C_alloc ?_ _)|(with_reducible refine Kd.C_drewN ?_ _)|(with_reducible refine Kd.C_drew ?_)));(case side2=>exact(Kd.R_reads' HO938.out).2.1);rintro e w115 ⟨rfl,hb⟩;have n0_:=Aside0.mk (Kd.R_below (zq4 HO938) hb);have n1_:=Aside0.mk (below_step (zb0 HB) hb);clear HO938;clear HB;have HO938:=n0_;have HB:=n1_;clear n0_ n1_;(try clear hb);(try clear hb2);(try clear hk);(try clear hi))|(go_at_call 28;(with_reducible refine(spec_HopFor.calls kj71 t932 _ _ t933 t934 t935 t936 t941 t942 _ ?side1 ?side2 A108.out).mono ?_);(case side1=>repeat(first|exact(Kd.R_reads' HO938.out).2.2|(with_reducible refine Kd.C_alloc ?_ _)|(with_reducible refine Kd.C_drewN ?_ _)|(with_reducible refine Kd.C_drew ?_)));(case side2=>exact(Kd.R_reads' HO938.out).2.1);rintro e w116 ⟨rfl,hb⟩;have n0_:=Aside0.mk (Kd.R_below (zq4 HO938) hb);have n1_:=Aside0.mk (below_step (zb0 HB) hb);clear HO938;clear HB;have HO938:=n0_;have HB:=n1_;clear n0_ n1_;(try clear hb);(try clear hb2);(try clear hk);(try clear hi))|(go_at_call 42;(with_reducible refine(spec_DrawCostOf.calls kj71 _ _ l1 t943 t944 t945 _ ?side1 ?side2 A109.out).mono ?_);(case side1=>repeat(first|exact(Kd.C_below HR1.out HB.out)|(with_reducible refine Kd.C_alloc ?_ _)|(with_reducible refine Kd.C_drewN ?_ _)|(with_reducible refine Kd.C_drew ?_)));(case side2=>exact HC1.out);rintro e w117 ⟨v946,v948,rfl,ho0,ho1,hb⟩;have n0_:=Aside0.mk (Kd.R_elder' (zq4 HO938) (Kd.R_base ho0) hb);have n1_:=Aside0.mk (Kd.R_lower (Kd.R_new' ho0 (Kd.R_lt (zq4 HO938))) (below_size (zb0 HB)));have n2_:=Aside0.mk (Kd.R_lower ho1 (below_size (zb0 HB)));have n3_:=Aside0.mk (below_step (zb0 HB) hb);clear HO938;clear HB;have HO938:=n0_;have HO947:=n1_;have HO949:=n2_;have HB:=n3_;clear n0_ n1_ n2_ n3_;(try clear hb);(try clear hb2);(try clear hk);(try clear hi);(try clear ho0);(try clear ho1);obtain⟨Ao118,co118,eo118⟩:=Kd.R_slice HO947.out;subst eo118;obtain⟨Ao119,co119,eo119⟩:=Kd.R_slice HO949.out;subst eo119)|(go_at_call 16;(with_reducible refine(impl_CostOf.calls kj71 t943 _ _ t944 _ _ t945 t950 t951 _ ?side1 ?side2 ?side3 ?side4 A110.out).mono ?_);(case side1=>repeat(first|exact(Kd.R_reads' HO947.out).2.2|(with_reducible refine Kd.C_alloc ?_ _)|(with_reducible refine Kd.C_drewN ?_ _)|(with_reducible refine Kd.C_drew ?_)));(case side2=>exact(Kd.R_reads' HO947.out).2.1);(case side3=>repeat(first|exact(Kd.R_reads' HO949.out).2.2|(with_reducible refine Kd.C_alloc ?_ _)|(with_reducible refine Kd.C_drewN ?_ _)|(with_reducible refine Kd.C_drew ?_)));(case side4=>exact(Kd.R_reads' HO949.out).2.1);rintro e w120 ⟨rfl,hb⟩;have n0_:=Aside0.mk (Kd.R_below (zq4 HO938) hb);have n1_:=Aside0.mk (Kd.R_below (zq4 HO947) hb);have n2_:=Aside0.mk (Kd.R_below (zq4 HO949) hb);have n3_:=Aside0.mk (below_step (zb0 HB) hb);clear HO938;clear HO947;clear HO949;clear HB;have HO938:=n0_;have HO947:=n1_;have HO949:=n2_;have HB:=n3_;clear n0_ n1_ n2_ n3_;(try clear hb);(try clear hb2);(try clear hk);(try clear hi))|(go_at_call 13;(with_reducible refine(spec_CostOf.calls kj71 t943 _ _ t944 _ _ t945 t952 t953 _ ?side1 ?side2 ?side3 ?side4 A111.out).mono ?_);(case side1=>repeat(first|exact(Kd.R_reads' HO947.out).2.2|(with_reducible refine Kd.C_alloc ?_ _)|(with_reducible refine Kd.C_drewN ?_ _)|(with_reducible refine Kd.C_drew ?_)));(case side2=>exact(Kd.R_reads' HO947.out).2.1);(case side3=>repeat(first|exact(Kd.R_reads' HO949.out).2.2|(with_reducible refine Kd.C_alloc ?_ _)|(with_reducible refine Kd.C_drewN ?_ _)|(with_reducible refine Kd.C_drew ?_)));(case side4=>exact(Kd.R_reads' HO949.out).2.1);rintro e w121 ⟨rfl,hb⟩;have n0_:=Aside0.mk (Kd.R_below (zq4 HO938) hb);have n1_:=Aside0.mk (Kd.R_below (zq4 HO947) hb);have n2_:=Aside0.mk (Kd.R_below (zq4 HO949) hb);have n3_:=Aside0.mk (below_step (zb0 HB) hb);clear HO938;clear HO947;clear HO949;clear HB;have HO938:=n0_;have HO947:=n1_;have HO949:=n2_;have HB:=n3_;clear n0_ n1_ n2_ n3_;(try clear hb);(try clear hb2);(try clear hk);(try clear hi))))
            (try simp only [Act.put,List.setIfInBounds_toArray,List.set_cons_zero,List.set_cons_succ])
            go_cut [285] (fun v285 wc=> ∃ (kq:Nat) (x285_111:Bool),v285= .bool x285_111∧Aside0 (laws_FnHops.j5 kq t932 t933 t934 t935 t939 t940 x285_111=some r)∧Aside0 (kq≤kj71)∧Aside0 (Kd.R k67 67 wc w.heap.size (fun _=>True) (.slice Ao114 t933.length co114) t933)∧Aside0 (Below w.heap.size w wc))
            case first=>
             have H:=HC112.out
             clear HC112
             by_cases c122:(t940 !=t942)=true
             ·rw [if_pos c122] at H
              have c122b0:(t940 !=t942)=true:=c122
              (try(have c122b1:decide (t940=t942)=false:=by simpa using c122))
              (try(have c122b2:(t940==t942)=false:=by simpa using c122))
              (try(have c122b3:¬ (t940=t942):=by simpa using c122))
              clear c122
              (first|rw [c122b0]|(simp only [i64_w,i32_w];rw [c122b0])|skip)
              as_aux_lemma=>
               have H':=Aside0.mk H
               clear H
               go_wp2
               repeat(go_quiet (fail);try go_wp2)
               go_meet
               case rel=>exact⟨_,(true),(by first|rfl|(simp;done)|(simp [*];done)),H',⟨by have:=HJ6.out;have:=HJ17.out;have:=HJ61.out;have:=HJ71.out;first|omega|exact Nat.le_refl _⟩,⟨by(with_reducible repeat(first|apply Kd.R_alloc|apply Kd.R_drewN|apply Kd.R_drew));exact Kd.R_mono HO938.out (fun _ hk=>trivial)⟩,⟨by repeat(first|(with_reducible first|exact HB.out|apply below_alloc|apply pw_below_drewN|apply below_drew1)|exact HB.out)⟩⟩
             ·rw [if_neg c122] at H
              have c122b0:(t940 !=t942)=false:=by simpa using c122
              (try(have c122b1:decide (t940=t942)=true:=by simpa using c122))
              (try(have c122b2:(t940==t942)=true:=by simpa using c122))
              clear c122
              (first|rw [c122b0]|(simp only [i64_w,i32_w];rw [c122b0])|skip)
              by_cases c123:t939=t941
              ·rw [if_pos c123] at H
               have c123b0:(t939==t941)=true:=beq_iff_eq.mpr c123
               have c123b1:(t939 !=t941)=false:=bne_eq_false_iff_eq.mpr c123
               clear c123
               by_cases c124:(t951 !=t953)=true
               ·rw [if_pos c124] at H
                have c124b0:(t951 !=t953)=true:=c124
                (try(have c124b1:decide (t951=t953)=false:=by simpa using c124))
                (try(have c124b2:(t951==t953)=false:=by simpa using c124))
                (try(have c124b3:¬ (t951=t953):=by simpa using c124))
                clear c124
                as_aux_lemma=>
                 have H':=Aside0.mk H
                 clear H
                 go_wp2
                 repeat(go_quiet (fail);try go_wp2)
                 go_meet
                 case rel=>exact⟨_,(true),(by first|rfl|(simp;done)|(simp [*];done)),H',⟨by have:=HJ6.out;have:=HJ17.out;have:=HJ61.out;have:=HJ71.out;first|omega|exact Nat.le_refl _⟩,⟨by(with_reducible repeat(first|apply Kd.R_alloc|apply Kd.R_drewN|apply Kd.R_drew));exact Kd.R_mono HO938.out (fun _ hk=>trivial)⟩,⟨by repeat(first|(with_reducible first|exact HB.out|apply below_alloc|apply pw_below_drewN|apply below_drew1)|exact HB.out)⟩⟩
               ·rw [if_neg c124] at H
                have c124b0:(t951 !=t953)=false:=by simpa using c124
                (try(have c124b1:decide (t951=t953)=true:=by simpa using c124))
                (try(have c124b2:(t951==t953)=true:=by simpa using c124))
                clear c124
                as_aux_lemma=>
                 have H':=Aside0.mk H
                 clear H
                 go_wp2
                 repeat(go_quiet (fail);try go_wp2)
                 go_meet
                 case rel=>exact⟨_,((t950 !=t952)),(by first|rfl|(simp;done)|(simp [*];done)),H',⟨by have:=HJ6.out;have:=HJ17.out;have:=HJ61.out;have:=HJ71.out;first|omega|exact Nat.le_refl _⟩,⟨by(with_reducible repeat(first|apply Kd.R_alloc|apply Kd.R_drewN|apply Kd.R_drew));exact Kd.R_mono HO938.out (fun _ hk=>trivial)⟩,⟨by repeat(first|(with_reducible first|exact HB.out|apply below_alloc|apply pw_below_drewN|apply below_drew1)|exact HB.out)⟩⟩
              ·rw [if_neg c123] at H
               have c123b0:(t939==t941)=false:=beq_eq_false_iff_ne.mpr c123
               have c123b1:(t939 !=t941)=true:=bne_iff_ne.mpr c123
               as_aux_lemma=>
                have H':=Aside0.mk H
                clear H
                go_wp2
                repeat(go_quiet (fail);try go_wp2)
                go_meet
                case rel=>exact⟨_,(true),(by first|rfl|(simp;done)|(simp [*];done)),H',⟨by have:=HJ6.out;have:=HJ17.out;have:=HJ61.out;have:=HJ71.out;first|omega|exact Nat.le_refl _⟩,⟨by(with_reducible repeat(first|apply Kd.R_alloc|apply Kd.R_drewN|apply Kd.R_drew));exact Kd.R_mono HO938.out (fun _ hk=>trivial)⟩,⟨by repeat(first|(with_reducible first|exact HB.out|apply below_alloc|apply pw_below_drewN|apply below_drew1)|exact HB.out)⟩⟩
            case rest=>
             clear HC112
             try clear c1
             try clear c2
             try clear p2
             try clear c3
             try clear c3b0
             try clear c6
             try clear p6
             try clear c7
             try clear c8
             try clear p9
             try clear q9
             try clear hx9
             try clear qi9
             try clear c11
             try clear c12
             try clear c12b0
             try clear c12b1
             try clear c12b2
             try clear c13
             try clear c13b0
             try clear c13b1
             try clear c17
             try clear c19
             try clear c22
             try clear c23
             try clear c23b0
             try clear c23b1
             try clear c24
             try clear c25
             try clear c25b0
             try clear c26
             try clear c26b0
             try clear c27
             try clear c27b0
             try clear c27b1
             try clear c28
             try clear c28b0
             try clear c28b1
             try clear c29
             try clear c29b0
             try clear c29b1
             try clear c31
             try clear c31b0
             try clear c32
             try clear c32b0
             try clear c33
             try clear c33b0
             try clear c33b1
             try clear p64
             try clear c67
             try clear c67b0
             try clear c67b1
             try clear c67b2
             try clear c71
             try clear c73
             try clear c77
             try clear c77b0
             try clear c78
             try clear c78b0
             try clear c79
             try clear c79b0
             try clear c81
             try clear c82
             try clear c83
             try clear c83b0
             try clear c84
             try clear c84b0
             try clear c85
             try clear c85b0
             try clear c86
             try clear c86b0
             try clear c87
             try clear c87b0
             try clear c87b1
             try clear p90
             try clear q90
             try clear hx90
             try clear qi90
             try clear p92
             try clear q92
             try clear hx92
             try clear p93
             try clear q93
             try clear hx93
             try clear c122
             try clear c122b0
             try clear c122b1
             try clear c122b2
             try clear c123
             try clear c123b0
             try clear c123b1
             try clear c124
             try clear c124b0
             try clear c124b1
             try clear c124b2
             try clear hx902_0
             try clear hx903_0
             try clear hx904_0
             try clear hx924_0
             try clear hx930_0
             try clear hx931_0
             try clear p2
             try clear p6
             try clear p64
             try clear p9
             try clear p90
             try clear p902
             try clear p903
             try clear p904
             try clear p92
             try clear p924
             try clear p93
             try clear p930
             try clear p931
             try clear q9
             try clear q90
             try clear q902
             try clear q903
             try clear q904
             try clear q92
             try clear q924
             try clear q93
             try clear q930
             try clear q931
             obtain⟨kq,x285_111,rfl,HA,HJ111,HO_34,HB⟩:=hcut
             cases kq with
             |zero=>exact absurd HA.out (by simp [laws_FnHops.j5])
             |succ kj111=>
              have H:=HA.out
              clear HA
              simp only [laws_FnHops.j5] at H
              by_cases c125:x285_111=true
              ·subst c125
               have H1:(some false)=some r:=by rw [if_pos rfl] at H;exact H
               clear H
               have H:=H1
               clear H1
               as_aux_lemma=>
                obtain rfl:=Option.some.inj H
                go_wp2
                repeat(go_quiet (fail);try go_wp2)
                go_ret
                exact⟨by first|rfl|(simp [errW_none,errW_some]<;>rfl)|(simp [*,errW_none,errW_some]<;>rfl),by repeat(first|(with_reducible first|exact HB.out|apply below_alloc|apply pw_below_drewN|apply below_drew1)|exact HB.out)⟩
              ·replace c125:=Bool.eq_false_iff.mpr c125
               subst c125
               have H1:(if t940=true then((impl_FirstHops.f kj111 t932 t933 t934 t935).bind fun bt954=>(if bt954.2=true then((laws_has.f kj111 bt954.1 t939).bind fun t958=>(some t958)) else(some false))) else(some true))=some r:=by rw [if_neg (show ¬ (false=true) by decide)] at H;exact H
               clear H
               have H:=H1
               clear H1
               by_cases c126:t940=true
               ·subst c126
                have H1:((impl_FirstHops.f kj111 t932 t933 t934 t935).bind fun bt954=>(if bt954.2=true then((laws_has.f kj111 bt954.1 t939).bind fun t958=>(some t958)) else(some false)))=some r:=by rw [if_pos rfl] at H;exact H
                clear H
                have H:=H1
                clear H1
                replace H:=Option.bind_eq_some_iff.mp H
                obtain⟨⟨t954,t955⟩,A1270,H⟩:=H
                replace H:(if t955=true then((laws_has.f kj111 t954 t939).bind fun t958=>(some t958)) else(some false))=some r:=H
                have A127:=Aside0.mk A1270
                clear A1270
                by_cases c128:t955=true
                ·subst c128
                 have H1:((laws_has.f kj111 t954 t939).bind fun t958=>(some t958))=some r:=by rw [if_pos rfl] at H;exact H
                 clear H
                 have H:=H1
                 clear H1
                 replace H:=Option.bind_eq_some_iff.mp H
                 obtain⟨t958,A1290,H⟩:=H
                 replace H:(some t958)=some r:=H
                 have A129:=Aside0.mk A1290
                 clear A1290
                 as_aux_lemma=>
                  obtain rfl:=Option.some.inj H
                  go_wp2_with (first|(go_at_call 31;(with_reducible refine(impl_FirstHops.calls kj111 t932 _ _ t933 t934 t935 t954 true _ ?side1 ?side2 A127.out).mono ?_);(case side1=>repeat(first|exact(Kd.R_reads' HO_34.out).2.2|(with_reducible refine Kd.C_alloc ?_ _)|(with_reducible refine Kd.C_drewN ?_ _)|(with_reducible refine Kd.C_drew ?_)));(case side2=>exact(Kd.R_reads' HO_34.out).2.1);rintro e w130 ⟨v956,rfl,ho0,hb⟩;have n0_:=Aside0.mk (Kd.R_below (zq4 HO_34) hb);have n1_:=Aside0.mk (Kd.R_lower ho0 (below_size (zb0 HB)));have n2_:=Aside0.mk (below_step (zb0 HB) hb);clear HO_34;clear HB;have HO_34:=n0_;have HO957:=n1_;have HB:=n2_;clear n0_ n1_ n2_;(try clear hb);(try clear hb2);(try clear hk);(try clear hi);(try clear ho0);obtain⟨Ao131,co131,eo131⟩:=Kd.R_slice HO957.out;subst eo131)|(go_at_call 43;(with_reducible refine(laws_has.calls kj111 _ _ t954 t939 t958 _ ?side1 ?side2 A129.out).mono ?_);(case side1=>repeat(first|exact(Kd.R_reads' HO957.out).2.2|(with_reducible refine Kd.C_alloc ?_ _)|(with_reducible refine Kd.C_drewN ?_ _)|(with_reducible refine Kd.C_drew ?_)));(case side2=>exact(Kd.R_reads' HO957.out).2.1);rintro e w' ⟨rfl,⟨nd,rfl⟩⟩;(try first|exact⟨rfl,_,World.drewN_drewN _ _ _⟩|exact⟨rfl,_,Eq.trans (World.drewN_drewN _ _ _) (congrArg (World.drewN _) (Nat.add_assoc _ _ _))⟩)))
                  repeat(go_quiet (first|(go_at_call 31;(with_reducible refine(impl_FirstHops.calls kj111 t932 _ _ t933 t934 t935 t954 true _ ?side1 ?side2 A127.out).mono ?_);(case side1=>repeat(first|exact(Kd.R_reads' HO_34.out).2.2|(with_reducible refine Kd.C_alloc ?_ _)|(with_reducible refine Kd.C_drewN ?_ _)|(with_reducible refine Kd.C_drew ?_)));(case side2=>exact(Kd.R_reads' HO_34.out).2.1);rintro e w130 ⟨v956,rfl,ho0,hb⟩;have n0_:=Aside0.mk (Kd.R_below (zq4 HO_34) hb);have n1_:=Aside0.mk (Kd.R_lower ho0 (below_size (zb0 HB)));have n2_:=Aside0.mk (below_step (zb0 HB) hb);clear HO_34;clear HB;have HO_34:=n0_;have HO957:=n1_;have HB:=n2_;clear n0_ n1_ n2_;(try clear hb);(try clear hb2);(try clear hk);(try clear hi);(try clear ho0);obtain⟨Ao131,co131,eo131⟩:=Kd.R_slice HO957.out;subst eo131)|(go_at_call 43;(with_reducible refine(laws_has.calls kj111 _ _ t954 t939 t958 _ ?side1 ?side2 A129.out).mono ?_);(case side1=>repeat(first|exact(Kd.R_reads' HO957.out).2.2|(with_reducible refine Kd.C_alloc ?_ _)|(with_reducible refine Kd.C_drewN ?_ _)|(with_reducible refine Kd.C_drew ?_)));(case side2=>exact(Kd.R_reads' HO957.out).2.1);rintro e w' ⟨rfl,⟨nd,rfl⟩⟩;(try first|exact⟨rfl,_,World.drewN_drewN _ _ _⟩|exact⟨rfl,_,Eq.trans (World.drewN_drewN _ _ _) (congrArg (World.drewN _) (Nat.add_assoc _ _ _))⟩)));try go_wp2_with (first|(go_at_call 31;(with_reducible refine(impl_FirstHops.calls kj111 t932 _ _ t933 t934 t935 t954 true _ ?side1 ?side2 A127.out).mono ?_);(case side1=>repeat(first|exact(Kd.R_reads' HO_34.out).2.2|(with_reducible refine Kd.C_alloc ?_ _)|(with_reducible refine Kd.C_drewN ?_ _)|(with_reducible refine Kd.C_drew ?_)));(case side2=>exact(Kd.R_reads' HO_34.out).2.1);rintro e w130 ⟨v956,rfl,ho0,hb⟩;have n0_:=Aside0.mk (Kd.R_below (zq4 HO_34) hb);have n1_:=Aside0.mk (Kd.R_lower ho0 (below_size (zb0 HB)));have n2_:=Aside0.mk (below_step (zb0 HB) hb);clear HO_34;clear HB;have HO_34:=n0_;have HO957:=n1_;have HB:=n2_;clear n0_ n1_ n2_;(try clear hb);(try clear hb2);(try clear hk);(try clear hi);(try clear ho0);obtain⟨Ao131,co131,eo131⟩:=Kd.R_slice HO957.out;subst eo131)|(go_at_call 43;(with_reducible refine(laws_has.calls kj111 _ _ t954 t939 t958 _ ?side1 ?side2 A129.out).mono ?_);(case side1=>repeat(first|exact(Kd.R_reads' HO957.out).2.2|(with_reducible refine Kd.C_alloc ?_ _)|(with_reducible refine Kd.C_drewN ?_ _)|(with_reducible refine Kd.C_drew ?_)));(case side2=>exact(Kd.R_reads' HO957.out).2.1);rintro e w' ⟨rfl,⟨nd,rfl⟩⟩;(try first|exact⟨rfl,_,World.drewN_drewN _ _ _⟩|exact⟨rfl,_,Eq.trans (World.drewN_drewN _ _ _) (congrArg (World.drewN _) (Nat.add_assoc _ _ _))⟩))))
                  go_ret
                  exact⟨by first|rfl|(simp [errW_none,errW_some]<;>rfl)|(simp [*,errW_none,errW_some]<;>rfl),by repeat(first|(with_reducible first|exact HB.out|apply below_alloc|apply pw_below_drewN|apply below_drew1)|exact HB.out)⟩
                ·replace c128:=Bool.eq_false_iff.mpr c128
                 subst c128
                 have H1:(some false)=some r:=by rw [if_neg (show ¬ (false=true) by decide)] at H;exact H
                 clear H
                 have H:=H1
                 clear H1
                 as_aux_lemma=>
                  obtain rfl:=Option.some.inj H
                  go_wp2_with (first|(go_at_call 31;(with_reducible refine(impl_FirstHops.calls kj111 t932 _ _ t933 t934 t935 t954 false _ ?side1 ?side2 A127.out).mono ?_);(case side1=>repeat(first|exact(Kd.R_reads' HO_34.out).2.2|(with_reducible refine Kd.C_alloc ?_ _)|(with_reducible refine Kd.C_drewN ?_ _)|(with_reducible refine Kd.C_drew ?_)));(case side2=>exact(Kd.R_reads' HO_34.out).2.1);rintro e w132 ⟨v956,rfl,ho0,hb⟩;have n0_:=Aside0.mk (Kd.R_below (zq4 HO_34) hb);have n1_:=Aside0.mk (Kd.R_lower ho0 (below_size (zb0 HB)));have n2_:=Aside0.mk (below_step (zb0 HB) hb);clear HO_34;clear HB;have HO_34:=n0_;have HO957:=n1_;have HB:=n2_;clear n0_ n1_ n2_;(try clear hb);(try clear hb2);(try clear hk);(try clear hi);(try clear ho0)))
                  repeat(go_quiet (first|(go_at_call 31;(with_reducible refine(impl_FirstHops.calls kj111 t932 _ _ t933 t934 t935 t954 false _ ?side1 ?side2 A127.out).mono ?_);(case side1=>repeat(first|exact(Kd.R_reads' HO_34.out).2.2|(with_reducible refine Kd.C_alloc ?_ _)|(with_reducible refine Kd.C_drewN ?_ _)|(with_reducible refine Kd.C_drew ?_)));(case side2=>exact(Kd.R_reads' HO_34.out).2.1);rintro e w132 ⟨v956,rfl,ho0,hb⟩;have n0_:=Aside0.mk (Kd.R_below (zq4 HO_34) hb);have n1_:=Aside0.mk (Kd.R_lower ho0 (below_size (zb0 HB)));have n2_:=Aside0.mk (below_step (zb0 HB) hb);clear HO_34;clear HB;have HO_34:=n0_;have HO957:=n1_;have HB:=n2_;clear n0_ n1_ n2_;(try clear hb);(try clear hb2);(try clear hk);(try clear hi);(try clear ho0)));try go_wp2_with (first|(go_at_call 31;(with_reducible refine(impl_FirstHops.calls kj111 t932 _ _ t933 t934 t935 t954 false _ ?side1 ?side2 A127.out).mono ?_);(case side1=>repeat(first|exact(Kd.R_reads' HO_34.out).2.2|(with_reducible refine Kd.C_alloc ?_ _)|(with_reducible refine Kd.C_drewN ?_ _)|(with_reducible refine Kd.C_drew ?_)));(case side2=>exact(Kd.R_reads' HO_34.out).2.1);rintro e w132 ⟨v956,rfl,ho0,hb⟩;have n0_:=Aside0.mk (Kd.R_below (zq4 HO_34) hb);have n1_:=Aside0.mk (Kd.R_lower ho0 (below_size (zb0 HB)));have n2_:=Aside0.mk (below_step (zb0 HB) hb);clear HO_34;clear HB;have HO_34:=n0_;have HO957:=n1_;have HB:=n2_;clear n0_ n1_ n2_;(try clear hb);(try clear hb2);(try clear hk);(try clear hi);(try clear ho0))))
                  go_ret
                  exact⟨by first|rfl|(simp [errW_none,errW_some]<;>rfl)|(simp [*,errW_none,errW_some]<;>rfl),by repeat(first|(with_reducible first|exact HB.out|apply below_alloc|apply pw_below_drewN|apply below_drew1)|exact HB.out)⟩
               ·replace c126:=Bool.eq_false_iff.mpr c126
                subst c126
                have H1:(some true)=some r:=by rw [if_neg (show ¬ (false=true) by decide)] at H;exact H
                clear H
                have H:=H1
                clear H1
                as_aux_lemma=>
                 obtain rfl:=Option.some.inj H
                 go_wp2
                 repeat(go_quiet (fail);try go_wp2)
                 go_ret
                 exact⟨by first|rfl|(simp [errW_none,errW_some]<;>rfl)|(simp [*,errW_none,errW_some]<;>rfl),by repeat(first|(with_reducible first|exact HB.out|apply below_alloc|apply pw_below_drewN|apply below_drew1)|exact HB.out)⟩
/-- THE ONE PURE STATEMENT of laws_FnHops: yours. -/
def laws_FnHops.Pure:Prop:= ∀ (l0:List Int) (l1:List Int),l0.length≤maxLen→l0.length * 1≤140737488351232→ (∀ x ∈ l0,(Lit.int .u8 x).wf=true)→l1.length≤maxLen→l1.length * 1≤140737488351232→ (∀ x ∈ l1,(Lit.int .u8 x).wf=true)→ ∃ k,laws_FnHops.f k l0 l1=some true
theorem laws_FnHops.walk (P:laws_FnHops.Pure) (a0:Option Addr) (len0 cap0:Nat) (z0:List Int) (a1:Option Addr) (len1 cap1:Nat) (z1:List Int) (w:World) (w0:(a0=none∧len0=0∧cap0=0∧z0= [])∨ ∃ x,a0=some x∧len0≤cap0∧cap0≤maxLen∧z0.length=cap0∧ (∀ i,i<z0.length→w.cell? (x.add i)=some (.int .u8 (z0.getD i 0)))∧ ∀ n ∈ z0,(Lit.int .u8 n).wf=true) (y0:len0 * 1≤140737488351232) (w1:(a1=none∧len1=0∧cap1=0∧z1= [])∨ ∃ x,a1=some x∧len1≤cap1∧cap1≤maxLen∧z1.length=cap1∧ (∀ i,i<z1.length→w.cell? (x.add i)=some (.int .u8 (z1.getD i 0)))∧ ∀ n ∈ z1,(Lit.int .u8 n).wf=true) (y1:len1 * 1≤140737488351232):
  Calls Try.prog 11 #[.slice a0 len0 cap0,.slice a1 len1 cap1] w fun e w'=>e= .returned (.bool true)∧Below w.heap.size w w':=by
 obtain⟨l0,rfl,hr0,hm0,hw0,hc0⟩:=ReadsInt.ofRowC w0
 obtain⟨l1,rfl,hr1,hm1,hw1,hc1⟩:=ReadsInt.ofRowC w1
 obtain⟨k,h⟩:=P l0 l1 hm0 y0 hw0 hm1 y1 hw1
 refine(laws_FnHops.calls k _ _ l0 _ _ l1 true w (Kd.C_of_reads (d:=(0:Int)) (h1:=fun _=>rfl) hr0) hc0 (Kd.C_of_reads (d:=(0:Int)) (h1:=fun _=>rfl) hr1) hc1 h).mono ?_
 rintro e w' ⟨rfl,hd⟩
 exact⟨rfl,hd⟩
end Go.Proofs.Ytklecgkjoofipaa.P

namespace Go.Proofs.Ytklecgkjoofipaa.P
open Go.RowKit Go.Proofs.YtklecgkjoofipaaW.PrintWords
set_option linter.unusedVariables false
set_option linter.unusedSimpArgs false
theorem wrap_id {x : Int} (h0 : -9223372036854775808 ≤ x) (h1 : x ≤ 9223372036854775807) : wrap64 x = x := by unfold wrap64; omega
theorem Ev.succ {α : Type} {g : Nat → Option α} {r : α} (h : Ev (fun k => g (k + 1)) r) : Ev g r := Ev.step (fun _ => rfl) h
theorem Ev.some_ {α : Type} {r s : α} (h : r = s) : Ev (fun _ => some r) s := h ▸ Ev.now r
theorem getD_mid {α : Type} (d : α) (pre : List α) (x : α) (suf : List α) : (pre ++ x :: suf).getD ((pre.length : Int)).toNat d = x := by simp
theorem set_mid {α : Type} (pre : List α) (x y : α) (suf : List α) : (pre ++ x :: suf).set ((pre.length : Int)).toNat y = pre ++ y :: suf := by simp
theorem app_one {α : Type} (pre : List α) (x : α) (suf : List α) : pre ++ x :: suf = (pre ++ [x]) ++ suf := by simp
theorem len_mid {α : Type} (pre : List α) (x : α) (suf : List α) : ((pre ++ x :: suf).length : Int) = pre.length + suf.length + 1 := by simp; omega
theorem len_one {α : Type} (pre : List α) (x : α) : ((pre ++ [x]).length : Int) = pre.length + 1 := by simp
theorem nil_or_snoc {α : Type} (l : List α) : l = [] ∨ ∃ p y, l = p ++ [y] := by
 rcases List.eq_nil_or_concat l with rfl | ⟨p, y, rfl⟩
 ·exact .inl rfl
 ·exact .inr ⟨p, y, by simp⟩
end Go.Proofs.Ytklecgkjoofipaa.P

namespace Go.Proofs.Ytklecgkjoofipaa.P
open Go.RowKit Go.Proofs.YtklecgkjoofipaaW.PrintWords Go.Proofs.YtklecgkjoofipaaW.PrintLast
set_option linter.unusedVariables false
set_option linter.unusedSimpArgs false
theorem rdEdge_mid (pre : List S67) (x : S67) (suf : List S67) : rd_T67 (pre ++ x :: suf) (pre.length : Int) = x := getD_mid _ pre x suf
end Go.Proofs.Ytklecgkjoofipaa.P

namespace Go.Proofs.Ytklecgkjoofipaa.P
open Go.RowKit Go.Proofs.YtklecgkjoofipaaW.PrintWords Go.Proofs.YtklecgkjoofipaaW.PrintLast
set_option linter.unusedVariables false
set_option linter.unusedSimpArgs false
theorem rd_mid (pre : List Int) (x : Int) (suf : List Int) : rd (pre ++ x :: suf) (pre.length : Int) = x := getD_mid _ pre x suf
end Go.Proofs.Ytklecgkjoofipaa.P

namespace Go.Proofs.Ytklecgkjoofipaa.P
open Go.RowKit Go.Proofs.YtklecgkjoofipaaW.PrintWords Go.Proofs.YtklecgkjoofipaaW.PrintLast
set_option linter.unusedVariables false
set_option linter.unusedSimpArgs false
-- sweeps over a list of numbers, and a list taken over, both sides
theorem specIn (a b c : Int) : spec_l1In.f a b c = some (decide (b ≤ a ∧ a ≤ c)) := by
 unfold spec_l1In.f
 by_cases h : a ≥ b
 ·rw [if_pos h]
  congr 1
  by_cases h2 : a ≤ c
  ·rw [decide_eq_true h2, decide_eq_true ⟨h, h2⟩]
  ·rw [decide_eq_false h2, decide_eq_false (fun hc => h2 hc.2)]
 ·rw [if_neg h, decide_eq_false (fun hc => h hc.1)]
theorem implIn (a b c : Int) : impl_in.f a b c = some (decide (b ≤ a ∧ a ≤ c)) := specIn a b c
def allIn (a b : Int) (l : List Int) : Bool := l.all fun x => decide (a ≤ x ∧ x ≤ b)
theorem implAll_l (a b : Int) (suf : List Int) : ∀ (pre : List Int), ((pre ++ suf).length : Int) ≤ 1099511627776 → Ev (fun k => impl_allIn.l0 k a b (pre ++ suf) ((pre ++ suf).length : Int) pre.length) (allIn a b suf) := by
 induction suf with
 | nil =>
  intro pre h
  refine Ev.succ ?_
  simp only [impl_allIn.l0, List.append_nil, Int.lt_irrefl, if_false]
  exact Ev.now _
 | cons x suf ih =>
  intro pre h
  refine Ev.succ ?_
  rw [len_mid] at h ⊢
  simp only [impl_allIn.l0]
  simp only [if_pos (show ((pre.length : Int) < pre.length + suf.length + 1) by omega), if_pos (show (0 : Int) ≤ pre.length by omega), len_mid, rd_mid, implIn, Option.bind_some, wrap_id (show (-9223372036854775808 : Int) ≤ pre.length + 1 by omega) (show ((pre.length : Int) + 1 ≤ 9223372036854775807) by omega)]
  by_cases hx : a ≤ x ∧ x ≤ b
  ·have := ih (pre ++ [x]) (by rw [← app_one, len_mid]; exact h)
   rw [← app_one, len_mid, len_one] at this
   simp only [hx, and_self, decide_true, if_true]
   rw [show allIn a b (x :: suf) = allIn a b suf by simp [allIn, hx]]
   exact this
  ·simp only [decide_eq_true_eq, if_neg hx]
   rw [show allIn a b (x :: suf) = false by simp [allIn]; intro h1 h2; exact absurd ⟨h1, h2⟩ hx]
   exact Ev.now _
theorem implAll_ev (a b : Int) (l : List Int) (h : (l.length : Int) ≤ 1099511627776) : Ev (fun k => impl_allIn.f k l a b) (allIn a b l) := by
 have := implAll_l a b l [] h
 exact this
end Go.Proofs.Ytklecgkjoofipaa.P
