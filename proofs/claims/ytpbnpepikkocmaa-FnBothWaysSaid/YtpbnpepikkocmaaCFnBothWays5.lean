/- Functions, walks and plain lemmas that the law FnBothWays reaches, part 5. -/
import Derived.Test.YtpbnpepikkocmaaCFnBothWays4
import Derived.Below
import Derived.Deep.Draws
import Derived.Deep.AppendLies
import Derived.Maps.AppendAt
import Derived.OwnWalk
import Derived.Laws.BytesArg
import Derived.Laws.MakeOwn
import Derived.Laws.OwnMore
import Derived.Deep.OwnRows
import Derived.Tactics
import Derived.Lib.ConvBytes
import Derived.Laws.Slices
import Derived.WalkKit
import Derived.KernelRfl
import Derived.RowKit3
import Derived.Deep.LoopGhost
import Derived.Deep.QuietTactic
import Derived.BigQuiet
import Derived.WideLaws
import Derived.Deep.DeepCutAuto
import Derived.Deep.CutBlock
import Derived.Deep.RegionHeld3
import Derived.Laws.Rows
import Derived.Lib.AppendStr
import Derived.ArgAppend
import Derived.Laws.IdiomCopy
import Derived.OrdersHeld
import Derived.Laws.BitsLemmas
import Derived.RowKit
import Derived.WalkSpells
import Derived.Lib.SliceRun
import Derived.Shelf.Abstract
import Derived.ProofKit
import Derived.OpenShut
import Derived.ShutString
import Derived.ChangeOld
import Derived.SizedLaws
namespace Go.Proofs.Ytpbnpepikkocmaa.P
open Go.RowKit Go.Proofs.YtpbnpepikkocmaaW.PrintWords Go.Proofs.YtpbnpepikkocmaaW.PrintLast Go.Proofs.YtpbnpepikkocmaaW.PrintMore
attribute [local go_sem] max2_int min2_int max_two min_two max_three min_three max_four min_four   -- for this text's walks alone
set_option linter.unusedVariables false
set_option linter.unusedSimpArgs false
mutual
def laws_FnBothWays.j0:Nat→List Int→Int→List (S57)→List (S52)→Bool→Bool→Option (Bool)
 | 0,_,_,_,_,_,_=>none
 |k+1,x1,x5,x6,x7,x8,x66=>if x66=true then(some false) else(if x8=true then((impl_GoodEdges.f k x5 x7).bind fun t738=>(if t738=true then(laws_FnBothWays.l0 k x1 x6 x7 (x7.length:Int) 0) else(some false))) else(laws_FnBothWays.j4 k x1))
def laws_FnBothWays.j4:Nat→List Int→Option (Bool)
 | 0,_=>none
 |k+1,x1=>(spec_DrawNearOf.f k x1).bind fun bt743=>((impl_NearOf.f k bt743.1 bt743.2.1 bt743.2.2).bind fun bt748=>((spec_NearOf.f k bt743.1 bt743.2.1 bt743.2.2).bind fun bt752=>((spec_DrawWithoutEdge.f k x1).bind fun bt756=>((impl_WithoutEdge.f k bt756.1 bt756.2.1 bt756.2.2).bind fun bt761=>((spec_WithoutEdge.f k bt756.1 bt756.2.1 bt756.2.2).bind fun bt765=>(if (bt748.2 !=bt752.2)=true then(laws_FnBothWays.j5 k bt743.1 bt743.2.1 bt743.2.2 bt748.1 bt748.2 true) else((laws_sameInts.f k bt748.1 bt752.1).bind fun t769=>(if t769=true then(if (bt761.2 !=bt765.2)=true then(laws_FnBothWays.j5 k bt743.1 bt743.2.1 bt743.2.2 bt748.1 bt748.2 true) else((laws_sameEdges.f k bt761.1 bt765.1).bind fun t770=>(laws_FnBothWays.j5 k bt743.1 bt743.2.1 bt743.2.2 bt748.1 bt748.2 (!t770)))) else(laws_FnBothWays.j5 k bt743.1 bt743.2.1 bt743.2.2 bt748.1 bt748.2 true)))))))))
def laws_FnBothWays.j5:Nat→Int→List (S52)→Int→List Int→Bool→Bool→Option (Bool)
 | 0,_,_,_,_,_,_=>none
 |k+1,x17,x18,x19,x20,x21,x203=>if x203=true then(some false) else(if x21=true then(laws_FnBothWays.l2 k x17 x18 x19 x20 (x20.length:Int) 0) else(some true))
def laws_FnBothWays.l2:Nat→Int→List (S52)→Int→List Int→Int→Int→Option (Bool)
 | 0,_,_,_,_,_,_=>none
 |k+1,x17,x18,x19,x205,x206,x207=>if x207<x206 then(if 0≤x207 then(if x207< (x205.length:Int) then((impl_NearOf.f k x17 x18 (rd x205 x207)).bind fun bt772=>(if bt772.2=true then((laws_has.f k bt772.1 x19).bind fun t776=>(if t776=true then(laws_FnBothWays.l2 k x17 x18 x19 x205 x206 (wrap64 (x207+1))) else(some false))) else(some false))) else(none)) else(none)) else(some true)
def laws_FnBothWays.l0:Nat→List Int→List (S57)→List (S52)→Int→Int→Option (Bool)
 | 0,_,_,_,_,_=>none
 |k+1,x1,x6,x72,x73,x74=>if x74<x73 then(if 0≤x74 then(if x74< (x72.length:Int) then(laws_FnBothWays.l1 k x1 x6 0 0 x72 x73 x74 x6 (x6.length:Int) 0 ((rd_T52 x72 x74).f0) ((rd_T52 x72 x74).f1) ((rd_T52 x72 x74).f2)) else(none)) else(none)) else(laws_FnBothWays.j4 k x1)
def laws_FnBothWays.l1:Nat→List Int→List (S57)→Int→Int→List (S52)→Int→Int→List (S57)→Int→Int→Int→Int→Int→Option (Bool)
 | 0,_,_,_,_,_,_,_,_,_,_,_,_,_=>none
 |k+1,x1,x6,x13,x14,x72,x73,x74,x78,x79,x80,x741000,x741001,x741002=>if x80<x79 then(if 0≤x80 then(if x80< (x78.length:Int) then(if ((rd_T57 x78 x80).f0)=x741000 then(laws_FnBothWays.j3 k x1 x6 x13 x14 x72 x73 x74 x78 x79 x80 (((rd_T57 x78 x80).f1)==x741001) x741000 x741001 x741002 ((rd_T57 x78 x80).f0) ((rd_T57 x78 x80).f1) ((rd_T57 x78 x80).f2)) else(laws_FnBothWays.j3 k x1 x6 x13 x14 x72 x73 x74 x78 x79 x80 false x741000 x741001 x741002 ((rd_T57 x78 x80).f0) ((rd_T57 x78 x80).f1) ((rd_T57 x78 x80).f2))) else(none)) else(none)) else(if x13=0 then(some false) else(if x14=0 then(some false) else(if x741002<x13 then(some false) else(if x741002<x14 then(some false) else(if x741002=x13 then(laws_FnBothWays.l0 k x1 x6 x72 x73 (wrap64 (x74+1))) else(if x741002=x14 then(laws_FnBothWays.l0 k x1 x6 x72 x73 (wrap64 (x74+1))) else(some false)))))))
def laws_FnBothWays.j3:Nat→List Int→List (S57)→Int→Int→List (S52)→Int→Int→List (S57)→Int→Int→Bool→Int→Int→Int→Int→Int→Int→Option (Bool)
 | 0,_,_,_,_,_,_,_,_,_,_,_,_,_,_,_,_,_=>none
 |k+1,x1,x6,x13,x14,x72,x73,x74,x78,x79,x80,x95,x741000,x741001,x741002,x743000,x743001,x743002=>if x95=true then(if x743000=x741001 then(if x743001=x741000 then(laws_FnBothWays.l1 k x1 x6 x743002 x743002 x72 x73 x74 x78 x79 (wrap64 (x80+1)) x741000 x741001 x741002) else(laws_FnBothWays.l1 k x1 x6 x743002 x14 x72 x73 x74 x78 x79 (wrap64 (x80+1)) x741000 x741001 x741002)) else(laws_FnBothWays.l1 k x1 x6 x743002 x14 x72 x73 x74 x78 x79 (wrap64 (x80+1)) x741000 x741001 x741002)) else(if x743000=x741001 then(if x743001=x741000 then(laws_FnBothWays.l1 k x1 x6 x13 x743002 x72 x73 x74 x78 x79 (wrap64 (x80+1)) x741000 x741001 x741002) else(laws_FnBothWays.l1 k x1 x6 x13 x14 x72 x73 x74 x78 x79 (wrap64 (x80+1)) x741000 x741001 x741002)) else(laws_FnBothWays.l1 k x1 x6 x13 x14 x72 x73 x74 x78 x79 (wrap64 (x80+1)) x741000 x741001 x741002))
end
def laws_FnBothWays.f (k:Nat) (l0:List Int) (l1:List Int):Option (Bool):=if (wrap64 ((l0.length:Int)+ (l1.length:Int))) > 1048576 then(some true) else((spec_DrawBothWays.f k l0).bind fun bt725=>((impl_BothWays.f k bt725.1 bt725.2).bind fun bt729=>((spec_BothWays.f k bt725.1 bt725.2).bind fun bt733=>(if (bt729.2 !=bt733.2)=true then(laws_FnBothWays.j0 k l1 bt725.1 bt725.2 bt729.1 bt729.2 true) else((laws_sameEdges.f k bt729.1 bt733.1).bind fun t737=>(laws_FnBothWays.j0 k l1 bt725.1 bt725.2 bt729.1 bt729.2 (!t737)))))))
set_option maxHeartbeats 8000000 in
set_option maxRecDepth 100000 in
theorem laws_FnBothWays.calls (k:Nat) (A0:Option Addr) (c0:Nat) (l0:List Int) (A1:Option Addr) (c1:Nat) (l1:List Int) (r:Bool) (w:World) (hr0:Kd.C (Kd.int .u8) w A0 l0.length l0) (hc0:l0.length≤c0) (hr1:Kd.C (Kd.int .u8) w A1 l1.length l1) (hc1:l1.length≤c1) (h:laws_FnBothWays.f k l0 l1=some r) (hrt:r=true:=by rfl):
  Calls Try.prog 9 #[.slice A0 l0.length c0,.slice A1 l1.length c1] w fun e w'=>e= .returned (.bool r)∧Below w.heap.size w w':=by
 have HRT:=Aside0.mk hrt
 clear hrt
 have hu52:=Try.underlying52
 have hu57:=Try.underlying57
 have HR0:=Aside0.mk hr0
 have HC0:=Aside0.mk hc0
 clear hr0 hc0
 have HR1:=Aside0.mk hr1
 have HC1:=Aside0.mk hc1
 clear hr1 hc1
 have HB:=Aside0.mk (Below.refl w.heap.size w)
 have H:(if (wrap64 ((l0.length:Int)+ (l1.length:Int))) > 1048576 then(some true) else((spec_DrawBothWays.f k l0).bind fun bt725=>((impl_BothWays.f k bt725.1 bt725.2).bind fun bt729=>((spec_BothWays.f k bt725.1 bt725.2).bind fun bt733=>(if (bt729.2 !=bt733.2)=true then(laws_FnBothWays.j0 k l1 bt725.1 bt725.2 bt729.1 bt729.2 true) else((laws_sameEdges.f k bt729.1 bt733.1).bind fun t737=>(laws_FnBothWays.j0 k l1 bt725.1 bt725.2 bt729.1 bt729.2 (!t737))))))))=some r:=h
 clear h
 by_cases c3:(wrap64 ((l0.length:Int)+ (l1.length:Int))) > 1048576
 ·rw [if_pos c3] at H
  have c3b0:decide (1048576< (wrap64 ((l0.length:Int)+ (l1.length:Int))))=true:=decide_eq_true c3
  clear c3
  as_aux_lemma=>
   obtain rfl:=Option.some.inj H
   go_enter Try.func9,Try.ntmps9
   go_wp2
   go_ret
   exact⟨zer,by exact zk1 HB⟩
 ·rw [if_neg c3] at H
  have c3b0:decide (1048576< (wrap64 ((l0.length:Int)+ (l1.length:Int))))=false:=decide_eq_false c3
  clear c3
  replace H:=Option.bind_eq_some_iff.mp H
  obtain⟨⟨t725,t726⟩,A40,H⟩:=H
  replace H:((impl_BothWays.f k t725 t726).bind fun bt729=>((spec_BothWays.f k t725 t726).bind fun bt733=>(if (bt729.2 !=bt733.2)=true then(laws_FnBothWays.j0 k l1 t725 t726 bt729.1 bt729.2 true) else((laws_sameEdges.f k bt729.1 bt733.1).bind fun t737=>(laws_FnBothWays.j0 k l1 t725 t726 bt729.1 bt729.2 (!t737))))))=some r:=H
  have A4:=Aside0.mk A40
  clear A40
  replace H:=Option.bind_eq_some_iff.mp H
  obtain⟨⟨t729,t730⟩,A50,H⟩:=H
  replace H:((spec_BothWays.f k t725 t726).bind fun bt733=>(if (t730 !=bt733.2)=true then(laws_FnBothWays.j0 k l1 t725 t726 t729 t730 true) else((laws_sameEdges.f k t729 bt733.1).bind fun t737=>(laws_FnBothWays.j0 k l1 t725 t726 t729 t730 (!t737)))))=some r:=H
  have A5:=Aside0.mk A50
  clear A50
  replace H:=Option.bind_eq_some_iff.mp H
  obtain⟨⟨t733,t734⟩,A60,H⟩:=H
  replace H:(if (t730 !=t734)=true then(laws_FnBothWays.j0 k l1 t725 t726 t729 t730 true) else((laws_sameEdges.f k t729 t733).bind fun t737=>(laws_FnBothWays.j0 k l1 t725 t726 t729 t730 (!t737))))=some r:=H
  have A6:=Aside0.mk A60
  clear A60
  have HC7:=Aside0.mk H
  clear H
  go_enter Try.func9,Try.ntmps9
  go_upto_region 6 with (first|((with_reducible refine gate_callee (f:=36) rfl ?_);refine goesL_ (some 43) rfl rfl Try.func36 (by kernel_rfl) rfl #[.slice A0 l0.length c0] rfl zq2 ?_;(with_reducible refine(spec_DrawBothWays.calls k _ _ l0 t725 t726 _ ?side1 ?side2 A4.out).mono ?_);(case side1=>exact zcc (HR0.out));(case side2=>exact HC0.out);rintro e w8 ⟨v727,rfl,ho0,hb⟩;refine⟨_,rfl,?_⟩;have HO728:=Aside0.mk (Kd.R_lower ho0 (below_size (by exact zk1 HB)));replace HB:=Aside0.mk (below_step (by exact zk1 HB) hb);(try clear hb);(try clear hb2);(try clear hk);(try clear hi);(try clear ho0);obtain⟨Ao9,co9,eo9⟩:=Kd.R_slice HO728.out;subst eo9)|((with_reducible refine gate_callee (f:=24) rfl ?_);refine goesL_ (some 49) rfl rfl Try.func24 (by kernel_rfl) rfl #[.int .i64 t725,.slice Ao9 t726.length co9] rfl zq2 ?_;(with_reducible refine(impl_BothWays.calls k t725 _ _ t726 t729 t730 _ ?side1 ?side2 A5.out).mono ?_);(case side1=>exact zcc ((Kd.R_reads' HO728.out).2.2));(case side2=>exact(Kd.R_reads' HO728.out).2.1);rintro e w10 ⟨v731,rfl,ho0,hb⟩;refine⟨_,rfl,?_⟩;have HO732:=Aside0.mk (Kd.R_lower ho0 (below_size (by exact zk1 HB)));replace HO728:=Aside0.mk (Kd.R_below (zq4 HO728) hb);replace HB:=Aside0.mk (below_step (by exact zk1 HB) hb);(try clear hb);(try clear hb2);(try clear hk);(try clear hi);(try clear ho0))|((with_reducible refine gate_callee (f:=22) rfl ?_);refine goesL_ (some 55) rfl rfl Try.func22 (by kernel_rfl) rfl #[.int .i64 t725,.slice Ao9 t726.length co9] rfl zq2 ?_;(with_reducible refine(spec_BothWays.calls k t725 _ _ t726 t733 t734 _ ?side1 ?side2 A6.out).mono ?_);(case side1=>exact zcc ((Kd.R_reads' HO728.out).2.2));(case side2=>exact(Kd.R_reads' HO728.out).2.1);rintro e w11 ⟨v735,rfl,ho0,hb⟩;refine⟨_,rfl,?_⟩;have HO736:=Aside0.mk (Kd.R_lower (Kd.R_new' ho0 (Kd.R_lt (zq4 HO732))) (below_size (by exact zk1 HB)));replace HO728:=Aside0.mk (Kd.R_below (zq4 HO728) hb);replace HO732:=Aside0.mk (Kd.R_elder' (zq4 HO732) (Kd.R_base ho0) hb);replace HB:=Aside0.mk (below_step (by exact zk1 HB) hb);(try clear hb);(try clear hb2);(try clear hk);(try clear hi);(try clear ho0)))
  (try simp only [Act.put,List.setIfInBounds_toArray,List.set_cons_zero,List.set_cons_succ])
  go_cut [66] (fun v66 wc=> ∃ (kq:Nat) (x66_6:Bool),v66= .bool x66_6∧Aside0 (laws_FnBothWays.j0 kq l1 t725 t726 t729 t730 x66_6=some r)∧Aside0 (kq≤k)∧Aside0 (Kd.R k57 57 wc w.heap.size (fun _=>True) (.slice Ao9 t726.length co9) t726)∧Aside0 (Kd.R k52 52 wc w.heap.size (fun _=>True) v731 t729)∧Aside0 (Below w.heap.size w wc))
  case first=>
   have H:=HC7.out
   clear HC7
   by_cases c12:(t730 !=t734)=true
   ·rw [if_pos c12] at H
    have c12b0:(t730 !=t734)=true:=c12
    (try(have c12b1:decide (t730=t734)=false:=by simpa using c12))
    (try(have c12b2:(t730==t734)=false:=by simpa using c12))
    (try(have c12b3:¬ (t730=t734):=by simpa using c12))
    clear c12
    (first|rw [c12b0]|(simp only [i64_w,i32_w];rw [c12b0])|skip)
    exact absurd (H.trans (congrArg some HRT.out)) (by cases k<;>simp [laws_FnBothWays.j0])
   ·rw [if_neg c12] at H
    have c12b0:(t730 !=t734)=false:=by simpa using c12
    (try(have c12b1:decide (t730=t734)=true:=by simpa using c12))
    (try(have c12b2:(t730==t734)=true:=by simpa using c12))
    clear c12
    (first|rw [c12b0]|(simp only [i64_w,i32_w];rw [c12b0])|skip)
    replace H:=Option.bind_eq_some_iff.mp H
    obtain⟨t737,A130,H⟩:=H
    replace H:(laws_FnBothWays.j0 k l1 t725 t726 t729 t730 (!t737))=some r:=H
    have A13:=Aside0.mk A130
    clear A130
    as_aux_lemma=>
     have H':=Aside0.mk H
     clear H
     obtain⟨Ao14,co14,eo14⟩:=Kd.R_slice HO732.out
     subst eo14
     obtain⟨Ao15,co15,eo15⟩:=Kd.R_slice HO736.out
     subst eo15
     go_wp2_with (first|(go_at_call 37;(with_reducible refine(laws_sameEdges.calls k _ _ t729 _ _ t733 t737 _ ?side1 ?side2 ?side3 ?side4 A13.out).mono ?_);(case side1=>exact zcc ((Kd.R_reads' HO732.out).2.2));(case side2=>exact(Kd.R_reads' HO732.out).2.1);(case side3=>exact zcc ((Kd.R_reads' HO736.out).2.2));(case side4=>exact(Kd.R_reads' HO736.out).2.1);rintro e w' ⟨rfl,⟨nd,rfl⟩⟩))
     go_meet
     case rel=>exact⟨_,(!t737),zrs,H',⟨by first|omega|exact Nat.le_refl _⟩,⟨zdr HO728⟩,⟨by(with_reducible repeat(first|apply Kd.R_alloc|apply Kd.R_drewN|apply Kd.R_drew));exact Kd.R_mono HO732.out (fun _ hk=>trivial)⟩,⟨by exact zk1 HB⟩⟩
  case rest=>
   clear HC7
   try clear c1
   try clear c2
   try clear p2
   try clear c3
   try clear c3b0
   try clear p6
   try clear c9
   try clear c12
   try clear c12b0
   try clear c12b1
   try clear c12b2
   obtain⟨kq,x66_6,rfl,HA,HJ6,HO_6,HO_7,HB⟩:=hcut
   cases kq with
   |zero=>exact absurd HA.out (by simp [laws_FnBothWays.j0])
   |succ kj6=>
    have H:=HA.out
    clear HA
    simp only [laws_FnBothWays.j0] at H
    by_cases c16:x66_6=true
    ·subst c16
     have H1:(some false)=some r:=by rw [if_pos rfl] at H;exact H
     clear H
     have H:=H1
     clear H1
     exact absurd ((Option.some.inj H).trans HRT.out) (by decide)
    ·replace c16:=Bool.eq_false_iff.mpr c16
     subst c16
     have H1:(if t730=true then((impl_GoodEdges.f kj6 t725 t729).bind fun t738=>(if t738=true then(laws_FnBothWays.l0 kj6 l1 t726 t729 (t729.length:Int) 0) else(some false))) else(laws_FnBothWays.j4 kj6 l1))=some r:=by rw [if_neg (show ¬ (false=true) by decide)] at H;exact H
     clear H
     have H:=H1
     clear H1
     have HC17:=Aside0.mk H
     clear H
     go_upto_if 67 with (fail)
     go_cut [] (fun wc=> ∃ (kq:Nat),Aside0 (laws_FnBothWays.j4 kq l1=some r)∧Aside0 (kq≤kj6)∧Aside0 (Below w.heap.size w wc))
     case first=>
      have H:=HC17.out
      clear HC17
      by_cases c18:t730=true
      ·subst c18
       have H1:((impl_GoodEdges.f kj6 t725 t729).bind fun t738=>(if t738=true then(laws_FnBothWays.l0 kj6 l1 t726 t729 (t729.length:Int) 0) else(some false)))=some r:=by rw [if_pos rfl] at H;exact H
       clear H
       have H:=H1
       clear H1
       replace H:=Option.bind_eq_some_iff.mp H
       obtain⟨t738,A190,H⟩:=H
       replace H:(if t738=true then(laws_FnBothWays.l0 kj6 l1 t726 t729 (t729.length:Int) 0) else(some false))=some r:=H
       have A19:=Aside0.mk A190
       clear A190
       by_cases c20:t738=true
       ·subst c20
        have H1:(laws_FnBothWays.l0 kj6 l1 t726 t729 (t729.length:Int) 0)=some r:=by rw [if_pos rfl] at H;exact H
        clear H
        have H:=H1
        clear H1
        have H':=Aside0.mk H
        clear H
        obtain⟨Ao21,co21,eo21⟩:=Kd.R_slice HO_7.out
        subst eo21
        go_wp2_with (first|((with_reducible refine gate_callee (f:=34) rfl ?_);refine goesL_ (some 70) rfl rfl Try.func34 (by kernel_rfl) rfl #[.int .i64 t725,.slice Ao21 t729.length co21] rfl zq2 ?_;(with_reducible refine(impl_GoodEdges.calls kj6 t725 _ _ t729 true _ ?side1 ?side2 A19.out).mono ?_);(case side1=>exact zcc ((Kd.R_reads' HO_7.out).2.2));(case side2=>exact(Kd.R_reads' HO_7.out).2.1);rintro e w22 ⟨rfl,hb⟩;refine⟨_,rfl,?_⟩;replace HO_6:=Aside0.mk (Kd.R_below (zq4 HO_6) hb);replace HO_7:=Aside0.mk (Kd.R_below (zq4 HO_7) hb);replace HB:=Aside0.mk (below_step (by exact zk1 HB) hb);(try clear hb);(try clear hb2);(try clear hk);(try clear hi)))
        go_loopg [74] kj6 (fun kq v74 w'=> ∃ (x74_2:Int),v74= .int .i64 x74_2∧Aside0 (laws_FnBothWays.l0 kq l1 t726 t729 (t729.length:Int) x74_2=some r)∧Aside0 (kq≤kj6)∧Aside0 (Kd.R k57 57 w' w.heap.size (fun _=>True) (.slice Ao9 t726.length co9) t726)∧Aside0 (Kd.R k52 52 w' w.heap.size (fun _=>True) (.slice Ao21 t729.length co21) t729)∧Aside0 (Below w.heap.size w w'))
        case atStart=>exact⟨(0),zrs,H',⟨Nat.le_refl _⟩,⟨zdr HO_6⟩,⟨zdr HO_7⟩,⟨by exact zk1 HB⟩⟩
        case round=>
         clear H'
         try clear c1
         try clear c2
         try clear p2
         try clear c3
         try clear c3b0
         try clear p6
         try clear c9
         try clear c12
         try clear c12b0
         try clear c12b1
         try clear c12b2
         try clear c16
         try clear c18
         try clear c20
         try clear c22
         try clear p2
         try clear p6
         obtain⟨x74_2,rfl,HA,HK2,HO_6,HO_72,HB⟩:=hrel
         cases gk with
         |zero=>exact absurd HA.out (by simp [laws_FnBothWays.l0])
         |succ k2=>
          have H:=HA.out
          clear HA
          simp only [laws_FnBothWays.l0] at H
          by_cases c23:x74_2< (t729.length:Int)
          ·rw [if_pos c23] at H
           have c23b0:decide (x74_2< (t729.length:Int))=true:=decide_eq_true c23
           clear c23
           (first|rw [c23b0]|(simp only [i64_w,i32_w];rw [c23b0])|skip)
           by_cases c24: 0≤x74_2
           case neg=>exact znn c24 H
           rw [if_pos c24] at H
           have c24b0:decide (0≤x74_2)=true:=decide_eq_true c24
           clear c24
           by_cases c25:x74_2< (t729.length:Int)
           case neg=>exact znn c25 H
           rw [if_pos c25] at H
           have c25b0:decide (x74_2< (t729.length:Int))=true:=decide_eq_true c25
           clear c25
           have H':=Aside0.mk H
           clear H
           have p739: 0≤ (x74_2:Int):=of_decide_eq_true zq1
           have q739:x74_2< (t729.length:Int):=of_decide_eq_true zq1
           obtain⟨ad739,e739,hx739_0,hx739_1,hx739_2⟩:=at_T52 (Kd.R_reads' HO_72.out).2.2 x74_2 p739 q739
           cases e739
           replace p739:=eq_true p739
           replace q739:=eq_true q739
           go_wp2_with (first|((with_reducible refine gate_dst (N:=12) rfl ?_);refine box_event ?hg (N:=12) ?hd (cs:= #[.int .i64 0,.int .i64 0,.int .i64 0]) (t:=52) ?hr ?_;(case hd=>rfl);(case hg=>rfl);(case hr=>first|(go_simp;done)|(go_simp;rfl));intro gb740 hg w26 hbox hb;have BK740:=Aside0.mk (hbox);have GW740:=Aside0.mk ((by rw [hg];exact(below_size (by exact zk1 HB)):w.heap.size≤gb740));have GE740:=GW740;replace HO_6:=Aside0.mk (Kd.R_below (zq4 HO_6) hb);replace HO_72:=Aside0.mk (Kd.R_below (Kd.R_elderB (zq4 HO_72) gb740 (Nat.le_of_eq hg.symm)) hb);replace HB:=Aside0.mk (below_step (by exact zk1 HB) hb);clear hb hbox hg;have hcz27_0:=zcz BK740 0 (.int .i64 0);have hcz27_1:=zcz BK740 1 (.int .i64 0);have hcz27_2:=zcz BK740 2 (.int .i64 0);have hfz27_0:=blk_frozen BK740.out 0;have hfz27_1:=blk_frozen BK740.out 1;have hfz27_2:=blk_frozen BK740.out 2))
           go_loopg [13,14,80] k2 (fun kq v13 v14 v80 w'=> ∃ (x13_3:Int) (x14_3:Int) (x80_3:Int),v13= .int .i64 x13_3∧v14= .int .i64 x14_3∧v80= .int .i64 x80_3∧Aside0 (laws_FnBothWays.l1 kq l1 t726 x13_3 x14_3 t729 (t729.length:Int) x74_2 t726 (t726.length:Int) x80_3 ((rd_T52 t729 x74_2).f0) ((rd_T52 t729 x74_2).f1) ((rd_T52 t729 x74_2).f2)=some r)∧Aside0 (kq≤k2)∧Aside0 (Kd.R k57 57 w' w.heap.size (fun _=>True) (.slice Ao9 t726.length co9) t726)∧Aside0 (Kd.R k52 52 w' w.heap.size (fun k_=>k_≠gb740) (.slice (some ad739) t729.length co21) t729)∧Aside0 (Kd.R k57 57 w' w.heap.size (fun _=>True) (.slice Ao9 t726.length co9) t726)∧Aside0 (w'.heap[gb740]?=some (.cells #[.int .i64 ((rd_T52 t729 x74_2).f0),.int .i64 ((rd_T52 t729 x74_2).f1),.int .i64 ((rd_T52 t729 x74_2).f2)] 52 (0,0)))∧Aside0 (Below w.heap.size w w'))
           case atStart=>exact⟨(0),(0),(0),zrs,zrs,zrs,H',⟨Nat.le_refl _⟩,⟨by(with_reducible repeat(first|apply Kd.R_alloc|apply Kd.R_drewN|apply Kd.R_drew));exact Kd.R_mono (Kd.R_far (p:=⟨gb740,2,none⟩) (Kd.R_far (p:=⟨gb740,1,none⟩) (Kd.R_far (p:=⟨gb740,0,none⟩) (Kd.R_types HO_6.out BK740.out (by decide)) (fun _ hk=>hk.2) (.int .i64 ((rd_T52 t729 x74_2).f0))) (fun _ hk=>hk.2) (.int .i64 ((rd_T52 t729 x74_2).f1))) (fun _ hk=>hk.2) (.int .i64 ((rd_T52 t729 x74_2).f2))) (fun _ hk=>trivial)⟩,⟨by(with_reducible repeat(first|apply Kd.R_alloc|apply Kd.R_drewN|apply Kd.R_drew));exact Kd.R_mono (Kd.R_far (p:=⟨gb740,2,none⟩) (Kd.R_far (p:=⟨gb740,1,none⟩) (Kd.R_far (p:=⟨gb740,0,none⟩) (Kd.R_mono HO_72.out (fun k_ hk=>(⟨hk,hk.2⟩ :_∧k_≠gb740))) (fun _ hk=>hk.2) (.int .i64 ((rd_T52 t729 x74_2).f0))) (fun _ hk=>hk.2) (.int .i64 ((rd_T52 t729 x74_2).f1))) (fun _ hk=>hk.2) (.int .i64 ((rd_T52 t729 x74_2).f2))) (fun _ hk=>hk.1.2)⟩,⟨by(with_reducible repeat(first|apply Kd.R_alloc|apply Kd.R_drewN|apply Kd.R_drew));exact Kd.R_mono (Kd.R_far (p:=⟨gb740,2,none⟩) (Kd.R_far (p:=⟨gb740,1,none⟩) (Kd.R_far (p:=⟨gb740,0,none⟩) (Kd.R_types HO_6.out BK740.out (by decide)) (fun _ hk=>hk.2) (.int .i64 ((rd_T52 t729 x74_2).f0))) (fun _ hk=>hk.2) (.int .i64 ((rd_T52 t729 x74_2).f1))) (fun _ hk=>hk.2) (.int .i64 ((rd_T52 t729 x74_2).f2))) (fun _ hk=>trivial)⟩,⟨by(with_reducible repeat(first|refine blk_drewN ?_ _|refine blk_drew ?_ |refine blk_alloc ?_ _));refine blk_put (cs:= #[.int .i64 ((rd_T52 t729 x74_2).f0),.int .i64 ((rd_T52 t729 x74_2).f1),.int .i64 0]) ?_ 2 _ rfl;(with_reducible repeat(first|refine blk_drewN ?_ _|refine blk_drew ?_ |refine blk_alloc ?_ _));refine blk_put (cs:= #[.int .i64 ((rd_T52 t729 x74_2).f0),.int .i64 0,.int .i64 0]) ?_ 1 _ rfl;(with_reducible repeat(first|refine blk_drewN ?_ _|refine blk_drew ?_ |refine blk_alloc ?_ _));refine blk_put (cs:= #[.int .i64 0,.int .i64 0,.int .i64 0]) ?_ 0 _ rfl;(with_reducible repeat(first|refine blk_drewN ?_ _|refine blk_drew ?_ |refine blk_alloc ?_ _));exact BK740.out⟩,⟨by exact zk2 HB GE740.out⟩⟩
           case round=>
            clear H'
            try clear c1
            try clear c2
            try clear p2
            try clear c3
            try clear c3b0
            try clear p6
            try clear p7
            try clear q7
            try clear hx7
            try clear c9
            try clear c12
            try clear c12b0
            try clear c12b1
            try clear c12b2
            try clear c16
            try clear c18
            try clear c20
            try clear c22
            try clear c23
            try clear c23b0
            try clear c24
            try clear c24b0
            try clear c25
            try clear c25b0
            try clear hcz27_0
            try clear hcz27_1
            try clear hcz27_2
            try clear hfz27_0
            try clear hfz27_1
            try clear hfz27_2
            try clear hx739_0
            try clear hx739_1
            try clear hx739_2
            try clear p2
            try clear p6
            try clear p739
            try clear q739
            obtain⟨x13_3,x14_3,x80_3,rfl,rfl,rfl,HA,HK3,HO_6,HO_72,HO_78,BK740,HB⟩:=hrel
            cases gk with
            |zero=>exact absurd HA.out (by simp [laws_FnBothWays.l1])
            |succ k3=>
             have H:=HA.out
             clear HA
             simp only [laws_FnBothWays.l1] at H
             by_cases c28:x80_3< (t726.length:Int)
             ·rw [if_pos c28] at H
              have c28b0:decide (x80_3< (t726.length:Int))=true:=decide_eq_true c28
              clear c28
              by_cases c29: 0≤x80_3
              case neg=>exact znn c29 H
              rw [if_pos c29] at H
              have c29b0:decide (0≤x80_3)=true:=decide_eq_true c29
              clear c29
              by_cases c30:x80_3< (t726.length:Int)
              case neg=>exact znn c30 H
              rw [if_pos c30] at H
              have c30b0:decide (x80_3< (t726.length:Int))=true:=decide_eq_true c30
              clear c30
              have HC31:=Aside0.mk H
              clear H
              have p741: 0≤ (x80_3:Int):=of_decide_eq_true zq1
              have q741:x80_3< (t726.length:Int):=of_decide_eq_true zq1
              obtain⟨ad741,e741,hx741_0,hx741_1,hx741_2⟩:=at_T57 (Kd.R_reads' HO_78.out).2.2 x80_3 p741 q741
              cases e741
              replace p741:=eq_true p741
              replace q741:=eq_true q741
              go_upto_region 19 with (first|((with_reducible refine gate_dst (N:=16) rfl ?_);refine box_event ?hg (N:=16) ?hd (cs:= #[.int .i64 0,.int .i64 0,.int .i64 0]) (t:=57) ?hr ?_;(case hd=>rfl);(case hg=>rfl);(case hr=>first|(go_simp;done)|(go_simp;rfl));intro gb742 hg w32 hbox hb;have BK742:=Aside0.mk (hbox);have GW742:=Aside0.mk ((by rw [hg];exact(below_size (by exact zk2 HB GE740.out)):w.heap.size≤gb742));have GE742:=GW742;have NB740_742:=Aside0.mk ((by rw [hg];exact Nat.ne_of_lt (blk_lt (g:=gb740) (o:= .cells #[.int .i64 ((rd_T52 t729 x74_2).f0),.int .i64 ((rd_T52 t729 x74_2).f1),.int .i64 ((rd_T52 t729 x74_2).f2)] 52 (0,0)) (zq3 BK740)):gb740≠gb742));have NB742_740:=Aside0.mk ((by rw [hg];exact Nat.ne_of_gt (blk_lt (g:=gb740) (o:= .cells #[.int .i64 ((rd_T52 t729 x74_2).f0),.int .i64 ((rd_T52 t729 x74_2).f1),.int .i64 ((rd_T52 t729 x74_2).f2)] 52 (0,0)) (zq3 BK740)):gb742≠gb740));replace HO_6:=Aside0.mk (Kd.R_below (Kd.R_elderB (zq4 HO_6) gb742 (Nat.le_of_eq hg.symm)) hb);replace HO_72:=Aside0.mk (Kd.R_below (zq4 HO_72) hb);replace HO_78:=Aside0.mk (Kd.R_below (Kd.R_elderB (zq4 HO_78) gb742 (Nat.le_of_eq hg.symm)) hb);replace BK740:=Aside0.mk (blk_below (g:=gb740) (o:= .cells #[.int .i64 ((rd_T52 t729 x74_2).f0),.int .i64 ((rd_T52 t729 x74_2).f1),.int .i64 ((rd_T52 t729 x74_2).f2)] 52 (0,0)) (zq3 BK740) hb);replace HB:=Aside0.mk (below_step (by exact zk2 HB GE740.out) hb);clear hb hbox hg;have hnb33:=NB742_740.out;have hnc33:=NB740_742.out;have hcz34_0:=zcz BK742 0 (.int .i64 0);have hcz34_1:=zcz BK742 1 (.int .i64 0);have hcz34_2:=zcz BK742 2 (.int .i64 0);have hfz34_0:=blk_frozen BK742.out 0;have hfz34_1:=blk_frozen BK742.out 1;have hfz34_2:=blk_frozen BK742.out 2))
              (try simp only [Act.put,List.setIfInBounds_toArray,List.set_cons_zero,List.set_cons_succ])
              go_cut [95] (fun v95 wc=> ∃ (kq:Nat) (x95_30:Bool),v95= .bool x95_30∧Aside0 (laws_FnBothWays.j3 kq l1 t726 x13_3 x14_3 t729 (t729.length:Int) x74_2 t726 (t726.length:Int) x80_3 x95_30 ((rd_T52 t729 x74_2).f0) ((rd_T52 t729 x74_2).f1) ((rd_T52 t729 x74_2).f2) ((rd_T57 t726 x80_3).f0) ((rd_T57 t726 x80_3).f1) ((rd_T57 t726 x80_3).f2)=some r)∧Aside0 (kq≤k3)∧Aside0 (Kd.R k57 57 wc w.heap.size (fun k_=>k_≠gb742) (.slice (some ad741) t726.length co9) t726)∧Aside0 (Kd.R k52 52 wc w.heap.size (fun k_=>k_≠gb740) (.slice (some ad739) t729.length co21) t729)∧Aside0 (Kd.R k57 57 wc w.heap.size (fun k_=>k_≠gb742) (.slice (some ad741) t726.length co9) t726)∧Aside0 (wc.heap[gb740]?=some (.cells #[.int .i64 ((rd_T52 t729 x74_2).f0),.int .i64 ((rd_T52 t729 x74_2).f1),.int .i64 ((rd_T52 t729 x74_2).f2)] 52 (0,0)))∧Aside0 (wc.heap[gb742]?=some (.cells #[.int .i64 ((rd_T57 t726 x80_3).f0),.int .i64 ((rd_T57 t726 x80_3).f1),.int .i64 ((rd_T57 t726 x80_3).f2)] 57 (0,0)))∧Aside0 (Below w.heap.size w wc))
              case first=>
               have H:=HC31.out
               clear HC31
               by_cases c35:((rd_T57 t726 x80_3).f0)= ((rd_T52 t729 x74_2).f0)
               ·rw [if_pos c35] at H
                have c35b0:(((rd_T57 t726 x80_3).f0)== ((rd_T52 t729 x74_2).f0))=true:=beq_iff_eq.mpr c35
                have c35b1:(((rd_T57 t726 x80_3).f0) != ((rd_T52 t729 x74_2).f0))=false:=bne_eq_false_iff_eq.mpr c35
                clear c35
                (first|rw [c35b0]|(simp only [i64_w,i32_w];rw [c35b0])|skip)
                as_aux_lemma=>
                 have H':=Aside0.mk H
                 clear H
                 have hnb36:=NB742_740.out
                 have hnc36:=NB740_742.out
                 have hcz37_0:=zcz BK742 0 (.int .i64 0)
                 have hcz37_1:=zcz BK742 1 (.int .i64 0)
                 have hcz37_2:=zcz BK742 2 (.int .i64 0)
                 have hfz37_0:=blk_frozen BK742.out 0
                 have hfz37_1:=blk_frozen BK742.out 1
                 have hfz37_2:=blk_frozen BK742.out 2
                 have hcz38_0:=zcz BK740 0 (.int .i64 ((rd_T52 t729 x74_2).f0))
                 have hcz38_1:=zcz BK740 1 (.int .i64 ((rd_T52 t729 x74_2).f1))
                 have hcz38_2:=zcz BK740 2 (.int .i64 ((rd_T52 t729 x74_2).f2))
                 have hfz38_0:=blk_frozen BK740.out 0
                 have hfz38_1:=blk_frozen BK740.out 1
                 have hfz38_2:=blk_frozen BK740.out 2
                 go_wp2
                 go_meet
                 case rel=>exact⟨_,((((rd_T57 t726 x80_3).f1)== ((rd_T52 t729 x74_2).f1))),zrs,H',⟨by have:=HJ6.out;have:=HK2.out;have:=HK3.out;first|omega|exact Nat.le_refl _⟩,⟨by(with_reducible repeat(first|apply Kd.R_alloc|apply Kd.R_drewN|apply Kd.R_drew));exact Kd.R_mono (Kd.R_far (p:=⟨gb742,2,none⟩) (Kd.R_far (p:=⟨gb742,1,none⟩) (Kd.R_far (p:=⟨gb742,0,none⟩) (Kd.R_mono HO_6.out (fun k_ hk=>(⟨hk,hk.2⟩ :_∧k_≠gb742))) (fun _ hk=>hk.2) (.int .i64 ((rd_T57 t726 x80_3).f0))) (fun _ hk=>hk.2) (.int .i64 ((rd_T57 t726 x80_3).f1))) (fun _ hk=>hk.2) (.int .i64 ((rd_T57 t726 x80_3).f2))) (fun _ hk=>hk.1.2)⟩,⟨by(with_reducible repeat(first|apply Kd.R_alloc|apply Kd.R_drewN|apply Kd.R_drew));exact Kd.R_mono (Kd.R_far (p:=⟨gb742,2,none⟩) (Kd.R_far (p:=⟨gb742,1,none⟩) (Kd.R_far (p:=⟨gb742,0,none⟩) (Kd.R_types HO_72.out BK742.out (by decide)) (fun _ hk=>hk.2) (.int .i64 ((rd_T57 t726 x80_3).f0))) (fun _ hk=>hk.2) (.int .i64 ((rd_T57 t726 x80_3).f1))) (fun _ hk=>hk.2) (.int .i64 ((rd_T57 t726 x80_3).f2))) (fun _ hk=>hk.1)⟩,⟨by(with_reducible repeat(first|apply Kd.R_alloc|apply Kd.R_drewN|apply Kd.R_drew));exact Kd.R_mono (Kd.R_far (p:=⟨gb742,2,none⟩) (Kd.R_far (p:=⟨gb742,1,none⟩) (Kd.R_far (p:=⟨gb742,0,none⟩) (Kd.R_mono HO_78.out (fun k_ hk=>(⟨hk,hk.2⟩ :_∧k_≠gb742))) (fun _ hk=>hk.2) (.int .i64 ((rd_T57 t726 x80_3).f0))) (fun _ hk=>hk.2) (.int .i64 ((rd_T57 t726 x80_3).f1))) (fun _ hk=>hk.2) (.int .i64 ((rd_T57 t726 x80_3).f2))) (fun _ hk=>hk.1.2)⟩,⟨by(with_reducible repeat(first|refine blk_drewN ?_ _|refine blk_drew ?_ |refine blk_alloc ?_ _));refine blk_far ?_ NB740_742.out _;(with_reducible repeat(first|refine blk_drewN ?_ _|refine blk_drew ?_ |refine blk_alloc ?_ _));refine blk_far ?_ NB740_742.out _;(with_reducible repeat(first|refine blk_drewN ?_ _|refine blk_drew ?_ |refine blk_alloc ?_ _));refine blk_far ?_ NB740_742.out _;(with_reducible repeat(first|refine blk_drewN ?_ _|refine blk_drew ?_ |refine blk_alloc ?_ _));exact BK740.out⟩,⟨by(with_reducible repeat(first|refine blk_drewN ?_ _|refine blk_drew ?_ |refine blk_alloc ?_ _));refine blk_put (cs:= #[.int .i64 ((rd_T57 t726 x80_3).f0),.int .i64 ((rd_T57 t726 x80_3).f1),.int .i64 0]) ?_ 2 _ rfl;(with_reducible repeat(first|refine blk_drewN ?_ _|refine blk_drew ?_ |refine blk_alloc ?_ _));refine blk_put (cs:= #[.int .i64 ((rd_T57 t726 x80_3).f0),.int .i64 0,.int .i64 0]) ?_ 1 _ rfl;(with_reducible repeat(first|refine blk_drewN ?_ _|refine blk_drew ?_ |refine blk_alloc ?_ _));refine blk_put (cs:= #[.int .i64 0,.int .i64 0,.int .i64 0]) ?_ 0 _ rfl;(with_reducible repeat(first|refine blk_drewN ?_ _|refine blk_drew ?_ |refine blk_alloc ?_ _));exact BK742.out⟩,⟨by exact zk3 HB GE740.out GE742.out⟩⟩
               ·rw [if_neg c35] at H
                have c35b0:(((rd_T57 t726 x80_3).f0)== ((rd_T52 t729 x74_2).f0))=false:=beq_eq_false_iff_ne.mpr c35
                have c35b1:(((rd_T57 t726 x80_3).f0) != ((rd_T52 t729 x74_2).f0))=true:=bne_iff_ne.mpr c35
                (first|rw [c35b0]|(simp only [i64_w,i32_w];rw [c35b0])|skip)
                as_aux_lemma=>
                 have H':=Aside0.mk H
                 clear H
                 have hnb39:=NB742_740.out
                 have hnc39:=NB740_742.out
                 have hcz40_0:=zcz BK742 0 (.int .i64 0)
                 have hcz40_1:=zcz BK742 1 (.int .i64 0)
                 have hcz40_2:=zcz BK742 2 (.int .i64 0)
                 have hfz40_0:=blk_frozen BK742.out 0
                 have hfz40_1:=blk_frozen BK742.out 1
                 have hfz40_2:=blk_frozen BK742.out 2
                 have hcz41_0:=zcz BK740 0 (.int .i64 ((rd_T52 t729 x74_2).f0))
                 have hcz41_1:=zcz BK740 1 (.int .i64 ((rd_T52 t729 x74_2).f1))
                 have hcz41_2:=zcz BK740 2 (.int .i64 ((rd_T52 t729 x74_2).f2))
                 have hfz41_0:=blk_frozen BK740.out 0
                 have hfz41_1:=blk_frozen BK740.out 1
                 have hfz41_2:=blk_frozen BK740.out 2
                 go_wp2
                 go_meet
                 case rel=>exact⟨_,(false),zrs,H',⟨by have:=HJ6.out;have:=HK2.out;have:=HK3.out;first|omega|exact Nat.le_refl _⟩,⟨by(with_reducible repeat(first|apply Kd.R_alloc|apply Kd.R_drewN|apply Kd.R_drew));exact Kd.R_mono (Kd.R_far (p:=⟨gb742,2,none⟩) (Kd.R_far (p:=⟨gb742,1,none⟩) (Kd.R_far (p:=⟨gb742,0,none⟩) (Kd.R_mono HO_6.out (fun k_ hk=>(⟨hk,hk.2⟩ :_∧k_≠gb742))) (fun _ hk=>hk.2) (.int .i64 ((rd_T57 t726 x80_3).f0))) (fun _ hk=>hk.2) (.int .i64 ((rd_T57 t726 x80_3).f1))) (fun _ hk=>hk.2) (.int .i64 ((rd_T57 t726 x80_3).f2))) (fun _ hk=>hk.1.2)⟩,⟨by(with_reducible repeat(first|apply Kd.R_alloc|apply Kd.R_drewN|apply Kd.R_drew));exact Kd.R_mono (Kd.R_far (p:=⟨gb742,2,none⟩) (Kd.R_far (p:=⟨gb742,1,none⟩) (Kd.R_far (p:=⟨gb742,0,none⟩) (Kd.R_types HO_72.out BK742.out (by decide)) (fun _ hk=>hk.2) (.int .i64 ((rd_T57 t726 x80_3).f0))) (fun _ hk=>hk.2) (.int .i64 ((rd_T57 t726 x80_3).f1))) (fun _ hk=>hk.2) (.int .i64 ((rd_T57 t726 x80_3).f2))) (fun _ hk=>hk.1)⟩,⟨by(with_reducible repeat(first|apply Kd.R_alloc|apply Kd.R_drewN|apply Kd.R_drew));exact Kd.R_mono (Kd.R_far (p:=⟨gb742,2,none⟩) (Kd.R_far (p:=⟨gb742,1,none⟩) (Kd.R_far (p:=⟨gb742,0,none⟩) (Kd.R_mono HO_78.out (fun k_ hk=>(⟨hk,hk.2⟩ :_∧k_≠gb742))) (fun _ hk=>hk.2) (.int .i64 ((rd_T57 t726 x80_3).f0))) (fun _ hk=>hk.2) (.int .i64 ((rd_T57 t726 x80_3).f1))) (fun _ hk=>hk.2) (.int .i64 ((rd_T57 t726 x80_3).f2))) (fun _ hk=>hk.1.2)⟩,⟨by(with_reducible repeat(first|refine blk_drewN ?_ _|refine blk_drew ?_ |refine blk_alloc ?_ _));refine blk_far ?_ NB740_742.out _;(with_reducible repeat(first|refine blk_drewN ?_ _|refine blk_drew ?_ |refine blk_alloc ?_ _));refine blk_far ?_ NB740_742.out _;(with_reducible repeat(first|refine blk_drewN ?_ _|refine blk_drew ?_ |refine blk_alloc ?_ _));refine blk_far ?_ NB740_742.out _;(with_reducible repeat(first|refine blk_drewN ?_ _|refine blk_drew ?_ |refine blk_alloc ?_ _));exact BK740.out⟩,⟨by(with_reducible repeat(first|refine blk_drewN ?_ _|refine blk_drew ?_ |refine blk_alloc ?_ _));refine blk_put (cs:= #[.int .i64 ((rd_T57 t726 x80_3).f0),.int .i64 ((rd_T57 t726 x80_3).f1),.int .i64 0]) ?_ 2 _ rfl;(with_reducible repeat(first|refine blk_drewN ?_ _|refine blk_drew ?_ |refine blk_alloc ?_ _));refine blk_put (cs:= #[.int .i64 ((rd_T57 t726 x80_3).f0),.int .i64 0,.int .i64 0]) ?_ 1 _ rfl;(with_reducible repeat(first|refine blk_drewN ?_ _|refine blk_drew ?_ |refine blk_alloc ?_ _));refine blk_put (cs:= #[.int .i64 0,.int .i64 0,.int .i64 0]) ?_ 0 _ rfl;(with_reducible repeat(first|refine blk_drewN ?_ _|refine blk_drew ?_ |refine blk_alloc ?_ _));exact BK742.out⟩,⟨by exact zk3 HB GE740.out GE742.out⟩⟩
              case rest=>
               clear HC31
               try clear c1
               try clear c2
               try clear p2
               try clear c3
               try clear c3b0
               try clear p6
               try clear p7
               try clear q7
               try clear hx7
               try clear c9
               try clear c12
               try clear c12b0
               try clear c12b1
               try clear c12b2
               try clear c16
               try clear c18
               try clear c20
               try clear c22
               try clear c23
               try clear c23b0
               try clear c24
               try clear c24b0
               try clear c25
               try clear c25b0
               try clear c28
               try clear c28b0
               try clear c29
               try clear c29b0
               try clear c30
               try clear c30b0
               try clear c33
               try clear c34
               try clear c35
               try clear c35b0
               try clear c35b1
               try clear c36
               try clear c39
               try clear hcz27_0
               try clear hcz27_1
               try clear hcz27_2
               try clear hcz34_0
               try clear hcz34_1
               try clear hcz34_2
               try clear hcz37_0
               try clear hcz37_1
               try clear hcz37_2
               try clear hcz38_0
               try clear hcz38_1
               try clear hcz38_2
               try clear hcz40_0
               try clear hcz40_1
               try clear hcz40_2
               try clear hcz41_0
               try clear hcz41_1
               try clear hcz41_2
               try clear hfz27_0
               try clear hfz27_1
               try clear hfz27_2
               try clear hfz34_0
               try clear hfz34_1
               try clear hfz34_2
               try clear hfz37_0
               try clear hfz37_1
               try clear hfz37_2
               try clear hfz38_0
               try clear hfz38_1
               try clear hfz38_2
               try clear hfz40_0
               try clear hfz40_1
               try clear hfz40_2
               try clear hfz41_0
               try clear hfz41_1
               try clear hfz41_2
               try clear hx739_0
               try clear hx739_1
               try clear hx739_2
               try clear hx741_0
               try clear hx741_1
               try clear hx741_2
               try clear p2
               try clear p6
               try clear p7
               try clear p739
               try clear p741
               try clear q7
               try clear q739
               try clear q741
               obtain⟨kq,x95_30,rfl,HA,HJ30,HO_6,HO_72,HO_78,BK740,BK742,HB⟩:=hcut
               cases kq with
               |zero=>exact absurd HA.out (by simp [laws_FnBothWays.j3])
               |succ kj30=>
                have H:=HA.out
                clear HA
                simp only [laws_FnBothWays.j3] at H
                by_cases c42:x95_30=true
                ·subst c42
                 have H1:(if ((rd_T57 t726 x80_3).f0)= ((rd_T52 t729 x74_2).f1) then(if ((rd_T57 t726 x80_3).f1)= ((rd_T52 t729 x74_2).f0) then(laws_FnBothWays.l1 kj30 l1 t726 ((rd_T57 t726 x80_3).f2) ((rd_T57 t726 x80_3).f2) t729 (t729.length:Int) x74_2 t726 (t726.length:Int) (wrap64 (x80_3+1)) ((rd_T52 t729 x74_2).f0) ((rd_T52 t729 x74_2).f1) ((rd_T52 t729 x74_2).f2)) else(laws_FnBothWays.l1 kj30 l1 t726 ((rd_T57 t726 x80_3).f2) x14_3 t729 (t729.length:Int) x74_2 t726 (t726.length:Int) (wrap64 (x80_3+1)) ((rd_T52 t729 x74_2).f0) ((rd_T52 t729 x74_2).f1) ((rd_T52 t729 x74_2).f2))) else(laws_FnBothWays.l1 kj30 l1 t726 ((rd_T57 t726 x80_3).f2) x14_3 t729 (t729.length:Int) x74_2 t726 (t726.length:Int) (wrap64 (x80_3+1)) ((rd_T52 t729 x74_2).f0) ((rd_T52 t729 x74_2).f1) ((rd_T52 t729 x74_2).f2)))=some r:=by rw [if_pos rfl] at H;exact H
                 clear H
                 have H:=H1
                 clear H1
                 by_cases c43:((rd_T57 t726 x80_3).f0)= ((rd_T52 t729 x74_2).f1)
                 ·rw [if_pos c43] at H
                  have c43b0:(((rd_T57 t726 x80_3).f0)== ((rd_T52 t729 x74_2).f1))=true:=beq_iff_eq.mpr c43
                  have c43b1:(((rd_T57 t726 x80_3).f0) != ((rd_T52 t729 x74_2).f1))=false:=bne_eq_false_iff_eq.mpr c43
                  clear c43
                  by_cases c44:((rd_T57 t726 x80_3).f1)= ((rd_T52 t729 x74_2).f0)
                  ·rw [if_pos c44] at H
                   have c44b0:(((rd_T57 t726 x80_3).f1)== ((rd_T52 t729 x74_2).f0))=true:=beq_iff_eq.mpr c44
                   have c44b1:(((rd_T57 t726 x80_3).f1) != ((rd_T52 t729 x74_2).f0))=false:=bne_eq_false_iff_eq.mpr c44
                   clear c44
                   as_aux_lemma=>
                    have H':=Aside0.mk H
                    clear H
                    have hnb45:=NB742_740.out
                    have hnc45:=NB740_742.out
                    have hcz46_0:wc.cell? ⟨gb742,0,none⟩=some (.int .i64 ((rd_T57 t726 x80_3).f0)):=(blk_cell BK742.out 0).trans rfl
                    have hcz46_1:wc.cell? ⟨gb742,1,none⟩=some (.int .i64 ((rd_T57 t726 x80_3).f1)):=(blk_cell BK742.out 1).trans rfl
                    have hcz46_2:wc.cell? ⟨gb742,2,none⟩=some (.int .i64 ((rd_T57 t726 x80_3).f2)):=(blk_cell BK742.out 2).trans rfl
                    have hfz46_0:=blk_frozen BK742.out 0
                    have hfz46_1:=blk_frozen BK742.out 1
                    have hfz46_2:=blk_frozen BK742.out 2
                    have hcz47_0:wc.cell? ⟨gb740,0,none⟩=some (.int .i64 ((rd_T52 t729 x74_2).f0)):=(blk_cell BK740.out 0).trans rfl
                    have hcz47_1:wc.cell? ⟨gb740,1,none⟩=some (.int .i64 ((rd_T52 t729 x74_2).f1)):=(blk_cell BK740.out 1).trans rfl
                    have hcz47_2:wc.cell? ⟨gb740,2,none⟩=some (.int .i64 ((rd_T52 t729 x74_2).f2)):=(blk_cell BK740.out 2).trans rfl
                    have hfz47_0:=blk_frozen BK740.out 0
                    have hfz47_1:=blk_frozen BK740.out 1
                    have hfz47_2:=blk_frozen BK740.out 2
                    go_wp2
                    go_roundg kj30
                    case measure=>have:=HJ6.out;have:=HK2.out;have:=HK3.out;have:=HJ30.out;omega
                    case rel=>exact⟨(((rd_T57 t726 x80_3).f2)),(((rd_T57 t726 x80_3).f2)),(wrap64 (x80_3+1)),zrs,zrs,zrs,H',⟨by have:=HJ6.out;have:=HK2.out;have:=HK3.out;have:=HJ30.out;omega⟩,⟨by(with_reducible repeat(first|apply Kd.R_alloc|apply Kd.R_drewN|apply Kd.R_drew));exact Kd.R_mono HO_6.out (fun _ hk=>trivial)⟩,⟨zdr HO_72⟩,⟨by(with_reducible repeat(first|apply Kd.R_alloc|apply Kd.R_drewN|apply Kd.R_drew));exact Kd.R_mono HO_78.out (fun _ hk=>trivial)⟩,⟨by(with_reducible repeat(first|refine blk_drewN ?_ _|refine blk_drew ?_ |refine blk_alloc ?_ _));exact BK740.out⟩,⟨by exact zk3 HB GE740.out GE742.out⟩⟩
                  ·rw [if_neg c44] at H
                   have c44b0:(((rd_T57 t726 x80_3).f1)== ((rd_T52 t729 x74_2).f0))=false:=beq_eq_false_iff_ne.mpr c44
                   have c44b1:(((rd_T57 t726 x80_3).f1) != ((rd_T52 t729 x74_2).f0))=true:=bne_iff_ne.mpr c44
                   as_aux_lemma=>
                    have H':=Aside0.mk H
                    clear H
                    have hnb48:=NB742_740.out
                    have hnc48:=NB740_742.out
                    have hcz49_0:wc.cell? ⟨gb742,0,none⟩=some (.int .i64 ((rd_T57 t726 x80_3).f0)):=(blk_cell BK742.out 0).trans rfl
                    have hcz49_1:wc.cell? ⟨gb742,1,none⟩=some (.int .i64 ((rd_T57 t726 x80_3).f1)):=(blk_cell BK742.out 1).trans rfl
                    have hcz49_2:wc.cell? ⟨gb742,2,none⟩=some (.int .i64 ((rd_T57 t726 x80_3).f2)):=(blk_cell BK742.out 2).trans rfl
                    have hfz49_0:=blk_frozen BK742.out 0
                    have hfz49_1:=blk_frozen BK742.out 1
                    have hfz49_2:=blk_frozen BK742.out 2
                    have hcz50_0:wc.cell? ⟨gb740,0,none⟩=some (.int .i64 ((rd_T52 t729 x74_2).f0)):=(blk_cell BK740.out 0).trans rfl
                    have hcz50_1:wc.cell? ⟨gb740,1,none⟩=some (.int .i64 ((rd_T52 t729 x74_2).f1)):=(blk_cell BK740.out 1).trans rfl
                    have hcz50_2:wc.cell? ⟨gb740,2,none⟩=some (.int .i64 ((rd_T52 t729 x74_2).f2)):=(blk_cell BK740.out 2).trans rfl
                    have hfz50_0:=blk_frozen BK740.out 0
                    have hfz50_1:=blk_frozen BK740.out 1
                    have hfz50_2:=blk_frozen BK740.out 2
                    go_wp2
                    go_roundg kj30
                    case measure=>have:=HJ6.out;have:=HK2.out;have:=HK3.out;have:=HJ30.out;omega
                    case rel=>exact⟨(((rd_T57 t726 x80_3).f2)),(x14_3),(wrap64 (x80_3+1)),zrs,zrs,zrs,H',⟨by have:=HJ6.out;have:=HK2.out;have:=HK3.out;have:=HJ30.out;omega⟩,⟨by(with_reducible repeat(first|apply Kd.R_alloc|apply Kd.R_drewN|apply Kd.R_drew));exact Kd.R_mono HO_6.out (fun _ hk=>trivial)⟩,⟨zdr HO_72⟩,⟨by(with_reducible repeat(first|apply Kd.R_alloc|apply Kd.R_drewN|apply Kd.R_drew));exact Kd.R_mono HO_78.out (fun _ hk=>trivial)⟩,⟨by(with_reducible repeat(first|refine blk_drewN ?_ _|refine blk_drew ?_ |refine blk_alloc ?_ _));exact BK740.out⟩,⟨by exact zk3 HB GE740.out GE742.out⟩⟩
                 ·rw [if_neg c43] at H
                  have c43b0:(((rd_T57 t726 x80_3).f0)== ((rd_T52 t729 x74_2).f1))=false:=beq_eq_false_iff_ne.mpr c43
                  have c43b1:(((rd_T57 t726 x80_3).f0) != ((rd_T52 t729 x74_2).f1))=true:=bne_iff_ne.mpr c43
                  as_aux_lemma=>
                   have H':=Aside0.mk H
                   clear H
                   have hnb51:=NB742_740.out
                   have hnc51:=NB740_742.out
                   have hcz52_0:wc.cell? ⟨gb742,0,none⟩=some (.int .i64 ((rd_T57 t726 x80_3).f0)):=(blk_cell BK742.out 0).trans rfl
                   have hcz52_1:wc.cell? ⟨gb742,1,none⟩=some (.int .i64 ((rd_T57 t726 x80_3).f1)):=(blk_cell BK742.out 1).trans rfl
                   have hcz52_2:wc.cell? ⟨gb742,2,none⟩=some (.int .i64 ((rd_T57 t726 x80_3).f2)):=(blk_cell BK742.out 2).trans rfl
                   have hfz52_0:=blk_frozen BK742.out 0
                   have hfz52_1:=blk_frozen BK742.out 1
                   have hfz52_2:=blk_frozen BK742.out 2
                   have hcz53_0:wc.cell? ⟨gb740,0,none⟩=some (.int .i64 ((rd_T52 t729 x74_2).f0)):=(blk_cell BK740.out 0).trans rfl
                   have hcz53_1:wc.cell? ⟨gb740,1,none⟩=some (.int .i64 ((rd_T52 t729 x74_2).f1)):=(blk_cell BK740.out 1).trans rfl
                   have hcz53_2:wc.cell? ⟨gb740,2,none⟩=some (.int .i64 ((rd_T52 t729 x74_2).f2)):=(blk_cell BK740.out 2).trans rfl
                   have hfz53_0:=blk_frozen BK740.out 0
                   have hfz53_1:=blk_frozen BK740.out 1
                   have hfz53_2:=blk_frozen BK740.out 2
                   go_wp2
                   go_roundg kj30
                   case measure=>have:=HJ6.out;have:=HK2.out;have:=HK3.out;have:=HJ30.out;omega
                   case rel=>exact⟨(((rd_T57 t726 x80_3).f2)),(x14_3),(wrap64 (x80_3+1)),zrs,zrs,zrs,H',⟨by have:=HJ6.out;have:=HK2.out;have:=HK3.out;have:=HJ30.out;omega⟩,⟨by(with_reducible repeat(first|apply Kd.R_alloc|apply Kd.R_drewN|apply Kd.R_drew));exact Kd.R_mono HO_6.out (fun _ hk=>trivial)⟩,⟨zdr HO_72⟩,⟨by(with_reducible repeat(first|apply Kd.R_alloc|apply Kd.R_drewN|apply Kd.R_drew));exact Kd.R_mono HO_78.out (fun _ hk=>trivial)⟩,⟨by(with_reducible repeat(first|refine blk_drewN ?_ _|refine blk_drew ?_ |refine blk_alloc ?_ _));exact BK740.out⟩,⟨by exact zk3 HB GE740.out GE742.out⟩⟩
                ·replace c42:=Bool.eq_false_iff.mpr c42
                 subst c42
                 have H1:(if ((rd_T57 t726 x80_3).f0)= ((rd_T52 t729 x74_2).f1) then(if ((rd_T57 t726 x80_3).f1)= ((rd_T52 t729 x74_2).f0) then(laws_FnBothWays.l1 kj30 l1 t726 x13_3 ((rd_T57 t726 x80_3).f2) t729 (t729.length:Int) x74_2 t726 (t726.length:Int) (wrap64 (x80_3+1)) ((rd_T52 t729 x74_2).f0) ((rd_T52 t729 x74_2).f1) ((rd_T52 t729 x74_2).f2)) else(laws_FnBothWays.l1 kj30 l1 t726 x13_3 x14_3 t729 (t729.length:Int) x74_2 t726 (t726.length:Int) (wrap64 (x80_3+1)) ((rd_T52 t729 x74_2).f0) ((rd_T52 t729 x74_2).f1) ((rd_T52 t729 x74_2).f2))) else(laws_FnBothWays.l1 kj30 l1 t726 x13_3 x14_3 t729 (t729.length:Int) x74_2 t726 (t726.length:Int) (wrap64 (x80_3+1)) ((rd_T52 t729 x74_2).f0) ((rd_T52 t729 x74_2).f1) ((rd_T52 t729 x74_2).f2)))=some r:=by rw [if_neg (show ¬ (false=true) by decide)] at H;exact H
                 clear H
                 have H:=H1
                 clear H1
                 by_cases c54:((rd_T57 t726 x80_3).f0)= ((rd_T52 t729 x74_2).f1)
                 ·rw [if_pos c54] at H
                  have c54b0:(((rd_T57 t726 x80_3).f0)== ((rd_T52 t729 x74_2).f1))=true:=beq_iff_eq.mpr c54
                  have c54b1:(((rd_T57 t726 x80_3).f0) != ((rd_T52 t729 x74_2).f1))=false:=bne_eq_false_iff_eq.mpr c54
                  clear c54
                  by_cases c55:((rd_T57 t726 x80_3).f1)= ((rd_T52 t729 x74_2).f0)
                  ·rw [if_pos c55] at H
                   have c55b0:(((rd_T57 t726 x80_3).f1)== ((rd_T52 t729 x74_2).f0))=true:=beq_iff_eq.mpr c55
                   have c55b1:(((rd_T57 t726 x80_3).f1) != ((rd_T52 t729 x74_2).f0))=false:=bne_eq_false_iff_eq.mpr c55
                   clear c55
                   as_aux_lemma=>
                    have H':=Aside0.mk H
                    clear H
                    have hnb56:=NB742_740.out
                    have hnc56:=NB740_742.out
                    have hcz57_0:wc.cell? ⟨gb742,0,none⟩=some (.int .i64 ((rd_T57 t726 x80_3).f0)):=(blk_cell BK742.out 0).trans rfl
                    have hcz57_1:wc.cell? ⟨gb742,1,none⟩=some (.int .i64 ((rd_T57 t726 x80_3).f1)):=(blk_cell BK742.out 1).trans rfl
                    have hcz57_2:wc.cell? ⟨gb742,2,none⟩=some (.int .i64 ((rd_T57 t726 x80_3).f2)):=(blk_cell BK742.out 2).trans rfl
                    have hfz57_0:=blk_frozen BK742.out 0
                    have hfz57_1:=blk_frozen BK742.out 1
                    have hfz57_2:=blk_frozen BK742.out 2
                    have hcz58_0:wc.cell? ⟨gb740,0,none⟩=some (.int .i64 ((rd_T52 t729 x74_2).f0)):=(blk_cell BK740.out 0).trans rfl
                    have hcz58_1:wc.cell? ⟨gb740,1,none⟩=some (.int .i64 ((rd_T52 t729 x74_2).f1)):=(blk_cell BK740.out 1).trans rfl
                    have hcz58_2:wc.cell? ⟨gb740,2,none⟩=some (.int .i64 ((rd_T52 t729 x74_2).f2)):=(blk_cell BK740.out 2).trans rfl
                    have hfz58_0:=blk_frozen BK740.out 0
                    have hfz58_1:=blk_frozen BK740.out 1
                    have hfz58_2:=blk_frozen BK740.out 2
                    go_wp2
                    go_roundg kj30
                    case measure=>have:=HJ6.out;have:=HK2.out;have:=HK3.out;have:=HJ30.out;omega
                    case rel=>exact⟨(x13_3),(((rd_T57 t726 x80_3).f2)),(wrap64 (x80_3+1)),zrs,zrs,zrs,H',⟨by have:=HJ6.out;have:=HK2.out;have:=HK3.out;have:=HJ30.out;omega⟩,⟨by(with_reducible repeat(first|apply Kd.R_alloc|apply Kd.R_drewN|apply Kd.R_drew));exact Kd.R_mono HO_6.out (fun _ hk=>trivial)⟩,⟨zdr HO_72⟩,⟨by(with_reducible repeat(first|apply Kd.R_alloc|apply Kd.R_drewN|apply Kd.R_drew));exact Kd.R_mono HO_78.out (fun _ hk=>trivial)⟩,⟨by(with_reducible repeat(first|refine blk_drewN ?_ _|refine blk_drew ?_ |refine blk_alloc ?_ _));exact BK740.out⟩,⟨by exact zk3 HB GE740.out GE742.out⟩⟩
                  ·rw [if_neg c55] at H
                   have c55b0:(((rd_T57 t726 x80_3).f1)== ((rd_T52 t729 x74_2).f0))=false:=beq_eq_false_iff_ne.mpr c55
                   have c55b1:(((rd_T57 t726 x80_3).f1) != ((rd_T52 t729 x74_2).f0))=true:=bne_iff_ne.mpr c55
                   as_aux_lemma=>
                    have H':=Aside0.mk H
                    clear H
                    have hnb59:=NB742_740.out
                    have hnc59:=NB740_742.out
                    have hcz60_0:wc.cell? ⟨gb742,0,none⟩=some (.int .i64 ((rd_T57 t726 x80_3).f0)):=(blk_cell BK742.out 0).trans rfl
                    have hcz60_1:wc.cell? ⟨gb742,1,none⟩=some (.int .i64 ((rd_T57 t726 x80_3).f1)):=(blk_cell BK742.out 1).trans rfl
                    have hcz60_2:wc.cell? ⟨gb742,2,none⟩=some (.int .i64 ((rd_T57 t726 x80_3).f2)):=(blk_cell BK742.out 2).trans rfl
                    have hfz60_0:=blk_frozen BK742.out 0
                    have hfz60_1:=blk_frozen BK742.out 1
                    have hfz60_2:=blk_frozen BK742.out 2
                    have hcz61_0:wc.cell? ⟨gb740,0,none⟩=some (.int .i64 ((rd_T52 t729 x74_2).f0)):=(blk_cell BK740.out 0).trans rfl
                    have hcz61_1:wc.cell? ⟨gb740,1,none⟩=some (.int .i64 ((rd_T52 t729 x74_2).f1)):=(blk_cell BK740.out 1).trans rfl
                    have hcz61_2:wc.cell? ⟨gb740,2,none⟩=some (.int .i64 ((rd_T52 t729 x74_2).f2)):=(blk_cell BK740.out 2).trans rfl
                    have hfz61_0:=blk_frozen BK740.out 0
                    have hfz61_1:=blk_frozen BK740.out 1
                    have hfz61_2:=blk_frozen BK740.out 2
                    go_wp2
                    go_roundg kj30
                    case measure=>have:=HJ6.out;have:=HK2.out;have:=HK3.out;have:=HJ30.out;omega
                    case rel=>exact⟨(x13_3),(x14_3),(wrap64 (x80_3+1)),zrs,zrs,zrs,H',⟨by have:=HJ6.out;have:=HK2.out;have:=HK3.out;have:=HJ30.out;omega⟩,⟨by(with_reducible repeat(first|apply Kd.R_alloc|apply Kd.R_drewN|apply Kd.R_drew));exact Kd.R_mono HO_6.out (fun _ hk=>trivial)⟩,⟨zdr HO_72⟩,⟨by(with_reducible repeat(first|apply Kd.R_alloc|apply Kd.R_drewN|apply Kd.R_drew));exact Kd.R_mono HO_78.out (fun _ hk=>trivial)⟩,⟨by(with_reducible repeat(first|refine blk_drewN ?_ _|refine blk_drew ?_ |refine blk_alloc ?_ _));exact BK740.out⟩,⟨by exact zk3 HB GE740.out GE742.out⟩⟩
                 ·rw [if_neg c54] at H
                  have c54b0:(((rd_T57 t726 x80_3).f0)== ((rd_T52 t729 x74_2).f1))=false:=beq_eq_false_iff_ne.mpr c54
                  have c54b1:(((rd_T57 t726 x80_3).f0) != ((rd_T52 t729 x74_2).f1))=true:=bne_iff_ne.mpr c54
                  as_aux_lemma=>
                   have H':=Aside0.mk H
                   clear H
                   have hnb62:=NB742_740.out
                   have hnc62:=NB740_742.out
                   have hcz63_0:wc.cell? ⟨gb742,0,none⟩=some (.int .i64 ((rd_T57 t726 x80_3).f0)):=(blk_cell BK742.out 0).trans rfl
                   have hcz63_1:wc.cell? ⟨gb742,1,none⟩=some (.int .i64 ((rd_T57 t726 x80_3).f1)):=(blk_cell BK742.out 1).trans rfl
                   have hcz63_2:wc.cell? ⟨gb742,2,none⟩=some (.int .i64 ((rd_T57 t726 x80_3).f2)):=(blk_cell BK742.out 2).trans rfl
                   have hfz63_0:=blk_frozen BK742.out 0
                   have hfz63_1:=blk_frozen BK742.out 1
                   have hfz63_2:=blk_frozen BK742.out 2
                   have hcz64_0:wc.cell? ⟨gb740,0,none⟩=some (.int .i64 ((rd_T52 t729 x74_2).f0)):=(blk_cell BK740.out 0).trans rfl
                   have hcz64_1:wc.cell? ⟨gb740,1,none⟩=some (.int .i64 ((rd_T52 t729 x74_2).f1)):=(blk_cell BK740.out 1).trans rfl
                   have hcz64_2:wc.cell? ⟨gb740,2,none⟩=some (.int .i64 ((rd_T52 t729 x74_2).f2)):=(blk_cell BK740.out 2).trans rfl
                   have hfz64_0:=blk_frozen BK740.out 0
                   have hfz64_1:=blk_frozen BK740.out 1
                   have hfz64_2:=blk_frozen BK740.out 2
                   go_wp2
                   go_roundg kj30
                   case measure=>have:=HJ6.out;have:=HK2.out;have:=HK3.out;have:=HJ30.out;omega
                   case rel=>exact⟨(x13_3),(x14_3),(wrap64 (x80_3+1)),zrs,zrs,zrs,H',⟨by have:=HJ6.out;have:=HK2.out;have:=HK3.out;have:=HJ30.out;omega⟩,⟨by(with_reducible repeat(first|apply Kd.R_alloc|apply Kd.R_drewN|apply Kd.R_drew));exact Kd.R_mono HO_6.out (fun _ hk=>trivial)⟩,⟨zdr HO_72⟩,⟨by(with_reducible repeat(first|apply Kd.R_alloc|apply Kd.R_drewN|apply Kd.R_drew));exact Kd.R_mono HO_78.out (fun _ hk=>trivial)⟩,⟨by(with_reducible repeat(first|refine blk_drewN ?_ _|refine blk_drew ?_ |refine blk_alloc ?_ _));exact BK740.out⟩,⟨by exact zk3 HB GE740.out GE742.out⟩⟩
             ·rw [if_neg c28] at H
              have c28b0:decide (x80_3< (t726.length:Int))=false:=decide_eq_false c28
              clear c28
              by_cases c65:x13_3=0
              ·rw [if_pos c65] at H
               have c65b0:(x13_3==0)=true:=beq_iff_eq.mpr c65
               have c65b1:(x13_3 !=0)=false:=bne_eq_false_iff_eq.mpr c65
               clear c65
               exact absurd ((Option.some.inj H).trans HRT.out) (by decide)
              ·rw [if_neg c65] at H
               have c65b0:(x13_3==0)=false:=beq_eq_false_iff_ne.mpr c65
               have c65b1:(x13_3 !=0)=true:=bne_iff_ne.mpr c65
               by_cases c66:x14_3=0
               ·rw [if_pos c66] at H
                have c66b0:(x14_3==0)=true:=beq_iff_eq.mpr c66
                have c66b1:(x14_3 !=0)=false:=bne_eq_false_iff_eq.mpr c66
                clear c66
                exact absurd ((Option.some.inj H).trans HRT.out) (by decide)
               ·rw [if_neg c66] at H
                have c66b0:(x14_3==0)=false:=beq_eq_false_iff_ne.mpr c66
                have c66b1:(x14_3 !=0)=true:=bne_iff_ne.mpr c66
                by_cases c67:((rd_T52 t729 x74_2).f2)<x13_3
                ·rw [if_pos c67] at H
                 have c67b0:decide (((rd_T52 t729 x74_2).f2)<x13_3)=true:=decide_eq_true c67
                 clear c67
                 exact absurd ((Option.some.inj H).trans HRT.out) (by decide)
                ·rw [if_neg c67] at H
                 have c67b0:decide (((rd_T52 t729 x74_2).f2)<x13_3)=false:=decide_eq_false c67
                 clear c67
                 by_cases c68:((rd_T52 t729 x74_2).f2)<x14_3
                 ·rw [if_pos c68] at H
                  have c68b0:decide (((rd_T52 t729 x74_2).f2)<x14_3)=true:=decide_eq_true c68
                  clear c68
                  exact absurd ((Option.some.inj H).trans HRT.out) (by decide)
                 ·rw [if_neg c68] at H
                  have c68b0:decide (((rd_T52 t729 x74_2).f2)<x14_3)=false:=decide_eq_false c68
                  clear c68
                  by_cases c69:((rd_T52 t729 x74_2).f2)=x13_3
                  ·rw [if_pos c69] at H
                   have c69b0:(((rd_T52 t729 x74_2).f2)==x13_3)=true:=beq_iff_eq.mpr c69
                   have c69b1:(((rd_T52 t729 x74_2).f2) !=x13_3)=false:=bne_eq_false_iff_eq.mpr c69
                   clear c69
                   as_aux_lemma=>
                    have H':=Aside0.mk H
                    clear H
                    have hcz70_0:wr.cell? ⟨gb740,0,none⟩=some (.int .i64 ((rd_T52 t729 x74_2).f0)):=(blk_cell BK740.out 0).trans rfl
                    have hcz70_1:wr.cell? ⟨gb740,1,none⟩=some (.int .i64 ((rd_T52 t729 x74_2).f1)):=(blk_cell BK740.out 1).trans rfl
                    have hcz70_2:wr.cell? ⟨gb740,2,none⟩=some (.int .i64 ((rd_T52 t729 x74_2).f2)):=(blk_cell BK740.out 2).trans rfl
                    have hfz70_0:=blk_frozen BK740.out 0
                    have hfz70_1:=blk_frozen BK740.out 1
                    have hfz70_2:=blk_frozen BK740.out 2
                    go_wp2
                    go_roundg k3
                    case measure=>have:=HJ6.out;have:=HK2.out;have:=HK3.out;omega
                    case rel=>exact⟨(wrap64 (x74_2+1)),zrs,H',⟨by have:=HJ6.out;have:=HK2.out;have:=HK3.out;omega⟩,⟨zdr HO_6⟩,⟨by(with_reducible repeat(first|apply Kd.R_alloc|apply Kd.R_drewN|apply Kd.R_drew));exact Kd.R_mono HO_72.out (fun _ hk=>trivial)⟩,⟨by exact zk2 HB GE740.out⟩⟩
                  ·rw [if_neg c69] at H
                   have c69b0:(((rd_T52 t729 x74_2).f2)==x13_3)=false:=beq_eq_false_iff_ne.mpr c69
                   have c69b1:(((rd_T52 t729 x74_2).f2) !=x13_3)=true:=bne_iff_ne.mpr c69
                   by_cases c71:((rd_T52 t729 x74_2).f2)=x14_3
                   ·rw [if_pos c71] at H
                    have c71b0:(((rd_T52 t729 x74_2).f2)==x14_3)=true:=beq_iff_eq.mpr c71
                    have c71b1:(((rd_T52 t729 x74_2).f2) !=x14_3)=false:=bne_eq_false_iff_eq.mpr c71
                    clear c71
                    as_aux_lemma=>
                     have H':=Aside0.mk H
                     clear H
                     have hcz72_0:wr.cell? ⟨gb740,0,none⟩=some (.int .i64 ((rd_T52 t729 x74_2).f0)):=(blk_cell BK740.out 0).trans rfl
                     have hcz72_1:wr.cell? ⟨gb740,1,none⟩=some (.int .i64 ((rd_T52 t729 x74_2).f1)):=(blk_cell BK740.out 1).trans rfl
                     have hcz72_2:wr.cell? ⟨gb740,2,none⟩=some (.int .i64 ((rd_T52 t729 x74_2).f2)):=(blk_cell BK740.out 2).trans rfl
                     have hfz72_0:=blk_frozen BK740.out 0
                     have hfz72_1:=blk_frozen BK740.out 1
                     have hfz72_2:=blk_frozen BK740.out 2
                     go_wp2
                     go_roundg k3
                     case measure=>have:=HJ6.out;have:=HK2.out;have:=HK3.out;omega
                     case rel=>exact⟨(wrap64 (x74_2+1)),zrs,H',⟨by have:=HJ6.out;have:=HK2.out;have:=HK3.out;omega⟩,⟨zdr HO_6⟩,⟨by(with_reducible repeat(first|apply Kd.R_alloc|apply Kd.R_drewN|apply Kd.R_drew));exact Kd.R_mono HO_72.out (fun _ hk=>trivial)⟩,⟨by exact zk2 HB GE740.out⟩⟩
                   ·rw [if_neg c71] at H
                    have c71b0:(((rd_T52 t729 x74_2).f2)==x14_3)=false:=beq_eq_false_iff_ne.mpr c71
                    have c71b1:(((rd_T52 t729 x74_2).f2) !=x14_3)=true:=bne_iff_ne.mpr c71
                    exact absurd ((Option.some.inj H).trans HRT.out) (by decide)
          ·rw [if_neg c23] at H
           have c23b0:decide (x74_2< (t729.length:Int))=false:=decide_eq_false c23
           clear c23
           (first|rw [c23b0]|(simp only [i64_w,i32_w];rw [c23b0])|skip)
           as_aux_lemma=>
            have H':=Aside0.mk H
            clear H
            go_wp2
            go_meet
            case rel=>exact⟨_,H',⟨by have:=HJ6.out;have:=HK2.out;first|omega|exact Nat.le_refl _⟩,⟨by exact zk1 HB⟩⟩
       ·replace c20:=Bool.eq_false_iff.mpr c20
        subst c20
        have H1:(some false)=some r:=by rw [if_neg (show ¬ (false=true) by decide)] at H;exact H
        clear H
        have H:=H1
        clear H1
        exact absurd ((Option.some.inj H).trans HRT.out) (by decide)
      ·replace c18:=Bool.eq_false_iff.mpr c18
       subst c18
       have H1:(laws_FnBothWays.j4 kj6 l1)=some r:=by rw [if_neg (show ¬ (false=true) by decide)] at H;exact H
       clear H
       have H:=H1
       clear H1
       as_aux_lemma=>
        have H':=Aside0.mk H
        clear H
        go_wp2
        go_meet
        case rel=>exact⟨_,H',⟨by have:=HJ6.out;first|omega|exact Nat.le_refl _⟩,⟨by exact zk1 HB⟩⟩
     case rest=>
      clear HC17
      try clear c1
      try clear c2
      try clear p2
      try clear c3
      try clear c3b0
      try clear c4
      try clear c5
      try clear c6
      try clear p6
      try clear c7
      try clear p7
      try clear q7
      try clear hx7
      try clear c9
      try clear c12
      try clear c12b0
      try clear c12b1
      try clear c12b2
      try clear c16
      try clear c18
      try clear c20
      try clear c22
      try clear c23
      try clear c23b0
      try clear c24
      try clear c24b0
      try clear c25
      try clear c25b0
      try clear c28
      try clear c28b0
      try clear c29
      try clear c29b0
      try clear c30
      try clear c30b0
      try clear c33
      try clear c34
      try clear c35
      try clear c35b0
      try clear c35b1
      try clear c36
      try clear c39
      try clear c42
      try clear c43
      try clear c43b0
      try clear c43b1
      try clear c44
      try clear c44b0
      try clear c44b1
      try clear c45
      try clear c48
      try clear c51
      try clear c54
      try clear c54b0
      try clear c54b1
      try clear c55
      try clear c55b0
      try clear c55b1
      try clear c56
      try clear c59
      try clear c62
      try clear p64
      try clear c65
      try clear c65b0
      try clear c65b1
      try clear c66
      try clear c66b0
      try clear c66b1
      try clear c67
      try clear c67b0
      try clear c68
      try clear c68b0
      try clear c69
      try clear c69b0
      try clear c69b1
      try clear c71
      try clear c71b0
      try clear c71b1
      try clear hcz27_0
      try clear hcz27_1
      try clear hcz27_2
      try clear hcz34_0
      try clear hcz34_1
      try clear hcz34_2
      try clear hcz37_0
      try clear hcz37_1
      try clear hcz37_2
      try clear hcz38_0
      try clear hcz38_1
      try clear hcz38_2
      try clear hcz40_0
      try clear hcz40_1
      try clear hcz40_2
      try clear hcz41_0
      try clear hcz41_1
      try clear hcz41_2
      try clear hcz46_0
      try clear hcz46_1
      try clear hcz46_2
      try clear hcz47_0
      try clear hcz47_1
      try clear hcz47_2
      try clear hcz49_0
      try clear hcz49_1
      try clear hcz49_2
      try clear hcz50_0
      try clear hcz50_1
      try clear hcz50_2
      try clear hcz52_0
      try clear hcz52_1
      try clear hcz52_2
      try clear hcz53_0
      try clear hcz53_1
      try clear hcz53_2
      try clear hcz57_0
      try clear hcz57_1
      try clear hcz57_2
      try clear hcz58_0
      try clear hcz58_1
      try clear hcz58_2
      try clear hcz60_0
      try clear hcz60_1
      try clear hcz60_2
      try clear hcz61_0
      try clear hcz61_1
      try clear hcz61_2
      try clear hcz63_0
      try clear hcz63_1
      try clear hcz63_2
      try clear hcz64_0
      try clear hcz64_1
      try clear hcz64_2
      try clear hcz70_0
      try clear hcz70_1
      try clear hcz70_2
      try clear hcz72_0
      try clear hcz72_1
      try clear hcz72_2
      try clear hfz27_0
      try clear hfz27_1
      try clear hfz27_2
      try clear hfz34_0
      try clear hfz34_1
      try clear hfz34_2
      try clear hfz37_0
      try clear hfz37_1
      try clear hfz37_2
      try clear hfz38_0
      try clear hfz38_1
      try clear hfz38_2
      try clear hfz40_0
      try clear hfz40_1
      try clear hfz40_2
      try clear hfz41_0
      try clear hfz41_1
      try clear hfz41_2
      try clear hfz46_0
      try clear hfz46_1
      try clear hfz46_2
      try clear hfz47_0
      try clear hfz47_1
      try clear hfz47_2
      try clear hfz49_0
      try clear hfz49_1
      try clear hfz49_2
      try clear hfz50_0
      try clear hfz50_1
      try clear hfz50_2
      try clear hfz52_0
      try clear hfz52_1
      try clear hfz52_2
      try clear hfz53_0
      try clear hfz53_1
      try clear hfz53_2
      try clear hfz57_0
      try clear hfz57_1
      try clear hfz57_2
      try clear hfz58_0
      try clear hfz58_1
      try clear hfz58_2
      try clear hfz60_0
      try clear hfz60_1
      try clear hfz60_2
      try clear hfz61_0
      try clear hfz61_1
      try clear hfz61_2
      try clear hfz63_0
      try clear hfz63_1
      try clear hfz63_2
      try clear hfz64_0
      try clear hfz64_1
      try clear hfz64_2
      try clear hfz70_0
      try clear hfz70_1
      try clear hfz70_2
      try clear hfz72_0
      try clear hfz72_1
      try clear hfz72_2
      try clear hx739_0
      try clear hx739_1
      try clear hx739_2
      try clear hx741_0
      try clear hx741_1
      try clear hx741_2
      try clear p2
      try clear p6
      try clear p7
      try clear p739
      try clear p741
      try clear q7
      try clear q739
      try clear q741
      obtain⟨kq,HA,HJ16,HB⟩:=hcut
      cases kq with
      |zero=>exact absurd HA.out (by simp [laws_FnBothWays.j4])
      |succ kj16=>
       have H:=HA.out
       clear HA
       simp only [laws_FnBothWays.j4] at H
       replace H:=Option.bind_eq_some_iff.mp H
       obtain⟨⟨t743,t744,t745⟩,A730,H⟩:=H
       replace H:((impl_NearOf.f kj16 t743 t744 t745).bind fun bt748=>((spec_NearOf.f kj16 t743 t744 t745).bind fun bt752=>((spec_DrawWithoutEdge.f kj16 l1).bind fun bt756=>((impl_WithoutEdge.f kj16 bt756.1 bt756.2.1 bt756.2.2).bind fun bt761=>((spec_WithoutEdge.f kj16 bt756.1 bt756.2.1 bt756.2.2).bind fun bt765=>(if (bt748.2 !=bt752.2)=true then(laws_FnBothWays.j5 kj16 t743 t744 t745 bt748.1 bt748.2 true) else((laws_sameInts.f kj16 bt748.1 bt752.1).bind fun t769=>(if t769=true then(if (bt761.2 !=bt765.2)=true then(laws_FnBothWays.j5 kj16 t743 t744 t745 bt748.1 bt748.2 true) else((laws_sameEdges.f kj16 bt761.1 bt765.1).bind fun t770=>(laws_FnBothWays.j5 kj16 t743 t744 t745 bt748.1 bt748.2 (!t770)))) else(laws_FnBothWays.j5 kj16 t743 t744 t745 bt748.1 bt748.2 true)))))))))=some r:=H
       have A73:=Aside0.mk A730
       clear A730
       replace H:=Option.bind_eq_some_iff.mp H
       obtain⟨⟨t748,t749⟩,A740,H⟩:=H
       replace H:((spec_NearOf.f kj16 t743 t744 t745).bind fun bt752=>((spec_DrawWithoutEdge.f kj16 l1).bind fun bt756=>((impl_WithoutEdge.f kj16 bt756.1 bt756.2.1 bt756.2.2).bind fun bt761=>((spec_WithoutEdge.f kj16 bt756.1 bt756.2.1 bt756.2.2).bind fun bt765=>(if (t749 !=bt752.2)=true then(laws_FnBothWays.j5 kj16 t743 t744 t745 t748 t749 true) else((laws_sameInts.f kj16 t748 bt752.1).bind fun t769=>(if t769=true then(if (bt761.2 !=bt765.2)=true then(laws_FnBothWays.j5 kj16 t743 t744 t745 t748 t749 true) else((laws_sameEdges.f kj16 bt761.1 bt765.1).bind fun t770=>(laws_FnBothWays.j5 kj16 t743 t744 t745 t748 t749 (!t770)))) else(laws_FnBothWays.j5 kj16 t743 t744 t745 t748 t749 true))))))))=some r:=H
       have A74:=Aside0.mk A740
       clear A740
       replace H:=Option.bind_eq_some_iff.mp H
       obtain⟨⟨t752,t753⟩,A750,H⟩:=H
       replace H:((spec_DrawWithoutEdge.f kj16 l1).bind fun bt756=>((impl_WithoutEdge.f kj16 bt756.1 bt756.2.1 bt756.2.2).bind fun bt761=>((spec_WithoutEdge.f kj16 bt756.1 bt756.2.1 bt756.2.2).bind fun bt765=>(if (t749 !=t753)=true then(laws_FnBothWays.j5 kj16 t743 t744 t745 t748 t749 true) else((laws_sameInts.f kj16 t748 t752).bind fun t769=>(if t769=true then(if (bt761.2 !=bt765.2)=true then(laws_FnBothWays.j5 kj16 t743 t744 t745 t748 t749 true) else((laws_sameEdges.f kj16 bt761.1 bt765.1).bind fun t770=>(laws_FnBothWays.j5 kj16 t743 t744 t745 t748 t749 (!t770)))) else(laws_FnBothWays.j5 kj16 t743 t744 t745 t748 t749 true)))))))=some r:=H
       have A75:=Aside0.mk A750
       clear A750
       replace H:=Option.bind_eq_some_iff.mp H
       obtain⟨⟨t756,t757,t758⟩,A760,H⟩:=H
       replace H:((impl_WithoutEdge.f kj16 t756 t757 t758).bind fun bt761=>((spec_WithoutEdge.f kj16 t756 t757 t758).bind fun bt765=>(if (t749 !=t753)=true then(laws_FnBothWays.j5 kj16 t743 t744 t745 t748 t749 true) else((laws_sameInts.f kj16 t748 t752).bind fun t769=>(if t769=true then(if (bt761.2 !=bt765.2)=true then(laws_FnBothWays.j5 kj16 t743 t744 t745 t748 t749 true) else((laws_sameEdges.f kj16 bt761.1 bt765.1).bind fun t770=>(laws_FnBothWays.j5 kj16 t743 t744 t745 t748 t749 (!t770)))) else(laws_FnBothWays.j5 kj16 t743 t744 t745 t748 t749 true))))))=some r:=H
       have A76:=Aside0.mk A760
       clear A760
       replace H:=Option.bind_eq_some_iff.mp H
       obtain⟨⟨t761,t762⟩,A770,H⟩:=H
       replace H:((spec_WithoutEdge.f kj16 t756 t757 t758).bind fun bt765=>(if (t749 !=t753)=true then(laws_FnBothWays.j5 kj16 t743 t744 t745 t748 t749 true) else((laws_sameInts.f kj16 t748 t752).bind fun t769=>(if t769=true then(if (t762 !=bt765.2)=true then(laws_FnBothWays.j5 kj16 t743 t744 t745 t748 t749 true) else((laws_sameEdges.f kj16 t761 bt765.1).bind fun t770=>(laws_FnBothWays.j5 kj16 t743 t744 t745 t748 t749 (!t770)))) else(laws_FnBothWays.j5 kj16 t743 t744 t745 t748 t749 true)))))=some r:=H
       have A77:=Aside0.mk A770
       clear A770
       replace H:=Option.bind_eq_some_iff.mp H
       obtain⟨⟨t765,t766⟩,A780,H⟩:=H
       replace H:(if (t749 !=t753)=true then(laws_FnBothWays.j5 kj16 t743 t744 t745 t748 t749 true) else((laws_sameInts.f kj16 t748 t752).bind fun t769=>(if t769=true then(if (t762 !=t766)=true then(laws_FnBothWays.j5 kj16 t743 t744 t745 t748 t749 true) else((laws_sameEdges.f kj16 t761 t765).bind fun t770=>(laws_FnBothWays.j5 kj16 t743 t744 t745 t748 t749 (!t770)))) else(laws_FnBothWays.j5 kj16 t743 t744 t745 t748 t749 true))))=some r:=H
       have A78:=Aside0.mk A780
       clear A780
       have HC79:=Aside0.mk H
       clear H
       go_upto_region 33 with (first|((with_reducible refine gate_callee (f:=38) rfl ?_);refine goesL_ (some 146) rfl rfl Try.func38 (by kernel_rfl) rfl #[.slice A1 l1.length c1] rfl zq2 ?_;(with_reducible refine(spec_DrawNearOf.calls kj16 _ _ l1 t743 t744 t745 _ ?side1 ?side2 A73.out).mono ?_);(case side1=>exact zcc ((Kd.C_below HR1.out HB.out)));(case side2=>exact HC1.out);rintro e w80 ⟨v746,rfl,ho0,hb⟩;refine⟨_,rfl,?_⟩;have HO747:=Aside0.mk (Kd.R_lower ho0 (below_size (by exact zk1 HB)));replace HB:=Aside0.mk (below_step (by exact zk1 HB) hb);(try clear hb);(try clear hb2);(try clear hk);(try clear hi);(try clear ho0);obtain⟨Ao81,co81,eo81⟩:=Kd.R_slice HO747.out;subst eo81)|((with_reducible refine gate_callee (f:=31) rfl ?_);refine goesL_ (some 154) rfl rfl Try.func31 (by kernel_rfl) rfl #[.int .i64 t743,.slice Ao81 t744.length co81,.int .i64 t745] rfl zq2 ?_;(with_reducible refine(impl_NearOf.calls kj16 t743 _ _ t744 t745 t748 t749 _ ?side1 ?side2 A74.out).mono ?_);(case side1=>exact zcc ((Kd.R_reads' HO747.out).2.2));(case side2=>exact(Kd.R_reads' HO747.out).2.1);rintro e w82 ⟨v750,rfl,ho0,hb⟩;refine⟨_,rfl,?_⟩;have HO751:=Aside0.mk (Kd.R_lower ho0 (below_size (by exact zk1 HB)));replace HO747:=Aside0.mk (Kd.R_below (zq4 HO747) hb);replace HB:=Aside0.mk (below_step (by exact zk1 HB) hb);(try clear hb);(try clear hb2);(try clear hk);(try clear hi);(try clear ho0))|((with_reducible refine gate_callee (f:=30) rfl ?_);refine goesL_ (some 161) rfl rfl Try.func30 (by kernel_rfl) rfl #[.int .i64 t743,.slice Ao81 t744.length co81,.int .i64 t745] rfl zq2 ?_;(with_reducible refine(spec_NearOf.calls kj16 t743 _ _ t744 t745 t752 t753 _ ?side1 ?side2 A75.out).mono ?_);(case side1=>exact zcc ((Kd.R_reads' HO747.out).2.2));(case side2=>exact(Kd.R_reads' HO747.out).2.1);rintro e w83 ⟨v754,rfl,ho0,hb⟩;refine⟨_,rfl,?_⟩;have HO755:=Aside0.mk (Kd.R_lower (Kd.R_new' ho0 (Kd.R_lt (zq4 HO751))) (below_size (by exact zk1 HB)));replace HO747:=Aside0.mk (Kd.R_below (zq4 HO747) hb);replace HO751:=Aside0.mk (Kd.R_elder' (zq4 HO751) (Kd.R_base ho0) hb);replace HB:=Aside0.mk (below_step (by exact zk1 HB) hb);(try clear hb);(try clear hb2);(try clear hk);(try clear hi);(try clear ho0))|((with_reducible refine gate_callee (f:=39) rfl ?_);refine goesL_ (some 166) rfl rfl Try.func39 (by kernel_rfl) rfl #[.slice A1 l1.length c1] rfl zq2 ?_;(with_reducible refine(spec_DrawWithoutEdge.calls kj16 _ _ l1 t756 t757 t758 _ ?side1 ?side2 A76.out).mono ?_);(case side1=>exact zcc ((Kd.C_below HR1.out HB.out)));(case side2=>exact HC1.out);rintro e w84 ⟨v759,rfl,ho0,hb⟩;refine⟨_,rfl,?_⟩;have HO760:=Aside0.mk (Kd.R_lower (Kd.R_new' ho0 (Kd.R_lt (zq4 HO747))) (below_size (by exact zk1 HB)));replace HO747:=Aside0.mk (Kd.R_elder' (zq4 HO747) (Kd.R_base ho0) hb);replace HO751:=Aside0.mk (Kd.R_below (zq4 HO751) hb);replace HO755:=Aside0.mk (Kd.R_below (zq4 HO755) hb);replace HB:=Aside0.mk (below_step (by exact zk1 HB) hb);(try clear hb);(try clear hb2);(try clear hk);(try clear hi);(try clear ho0);obtain⟨Ao85,co85,eo85⟩:=Kd.R_slice HO760.out;subst eo85)|((with_reducible refine gate_callee (f:=40) rfl ?_);refine goesL_ (some 174) rfl rfl Try.func40 (by kernel_rfl) rfl #[.int .i64 t756,.slice Ao85 t757.length co85,.int .i64 t758] rfl zq2 ?_;(with_reducible refine(impl_WithoutEdge.calls kj16 t756 _ _ t757 t758 t761 t762 _ ?side1 ?side2 A77.out).mono ?_);(case side1=>exact zcc ((Kd.R_reads' HO760.out).2.2));(case side2=>exact(Kd.R_reads' HO760.out).2.1);rintro e w86 ⟨v763,rfl,ho0,hb⟩;refine⟨_,rfl,?_⟩;have HO764:=Aside0.mk (Kd.R_lower (Kd.R_new' (Kd.R_new' ho0 (Kd.R_lt (zq4 HO747))) (Kd.R_lt (zq4 HO760))) (below_size (by exact zk1 HB)));replace HO747:=Aside0.mk (Kd.R_elder' (zq4 HO747) (Kd.R_base ho0) hb);replace HO751:=Aside0.mk (Kd.R_below (zq4 HO751) hb);replace HO755:=Aside0.mk (Kd.R_below (zq4 HO755) hb);replace HO760:=Aside0.mk (Kd.R_elder' (zq4 HO760) (Kd.R_base ho0) hb);replace HB:=Aside0.mk (below_step (by exact zk1 HB) hb);(try clear hb);(try clear hb2);(try clear hk);(try clear hi);(try clear ho0))|((with_reducible refine gate_callee (f:=41) rfl ?_);refine goesL_ (some 181) rfl rfl Try.func41 (by kernel_rfl) rfl #[.int .i64 t756,.slice Ao85 t757.length co85,.int .i64 t758] rfl zq2 ?_;(with_reducible refine(spec_WithoutEdge.calls kj16 t756 _ _ t757 t758 t765 t766 _ ?side1 ?side2 A78.out).mono ?_);(case side1=>exact zcc ((Kd.R_reads' HO760.out).2.2));(case side2=>exact(Kd.R_reads' HO760.out).2.1);rintro e w87 ⟨v767,rfl,ho0,hb⟩;refine⟨_,rfl,?_⟩;have HO768:=Aside0.mk (Kd.R_lower (Kd.R_new' (Kd.R_new' (Kd.R_new' ho0 (Kd.R_lt (zq4 HO747))) (Kd.R_lt (zq4 HO760))) (Kd.R_lt (zq4 HO764))) (below_size (by exact zk1 HB)));replace HO747:=Aside0.mk (Kd.R_elder' (zq4 HO747) (Kd.R_base ho0) hb);replace HO751:=Aside0.mk (Kd.R_below (zq4 HO751) hb);replace HO755:=Aside0.mk (Kd.R_below (zq4 HO755) hb);replace HO760:=Aside0.mk (Kd.R_elder' (zq4 HO760) (Kd.R_base ho0) hb);replace HO764:=Aside0.mk (Kd.R_elder' (zq4 HO764) (Kd.R_base ho0) hb);replace HB:=Aside0.mk (below_step (by exact zk1 HB) hb);(try clear hb);(try clear hb2);(try clear hk);(try clear hi);(try clear ho0)))
       (try simp only [Act.put,List.setIfInBounds_toArray,List.set_cons_zero,List.set_cons_succ])
       go_cut [203] (fun v203 wc=> ∃ (kq:Nat) (x203_78:Bool),v203= .bool x203_78∧Aside0 (laws_FnBothWays.j5 kq t743 t744 t745 t748 t749 x203_78=some r)∧Aside0 (kq≤kj16)∧Aside0 (Kd.R k52 52 wc w.heap.size (fun _=>True) (.slice Ao81 t744.length co81) t744)∧Aside0 (Kd.R (Kd.int .i64) 3 wc w.heap.size (fun _=>True) v750 t748)∧Aside0 (Below w.heap.size w wc))
       case first=>
        have H:=HC79.out
        clear HC79
        by_cases c88:(t749 !=t753)=true
        ·rw [if_pos c88] at H
         have c88b0:(t749 !=t753)=true:=c88
         (try(have c88b1:decide (t749=t753)=false:=by simpa using c88))
         (try(have c88b2:(t749==t753)=false:=by simpa using c88))
         (try(have c88b3:¬ (t749=t753):=by simpa using c88))
         clear c88
         (first|rw [c88b0]|(simp only [i64_w,i32_w];rw [c88b0])|skip)
         exact absurd (H.trans (congrArg some HRT.out)) (by cases kj16<;>simp [laws_FnBothWays.j5])
        ·rw [if_neg c88] at H
         have c88b0:(t749 !=t753)=false:=by simpa using c88
         (try(have c88b1:decide (t749=t753)=true:=by simpa using c88))
         (try(have c88b2:(t749==t753)=true:=by simpa using c88))
         clear c88
         (first|rw [c88b0]|(simp only [i64_w,i32_w];rw [c88b0])|skip)
         replace H:=Option.bind_eq_some_iff.mp H
         obtain⟨t769,A890,H⟩:=H
         replace H:(if t769=true then(if (t762 !=t766)=true then(laws_FnBothWays.j5 kj16 t743 t744 t745 t748 t749 true) else((laws_sameEdges.f kj16 t761 t765).bind fun t770=>(laws_FnBothWays.j5 kj16 t743 t744 t745 t748 t749 (!t770)))) else(laws_FnBothWays.j5 kj16 t743 t744 t745 t748 t749 true))=some r:=H
         have A89:=Aside0.mk A890
         clear A890
         by_cases c90:t769=true
         ·subst c90
          have H1:(if (t762 !=t766)=true then(laws_FnBothWays.j5 kj16 t743 t744 t745 t748 t749 true) else((laws_sameEdges.f kj16 t761 t765).bind fun t770=>(laws_FnBothWays.j5 kj16 t743 t744 t745 t748 t749 (!t770))))=some r:=by rw [if_pos rfl] at H;exact H
          clear H
          have H:=H1
          clear H1
          by_cases c91:(t762 !=t766)=true
          ·rw [if_pos c91] at H
           have c91b0:(t762 !=t766)=true:=c91
           (try(have c91b1:decide (t762=t766)=false:=by simpa using c91))
           (try(have c91b2:(t762==t766)=false:=by simpa using c91))
           (try(have c91b3:¬ (t762=t766):=by simpa using c91))
           clear c91
           exact absurd (H.trans (congrArg some HRT.out)) (by cases kj16<;>simp [laws_FnBothWays.j5])
          ·rw [if_neg c91] at H
           have c91b0:(t762 !=t766)=false:=by simpa using c91
           (try(have c91b1:decide (t762=t766)=true:=by simpa using c91))
           (try(have c91b2:(t762==t766)=true:=by simpa using c91))
           clear c91
           replace H:=Option.bind_eq_some_iff.mp H
           obtain⟨t770,A920,H⟩:=H
           replace H:(laws_FnBothWays.j5 kj16 t743 t744 t745 t748 t749 (!t770))=some r:=H
           have A92:=Aside0.mk A920
           clear A920
           as_aux_lemma=>
            have H':=Aside0.mk H
            clear H
            obtain⟨Ao93,co93,eo93⟩:=Kd.R_slice HO751.out
            subst eo93
            obtain⟨Ao94,co94,eo94⟩:=Kd.R_slice HO755.out
            subst eo94
            go_wp2_with (first|(go_at_call 33;(with_reducible refine(laws_sameInts.calls kj16 _ _ t748 _ _ t752 true _ ?side1 ?side2 ?side3 ?side4 A89.out).mono ?_);(case side1=>exact zcc ((Kd.R_reads' HO751.out).2.2));(case side2=>exact(Kd.R_reads' HO751.out).2.1);(case side3=>exact zcc ((Kd.R_reads' HO755.out).2.2));(case side4=>exact(Kd.R_reads' HO755.out).2.1);rintro e w' ⟨rfl,⟨nd,rfl⟩⟩;obtain⟨Ao95,co95,eo95⟩:=Kd.R_slice HO764.out;subst eo95;obtain⟨Ao96,co96,eo96⟩:=Kd.R_slice HO768.out;subst eo96)|(go_at_call 37;(with_reducible refine(laws_sameEdges.calls kj16 _ _ t761 _ _ t765 t770 _ ?side1 ?side2 ?side3 ?side4 A92.out).mono ?_);(case side1=>exact zcc ((Kd.R_reads' HO764.out).2.2));(case side2=>exact(Kd.R_reads' HO764.out).2.1);(case side3=>exact zcc ((Kd.R_reads' HO768.out).2.2));(case side4=>exact(Kd.R_reads' HO768.out).2.1);rintro e w' ⟨rfl,⟨nd,rfl⟩⟩))
            go_meet
            case rel=>exact⟨_,(!t770),zrs,H',⟨by have:=HJ6.out;have:=HJ16.out;first|omega|exact Nat.le_refl _⟩,⟨by(with_reducible repeat(first|apply Kd.R_alloc|apply Kd.R_drewN|apply Kd.R_drew));exact Kd.R_mono HO747.out (fun _ hk=>trivial)⟩,⟨by(with_reducible repeat(first|apply Kd.R_alloc|apply Kd.R_drewN|apply Kd.R_drew));exact Kd.R_mono HO751.out (fun _ hk=>trivial)⟩,⟨by exact zk1 HB⟩⟩
         ·replace c90:=Bool.eq_false_iff.mpr c90
          subst c90
          have H1:(laws_FnBothWays.j5 kj16 t743 t744 t745 t748 t749 true)=some r:=by rw [if_neg (show ¬ (false=true) by decide)] at H;exact H
          clear H
          have H:=H1
          clear H1
          exact absurd (H.trans (congrArg some HRT.out)) (by cases kj16<;>simp [laws_FnBothWays.j5])
       case rest=>
        clear HC79
        try clear c1
        try clear c2
        try clear p2
        try clear c3
        try clear c3b0
        try clear c4
        try clear c5
        try clear c6
        try clear p6
        try clear c7
        try clear p7
        try clear q7
        try clear hx7
        try clear c8
        try clear c9
        try clear c12
        try clear c12b0
        try clear c12b1
        try clear c12b2
        try clear c16
        try clear c18
        try clear c20
        try clear c22
        try clear c23
        try clear c23b0
        try clear c24
        try clear c24b0
        try clear c25
        try clear c25b0
        try clear c28
        try clear c28b0
        try clear c29
        try clear c29b0
        try clear c30
        try clear c30b0
        try clear c31
        try clear c33
        try clear c34
        try clear c35
        try clear c35b0
        try clear c35b1
        try clear c36
        try clear c38
        try clear c39
        try clear c40
        try clear c41
        try clear c42
        try clear c43
        try clear c43b0
        try clear c43b1
        try clear c44
        try clear c44b0
        try clear c44b1
        try clear c45
        try clear c48
        try clear c51
        try clear c54
        try clear c54b0
        try clear c54b1
        try clear c55
        try clear c55b0
        try clear c55b1
        try clear c56
        try clear c59
        try clear c62
        try clear p64
        try clear c65
        try clear c65b0
        try clear c65b1
        try clear c66
        try clear c66b0
        try clear c66b1
        try clear c67
        try clear c67b0
        try clear c68
        try clear c68b0
        try clear c69
        try clear c69b0
        try clear c69b1
        try clear c71
        try clear c71b0
        try clear c71b1
        try clear p73
        try clear q73
        try clear hx73
        try clear p74
        try clear q74
        try clear hx74
        try clear c88
        try clear c88b0
        try clear c88b1
        try clear c88b2
        try clear c90
        try clear c91
        try clear c91b0
        try clear c91b1
        try clear c91b2
        try clear hcz27_0
        try clear hcz27_1
        try clear hcz27_2
        try clear hcz34_0
        try clear hcz34_1
        try clear hcz34_2
        try clear hcz37_0
        try clear hcz37_1
        try clear hcz37_2
        try clear hcz38_0
        try clear hcz38_1
        try clear hcz38_2
        try clear hcz40_0
        try clear hcz40_1
        try clear hcz40_2
        try clear hcz41_0
        try clear hcz41_1
        try clear hcz41_2
        try clear hcz46_0
        try clear hcz46_1
        try clear hcz46_2
        try clear hcz47_0
        try clear hcz47_1
        try clear hcz47_2
        try clear hcz49_0
        try clear hcz49_1
        try clear hcz49_2
        try clear hcz50_0
        try clear hcz50_1
        try clear hcz50_2
        try clear hcz52_0
        try clear hcz52_1
        try clear hcz52_2
        try clear hcz53_0
        try clear hcz53_1
        try clear hcz53_2
        try clear hcz57_0
        try clear hcz57_1
        try clear hcz57_2
        try clear hcz58_0
        try clear hcz58_1
        try clear hcz58_2
        try clear hcz60_0
        try clear hcz60_1
        try clear hcz60_2
        try clear hcz61_0
        try clear hcz61_1
        try clear hcz61_2
        try clear hcz63_0
        try clear hcz63_1
        try clear hcz63_2
        try clear hcz64_0
        try clear hcz64_1
        try clear hcz64_2
        try clear hcz70_0
        try clear hcz70_1
        try clear hcz70_2
        try clear hcz72_0
        try clear hcz72_1
        try clear hcz72_2
        try clear hfz27_0
        try clear hfz27_1
        try clear hfz27_2
        try clear hfz34_0
        try clear hfz34_1
        try clear hfz34_2
        try clear hfz37_0
        try clear hfz37_1
        try clear hfz37_2
        try clear hfz38_0
        try clear hfz38_1
        try clear hfz38_2
        try clear hfz40_0
        try clear hfz40_1
        try clear hfz40_2
        try clear hfz41_0
        try clear hfz41_1
        try clear hfz41_2
        try clear hfz46_0
        try clear hfz46_1
        try clear hfz46_2
        try clear hfz47_0
        try clear hfz47_1
        try clear hfz47_2
        try clear hfz49_0
        try clear hfz49_1
        try clear hfz49_2
        try clear hfz50_0
        try clear hfz50_1
        try clear hfz50_2
        try clear hfz52_0
        try clear hfz52_1
        try clear hfz52_2
        try clear hfz53_0
        try clear hfz53_1
        try clear hfz53_2
        try clear hfz57_0
        try clear hfz57_1
        try clear hfz57_2
        try clear hfz58_0
        try clear hfz58_1
        try clear hfz58_2
        try clear hfz60_0
        try clear hfz60_1
        try clear hfz60_2
        try clear hfz61_0
        try clear hfz61_1
        try clear hfz61_2
        try clear hfz63_0
        try clear hfz63_1
        try clear hfz63_2
        try clear hfz64_0
        try clear hfz64_1
        try clear hfz64_2
        try clear hfz70_0
        try clear hfz70_1
        try clear hfz70_2
        try clear hfz72_0
        try clear hfz72_1
        try clear hfz72_2
        try clear hx739_0
        try clear hx739_1
        try clear hx739_2
        try clear hx741_0
        try clear hx741_1
        try clear hx741_2
        try clear p2
        try clear p6
        try clear p64
        try clear p7
        try clear p739
        try clear p741
        try clear q7
        try clear q739
        try clear q741
        obtain⟨kq,x203_78,rfl,HA,HJ78,HO_18,HO_20,HB⟩:=hcut
        cases kq with
        |zero=>exact absurd HA.out (by simp [laws_FnBothWays.j5])
        |succ kj78=>
         have H:=HA.out
         clear HA
         simp only [laws_FnBothWays.j5] at H
         by_cases c97:x203_78=true
         ·subst c97
          have H1:(some false)=some r:=by rw [if_pos rfl] at H;exact H
          clear H
          have H:=H1
          clear H1
          exact absurd ((Option.some.inj H).trans HRT.out) (by decide)
         ·replace c97:=Bool.eq_false_iff.mpr c97
          subst c97
          have H1:(if t749=true then(laws_FnBothWays.l2 kj78 t743 t744 t745 t748 (t748.length:Int) 0) else(some true))=some r:=by rw [if_neg (show ¬ (false=true) by decide)] at H;exact H
          clear H
          have H:=H1
          clear H1
          by_cases c98:t749=true
          ·subst c98
           have H1:(laws_FnBothWays.l2 kj78 t743 t744 t745 t748 (t748.length:Int) 0)=some r:=by rw [if_pos rfl] at H;exact H
           clear H
           have H:=H1
           clear H1
           have H':=Aside0.mk H
           clear H
           obtain⟨Ao99,co99,eo99⟩:=Kd.R_slice HO_20.out
           subst eo99
           go_wp2
           go_loopg [207] kj78 (fun kq v207 w'=> ∃ (x207_4:Int),v207= .int .i64 x207_4∧Aside0 (laws_FnBothWays.l2 kq t743 t744 t745 t748 (t748.length:Int) x207_4=some r)∧Aside0 (kq≤kj78)∧Aside0 (Kd.R k52 52 w' w.heap.size (fun _=>True) (.slice Ao81 t744.length co81) t744)∧Aside0 (Kd.R (Kd.int .i64) 3 w' w.heap.size (fun _=>True) (.slice Ao99 t748.length co99) t748)∧Aside0 (Below w.heap.size w w'))
           case atStart=>exact⟨(0),zrs,H',⟨Nat.le_refl _⟩,⟨zdr HO_18⟩,⟨zdr HO_20⟩,⟨by exact zk1 HB⟩⟩
           case round=>
            clear H'
            try clear c1
            try clear c2
            try clear p2
            try clear c3
            try clear c3b0
            try clear c4
            try clear c5
            try clear c6
            try clear p6
            try clear c7
            try clear p7
            try clear q7
            try clear hx7
            try clear c8
            try clear c9
            try clear c12
            try clear c12b0
            try clear c12b1
            try clear c12b2
            try clear c16
            try clear c18
            try clear c20
            try clear c22
            try clear c23
            try clear c23b0
            try clear c24
            try clear c24b0
            try clear c25
            try clear c25b0
            try clear c28
            try clear c28b0
            try clear c29
            try clear c29b0
            try clear c30
            try clear c30b0
            try clear c31
            try clear c33
            try clear c34
            try clear c35
            try clear c35b0
            try clear c35b1
            try clear c36
            try clear c38
            try clear c39
            try clear c40
            try clear c41
            try clear c42
            try clear c43
            try clear c43b0
            try clear c43b1
            try clear c44
            try clear c44b0
            try clear c44b1
            try clear c45
            try clear c48
            try clear c51
            try clear c54
            try clear c54b0
            try clear c54b1
            try clear c55
            try clear c55b0
            try clear c55b1
            try clear c56
            try clear c59
            try clear c62
            try clear p64
            try clear c65
            try clear c65b0
            try clear c65b1
            try clear c66
            try clear c66b0
            try clear c66b1
            try clear c67
            try clear c67b0
            try clear c68
            try clear c68b0
            try clear c69
            try clear c69b0
            try clear c69b1
            try clear c71
            try clear c71b0
            try clear c71b1
            try clear p73
            try clear q73
            try clear hx73
            try clear p74
            try clear q74
            try clear hx74
            try clear c88
            try clear c88b0
            try clear c88b1
            try clear c88b2
            try clear c90
            try clear c91
            try clear c91b0
            try clear c91b1
            try clear c91b2
            try clear c97
            try clear c98
            try clear hcz27_0
            try clear hcz27_1
            try clear hcz27_2
            try clear hcz34_0
            try clear hcz34_1
            try clear hcz34_2
            try clear hcz37_0
            try clear hcz37_1
            try clear hcz37_2
            try clear hcz38_0
            try clear hcz38_1
            try clear hcz38_2
            try clear hcz40_0
            try clear hcz40_1
            try clear hcz40_2
            try clear hcz41_0
            try clear hcz41_1
            try clear hcz41_2
            try clear hcz46_0
            try clear hcz46_1
            try clear hcz46_2
            try clear hcz47_0
            try clear hcz47_1
            try clear hcz47_2
            try clear hcz49_0
            try clear hcz49_1
            try clear hcz49_2
            try clear hcz50_0
            try clear hcz50_1
            try clear hcz50_2
            try clear hcz52_0
            try clear hcz52_1
            try clear hcz52_2
            try clear hcz53_0
            try clear hcz53_1
            try clear hcz53_2
            try clear hcz57_0
            try clear hcz57_1
            try clear hcz57_2
            try clear hcz58_0
            try clear hcz58_1
            try clear hcz58_2
            try clear hcz60_0
            try clear hcz60_1
            try clear hcz60_2
            try clear hcz61_0
            try clear hcz61_1
            try clear hcz61_2
            try clear hcz63_0
            try clear hcz63_1
            try clear hcz63_2
            try clear hcz64_0
            try clear hcz64_1
            try clear hcz64_2
            try clear hcz70_0
            try clear hcz70_1
            try clear hcz70_2
            try clear hcz72_0
            try clear hcz72_1
            try clear hcz72_2
            try clear hfz27_0
            try clear hfz27_1
            try clear hfz27_2
            try clear hfz34_0
            try clear hfz34_1
            try clear hfz34_2
            try clear hfz37_0
            try clear hfz37_1
            try clear hfz37_2
            try clear hfz38_0
            try clear hfz38_1
            try clear hfz38_2
            try clear hfz40_0
            try clear hfz40_1
            try clear hfz40_2
            try clear hfz41_0
            try clear hfz41_1
            try clear hfz41_2
            try clear hfz46_0
            try clear hfz46_1
            try clear hfz46_2
            try clear hfz47_0
            try clear hfz47_1
            try clear hfz47_2
            try clear hfz49_0
            try clear hfz49_1
            try clear hfz49_2
            try clear hfz50_0
            try clear hfz50_1
            try clear hfz50_2
            try clear hfz52_0
            try clear hfz52_1
            try clear hfz52_2
            try clear hfz53_0
            try clear hfz53_1
            try clear hfz53_2
            try clear hfz57_0
            try clear hfz57_1
            try clear hfz57_2
            try clear hfz58_0
            try clear hfz58_1
            try clear hfz58_2
            try clear hfz60_0
            try clear hfz60_1
            try clear hfz60_2
            try clear hfz61_0
            try clear hfz61_1
            try clear hfz61_2
            try clear hfz63_0
            try clear hfz63_1
            try clear hfz63_2
            try clear hfz64_0
            try clear hfz64_1
            try clear hfz64_2
            try clear hfz70_0
            try clear hfz70_1
            try clear hfz70_2
            try clear hfz72_0
            try clear hfz72_1
            try clear hfz72_2
            try clear hx739_0
            try clear hx739_1
            try clear hx739_2
            try clear hx741_0
            try clear hx741_1
            try clear hx741_2
            try clear p2
            try clear p6
            try clear p64
            try clear p7
            try clear p73
            try clear p739
            try clear p74
            try clear p741
            try clear q7
            try clear q73
            try clear q739
            try clear q74
            try clear q741
            obtain⟨x207_4,rfl,HA,HK4,HO_18,HO_205,HB⟩:=hrel
            cases gk with
            |zero=>exact absurd HA.out (by simp [laws_FnBothWays.l2])
            |succ k4=>
             have H:=HA.out
             clear HA
             simp only [laws_FnBothWays.l2] at H
             by_cases c100:x207_4< (t748.length:Int)
             ·rw [if_pos c100] at H
              have c100b0:decide (x207_4< (t748.length:Int))=true:=decide_eq_true c100
              clear c100
              by_cases c101: 0≤x207_4
              case neg=>exact znn c101 H
              rw [if_pos c101] at H
              have c101b0:decide (0≤x207_4)=true:=decide_eq_true c101
              clear c101
              by_cases c102:x207_4< (t748.length:Int)
              case neg=>exact znn c102 H
              rw [if_pos c102] at H
              have c102b0:decide (x207_4< (t748.length:Int))=true:=decide_eq_true c102
              clear c102
              replace H:=Option.bind_eq_some_iff.mp H
              obtain⟨⟨t772,t773⟩,A1030,H⟩:=H
              replace H:(if t773=true then((laws_has.f k4 t772 t745).bind fun t776=>(if t776=true then(laws_FnBothWays.l2 k4 t743 t744 t745 t748 (t748.length:Int) (wrap64 (x207_4+1))) else(some false))) else(some false))=some r:=H
              have A103:=Aside0.mk A1030
              clear A1030
              by_cases c104:t773=true
              ·subst c104
               have H1:((laws_has.f k4 t772 t745).bind fun t776=>(if t776=true then(laws_FnBothWays.l2 k4 t743 t744 t745 t748 (t748.length:Int) (wrap64 (x207_4+1))) else(some false)))=some r:=by rw [if_pos rfl] at H;exact H
               clear H
               have H:=H1
               clear H1
               replace H:=Option.bind_eq_some_iff.mp H
               obtain⟨t776,A1050,H⟩:=H
               replace H:(if t776=true then(laws_FnBothWays.l2 k4 t743 t744 t745 t748 (t748.length:Int) (wrap64 (x207_4+1))) else(some false))=some r:=H
               have A105:=Aside0.mk A1050
               clear A1050
               by_cases c106:t776=true
               ·subst c106
                have H1:(laws_FnBothWays.l2 k4 t743 t744 t745 t748 (t748.length:Int) (wrap64 (x207_4+1)))=some r:=by rw [if_pos rfl] at H;exact H
                clear H
                have H:=H1
                clear H1
                as_aux_lemma=>
                 have H':=Aside0.mk H
                 clear H
                 have p771: 0≤ (x207_4:Int):=of_decide_eq_true zq1
                 have q771:x207_4< (t748.length:Int):=of_decide_eq_true zq1
                 obtain⟨ad771,e771,hx771_0⟩:=Kd.at_int (Kd.R_reads' HO_205.out).2.2 x207_4 p771 q771
                 cases e771
                 replace p771:=eq_true p771
                 replace q771:=eq_true q771
                 go_wp2_with (first|((with_reducible refine gate_callee (f:=31) rfl ?_);refine goesL_ (some 215) rfl rfl Try.func31 (by kernel_rfl) rfl #[.int .i64 t743,.slice Ao81 t744.length co81,.int .i64 (rd t748 x207_4)] rfl zq2 ?_;(with_reducible refine(impl_NearOf.calls k4 t743 _ _ t744 (rd t748 x207_4) t772 true _ ?side1 ?side2 A103.out).mono ?_);(case side1=>exact zcc ((Kd.R_reads' HO_18.out).2.2));(case side2=>exact(Kd.R_reads' HO_18.out).2.1);rintro e w107 ⟨v774,rfl,ho0,hb⟩;refine⟨_,rfl,?_⟩;have HO775:=Aside0.mk (Kd.R_lower (Kd.R_new' ho0 (Kd.R_lt (zq4 HO_205))) (below_size (by exact zk1 HB)));replace HO_18:=Aside0.mk (Kd.R_below (zq4 HO_18) hb);replace HO_205:=Aside0.mk (Kd.R_elder' (zq4 HO_205) (Kd.R_base ho0) hb);replace HB:=Aside0.mk (below_step (by exact zk1 HB) hb);(try clear hb);(try clear hb2);(try clear hk);(try clear hi);(try clear ho0);obtain⟨Ao108,co108,eo108⟩:=Kd.R_slice HO775.out;subst eo108)|(go_at_call 42;(with_reducible refine(laws_has.calls k4 _ _ t772 t745 true _ ?side1 ?side2 A105.out).mono ?_);(case side1=>exact zcc ((Kd.R_reads' HO775.out).2.2));(case side2=>exact(Kd.R_reads' HO775.out).2.1);rintro e w' ⟨rfl,⟨nd,rfl⟩⟩))
                 go_roundg k4
                 case measure=>have:=HJ6.out;have:=HJ16.out;have:=HJ78.out;have:=HK4.out;omega
                 case rel=>exact⟨(wrap64 (x207_4+1)),zrs,H',⟨by have:=HJ6.out;have:=HJ16.out;have:=HJ78.out;have:=HK4.out;omega⟩,⟨zdr HO_18⟩,⟨by(with_reducible repeat(first|apply Kd.R_alloc|apply Kd.R_drewN|apply Kd.R_drew));exact Kd.R_mono HO_205.out (fun _ hk=>trivial)⟩,⟨by exact zk1 HB⟩⟩
               ·replace c106:=Bool.eq_false_iff.mpr c106
                subst c106
                have H1:(some false)=some r:=by rw [if_neg (show ¬ (false=true) by decide)] at H;exact H
                clear H
                have H:=H1
                clear H1
                exact absurd ((Option.some.inj H).trans HRT.out) (by decide)
              ·replace c104:=Bool.eq_false_iff.mpr c104
               subst c104
               have H1:(some false)=some r:=by rw [if_neg (show ¬ (false=true) by decide)] at H;exact H
               clear H
               have H:=H1
               clear H1
               exact absurd ((Option.some.inj H).trans HRT.out) (by decide)
             ·rw [if_neg c100] at H
              have c100b0:decide (x207_4< (t748.length:Int))=false:=decide_eq_false c100
              clear c100
              as_aux_lemma=>
               obtain rfl:=Option.some.inj H
               go_wp2
               go_ret
               exact⟨zer,by exact zk1 HB⟩
          ·replace c98:=Bool.eq_false_iff.mpr c98
           subst c98
           have H1:(some true)=some r:=by rw [if_neg (show ¬ (false=true) by decide)] at H;exact H
           clear H
           have H:=H1
           clear H1
           as_aux_lemma=>
            obtain rfl:=Option.some.inj H
            go_wp2
            go_ret
            exact⟨zer,by exact zk1 HB⟩
/-- THE ONE PURE STATEMENT of laws_FnBothWays: yours. -/
def laws_FnBothWays.Pure:Prop:= ∀ (l0:List Int) (l1:List Int),l0.length≤maxLen→l0.length * 1≤140737488351232→ (∀ x ∈ l0,(Lit.int .u8 x).wf=true)→l1.length≤maxLen→l1.length * 1≤140737488351232→ (∀ x ∈ l1,(Lit.int .u8 x).wf=true)→ ∃ k,laws_FnBothWays.f k l0 l1=some true
theorem laws_FnBothWays.walk (P:laws_FnBothWays.Pure) (a0:Option Addr) (len0 cap0:Nat) (z0:List Int) (a1:Option Addr) (len1 cap1:Nat) (z1:List Int) (w:World) (w0:(a0=none∧len0=0∧cap0=0∧z0= [])∨ ∃ x,a0=some x∧len0≤cap0∧cap0≤maxLen∧z0.length=cap0∧ (∀ i,i<z0.length→w.cell? (x.add i)=some (.int .u8 (z0.getD i 0)))∧ ∀ n ∈ z0,(Lit.int .u8 n).wf=true) (y0:len0 * 1≤140737488351232) (w1:(a1=none∧len1=0∧cap1=0∧z1= [])∨ ∃ x,a1=some x∧len1≤cap1∧cap1≤maxLen∧z1.length=cap1∧ (∀ i,i<z1.length→w.cell? (x.add i)=some (.int .u8 (z1.getD i 0)))∧ ∀ n ∈ z1,(Lit.int .u8 n).wf=true) (y1:len1 * 1≤140737488351232):
  Calls Try.prog 9 #[.slice a0 len0 cap0,.slice a1 len1 cap1] w fun e w'=>e= .returned (.bool true)∧Below w.heap.size w w':=by
 obtain⟨l0,rfl,hr0,hm0,hw0,hc0⟩:=ReadsInt.ofRowC w0
 obtain⟨l1,rfl,hr1,hm1,hw1,hc1⟩:=ReadsInt.ofRowC w1
 obtain⟨k,h⟩:=P l0 l1 hm0 y0 hw0 hm1 y1 hw1
 refine(laws_FnBothWays.calls k _ _ l0 _ _ l1 true w (Kd.C_of_reads (d:=(0:Int)) (h1:=fun _=>rfl) hr0) hc0 (Kd.C_of_reads (d:=(0:Int)) (h1:=fun _=>rfl) hr1) hc1 h).mono ?_
 rintro e w' ⟨rfl,hd⟩
 exact⟨rfl,hd⟩
open Go.RowKit Go.Proofs.YtpbnpepikkocmaaW.PrintWords
theorem wrap_id {x:Int} (h0: -9223372036854775808≤x) (h1:x≤9223372036854775807):wrap64 x=x:=by unfold wrap64;omega
theorem Ev.succ {α :Type} {g:Nat→Option α} {r: α} (h:Ev (fun k=>g (k+1)) r):Ev g r:=Ev.step (fun _=>rfl) h
theorem Ev.some_ {α :Type} {r s: α} (h:r=s):Ev (fun _=>some r) s:=h ▸ Ev.now r
theorem getD_mid {α :Type} (d: α) (pre:List α) (x: α) (suf:List α):(pre++x::suf).getD ((pre.length:Int)).toNat d=x:=by simp
theorem app_one {α :Type} (pre:List α) (x: α) (suf:List α):pre++x::suf= (pre++ [x])++suf:=by simp
theorem len_mid {α :Type} (pre:List α) (x: α) (suf:List α):((pre++x::suf).length:Int)=pre.length+suf.length+1:=by simp;omega
theorem len_one {α :Type} (pre:List α) (x: α):((pre++ [x]).length:Int)=pre.length+1:=by simp
theorem nil_or_snoc {α :Type} (l:List α):l= []∨ ∃ p y,l=p++ [y]:=by
 rcases List.eq_nil_or_concat l with rfl|⟨p,y,rfl⟩
 ·exact .inl rfl
 ·exact .inr ⟨p,y,by simp⟩
open Go.RowKit Go.Proofs.YtpbnpepikkocmaaW.PrintWords Go.Proofs.YtpbnpepikkocmaaW.PrintLast
theorem rdEdge_mid (pre:List S52) (x:S52) (suf:List S52):rd_T52 (pre++x::suf) (pre.length:Int)=x:=getD_mid _ pre x suf
theorem rdTold_mid (pre:List S57) (x:S57) (suf:List S57):rd_T57 (pre++x::suf) (pre.length:Int)=x:=getD_mid _ pre x suf
theorem rd_mid (pre:List Int) (x:Int) (suf:List Int):rd (pre++x::suf) (pre.length:Int)=x:=getD_mid _ pre x suf
-- sweeps over a list of numbers, and a list taken over, both sides
theorem specIn (a b c:Int):spec_l1In.f a b c=some (decide (b≤a∧a≤c)):=by
 unfold spec_l1In.f
 by_cases h:a≥b
 ·rw [if_pos h]
  congr 1
  by_cases h2:a≤c
  ·rw [decide_eq_true h2,decide_eq_true ⟨h,h2⟩]
  ·rw [decide_eq_false h2,decide_eq_false (fun hc=>h2 hc.2)]
 ·rw [if_neg h,decide_eq_false (fun hc=>h hc.1)]
theorem implIn (a b c:Int):impl_in.f a b c=some (decide (b≤a∧a≤c)):=specIn a b c
def allIn (a b:Int) (l:List Int):Bool:=l.all fun x=>decide (a≤x∧x≤b)
theorem implAll_l (a b:Int) (suf:List Int):∀ (pre:List Int),((pre++suf).length:Int)≤1099511627776→Ev (fun k=>impl_allIn.l0 k a b (pre++suf) ((pre++suf).length:Int) pre.length) (allIn a b suf):=by
 induction suf with
 |nil=>
  intro pre h
  refine Ev.succ ?_
  simp only [impl_allIn.l0,List.append_nil,Int.lt_irrefl,if_false]
  exact Ev.now _
 |cons x suf ih=>
  intro pre h
  refine Ev.succ ?_
  rw [len_mid] at h ⊢
  simp only [impl_allIn.l0]
  simp only [if_pos (show ((pre.length:Int)<pre.length+suf.length+1) by omega),if_pos (show (0:Int)≤pre.length by omega),len_mid,rd_mid,implIn,Option.bind_some,wrap_id (show (-9223372036854775808:Int)≤pre.length+1 by omega) (show ((pre.length:Int)+1≤9223372036854775807) by omega)]
  by_cases hx:a≤x∧x≤b
  ·have:=ih (pre++ [x]) (by rw [← app_one,len_mid];exact h)
   rw [← app_one,len_mid,len_one] at this
   simp only [hx,and_self,decide_true,if_true]
   rw [show allIn a b (x::suf)=allIn a b suf by simp [allIn,hx]]
   exact this
  ·simp only [decide_eq_true_eq,if_neg hx]
   rw [show allIn a b (x::suf)=false by simp [allIn];intro h1 h2;exact absurd ⟨h1,h2⟩ hx]
   exact Ev.now _
theorem implAll_ev (a b:Int) (l:List Int) (h:(l.length:Int)≤1099511627776):Ev (fun k=>impl_allIn.f k l a b) (allIn a b l):=by
 have:=implAll_l a b l [] h
 exact this
def isTold (m:Int) (x:S57):Bool:=decide (0≤x.f0∧x.f0≤m∧0≤x.f1∧x.f1≤m∧x.f0≠x.f1∧1≤x.f2∧x.f2≤100)
theorem isTold_iff (m:Int) (x:S57):isTold m x=true↔ (0≤x.f0∧x.f0≤m∧0≤x.f1∧x.f1≤m∧x.f0≠x.f1∧1≤x.f2∧x.f2≤100):=by unfold isTold;simp only [decide_eq_true_eq]
def toldAt:List S57→Int→Int→Int→Int
 | [],_,_,c=>c
 |x::r,a,b,c=>toldAt r a b (if x.f0=a∧x.f1=b then x.f2 else c)
theorem toldAt_snoc (l:List S57) (x:S57):∀ (a b c:Int),toldAt (l++ [x]) a b c=if x.f0=a∧x.f1=b then x.f2 else toldAt l a b c:=by
 induction l with
 |nil=>intro a b c;rfl
 |cons y l ih=>intro a b c;exact ih a b _
def stepB (T:Int→Int→Int) (out:List S52) (a b:Int):List S52:=if 0<T a b∧0<T b a then out++ [⟨a,b,mx (T a b) (T b a)⟩] else out
def inB (T:Int→Int→Int) (a:Int):Nat→Int→List S52→List S52
 | 0,_,out=>out
 |m+1,b,out=>inB T a m (b+1) (stepB T out a b)
def outB (T:Int→Int→Int) (n:Int):Nat→Int→List S52→List S52
 | 0,_,out=>out
 |m+1,a,out=>outB T n m (a+1) (inB T a (n - (a+1)).toNat (a+1) out)
theorem stepB_len (T:Int→Int→Int) (out:List S52) (a b:Int):(stepB T out a b).length≤out.length+1:=by
 unfold stepB
 split
 ·simp
 ·omega
theorem inB_len (T:Int→Int→Int) (a:Int) (m:Nat):∀ (b:Int) (out:List S52),(inB T a m b out).length≤out.length+m:=by
 induction m with
 |zero=>intro b out;exact Nat.le_refl _
 |succ m ih=>
  intro b out
  have h1:=ih (b+1) (stepB T out a b)
  have h2:=stepB_len T out a b
  simp only [inB]
  omega
def finB (e:List S52):List S52 × Bool:=if e.length > 40 then([],false) else(e,true)
def bothOf (n:Int) (l:List S57):List S52:=outB (fun a b=>toldAt l a b 0) n n.toNat 0 []
def bothWays (n:Int) (l:List S57):List S52 × Bool:=
 if ((1≤n∧n≤12)∧l.length≤80)∧l.all (isTold (wrap64 (n - 1)))=true then finB (bothOf n l) else([],false)
theorem bothWays_len (n:Int) (l:List S57):(bothWays n l).1.length≤40:=by
 unfold bothWays finB
 split
 ·split
  ·simp
  ·show (bothOf n l).length≤40
   omega
 ·simp
/-! the reference -/
theorem specTold_l (a b:Int) (suf:List S57):∀ (pre:List S57) (c:Int),(pre.length:Int)+suf.length≤1099511627776→
  Ev (fun k=>spec_l8Told.l0 k a b c (pre++suf) ((pre++suf).length:Int) (pre.length:Int)) (toldAt suf a b c):=by
 induction suf with
 |nil=>
  intro pre c hb
  refine Ev.succ ?_
  simp only [spec_l8Told.l0]
  simp only [if_neg (show ¬ (pre.length:Int)< ((pre++ ([] :List S57)).length:Int) by simp)]
  exact Ev.now _
 |cons x suf ih=>
  intro pre c hb
  simp only [List.length_cons] at hb
  have c1:(pre.length:Int)< ((pre++x::suf).length:Int):=by simp<;>omega
  have h:=fun c'=>ih (pre++ [x]) c' (by simp<;>omega)
  simp only [← app_one,len_one] at h
  refine Ev.succ ?_
  simp only [spec_l8Told.l0]
  simp only [if_pos c1,if_pos (show (0:Int)≤ (pre.length:Int) by omega),rdTold_mid]
  rw [wrap_id (x:=(pre.length:Int)+1) (by omega) (by omega)]
  simp only [toldAt]
  by_cases h1:x.f0=a
  ·by_cases h2:x.f1=b
   ·simp only [if_pos h1,if_pos h2,if_pos (And.intro h1 h2)]
    exact h _
   ·simp only [if_pos h1,if_neg h2,if_neg (fun hc:x.f0=a∧x.f1=b=>h2 hc.2)]
    exact h _
  ·simp only [if_neg h1,if_neg (fun hc:x.f0=a∧x.f1=b=>h1 hc.1)]
   exact h _
theorem specTold_ev (l:List S57) (a b:Int) (hl:l.length≤1048576):Ev (fun k=>spec_l8Told.f k l a b) (toldAt l a b 0):=by
 unfold spec_l8Told.f
 exact specTold_l a b l [] 0 (by simp<;>omega)
theorem specB_in (n:Int) (hn:n≤12) (l:List S57) (hl:l.length≤1048576) (R:List S52 × Bool) (a:Int) (h0: 0≤a) (m:Nat):∀ (b:Int) (out:List S52),b+m=n→0≤b→out.length+m≤1000→
  Ev (fun k=>spec_BothWays.l1 k n l (inB (fun a b=>toldAt l a b 0) a m b out) (wrap64 (a+1))) R→Ev (fun k=>spec_BothWays.l2 k n l out a b) R:=by
 induction m with
 |zero=>
  intro b out hb hb0 ho h
  refine Ev.succ ?_
  simp only [spec_BothWays.l2,if_neg (show ¬ b<n by omega)]
  exact h
 |succ m ih=>
  intro b out hb hb0 ho h
  have hs:=stepB_len (fun a b=>toldAt l a b 0) out a b
  have h':=ih (b+1) (stepB (fun a b=>toldAt l a b 0) out a b) (by omega) (by omega) (by omega) h
  refine Ev.succ ?_
  simp only [spec_BothWays.l2,if_pos (show b<n by omega)]
  refine Ev.bind (specTold_ev l a b hl) ?_
  refine Ev.bind (specTold_ev l b a hl) ?_
  simp only [stepB] at h'
  have hw:wrap64 (b+1)=b+1:=wrap_id (by omega) (by omega)
  by_cases h1: 0<toldAt l a b 0
  ·simp only [gt_iff_lt,if_pos h1]
   refine Ev.succ ?_
   simp only [spec_BothWays.j4,hw]
   by_cases h2: 0<toldAt l b a 0
   ·simp only [h2,decide_true,if_true,if_pos (show out.length< 5864062014805 by omega)]
    rw [if_pos ⟨h1,h2⟩] at h'
    by_cases h3:toldAt l a b 0<toldAt l b a 0
    ·simp only [gt_iff_lt,if_pos h3]
     simp only [mx,if_pos h3] at h'
     exact h'
    ·simp only [gt_iff_lt,if_neg h3]
     simp only [mx,if_neg h3] at h'
     exact h'
   ·simp only [h2,decide_false,Bool.false_eq_true,if_false]
    rw [if_neg (fun hc=>h2 hc.2)] at h'
    exact h'
  ·simp only [gt_iff_lt,if_neg h1]
   refine Ev.succ ?_
   simp only [spec_BothWays.j4,hw,Bool.false_eq_true,if_false]
   rw [if_neg (fun hc=>h1 hc.1)] at h'
   exact h'
theorem finB_int (e:List S52):(if (e.length:Int) > 40 then some (([] :List S52),false) else some (e,true))=some (finB e):=by
 unfold finB
 by_cases h:e.length > 40
 ·rw [if_pos h,if_pos (by omega)]
 ·rw [if_neg h,if_neg (by omega)]
theorem specB_out (n:Int) (hn:n≤12) (l:List S57) (hl:l.length≤1048576) (m:Nat):∀ (a:Int) (out:List S52),a+m=n→0≤a→out.length+12 * m≤900→
  Ev (fun k=>spec_BothWays.l1 k n l out a) (finB (outB (fun a b=>toldAt l a b 0) n m a out)):=by
 induction m with
 |zero=>
  intro a out ha h0 ho
  refine Ev.succ ?_
  simp only [spec_BothWays.l1,if_neg (show ¬ a<n by omega)]
  exact⟨0,fun k _=>finB_int _⟩
 |succ m ih=>
  intro a out ha h0 ho
  refine Ev.succ ?_
  simp only [spec_BothWays.l1,if_pos (show a<n by omega)]
  have hw:wrap64 (a+1)=a+1:=wrap_id (by omega) (by omega)
  rw [hw]
  refine specB_in n hn l hl _ a h0 (n - (a+1)).toNat (a+1) out (by omega) (by omega) (by omega) ?_
  rw [hw]
  have hi:=inB_len (fun a b=>toldAt l a b 0) a (n - (a+1)).toNat (a+1) out
  exact ih (a+1) _ (by omega) (by omega) (by omega)
theorem specB_l (n:Int) (L:List S57) (R:List S52 × Bool) (hR:Ev (fun k=>(spec_l1In.f n 1 12).bind fun t=>if t=true then spec_BothWays.j1 k n L (decide ((L.length:Int) > 80)) else spec_BothWays.j1 k n L true) R) (suf:List S57):∀ (pre:List S57),(pre.length:Int)+suf.length≤1099511627776→
  Ev (fun k=>spec_BothWays.l0 k n L (pre++suf) ((pre++suf).length:Int) (pre.length:Int)) (if suf.all (isTold (wrap64 (n - 1)))=true then R else([],false)):=by
 induction suf with
 |nil=>
  intro pre hb
  refine Ev.succ ?_
  simp only [spec_BothWays.l0]
  simp only [if_neg (show ¬ (pre.length:Int)< ((pre++ ([] :List S57)).length:Int) by simp),List.all_nil,if_true]
  exact hR
 |cons x suf ih=>
  intro pre hb
  simp only [List.length_cons] at hb
  have c1:(pre.length:Int)< ((pre++x::suf).length:Int):=by simp<;>omega
  have h:=ih (pre++ [x]) (by simp<;>omega)
  rw [← app_one,len_one] at h
  refine Ev.succ ?_
  simp only [spec_BothWays.l0]
  simp only [if_pos c1,if_pos (show (0:Int)≤ (pre.length:Int) by omega),rdTold_mid,specIn,Option.bind_some]
  rw [wrap_id (x:=(pre.length:Int)+1) (by omega) (by omega)]
  generalize wrap64 (n - 1)=m at h ⊢
  have bad:isTold m x=false→Ev (fun _=>some (([] :List S52),false)) (if (x::suf).all (isTold m)=true then R else([],false)):=by
   intro he
   refine Ev.some_ ?_
   simp [he]
  by_cases h1: 0≤x.f0∧x.f0≤m
  ·simp only [h1,and_self,decide_true,if_true]
   by_cases h2: 0≤x.f1∧x.f1≤m
   ·simp only [h2,and_self,decide_true,if_true]
    by_cases h3:x.f0=x.f1
    ·simp only [if_pos h3]
     refine bad ?_
     unfold isTold;simp only [decide_eq_false_iff_not];omega
    ·simp only [if_neg h3]
     by_cases h4: 1≤x.f2∧x.f2≤100
     ·simp only [h4,and_self,decide_true,if_true]
      have he:isTold m x=true:=by rw [isTold_iff];omega
      simp only [List.all_cons,he,Bool.true_and]
      exact h
     ·simp only [h4,decide_false,Bool.false_eq_true,if_false]
      refine bad ?_
      unfold isTold;simp only [decide_eq_false_iff_not];omega
   ·simp only [h2,decide_false,Bool.false_eq_true,if_false]
    refine bad ?_
    unfold isTold;simp only [decide_eq_false_iff_not];omega
  ·simp only [h1,decide_false,Bool.false_eq_true,if_false]
   refine bad ?_
   unfold isTold;simp only [decide_eq_false_iff_not];omega
theorem specBothWays_ev (n:Int) (l:List S57) (hl:l.length≤1048576):Ev (fun k=>spec_BothWays.f k n l) (bothWays n l):=by
 unfold spec_BothWays.f
 by_cases hg:(1≤n∧n≤12)∧l.length≤80
 ·have h:=specB_l n l (finB (bothOf n l)) ?_ l [] (by simp<;>omega)
  ·have e:bothWays n l=if l.all (isTold (wrap64 (n - 1)))=true then finB (bothOf n l) else([],false):=by
    unfold bothWays
    by_cases ha:l.all (isTold (wrap64 (n - 1)))=true
    ·rw [if_pos ⟨hg,ha⟩,if_pos ha]
    ·rw [if_neg (fun hc=>ha hc.2),if_neg ha]
   rw [e]
   exact h
  ·simp only [specIn,Option.bind_some,hg.1,and_self,decide_true,if_true]
   refine Ev.succ ?_
   simp only [spec_BothWays.j1,show decide ((l.length:Int) > 80)=false by simp<;>omega,Bool.false_eq_true,if_false]
   exact specB_out n (by omega) l hl n.toNat 0 [] (by omega) (by omega) (by simp<;>omega)
 ·have h:=specB_l n l ([],false) ?_ l [] (by simp<;>omega)
  ·have e:bothWays n l= ([],false):=by
    unfold bothWays
    rw [if_neg (fun hc=>hg hc.1)]
   rw [e]
   simpa using h
  ·simp only [specIn,Option.bind_some]
   by_cases h1: 1≤n∧n≤12
   ·simp only [h1,and_self,decide_true,if_true]
    refine Ev.succ ?_
    simp only [spec_BothWays.j1,show decide ((l.length:Int) > 80)=true by simp<;>omega,if_true]
    exact Ev.now _
   ·simp only [h1,decide_false,Bool.false_eq_true,if_false]
    refine Ev.succ ?_
    simp only [spec_BothWays.j1,if_true]
    exact Ev.now _
/-! the program -/
def heldB (x6:List Int) (T:Int→Int→Int):Prop:=x6.length=144∧ ∀ a b:Int,0≤a→a< 12→0≤b→b< 12→rd x6 (idxB a b)=T a b
theorem idxB_in {a b:Int} (h0: 0≤a) (h1:a< 12) (h2: 0≤b) (h3:b< 12):idxB a b=a * 12+b:=by
 unfold idxB
 rw [if_pos ⟨h0,h1,h2,h3⟩]
theorem heldB_set {x6:List Int} {T T':Int→Int→Int} (h:heldB x6 T) {a b v:Int} (h0: 0≤a) (h1:a< 12) (h2: 0≤b) (h3:b< 12) (hT:∀ c d,T' c d=if a=c∧b=d then v else T c d):heldB (x6.set (idxB a b).toNat v) T':=by
 obtain⟨hl,hh⟩:=h
 refine⟨by simp [hl],fun c d c0 c1 d0 d1=>?_⟩
 have hcd:=hh c d c0 c1 d0 d1
 rw [hT]
 unfold rd at hcd ⊢
 rw [idxB_in c0 c1 d0 d1] at hcd ⊢
 rw [idxB_in h0 h1 h2 h3]
 by_cases e:a=c∧b=d
 ·obtain⟨rfl,rfl⟩:=e
  rw [if_pos ⟨rfl,rfl⟩,List.getD_eq_getElem?_getD,List.getElem?_set_self (by omega)]
  rfl
 ·rw [if_neg e,← hcd,List.getD_eq_getElem?_getD,List.getElem?_set_ne (by omega),← List.getD_eq_getElem?_getD]
theorem implB_in (n:Int) (hn:n≤12) (T:Int→Int→Int) (x6:List Int) (hx:heldB x6 T) (R:List S52 × Bool) (a:Int) (h0: 0≤a) (han:a<n) (m:Nat):∀ (b:Int) (out:List S52),b+m=n→0≤b→out.length+m≤1000→
  Ev (fun k=>impl_BothWays.l1 k n x6 (inB T a m b out) n (wrap64 (a+1))) R→Ev (fun k=>impl_BothWays.l2 k n x6 out a b n a) R:=by
 induction m with
 |zero=>
  intro b out hb hb0 ho h
  refine Ev.succ ?_
  simp only [impl_BothWays.l2,if_neg (show ¬ b<n by omega)]
  exact h
 |succ m ih=>
  intro b out hb hb0 ho h
  have hs:=stepB_len T out a b
  have h':=ih (b+1) (stepB T out a b) (by omega) (by omega) (by omega) h
  have i1:=idxB_in h0 (show a< 12 by omega) hb0 (show b< 12 by omega)
  have i2:=idxB_in hb0 (show b< 12 by omega) h0 (show a< 12 by omega)
  have t1:=hx.2 a b h0 (by omega) hb0 (by omega)
  have t2:=hx.2 b a hb0 (by omega) h0 (by omega)
  have hl:=hx.1
  refine Ev.succ ?_
  have hw:wrap64 (b+1)=b+1:=wrap_id (by omega) (by omega)
  simp only [impl_BothWays.l2,if_pos (show b<n by omega),if_pos (show 0≤idxB a b by omega),if_pos (show idxB a b< (x6.length:Int) by omega),if_pos (show 0≤idxB b a by omega),if_pos (show idxB b a< (x6.length:Int) by omega),t1,t2,hw,if_pos (show out.length< 5864062014805 by omega)]
  simp only [stepB] at h'
  by_cases h1: 0<T a b
  ·by_cases h2: 0<T b a
   ·simp only [gt_iff_lt,if_pos h1,if_pos h2]
    rw [if_pos ⟨h1,h2⟩] at h'
    exact h'
   ·simp only [gt_iff_lt,if_pos h1,if_neg h2]
    rw [if_neg (fun hc=>h2 hc.2)] at h'
    exact h'
  ·simp only [gt_iff_lt,if_neg h1]
   rw [if_neg (fun hc=>h1 hc.1)] at h'
   exact h'
theorem implB_out (n:Int) (hn:n≤12) (T:Int→Int→Int) (x6:List Int) (hx:heldB x6 T) (m:Nat):∀ (a:Int) (out:List S52),a+m=n→0≤a→out.length+12 * m≤900→
  Ev (fun k=>impl_BothWays.l1 k n x6 out n a) (finB (outB T n m a out)):=by
 induction m with
 |zero=>
  intro a out ha h0 ho
  refine Ev.succ ?_
  simp only [impl_BothWays.l1,if_neg (show ¬ a<n by omega)]
  exact⟨0,fun k _=>finB_int _⟩
 |succ m ih=>
  intro a out ha h0 ho
  refine Ev.succ ?_
  simp only [impl_BothWays.l1,if_pos (show a<n by omega)]
  have hw:wrap64 (a+1)=a+1:=wrap_id (by omega) (by omega)
  rw [hw]
  refine implB_in n hn T x6 hx _ a h0 (by omega) (n - (a+1)).toNat (a+1) out (by omega) (by omega) (by omega) ?_
  rw [hw]
  have hi:=inB_len T a (n - (a+1)).toNat (a+1) out
  exact ih (a+1) _ (by omega) (by omega) (by omega)
theorem implB_l (n:Int) (h1n: 1≤n) (hn:n≤12) (suf:List S57):∀ (pre:List S57) (x6:List Int),(pre.length:Int)+suf.length≤1099511627776→heldB x6 (fun a b=>toldAt pre a b 0)→
  Ev (fun k=>impl_BothWays.l0 k n x6 (pre++suf) ((pre++suf).length:Int) (pre.length:Int)) (if suf.all (isTold (wrap64 (n - 1)))=true then finB (bothOf n (pre++suf)) else([],false)):=by
 induction suf with
 |nil=>
  intro pre x6 hb hx
  refine Ev.succ ?_
  simp only [impl_BothWays.l0]
  simp only [List.append_nil,if_neg (show ¬ (pre.length:Int)< (pre.length:Int) by omega),List.all_nil,if_true]
  exact implB_out n hn _ x6 hx n.toNat 0 [] (by omega) (by omega) (by simp<;>omega)
 |cons x suf ih=>
  intro pre x6 hb hx
  simp only [List.length_cons] at hb
  have c1:(pre.length:Int)< ((pre++x::suf).length:Int):=by simp<;>omega
  have h:=fun y6 hy=>ih (pre++ [x]) y6 (by simp<;>omega) hy
  simp only [← app_one,len_one] at h
  refine Ev.succ ?_
  simp only [impl_BothWays.l0]
  simp only [if_pos c1,if_pos (show (0:Int)≤ (pre.length:Int) by omega),rdTold_mid,implIn,Option.bind_some]
  rw [wrap_id (x:=(pre.length:Int)+1) (by omega) (by omega)]
  rw [wrap_id (x:=n - 1) (by omega) (by omega)] at h ⊢
  generalize finB (bothOf n (pre++x::suf))=R at h ⊢
  have bad:isTold (n - 1) x=false→Ev (fun _=>some (([] :List S52),false)) (if (x::suf).all (isTold (n - 1))=true then R else([],false)):=by
   intro he
   refine Ev.some_ ?_
   simp [he]
  by_cases h1: 0≤x.f0∧x.f0≤n - 1
  ·simp only [h1,and_self,decide_true,if_true]
   by_cases h2: 0≤x.f1∧x.f1≤n - 1
   ·simp only [h2,and_self,decide_true,if_true]
    by_cases h3:x.f0=x.f1
    ·simp only [if_pos h3]
     refine bad ?_
     unfold isTold;simp only [decide_eq_false_iff_not];omega
    ·simp only [if_neg h3]
     by_cases h4: 1≤x.f2∧x.f2≤100
     ·have i1:=idxB_in h1.1 (show x.f0< 12 by omega) h2.1 (show x.f1< 12 by omega)
      have hl:=hx.1
      simp only [h4,and_self,decide_true,if_true,if_pos (show 0≤idxB x.f0 x.f1 by omega),if_pos (show idxB x.f0 x.f1< (x6.length:Int) by omega)]
      have he:isTold (n - 1) x=true:=by rw [isTold_iff];omega
      simp only [List.all_cons,he,Bool.true_and]
      exact h _ (heldB_set hx h1.1 (by omega) h2.1 (by omega) (fun c d=>toldAt_snoc pre x c d 0))
     ·simp only [h4,decide_false,Bool.false_eq_true,if_false]
      refine bad ?_
      unfold isTold;simp only [decide_eq_false_iff_not];omega
   ·simp only [h2,decide_false,Bool.false_eq_true,if_false]
    refine bad ?_
    unfold isTold;simp only [decide_eq_false_iff_not];omega
  ·simp only [h1,decide_false,Bool.false_eq_true,if_false]
   refine bad ?_
   unfold isTold;simp only [decide_eq_false_iff_not];omega
theorem implBothWays_ev (n:Int) (l:List S57) (hl:l.length≤1048576):Ev (fun k=>impl_BothWays.f k n l) (bothWays n l):=by
 unfold impl_BothWays.f
 simp only [impl_isSpots.f,implIn,Option.bind_some]
 by_cases h1: 1≤n∧n≤12
 ·simp only [h1,and_self,decide_true,if_true]
  refine Ev.succ ?_
  simp only [impl_BothWays.j0]
  by_cases h2:l.length≤80
  ·simp only [show decide ((l.length:Int) > 80)=false by simp<;>omega,Bool.false_eq_true,if_false,if_pos (show (144:Nat)≤35184372088832 by omega)]
   have h:=implB_l n h1.1 h1.2 l [] (List.replicate 144 0) (by simp<;>omega) ⟨by simp,fun a b a0 a1 b0 b1=>?_⟩
   ·have e:bothWays n l=if l.all (isTold (wrap64 (n - 1)))=true then finB (bothOf n l) else([],false):=by
     unfold bothWays
     by_cases ha:l.all (isTold (wrap64 (n - 1)))=true
     ·rw [if_pos ⟨⟨h1,h2⟩,ha⟩,if_pos ha]
     ·rw [if_neg (fun hc=>ha hc.2),if_neg ha]
    rw [e]
    exact h
   ·unfold rd
    rw [idxB_in a0 a1 b0 b1,List.getD_eq_getElem?_getD,List.getElem?_replicate,if_pos (by omega)]
    rfl
  ·simp only [show decide ((l.length:Int) > 80)=true by simp<;>omega,if_true]
   refine Ev.some_ ?_
   unfold bothWays
   rw [if_neg (fun hc=>h2 hc.1.2)]
 ·simp only [h1,decide_false,Bool.false_eq_true,if_false]
  refine Ev.succ ?_
  simp only [impl_BothWays.j0,if_true]
  refine Ev.some_ ?_
  unfold bothWays
  rw [if_neg (fun hc=>h1 hc.1.1)]
def isEdge (m:Int) (x:S52):Bool:=decide (0≤x.f0∧x.f0≤m∧0≤x.f1∧x.f1≤m∧x.f0<x.f1∧1≤x.f2∧x.f2≤100)
def edgeLt (y x:S52):Bool:=decide (y.f0<x.f0∨y.f0=x.f0∧y.f1<x.f1)
def goodEF (m:Int):Option S52→List S52→Bool
 |_,[]=>true
 |none,x::r=>isEdge m x && goodEF m (some x) r
 |some y,x::r=>isEdge m x && (edgeLt y x && goodEF m (some x) r)
def goodE (n:Int) (l:List S52):Bool:=goodEF (wrap64 (n - 1)) none l && (decide (1≤n∧n≤12) && decide (l.length≤40))
theorem isEdge_iff (m:Int) (x:S52):isEdge m x=true↔ (0≤x.f0∧x.f0≤m∧0≤x.f1∧x.f1≤m∧x.f0<x.f1∧1≤x.f2∧x.f2≤100):=by unfold isEdge;simp only [decide_eq_true_eq]
theorem specGoodE_l (n:Int) (suf:List S52):∀ (pre:List S52),(pre.length:Int)+suf.length≤1099511627776→
  Ev (fun k=>spec_GoodEdges.l0 k n (pre++suf) (pre++suf) ((pre++suf).length:Int) (pre.length:Int)) (goodEF (wrap64 (n - 1)) pre.getLast? suf && (decide (1≤n∧n≤12) && decide ((pre++suf).length≤40))):=by
 induction suf with
 |nil=>
  intro pre hb
  refine Ev.succ ?_
  simp only [spec_GoodEdges.l0]
  simp only [if_neg (show ¬ (pre.length:Int)< ((pre++ ([] :List S52)).length:Int) by simp),specIn,Option.bind_some]
  have:goodEF (wrap64 (n - 1)) pre.getLast? []=true:=by cases pre.getLast?<;>rfl
  rw [this,Bool.true_and]
  by_cases h: 1≤n∧n≤12
  ·simp only [h,and_self,decide_true,if_true,Bool.true_and]
   refine Ev.some_ ?_
   congr 1
   simp only [eq_iff_iff]
   omega
  ·simp only [h,decide_false,Bool.false_eq_true,if_false,Bool.false_and]
   exact Ev.now _
 |cons x suf ih=>
  intro pre hb
  simp only [List.length_cons] at hb
  have c1:(pre.length:Int)< ((pre++x::suf).length:Int):=by simp<;>omega
  have c0:(0:Int)≤ (pre.length:Int):=by omega
  have h:=ih (pre++ [x]) (by simp<;>omega)
  rw [← app_one,len_one,List.getLast?_concat] at h
  refine Ev.succ ?_
  simp only [spec_GoodEdges.l0]
  simp only [if_pos c1,if_pos c0,rdEdge_mid,specIn,Option.bind_some]
  generalize wrap64 (n - 1)=m at h ⊢
  generalize hfin:(decide (1≤n∧n≤12) && decide ((pre++x::suf).length≤40))=fin at h ⊢
  have bad:∀ (b:Bool),isEdge m x=false→b=true→Ev (fun k=>spec_GoodEdges.j1 k n (pre++x::suf) (pre.length:Int) (pre++x::suf) ((pre++x::suf).length:Int) (pre.length:Int) b x.f0 x.f1 x.f2) (goodEF m pre.getLast? (x::suf) && fin):=by
   intro b he hb
   refine Ev.succ ?_
   simp only [spec_GoodEdges.j1,hb,if_true]
   refine Ev.some_ ?_
   cases pre.getLast?<;>simp [goodEF,he]
  by_cases h1: 0≤x.f0∧x.f0≤m
  ·simp only [h1,and_self,decide_true,if_true]
   by_cases h2: 0≤x.f1∧x.f1≤m
   ·simp only [h2,and_self,decide_true,if_true]
    by_cases h3:x.f0≥x.f1
    ·simp only [if_pos h3]
     refine bad true ?_ rfl
     unfold isEdge;simp only [decide_eq_false_iff_not];omega
    ·simp only [if_neg h3]
     by_cases h4: 1≤x.f2∧x.f2≤100
     ·have he:isEdge m x=true:=by rw [isEdge_iff];omega
      simp only [h4,and_self,decide_true,Bool.not_true]
      refine Ev.succ ?_
      simp only [spec_GoodEdges.j1,Bool.false_eq_true,if_false]
      rw [wrap_id (x:=(pre.length:Int)+1) (by omega) (by omega)]
      rcases nil_or_snoc pre with rfl|⟨pre',y,rfl⟩
      ·simp only [if_neg (show ¬ (([] :List S52).length:Int) > 0 by simp)]
       have e:goodEF m ([] :List S52).getLast? (x::suf)=goodEF m (some x) suf:=by simp [goodEF,he]
       rw [e]
       exact h
      ·have hy:rd_T52 ((pre'++ [y])++x::suf) (((pre'++ [y]).length:Int) - 1)=y:=by
        rw [show ((pre'++ [y])++x::suf)=pre'++y:: (x::suf) by simp,show (((pre'++ [y]).length:Int) - 1)= (pre'.length:Int) by simp]
        exact rdEdge_mid _ _ _
       have q0:(((pre'++ [y]).length:Int)) > 0:=by simp<;>omega
       rw [wrap_id (x:=((pre'++ [y]).length:Int) - 1) (by omega) (by omega)]
       simp only [if_pos q0,if_pos (show 0≤ ((pre'++ [y]).length:Int) - 1 by omega),if_pos (show ((pre'++ [y]).length:Int) - 1< (((pre'++ [y])++x::suf).length:Int) by omega),hy]
       have e:goodEF m (pre'++ [y]).getLast? (x::suf)= (edgeLt y x && goodEF m (some x) suf):=by simp [goodEF,he]
       rw [e]
       by_cases g1:y.f0 > x.f0
       ·simp only [if_pos g1]
        refine Ev.some_ ?_
        have:edgeLt y x=false:=by unfold edgeLt;simp only [decide_eq_false_iff_not];omega
        rw [this];rfl
       ·simp only [if_neg g1]
        by_cases g2:y.f0=x.f0
        ·simp only [if_pos g2]
         by_cases g3:y.f1≥x.f1
         ·simp only [if_pos g3]
          refine Ev.some_ ?_
          have:edgeLt y x=false:=by unfold edgeLt;simp only [decide_eq_false_iff_not];omega
          rw [this];rfl
         ·simp only [if_neg g3]
          have:edgeLt y x=true:=by unfold edgeLt;simp only [decide_eq_true_eq];omega
          rw [this,Bool.true_and]
          exact h
        ·simp only [if_neg g2]
         have:edgeLt y x=true:=by unfold edgeLt;simp only [decide_eq_true_eq];omega
         rw [this,Bool.true_and]
         exact h
     ·simp only [h4,decide_false,Bool.not_false]
      refine bad true ?_ rfl
      unfold isEdge;simp only [decide_eq_false_iff_not];omega
   ·simp only [h2,decide_false,Bool.false_eq_true,if_false]
    refine bad true ?_ rfl
    unfold isEdge;simp only [decide_eq_false_iff_not];omega
  ·simp only [h1,decide_false,Bool.false_eq_true,if_false]
   refine bad true ?_ rfl
   unfold isEdge;simp only [decide_eq_false_iff_not];omega
theorem specGoodE_ev (n:Int) (l:List S52) (hl:l.length≤1048576):Ev (fun k=>spec_GoodEdges.f k n l) (goodE n l):=by
 unfold spec_GoodEdges.f
 exact specGoodE_l n l [] (by simp<;>omega)
theorem implGoodE_l (n:Int) (hm:wrap64 (n - 1)≤9223372036854775807) (suf:List S52):∀ (pre:List S52),(pre.length:Int)+suf.length≤1099511627776→ (∀ y,pre.getLast?=some y→isEdge (wrap64 (n - 1)) y=true)→
  Ev (fun k=>impl_GoodEdges.l0 k n (pre++suf) (pre++suf) ((pre++suf).length:Int) (pre.length:Int)) (goodEF (wrap64 (n - 1)) pre.getLast? suf && (decide (1≤n∧n≤12) && decide ((pre++suf).length≤40))):=by
 induction suf with
 |nil=>
  intro pre hb _
  refine Ev.succ ?_
  simp only [impl_GoodEdges.l0]
  simp only [if_neg (show ¬ (pre.length:Int)< ((pre++ ([] :List S52)).length:Int) by simp),impl_isSpots.f,implIn,Option.bind_some]
  have:goodEF (wrap64 (n - 1)) pre.getLast? []=true:=by cases pre.getLast?<;>rfl
  rw [this,Bool.true_and]
  by_cases h: 1≤n∧n≤12
  ·simp only [h,and_self,decide_true,if_true,Bool.true_and]
   refine Ev.some_ ?_
   congr 1
   simp only [eq_iff_iff]
   omega
  ·simp only [h,decide_false,Bool.false_eq_true,if_false,Bool.false_and]
   exact Ev.now _
 |cons x suf ih=>
  intro pre hb hlast
  simp only [List.length_cons] at hb
  have c1:(pre.length:Int)< ((pre++x::suf).length:Int):=by simp<;>omega
  have c0:(0:Int)≤ (pre.length:Int):=by omega
  have h:=ih (pre++ [x]) (by simp<;>omega)
  rw [← app_one,len_one,List.getLast?_concat] at h
  refine Ev.succ ?_
  simp only [impl_GoodEdges.l0]
  simp only [if_pos c1,if_pos c0,rdEdge_mid,implIn,Option.bind_some]
  generalize wrap64 (n - 1)=m at h hm hlast ⊢
  generalize hfin:(decide (1≤n∧n≤12) && decide ((pre++x::suf).length≤40))=fin at h ⊢
  have bad:isEdge m x=false→Ev (fun k=>some false) (goodEF m pre.getLast? (x::suf) && fin):=by
   intro he
   refine Ev.some_ ?_
   cases pre.getLast?<;>simp [goodEF,he]
  by_cases h1: 0≤x.f0∧x.f0≤m
  ·simp only [h1,and_self,decide_true,if_true]
   by_cases h2: 0≤x.f1∧x.f1≤m
   ·simp only [h2,and_self,decide_true,if_true]
    by_cases h3:x.f0≥x.f1
    ·simp only [if_pos h3]
     refine bad ?_
     unfold isEdge;simp only [decide_eq_false_iff_not];omega
    ·simp only [if_neg h3]
     by_cases h4: 1≤x.f2∧x.f2≤100
     ·have he:isEdge m x=true:=by rw [isEdge_iff];omega
      have h:=h (fun y hy=>by cases hy;exact he)
      simp only [h4,and_self,decide_true,if_true]
      rw [wrap_id (x:=(pre.length:Int)+1) (by omega) (by omega)]
      rcases nil_or_snoc pre with rfl|⟨pre',y,rfl⟩
      ·simp only [if_neg (show ¬ (([] :List S52).length:Int) > 0 by simp)]
       have e:goodEF m ([] :List S52).getLast? (x::suf)=goodEF m (some x) suf:=by simp [goodEF,he]
       rw [e]
       exact h
      ·have hy:rd_T52 ((pre'++ [y])++x::suf) (((pre'++ [y]).length:Int) - 1)=y:=by
        rw [show ((pre'++ [y])++x::suf)=pre'++y:: (x::suf) by simp,show (((pre'++ [y]).length:Int) - 1)= (pre'.length:Int) by simp]
        exact rdEdge_mid _ _ _
       have hye:=(isEdge_iff m y).1 (hlast y (by simp))
       have hxe:=(isEdge_iff m x).1 he
       have q0:(((pre'++ [y]).length:Int)) > 0:=by simp<;>omega
       rw [wrap_id (x:=((pre'++ [y]).length:Int) - 1) (by omega) (by omega)]
       simp only [if_pos q0,if_pos (show 0≤ ((pre'++ [y]).length:Int) - 1 by omega),if_pos (show ((pre'++ [y]).length:Int) - 1< (((pre'++ [y])++x::suf).length:Int) by omega),hy]
       have e:goodEF m (pre'++ [y]).getLast? (x::suf)= (edgeLt y x && goodEF m (some x) suf):=by simp [goodEF,he]
       rw [e]
       have eb:impl_byEnds.f y.f0 y.f1 y.f2 x.f0 x.f1 x.f2=some (if y.f0=x.f0 then y.f1 - x.f1 else y.f0 - x.f0):=by
        unfold impl_byEnds.f
        split
        ·rw [wrap_id (by omega) (by omega)]
        ·rw [wrap_id (by omega) (by omega)]
       simp only [eb,Option.bind_some]
       by_cases g:edgeLt y x=true
       ·have g':(y.f0<x.f0∨y.f0=x.f0∧y.f1<x.f1):=by unfold edgeLt at g;simpa only [decide_eq_true_eq] using g
        rw [g,Bool.true_and]
        simp only [if_neg (show ¬ (if y.f0=x.f0 then y.f1 - x.f1 else y.f0 - x.f0)≥0 by split<;>omega)]
        exact h
       ·have g':¬ (y.f0<x.f0∨y.f0=x.f0∧y.f1<x.f1):=by unfold edgeLt at g;simpa only [decide_eq_true_eq] using g
        simp only [if_pos (show (if y.f0=x.f0 then y.f1 - x.f1 else y.f0 - x.f0)≥0 by split<;>omega)]
        refine Ev.some_ ?_
        rw [Bool.not_eq_true] at g
        rw [g];rfl
     ·simp only [h4,decide_false,Bool.false_eq_true,if_false]
      refine bad ?_
      unfold isEdge;simp only [decide_eq_false_iff_not];omega
   ·simp only [h2,decide_false,Bool.false_eq_true,if_false]
    refine bad ?_
    unfold isEdge;simp only [decide_eq_false_iff_not];omega
  ·simp only [h1,decide_false,Bool.false_eq_true,if_false]
   refine bad ?_
   unfold isEdge;simp only [decide_eq_false_iff_not];omega
theorem wrap_top (x:Int): -9223372036854775808≤wrap64 x∧wrap64 x≤9223372036854775807:=by unfold wrap64;omega
theorem implGoodE_ev (n:Int) (l:List S52) (hl:l.length≤1048576):Ev (fun k=>impl_GoodEdges.f k n l) (goodE n l):=by
 unfold impl_GoodEdges.f
 exact implGoodE_l n (wrap_top _).2 l [] (by simp<;>omega) (fun y hy=>by simp at hy)
/-- What good edges are. -/
theorem goodE_n {n:Int} {l:List S52} (h:goodE n l=true): 1≤n∧n≤12∧l.length≤40:=by
 unfold goodE at h
 simp only [Bool.and_eq_true,decide_eq_true_eq] at h
 exact⟨h.2.1.1,h.2.1.2,h.2.2⟩
theorem goodEF_all {m:Int} :∀ (l:List S52) (o:Option S52),goodEF m o l=true→ ∀ x ∈ l,isEdge m x=true
 | [],_,_,x,hx=>by simp at hx
 |y::r,o,h,x,hx=>by
  have h2:isEdge m y=true∧goodEF m (some y) r=true:=by
   cases o with
   |none=>simpa [goodEF] using h
   |some z=>
    simp only [goodEF,Bool.and_eq_true] at h
    exact⟨h.1,h.2.2⟩
  rcases List.mem_cons.1 hx with rfl|hx
  ·exact h2.1
  ·exact goodEF_all r _ h2.2 x hx
theorem goodE_edge {n:Int} {l:List S52} (h:goodE n l=true):∀ x ∈ l,0≤x.f0∧x.f0<x.f1∧x.f1<n∧1≤x.f2∧x.f2≤100:=by
 have hn:=goodE_n h
 intro x hx
 unfold goodE at h
 simp only [Bool.and_eq_true] at h
 have:=(isEdge_iff _ _).1 (goodEF_all l none h.1 x hx)
 rw [wrap_id (by omega) (by omega)] at this
 omega
/-- The spots' own numbers. -/
def own0 (n:Nat):List Int:=(List.range n).map fun(i:Nat)=>(i:Int)
theorem own0_len (n:Nat):(own0 n).length=n:=by simp [own0]
-- sweeps over a list of numbers; the least of two
theorem mn_is (a b:Int):mn a b=min a b:=by
 unfold mn
 split
 ·rw [Int.min_eq_right (by omega)]
 ·rw [Int.min_eq_left (by omega)]
theorem own0_succ (n:Nat):own0 (n+1)=own0 n++ [(n:Int)]:=by
 unfold own0
 rw [List.range_succ,List.map_append]
 rfl
theorem mx_is (a b:Int):mx a b=max a b:=by
 unfold mx
 split<;>omega
theorem own0_mem (n:Nat) (x:Int):x ∈ own0 n↔0≤x∧x<n:=by
 unfold own0
 rw [List.mem_map]
 constructor
 ·rintro⟨i,hi,rfl⟩
  have:=List.mem_range.1 hi
  omega
 ·intro ⟨h0,h1⟩
  exact⟨x.toNat,List.mem_range.2 (by omega),by omega⟩
theorem own0_sorted:∀ (n:Nat),(own0 n).Pairwise (· < ·)
 | 0=>by simp [own0]
 |n+1=>by
  rw [own0_succ]
  refine List.pairwise_append.2 ⟨own0_sorted n,by simp,fun a ha b hb=>?_⟩
  have:=(own0_mem n a).1 ha
  simp only [List.mem_singleton] at hb
  omega
-- the neighbours of a node: the sorted puts and the sweep over costs give one list
def putI:List Int→Int→List Int
 | [],x=> [x]
 |y::r,x=>if y<x then y::putI r x else if y=x then y::r else x::y::r
theorem putI_len:∀ (l:List Int) (x:Int),(putI l x).length≤l.length+1
 | [],x=>by simp [putI]
 |y::r,x=>by
  have:=putI_len r x
  unfold putI
  split
  ·simp;omega
  ·split<;>simp
theorem putI_mem:∀ (l:List Int) (x z:Int),z ∈ putI l x↔z=x∨z ∈ l
 | [],x,z=>by simp [putI]
 |y::r,x,z=>by
  have:=putI_mem r x z
  unfold putI
  split
  ·simp only [List.mem_cons,this]
   constructor
   ·rintro(h|h|h)<;>simp [h]
   ·rintro(h|h|h)<;>simp [h]
  ·split
   ·rename_i h
    subst h
    simp
   ·simp
theorem putI_sorted:∀ (l:List Int) (x:Int),l.Pairwise (· < ·)→ (putI l x).Pairwise (· < ·)
 | [],x,_=>by simp [putI]
 |y::r,x,h=>by
  have h1:=List.pairwise_cons.1 h
  have:=putI_sorted r x h1.2
  unfold putI
  split
  ·rename_i hyx
   refine List.pairwise_cons.2 ⟨fun z hz=>?_,this⟩
   rcases (putI_mem r x z).1 hz with h2|h2
   ·omega
   ·exact h1.1 z h2
  ·split
   ·exact h
   ·refine List.pairwise_cons.2 ⟨fun z hz=>?_,h⟩
    rcases List.mem_cons.1 hz with h2|h2
    ·omega
    ·have:=h1.1 z h2
     omega
theorem sorted_ext:∀ (a b:List Int),a.Pairwise (· < ·)→b.Pairwise (· < ·)→ (∀ x,x ∈ a↔x ∈ b)→a=b
 | [],[],_,_,_=>rfl
 | [],y::b,_,_,h=>by have:=(h y).2 (List.mem_cons_self ..);simp at this
 |x::a,[],_,_,h=>by have:=(h x).1 (List.mem_cons_self ..);simp at this
 |x::a,y::b,ha,hb,h=>by
  have ha1:=List.pairwise_cons.1 ha
  have hb1:=List.pairwise_cons.1 hb
  have hxy:x=y:=by
   rcases List.mem_cons.1 ((h x).1 (List.mem_cons_self ..)) with h1|h1
   ·exact h1
   ·rcases List.mem_cons.1 ((h y).2 (List.mem_cons_self ..)) with h2|h2
    ·exact h2.symm
    ·have:=ha1.1 y h2
     have:=hb1.1 x h1
     omega
  subst hxy
  rw [sorted_ext a b ha1.2 hb1.2 fun z=>?_]
  constructor
  ·intro hz
   rcases List.mem_cons.1 ((h z).1 (List.mem_cons_of_mem _ hz)) with h1|h1
   ·have:=ha1.1 z hz
    omega
   ·exact h1
  ·intro hz
   rcases List.mem_cons.1 ((h z).2 (List.mem_cons_of_mem _ hz)) with h1|h1
   ·have:=hb1.1 z hz
    omega
   ·exact h1
theorem put_l (x:Int) (suf:List Int):∀ (pre:List Int),((pre++suf).length:Int)≤4398046511104→Ev (fun k=>spec_l1Put.l0 k (pre++suf) x pre.length) (pre++putI suf x):=by
 induction suf with
 |nil=>
  intro pre h
  refine Ev.succ ?_
  simp only [List.append_nil] at h ⊢
  have h0:pre.length< 17592186044416:=by omega
  simp only [spec_l1Put.l0,Int.lt_irrefl,if_false,Option.bind_some,if_pos (show (0:Int)≤pre.length by omega),if_pos (Int.le_refl (pre.length:Int)),Int.toNat_natCast,List.take_length,List.drop_length,List.nil_append,List.length_nil,Nat.zero_add,if_pos h0,List.length_append,List.length_cons,Nat.add_zero,List.append_nil,if_pos (show pre.length+ (0+1)< 17592186044416 by omega),if_pos (show pre.length+1< 17592186044416 by omega),putI]
  exact Ev.now _
 |cons y suf ih=>
  intro pre h
  refine Ev.succ ?_
  have hl:=len_mid pre y suf
  rw [hl] at h
  simp only [spec_l1Put.l0,hl,rd_mid,if_pos (show ((pre.length:Int)<pre.length+suf.length+1) by omega),if_pos (show (0:Int)≤pre.length by omega),wrap_id (show (-9223372036854775808:Int)≤pre.length+1 by omega) (show ((pre.length:Int)+1≤9223372036854775807) by omega)]
  by_cases h1:y<x
  ·have:=ih (pre++ [y]) (by rw [← app_one,hl];exact h)
   rw [← app_one,len_one] at this
   simp only [if_pos h1,putI]
   rw [app_one] at this
   rw [app_one pre y (putI suf x)]
   rw [← app_one] at this
   exact this
  ·by_cases h2:y=x
   ·simp only [if_neg h1,if_pos h2,putI]
    exact Ev.now _
   ·have h0:pre.length< 17592186044416:=by omega
    simp only [if_neg h1,if_neg h2,putI,Option.bind_some,if_pos (show (pre.length:Int)≤pre.length+suf.length+1 by omega),Int.toNat_natCast,List.take_left,List.drop_left,List.nil_append,List.length_nil,Nat.zero_add,if_pos h0,List.length_append,List.length_cons,if_pos (show pre.length+1+ (suf.length+1)< 17592186044416 by omega),if_pos (show pre.length+ (0+1)+ (suf.length+1)< 17592186044416 by omega),List.append_assoc,List.cons_append]
    exact Ev.now _
theorem put_ev (l:List Int) (x:Int) (h:(l.length:Int)≤4398046511104):Ev (fun k=>spec_l1Put.f k l x) (putI l x):=by
 have:=put_l x l [] h
 exact this
def nearStep (v:Int) (out:List Int) (e:S52):List Int:=if e.f0=v then(if e.f1=v then putI (putI out e.f1) e.f0 else putI out e.f1) else(if e.f1=v then putI out e.f0 else out)
theorem nearStep_len (v:Int) (out:List Int) (e:S52):(nearStep v out e).length≤out.length+2:=by
 unfold nearStep
 split
 ·split
  ·have:=putI_len (putI out e.f1) e.f0
   have:=putI_len out e.f1
   omega
  ·have:=putI_len out e.f1
   omega
 ·split
  ·have:=putI_len out e.f0
   omega
  ·omega
theorem specNear_l (v:Int) (suf:List S52):∀ (pre:List S52) (out:List Int),((pre++suf).length:Int)≤1099511627776→ (out.length:Int)≤2 * pre.length→
  Ev (fun k=>spec_l8Near.l0 k v out (pre++suf) ((pre++suf).length:Int) pre.length) (suf.foldl (nearStep v) out):=by
 induction suf with
 |nil=>
  intro pre out h ho
  refine Ev.succ ?_
  simp only [spec_l8Near.l0,List.append_nil,Int.lt_irrefl,if_false,List.foldl_nil]
  exact Ev.now _
 |cons e suf ih=>
  intro pre out h ho
  refine Ev.succ ?_
  rw [len_mid] at h ⊢
  have hs:=nearStep_len v out e
  have:=ih (pre++ [e]) (nearStep v out e) (by rw [← app_one,len_mid];exact h) (by rw [len_one];omega)
  rw [← app_one,len_mid,len_one] at this
  simp only [spec_l8Near.l0,List.foldl_cons]
  simp only [if_pos (show ((pre.length:Int)<pre.length+suf.length+1) by omega),if_pos (show (0:Int)≤pre.length by omega),len_mid,rdEdge_mid,wrap_id (show (-9223372036854775808:Int)≤pre.length+1 by omega) (show ((pre.length:Int)+1≤9223372036854775807) by omega)]
  have hp:=putI_len out e.f1
  by_cases h1:e.f0=v
  ·by_cases h2:e.f1=v
   ·simp only [if_pos h1,if_pos h2]
    refine Ev.bind (put_ev _ _ (by omega)) ?_
    refine Ev.bind (put_ev _ _ (by omega)) ?_
    rw [show nearStep v out e=putI (putI out e.f1) e.f0 by simp [nearStep,h1,h2]] at this
    rw [show nearStep v out e=putI (putI out e.f1) e.f0 by simp [nearStep,h1,h2]]
    exact this
   ·simp only [if_pos h1,if_neg h2]
    refine Ev.bind (put_ev _ _ (by omega)) ?_
    rw [show nearStep v out e=putI out e.f1 by simp only [nearStep,if_pos h1,if_neg h2]] at this
    rw [show nearStep v out e=putI out e.f1 by simp only [nearStep,if_pos h1,if_neg h2]]
    exact this
  ·by_cases h2:e.f1=v
   ·simp only [if_neg h1,if_pos h2]
    refine Ev.bind (put_ev _ _ (by omega)) ?_
    rw [show nearStep v out e=putI out e.f0 by simp only [nearStep,if_neg h1,if_pos h2]] at this
    rw [show nearStep v out e=putI out e.f0 by simp only [nearStep,if_neg h1,if_pos h2]]
    exact this
   ·simp only [if_neg h1,if_neg h2]
    rw [show nearStep v out e=out by simp only [nearStep,if_neg h1,if_neg h2]] at this
    rw [show nearStep v out e=out by simp only [nearStep,if_neg h1,if_neg h2]]
    exact this
def nearS (l:List S52) (v:Int):List Int:=l.foldl (nearStep v) []
theorem specNear_ev (l:List S52) (v:Int) (h:(l.length:Int)≤1099511627776):Ev (fun k=>spec_l8Near.f k l v) (nearS l v):=by
 have:=specNear_l v l [] [] h (by simp)
 exact this
theorem foldNear (v:Int):∀ (l:List S52) (out:List Int),out.Pairwise (· < ·)→ (l.foldl (nearStep v) out).Pairwise (· < ·)∧ ∀ x,x ∈ l.foldl (nearStep v) out↔x ∈ out∨ ∃ e ∈ l,(e.f0=v∧e.f1=x)∨ (e.f1=v∧e.f0=x)
 | [],out,h=>by simp [h]
 |e::l,out,h=>by
  have h1:(nearStep v out e).Pairwise (· < ·):=by
   unfold nearStep
   split
   ·split
    ·exact putI_sorted _ _ (putI_sorted _ _ h)
    ·exact putI_sorted _ _ h
   ·split
    ·exact putI_sorted _ _ h
    ·exact h
  have h2:∀ x,x ∈ nearStep v out e↔x ∈ out∨ (e.f0=v∧e.f1=x)∨ (e.f1=v∧e.f0=x):=by
   intro x
   unfold nearStep
   split
   ·rename_i a
    split
    ·rename_i b
     rw [putI_mem,putI_mem]
     constructor
     ·rintro(c|c|c)
      ·exact .inr (.inr ⟨b,c.symm⟩)
      ·exact .inr (.inl ⟨a,c.symm⟩)
      ·exact .inl c
     ·rintro(c|c|c)
      ·exact .inr (.inr c)
      ·exact .inr (.inl c.2.symm)
      ·exact .inl c.2.symm
    ·rename_i b
     rw [putI_mem]
     constructor
     ·rintro(c|c)
      ·exact .inr (.inl ⟨a,c.symm⟩)
      ·exact .inl c
     ·rintro(c|c|c)
      ·exact .inr c
      ·exact .inl c.2.symm
      ·exact absurd c.1 b
   ·rename_i a
    split
    ·rename_i b
     rw [putI_mem]
     constructor
     ·rintro(c|c)
      ·exact .inr (.inr ⟨b,c.symm⟩)
      ·exact .inl c
     ·rintro(c|c|c)
      ·exact .inr c
      ·exact absurd c.1 a
      ·exact .inl c.2.symm
    ·rename_i b
     constructor
     ·exact .inl
     ·rintro(c|c|c)
      ·exact c
      ·exact absurd c.1 a
      ·exact absurd c.1 b
  have h3:=foldNear v l (nearStep v out e) h1
  refine⟨h3.1,fun x=>?_⟩
  rw [List.foldl_cons,h3.2,h2]
  constructor
  ·rintro((c|c)|⟨y,c,d⟩)
   ·exact .inl c
   ·exact .inr ⟨e,List.mem_cons_self ..,c⟩
   ·exact .inr ⟨y,List.mem_cons_of_mem _ c,d⟩
  ·rintro(c|⟨y,c,d⟩)
   ·exact .inl (.inl c)
   ·rcases List.mem_cons.1 c with rfl|c
    ·exact .inl (.inr d)
    ·exact .inr ⟨y,c,d⟩
def isAt (a b:Int) (e:S52):Bool:=decide (e.f0=min a b∧e.f1=max a b)
def costM (l:List S52) (a b:Int):Int:=match l.find? (isAt a b) with
 |some e=>e.f2
 |none=>0
theorem implCost_l (a b:Int) (suf:List S52):∀ (pre:List S52),((pre++suf).length:Int)≤1099511627776→
  Ev (fun k=>impl_cost.l0 k a b (pre++suf) ((pre++suf).length:Int) pre.length) (costM suf a b):=by
 induction suf with
 |nil=>
  intro pre h
  refine Ev.succ ?_
  simp only [impl_cost.l0,List.append_nil,Int.lt_irrefl,if_false]
  exact Ev.now _
 |cons e suf ih=>
  intro pre h
  refine Ev.succ ?_
  rw [len_mid] at h ⊢
  have:=ih (pre++ [e]) (by rw [← app_one,len_mid];exact h)
  rw [← app_one,len_mid,len_one] at this
  simp only [impl_cost.l0]
  simp only [if_pos (show ((pre.length:Int)<pre.length+suf.length+1) by omega),if_pos (show (0:Int)≤pre.length by omega),len_mid,rdEdge_mid,wrap_id (show (-9223372036854775808:Int)≤pre.length+1 by omega) (show ((pre.length:Int)+1≤9223372036854775807) by omega),mn_is,mx_is]
  by_cases h1:e.f0=min a b
  ·by_cases h2:e.f1=max a b
   ·simp only [if_pos h1,if_pos h2]
    rw [show costM (e::suf) a b=e.f2 by unfold costM;rw [List.find?_cons_of_pos (by simp only [isAt,h1,h2,and_self,decide_true])]]
    exact Ev.now _
   ·simp only [if_pos h1,if_neg h2]
    rw [show costM (e::suf) a b=costM suf a b by unfold costM;rw [List.find?_cons_of_neg (by simp only [isAt,h2,and_false,decide_false];simp)]]
    exact this
  ·simp only [if_neg h1]
   rw [show costM (e::suf) a b=costM suf a b by unfold costM;rw [List.find?_cons_of_neg (by simp only [isAt,h1,false_and,decide_false];simp)]]
   exact this
theorem implCost_ev (l:List S52) (a b:Int) (h:(l.length:Int)≤1099511627776):Ev (fun k=>impl_cost.f k l a b) (costM l a b):=by
 have:=implCost_l a b l [] h
 exact this
def nearM (n:Nat) (l:List S52) (v:Int):List Int:=(own0 n).filter fun u=>decide (costM l v u > 0)
theorem nearM_succ (n:Nat) (l:List S52) (v:Int):nearM (n+1) l v=if costM l v n > 0 then nearM n l v++ [(n:Int)] else nearM n l v:=by
 unfold nearM
 rw [own0_succ,List.filter_append]
 split
 ·rename_i h
  simp [h]
 ·rename_i h
  simp [h]
theorem nearM_len (n:Nat) (l:List S52) (v:Int):(nearM n l v).length≤n:=by
 have:=List.length_filter_le (fun u=>decide (costM l v u > 0)) (own0 n)
 rw [own0_len] at this
 exact this
theorem implNear_l (l:List S52) (v:Int) (hb:(l.length:Int)≤1099511627776) (d:Nat):∀ (c:Nat),c+d≤1000000→
  Ev (fun k=>impl_near.l0 k l v (nearM c l v) ((c+d:Nat):Int) c) (nearM (c+d) l v):=by
 induction d with
 |zero=>
  intro c h
  refine Ev.succ ?_
  simp only [impl_near.l0,Nat.add_zero,Int.lt_irrefl,if_false]
  exact Ev.now _
 |succ d ih=>
  intro c h
  refine Ev.succ ?_
  have:=ih (c+1) (by omega)
  rw [show c+1+d=c+ (d+1) by omega] at this
  have hl:=nearM_len c l v
  simp only [impl_near.l0,if_pos (show (c:Int)< ((c+ (d+1):Nat):Int) by omega),wrap_id (show (-9223372036854775808:Int)≤c+1 by omega) (show ((c:Int)+1≤9223372036854775807) by omega)]
  refine Ev.bind (implCost_ev l v c hb) ?_
  rw [nearM_succ] at this
  by_cases h1:costM l v c > 0
  ·simp only [if_pos h1,if_pos (show (nearM c l v).length< 17592186044416 by omega)] at this ⊢
   exact this
  ·simp only [if_neg h1] at this ⊢
   exact this
theorem implNear_ev (n:Int) (l:List S52) (v:Int) (h0: 0≤n) (hn:n≤1000) (hb:(l.length:Int)≤1099511627776):Ev (fun k=>impl_near.f k n l v) (nearM n.toNat l v):=by
 have:=implNear_l l v hb n.toNat 0 (by omega)
 rw [Nat.zero_add,show ((n.toNat:Nat):Int)=n by omega] at this
 exact this
theorem costM_pos {n:Int} {l:List S52} (hx:∀ x ∈ l,0≤x.f0∧x.f0<x.f1∧x.f1<n∧1≤x.f2∧x.f2≤100) (a b:Int):costM l a b > 0↔ ∃ e ∈ l,(e.f0=a∧e.f1=b)∨ (e.f1=a∧e.f0=b):=by
 unfold costM
 cases hf:l.find? (isAt a b) with
 |none=>
  simp only [gt_iff_lt,Int.lt_irrefl,false_iff]
  rintro⟨e,he,hc⟩
  have:=hx e he
  have h1:=List.find?_eq_none.1 hf e he
  simp only [isAt,decide_eq_true_eq] at h1
  omega
 |some e=>
  have he:=List.mem_of_find?_eq_some hf
  have:=hx e he
  have h1:=List.find?_some hf
  simp only [isAt,decide_eq_true_eq] at h1
  simp only [gt_iff_lt]
  refine⟨fun _=>⟨e,he,?_⟩,fun _=>by omega⟩
  omega
theorem near_same {n:Int} {l:List S52} (hx:∀ x ∈ l,0≤x.f0∧x.f0<x.f1∧x.f1<n∧1≤x.f2∧x.f2≤100) (v:Int):nearS l v=nearM n.toNat l v:=by
 have h:=foldNear v l [] (by simp)
 refine sorted_ext _ _ h.1 ?_ fun x=>?_
 ·exact(own0_sorted _).filter _
 ·unfold nearM
  rw [List.mem_filter,own0_mem,decide_eq_true_eq,costM_pos hx]
  have h2:=h.2 x
  simp only [List.not_mem_nil,false_or] at h2
  refine h2.trans ⟨fun hc=>⟨?_,hc⟩,fun hc=>hc.2⟩
  obtain⟨e,he,hc⟩:=hc
  have:=hx e he
  omega
theorem goodAt_ev (n:Int) (l:List S52) (q:List Int) (hl:l.length≤1048576) (hq:(q.length:Int)≤1099511627776):Ev (fun k=>impl_goodAt.f k n l q) (goodE n l && allIn 0 (wrap64 (n - 1)) q):=by
 unfold impl_goodAt.f
 refine Ev.bind (implGoodE_ev n l hl) ?_
 by_cases h:goodE n l=true
 ·simp only [h,if_true,Bool.true_and]
  exact Ev.bind (implAll_ev _ _ q hq) (Ev.now _)
 ·simp only [h,Bool.false_and,Bool.false_eq_true,if_false]
  exact Ev.now _
-- NearOf, both sides
def nearOf (n:Int) (l:List S52) (v:Int):List Int × Bool:=if goodE n l=true then(if 0≤v∧v≤wrap64 (n - 1) then(nearM n.toNat l v,true) else([],false)) else([],false)
theorem nearOf_len (n:Int) (l:List S52) (v:Int):(nearOf n l v).1.length≤12:=by
 unfold nearOf
 split
 ·rename_i h
  have:=goodE_n h
  have:=nearM_len n.toNat l v
  split
  ·show (nearM n.toNat l v).length≤12
   omega
  ·simp
 ·simp
theorem specNearOf_ev (n:Int) (l:List S52) (v:Int) (hl:l.length≤1048576):Ev (fun k=>spec_NearOf.f k n l v) (nearOf n l v):=by
 unfold spec_NearOf.f nearOf
 refine Ev.bind (specGoodE_ev n l hl) ?_
 by_cases h:goodE n l=true
 ·simp only [if_pos h,specIn,Option.bind_some]
  by_cases hv: 0≤v∧v≤wrap64 (n - 1)
  ·simp only [if_pos hv,decide_eq_true_eq]
   refine Ev.bind (specNear_ev l v (by omega)) ?_
   rw [near_same (goodE_edge h)]
   exact Ev.now _
  ·simp only [if_neg hv,decide_eq_true_eq]
   exact Ev.now _
 ·simp only [if_neg h]
  exact Ev.now _
theorem implNearOf_ev (n:Int) (l:List S52) (v:Int) (hl:l.length≤1048576):Ev (fun k=>impl_NearOf.f k n l v) (nearOf n l v):=by
 unfold impl_NearOf.f nearOf
 have hga:=goodAt_ev n l [v] hl (by simp)
 by_cases h:goodE n l=true
 ·have hn:=goodE_n h
  by_cases hv: 0≤v∧v≤wrap64 (n - 1)
  ·rw [show (goodE n l && allIn 0 (wrap64 (n - 1)) [v])=true by rw [h,Bool.true_and,allIn,List.all_cons,List.all_nil,Bool.and_true];exact decide_eq_true hv] at hga
   refine Ev.bind hga ?_
   simp only [if_true]
   rw [if_pos h,if_pos hv]
   refine Ev.bind (implNear_ev n l v (by omega) (by omega) (by omega)) ?_
   exact Ev.now _
  ·rw [show (goodE n l && allIn 0 (wrap64 (n - 1)) [v])=false by rw [h,Bool.true_and,allIn,List.all_cons,List.all_nil,Bool.and_true];exact decide_eq_false hv] at hga
   refine Ev.bind hga ?_
   simp only [Bool.false_eq_true,if_false]
   rw [if_pos h,if_neg hv]
   exact Ev.now _
 ·rw [show (goodE n l && allIn 0 (wrap64 (n - 1)) [v])=false by rw [Bool.eq_false_iff.2 h,Bool.false_and]] at hga
  refine Ev.bind hga ?_
  simp only [Bool.false_eq_true,if_false]
  rw [if_neg h]
  exact Ev.now _
theorem and255 (x:Int): 0≤wrap64 (Go.bits .and .u64 x 255)∧wrap64 (Go.bits .and .u64 x 255)≤255:=by
 have e:∃ n:Nat,n≤255∧Go.bits .and .u64 x 255=IntKind.u64.wrap (n:Int):=by
  refine⟨(BitVec.ofInt 64 x &&& BitVec.ofInt 64 255).toNat,?_,rfl⟩
  rw [BitVec.toNat_and]
  exact Nat.le_trans Nat.and_le_right (by decide)
 obtain⟨n,hn,e⟩:=e
 rw [e]
 have e2:IntKind.u64.wrap (n:Int)= (n:Int):=by
  simp only [IntKind.wrap,IntKind.bits,IntKind.signed,Bool.false_and,Bool.false_eq_true,if_false]
  omega
 rw [e2,wrap_id (by omega) (by omega)]
 omega
theorem next_ok (c:List Int) (hc:∀ x ∈ c,0≤x∧x≤255) (hl:c.length≤1048576) (a s:Int) (h0: 0≤a) (h1:a≤1152921504606846976):
  ∃ r s',spec_l1Cur_next.f c a s=some (r,a+1,s')∧0≤r∧r≤255:=by
 unfold spec_l1Cur_next.f
 rw [wrap_id (x:=a+1) (by omega) (by omega)]
 by_cases h:a< (c.length:Int)
 ·have hm:rd c a ∈ c:=by
   unfold rd
   rw [List.getD_eq_getElem?_getD,List.getElem?_eq_getElem (by omega)]
   exact List.getElem_mem _
  have hb:=hc _ hm
  rw [if_pos h,if_pos h0]
  by_cases h2:a+1≤ (c.length:Int)
  ·rw [if_pos h2,wrap_id (x:=rd c a) (by omega) (by omega)]
   exact⟨_,_,rfl,hb.1,hb.2⟩
  ·omega
 ·rw [if_neg h,if_neg (by omega)]
  exact⟨_,_,rfl,(and255 _).1,(and255 _).2⟩
theorem pick_ok (c:List Int) (hc:∀ x ∈ c,0≤x∧x≤255) (hl:c.length≤1048576) (a s n:Int) (h0: 0≤a) (h1:a≤1125899906842624):
  ∃ r a' s',spec_l1Cur_pick.f c a s n=some (r,a',s')∧0≤r∧ (n≤1→r=0)∧ (2≤n→r<n)∧a≤a'∧a'≤a+2:=by
 unfold spec_l1Cur_pick.f
 by_cases hn:n≤1
 ·rw [if_pos hn]
  exact⟨0,a,s,rfl,by omega,fun _=>rfl,by omega,by omega,by omega⟩
 ·rw [if_neg hn]
  obtain⟨r,s',e,r0,r1⟩:=next_ok c hc hl a s h0 (by omega)
  rw [e]
  simp only [Option.bind_some]
  by_cases h2:n > 200
  ·rw [if_pos h2]
   obtain⟨q,s2,e2,q0,q1⟩:=next_ok c hc hl (a+1) s' (by omega) (by omega)
   rw [e2]
   simp only [Option.bind_some]
   rw [if_neg (by omega),wrap_id (x:=r * 256) (by omega) (by omega),wrap_id (x:=r * 256+q) (by omega) (by omega),Int.tmod_eq_emod_of_nonneg (by omega)]
   exact⟨_,_,_,rfl,Int.emod_nonneg _ (by omega),fun h=>absurd h hn,fun _=>Int.emod_lt_of_pos _ (by omega),by omega,by omega⟩
  ·rw [if_neg h2,if_neg (by omega),Int.tmod_eq_emod_of_nonneg r0]
   exact⟨_,_,_,rfl,Int.emod_nonneg _ (by omega),fun h=>absurd h hn,fun _=>Int.emod_lt_of_pos _ (by omega),by omega,by omega⟩
theorem one_ok (c:List Int) (hc:∀ x ∈ c,0≤x∧x≤255) (hl:c.length≤1048576) (a s n:Int) (h0: 0≤a) (h1:a≤1125899906842624):
  ∃ b a' s',spec_l1Cur_one.f c a s n=some (b,a',s')∧a≤a'∧a'≤a+2:=by
 unfold spec_l1Cur_one.f
 obtain⟨r,a',s',e,_,_,_,g1,g2⟩:=pick_ok c hc hl a s n h0 h1
 rw [e]
 exact⟨_,_,_,rfl,g1,g2⟩
theorem among_ok (c:List Int) (hc:∀ x ∈ c,0≤x∧x≤255) (hl:c.length≤1048576) (a s:Int) (l:List Int) (hn: 0<l.length) (h0: 0≤a) (h1:a≤1125899906842624):
  ∃ r a' s',spec_l1Cur_among.f c a s l=some (r,a',s')∧r ∈ l∧a≤a'∧a'≤a+2:=by
 unfold spec_l1Cur_among.f
 obtain⟨r,a',s',e,r0,r1,r2,g1,g2⟩:=pick_ok c hc hl a s (l.length:Int) h0 h1
 rw [e]
 simp only [Option.bind_some]
 have hlt:r< (l.length:Int):=by
  by_cases h: 2≤ (l.length:Int)
  ·exact r2 h
  ·have:=r1 (by omega);omega
 rw [if_pos r0,if_pos hlt]
 refine⟨_,_,_,rfl,?_,g1,g2⟩
 unfold rd
 rw [List.getD_eq_getElem?_getD,List.getElem?_eq_getElem (by omega)]
 exact List.getElem_mem _
theorem bytes_ok {q:List Int} (hq:∀ x ∈ q,(Lit.int .u8 x).wf=true):∀ x ∈ q,0≤x∧x≤255:=fun x hx=>by
 have:=hq x hx
 simp only [Lit.wf,IntKind.has,IntKind.min,IntKind.max,IntKind.signed,IntKind.bits,Bool.and_eq_true,decide_eq_true_eq,Bool.false_eq_true,if_false] at this
 omega
-- The drawn lists of edges are short, whatever bytes they are drawn from.
theorem up1 (v:Nat) (h:v≤1000):wrap64 ((v:Int)+1)= ((v+1:Nat):Int):=by rw [wrap_id (by omega) (by omega)];omega
theorem edges_l0 (c:List Int) (hc:∀ x ∈ c,0≤x∧x≤255) (hl:c.length≤1048576) (n:Nat) (hn:n≤13) (p:Int) (d:Nat):
  ∀ (u:Nat) (l:List S52) (a s:Int),u+d=n→l.length≤40→0≤a→a≤100000 - 60 * d→ ∃ r a' s',Ev (fun k=>spec_l1Cur_edges.l0 k n l p u c a s) ((n:Int),r,a',s')∧r.length≤40∧a≤a'∧a'≤a+60 * d+10:=by
 induction d with
 |zero=>
  intro u l a s hu hl2 h0 h1
  by_cases hp:(l.length:Int) > 0
  ·obtain⟨b,a1,s1,e1,g1,g1'⟩:=one_ok c hc hl a s 30 h0 (by omega)
   cases b with
   |true=>
    obtain⟨r2,a2,s2,e2,_,g2,g2'⟩:=among_ok c hc hl a1 s1 [0,100,101] (by decide) (by omega) (by omega)
    refine⟨l.set (0:Int).toNat ⟨(rd_T52 l 0).f0,(rd_T52 l 0).f1,r2⟩,a2,s2,Ev.succ ?_,by simpa using hl2,by omega,by omega⟩
    simp only [spec_l1Cur_edges.l0,if_neg (show ¬ (u:Int)<n by omega),if_pos hp,e1,Option.bind_some,if_true]
    rw [e2]
    simp only [Option.bind_some,if_pos (show (0:Int)< (l.length:Int) from hp)]
    exact Ev.now _
   |false=>
    refine⟨l,a1,s1,Ev.succ ?_,hl2,by omega,by omega⟩
    simp only [spec_l1Cur_edges.l0,if_neg (show ¬ (u:Int)<n by omega),if_pos hp,e1,Option.bind_some,Bool.false_eq_true,if_false]
    exact Ev.now _
  ·refine⟨l,a,s,Ev.succ ?_,hl2,by omega,by omega⟩
   simp only [spec_l1Cur_edges.l0,if_neg (show ¬ (u:Int)<n by omega),if_neg hp]
   exact Ev.now _
 |succ d ih=>
  intro u l a s hu hl2 h0 h1
  have hd:d≤12:=by omega
  have key:∀ (d2:Nat) (v:Nat) (l:List S52) (a s:Int),v+d2=n→l.length≤40→0≤a→a+4 * d2≤100000 - 60 * d→d2≤12→ ∃ r a' s',Ev (fun k=>spec_l1Cur_edges.l1 k n l p u v c a s) ((n:Int),r,a',s')∧r.length≤40∧a≤a'∧a'≤a+4 * d2+ (60 * d+10):=by
   intro d2
   induction d2 with
   |zero=>
    intro v l a s hv hl2 h0 h1 _
    obtain⟨r,a',s',e,hr,g,g'⟩:=ih (u+1) l a s (by omega) hl2 h0 (by omega)
    refine⟨r,a',s',Ev.succ ?_,hr,g,by omega⟩
    simp only [spec_l1Cur_edges.l1,if_neg (show ¬ (v:Int)<n by omega)]
    rw [up1 u (by omega)]
    exact e
   |succ d2 ih2=>
    intro v l a s hv hl2 h0 h1 h12
    obtain⟨b,a1,s1,e1,g1,g1'⟩:=one_ok c hc hl a s (wrap64 (1+p)) h0 (by omega)
    have skip:∃ r a' s',Ev (fun k=>spec_l1Cur_edges.l1 k n l p u (wrap64 ((v:Int)+1)) c a1 s1) ((n:Int),r,a',s')∧r.length≤40∧a≤a'∧a'≤a+4 * ((d2+1:Nat):Int)+ (60 * d+10):=by
     obtain⟨r,a',s',e,hr,g,g'⟩:=ih2 (v+1) l a1 s1 (by omega) hl2 (by omega) (by omega) (by omega)
     rw [up1 v (by omega)]
     exact⟨r,a',s',e,hr,by omega,by omega⟩
    cases b with
    |false=>
     obtain⟨r,a',s',e,hr,g,g'⟩:=skip
     refine⟨r,a',s',Ev.succ ?_,hr,g,g'⟩
     simp only [spec_l1Cur_edges.l1,if_pos (show (v:Int)<n by omega),e1,Option.bind_some,Bool.false_eq_true,if_false]
     exact e
    |true=>
     by_cases h40:(l.length:Int)< 40
     ·obtain⟨q,a2,s2,e2,_,_,_,g2,g2'⟩:=pick_ok c hc hl a1 s1 5 (by omega) (by omega)
      obtain⟨r,a',s',e,hr,g,g'⟩:=ih2 (v+1) (l++ [⟨(u:Int),(v:Int),wrap64 (1+q)⟩]) a2 s2 (by omega) (by simp<;>omega) (by omega) (by omega) (by omega)
      refine⟨r,a',s',Ev.succ ?_,hr,by omega,by omega⟩
      simp only [spec_l1Cur_edges.l1,if_pos (show (v:Int)<n by omega),e1,Option.bind_some,if_true,if_pos h40]
      rw [e2]
      simp only [Option.bind_some,if_pos (show l.length< 5864062014805 by omega)]
      rw [up1 v (by omega)]
      exact e
     ·obtain⟨r,a',s',e,hr,g,g'⟩:=skip
      refine⟨r,a',s',Ev.succ ?_,hr,g,g'⟩
      simp only [spec_l1Cur_edges.l1,if_pos (show (v:Int)<n by omega),e1,Option.bind_some,if_true,if_neg h40]
      exact e
  obtain⟨r,a',s',e,hr,g,g'⟩:=key d (u+1) l a s (by omega) hl2 h0 (by omega) hd
  refine⟨r,a',s',Ev.succ ?_,hr,g,by omega⟩
  simp only [spec_l1Cur_edges.l0,if_pos (show (u:Int)<n by omega)]
  rw [up1 u (by omega)]
  exact e
theorem edges_ok (c:List Int) (hc:∀ x ∈ c,0≤x∧x≤255) (hl:c.length≤1048576):
  ∃ (n:Int) (r:List S52) (a' s':Int),Ev (fun k=>spec_l1Cur_edges.f k c 0 0) (n,r,a',s')∧0≤n∧n≤13∧r.length≤40∧0≤a'∧a'≤10000:=by
 obtain⟨r1,a1,s1,e1,r10,_,r12,g1,g1'⟩:=pick_ok c hc hl 0 0 8 (by omega) (by omega)
 obtain⟨b,a2,s2,e2,g2,g2'⟩:=one_ok c hc hl a1 s1 30 (by omega) (by omega)
 have:=r12 (by omega)
 have fin:∀ (n:Int) (a s:Int),0≤n→n≤13→0≤a→a≤100→ ∃ (r:List S52) (a' s':Int),Ev (fun k=>spec_l1Cur_edges.j0 k n c a s) (n,r,a',s')∧r.length≤40∧0≤a'∧a'≤10000:=by
  intro n a s h0 h1 ha ha1
  obtain⟨m,rfl⟩:=Int.eq_ofNat_of_zero_le h0
  obtain⟨q,a3,s3,e3,_,_,_,g3,g3'⟩:=pick_ok c hc hl a s 3 ha (by omega)
  obtain⟨r,a4,s4,e4,hr,g4,g4'⟩:=edges_l0 c hc hl m (by omega) (wrap64 (1+q)) m 0 [] a3 s3 (by omega) (by simp) (by omega) (by omega)
  refine⟨r,a4,s4,Ev.succ ?_,hr,by omega,by omega⟩
  simp only [spec_l1Cur_edges.j0,e3,Option.bind_some]
  exact e4
 cases b with
 |true=>
  obtain⟨r3,a3,s3,e3,m3,g3,g3'⟩:=among_ok c hc hl a2 s2 [0,12,13] (by decide) (by omega) (by omega)
  have hr3: 0≤r3∧r3≤13:=by
   simp only [List.mem_cons,List.not_mem_nil,or_false] at m3
   omega
  obtain⟨r,a4,s4,e4,hr,g4,g4'⟩:=fin r3 a3 s3 hr3.1 hr3.2 (by omega) (by omega)
  refine⟨r3,r,a4,s4,?_,hr3.1,hr3.2,hr,g4,g4'⟩
  unfold spec_l1Cur_edges.f
  simp only [e1,Option.bind_some]
  rw [e2]
  simp only [Option.bind_some,if_true]
  rw [e3]
  simp only [Option.bind_some]
  exact e4
 |false=>
  obtain⟨r,a4,s4,e4,hr,g4,g4'⟩:=fin (1+r1) a2 s2 (by omega) (by omega) (by omega) (by omega)
  refine⟨1+r1,r,a4,s4,?_,by omega,by omega,hr,g4,g4'⟩
  unfold spec_l1Cur_edges.f
  simp only [e1,Option.bind_some]
  rw [e2]
  simp only [Option.bind_some,Bool.false_eq_true,if_false]
  rw [wrap_id (x:=1+r1) (by omega) (by omega)]
  exact e4
-- the law's own comparison of two lists of numbers
theorem sameInts_l (s:List Int):∀ (t pre qre:List Int),pre.length=qre.length→s.length=t.length→ (pre.length:Int)+s.length≤1099511627776→
  Ev (fun k=>laws_sameInts.l0 k (pre++s) (qre++t) ((pre++s).length:Int) pre.length) (decide (s=t)):=by
 induction s with
 |nil=>
  intro t pre qre hq hl hb
  obtain rfl:t= []:=List.eq_nil_of_length_eq_zero (by simpa using hl.symm)
  refine Ev.succ ?_
  simp only [laws_sameInts.l0,List.append_nil,Int.lt_irrefl,if_false,decide_true]
  exact Ev.now _
 |cons x s ih=>
  intro t pre qre hq hl hb
  cases t with
  |nil=>simp at hl
  |cons y t=>
   simp only [List.length_cons] at hl hb
   have h:=ih t (pre++ [x]) (qre++ [y]) (by simp;omega) (by omega) (by simp;omega)
   rw [← app_one,← app_one,len_mid,len_one] at h
   have hy:rd (qre++y::t) (pre.length:Int)=y:=by rw [hq];exact rd_mid qre y t
   refine Ev.succ ?_
   simp only [laws_sameInts.l0]
   simp only [len_mid,if_pos (show ((pre.length:Int)<pre.length+s.length+1) by omega),if_pos (show (0:Int)≤pre.length by omega),if_pos (show ((pre.length:Int)<qre.length+t.length+1) by omega),rd_mid,hy,wrap_id (show (-9223372036854775808:Int)≤pre.length+1 by omega) (show ((pre.length:Int)+1≤9223372036854775807) by omega)]
   by_cases e:x=y
   ·simp only [if_pos e]
    rw [show decide (x::s=y::t)=decide (s=t) by simp [e]]
    exact h
   ·simp only [if_neg e]
    rw [show decide (x::s=y::t)=false by simp [e]]
    exact Ev.now _
theorem sameInts_ev (s t:List Int) (hs:s.length≤1099511627776):Ev (fun k=>laws_sameInts.f k s t) (decide (s=t)):=by
 unfold laws_sameInts.f
 by_cases hl:s.length=t.length
 ·simp only [if_pos (show (s.length:Int)=t.length by omega)]
  have:=sameInts_l s t [] [] rfl hl (by simp;omega)
  exact this
 ·simp only [if_neg (show ¬ (s.length:Int)=t.length by omega)]
  rw [decide_eq_false (fun e=>hl (by rw [e]))]
  exact Ev.now _
theorem has_l (x:Int):∀ (suf pre:List Int),((pre++suf).length:Int)≤1099511627776→Ev (fun k=>laws_has.l0 k x (pre++suf) ((pre++suf).length:Int) pre.length) (decide (x ∈ suf))
 | [],pre,h=>by
  refine Ev.succ ?_
  simp only [laws_has.l0,List.append_nil,Int.lt_irrefl,if_false]
  exact Ev.some_ (by simp)
 |y::suf,pre,h=>by
  have h':=h
  rw [len_mid] at h
  refine Ev.succ ?_
  simp only [laws_has.l0,if_pos (show (pre.length:Int)< ((pre++y::suf).length:Int) by rw [len_mid];omega),if_pos (show (0:Int)≤pre.length by omega),rd_mid,wrap_id (show (-9223372036854775808:Int)≤pre.length+1 by omega) (show ((pre.length:Int)+1≤9223372036854775807) by omega)]
  by_cases e:y=x
  ·simp only [if_pos e]
   exact Ev.some_ (by rw [e];simp)
  ·simp only [if_neg e]
   have:=has_l x suf (pre++ [y]) (by rw [← app_one];exact h')
   rw [← app_one,len_one] at this
   rw [show decide (x ∈ y::suf)=decide (x ∈ suf) by simp [show ¬ x=y from fun h=>e h.symm]]
   exact this
theorem has_ev (x:Int) (l:List Int) (h:(l.length:Int)≤1099511627776):Ev (fun k=>laws_has.f k l x) (decide (x ∈ l)):=has_l x l [] h
theorem sameEdges_l (s:List S52) (hs:s.length≤1000000) (d:Nat):∀ (c:Nat),c+d=s.length→Ev (fun k=>laws_sameEdges.l0 k s s s.length c) true:=by
 induction d with
 |zero=>
  intro c h
  refine Ev.succ ?_
  simp only [laws_sameEdges.l0,if_neg (show ¬ (c:Int)< (s.length:Int) by omega)]
  exact Ev.now _
 |succ d ih=>
  intro c h
  refine Ev.succ ?_
  simp only [laws_sameEdges.l0,if_pos (show (c:Int)< (s.length:Int) by omega),if_pos (show (0:Int)≤c by omega),beq_self_eq_true,Bool.not_true,Bool.or_self,Bool.false_eq_true,if_false,wrap_id (show (-9223372036854775808:Int)≤c+1 by omega) (show ((c:Int)+1≤9223372036854775807) by omega)]
  exact ih (c+1) (by omega)
theorem sameEdges_ev (s:List S52) (hs:s.length≤1000000):Ev (fun k=>laws_sameEdges.f k s s) true:=by
 unfold laws_sameEdges.f
 simp only [if_true]
 exact sameEdges_l s hs s.length 0 (by omega)
/-! the result -/
def okB (m:Int) (T:Int→Int→Int) (x:S52):Prop:=isEdge m x=true∧0<T x.f0 x.f1∧0<T x.f1 x.f0∧x.f2=mx (T x.f0 x.f1) (T x.f1 x.f0)
def invB (m:Int) (T:Int→Int→Int) (out:List S52) (a b:Int):Prop:=(∀ x ∈ out,okB m T x)∧out.Pairwise (fun y x=>edgeLt y x=true)∧ ∀ x ∈ out,x.f0<a∨x.f0=a∧x.f1<b
theorem goodEF_of {m:Int} :∀ (l:List S52) (o:Option S52),(∀ x ∈ l,isEdge m x=true)→l.Pairwise (fun y x=>edgeLt y x=true)→ (∀ y,o=some y→ ∀ x ∈ l,edgeLt y x=true)→goodEF m o l=true
 | [],none,_,_,_=>rfl
 | [],some _,_,_,_=>rfl
 |x::r,o,h1,h2,h3=>by
  have hx:=h1 x List.mem_cons_self
  have hr:=goodEF_of r (some x) (fun y hy=>h1 y (List.mem_cons_of_mem _ hy)) (List.pairwise_cons.1 h2).2 (fun y hy z hz=>by
   injection hy with hy
   subst hy
   exact(List.pairwise_cons.1 h2).1 z hz)
  cases o with
  |none=>simp only [goodEF,hx,hr,Bool.and_self]
  |some y=>simp only [goodEF,hx,hr,h3 y rfl x List.mem_cons_self,Bool.and_self]
theorem stepB_inv {m:Int} {T:Int→Int→Int} (hT:∀ a b,T a b≤100) {out:List S52} {a b:Int} (h:invB m T out a b) (h0: 0≤a) (h1:a<b) (h2:b≤m):invB m T (stepB T out a b) a (b+1):=by
 obtain⟨i1,i2,i3⟩:=h
 unfold stepB
 by_cases hc: 0<T a b∧0<T b a
 ·rw [if_pos hc]
  have t1:=hT a b
  have t2:=hT b a
  refine⟨fun x hx=>?_,?_,fun x hx=>?_⟩
  ·rcases List.mem_append.1 hx with hx|hx
   ·exact i1 x hx
   ·obtain rfl:=List.mem_singleton.1 hx
    have hm: 1≤mx (T a b) (T b a)∧mx (T a b) (T b a)≤100:=by unfold mx;split<;>omega
    exact⟨(isEdge_iff _ _).2 ⟨h0,by show a≤m;omega,by show 0≤b;omega,h2,h1,hm.1,hm.2⟩,hc.1,hc.2,rfl⟩
  ·rw [List.pairwise_append]
   refine⟨i2,List.pairwise_singleton _ _,fun y hy x hx=>?_⟩
   obtain rfl:=List.mem_singleton.1 hx
   have:=i3 y hy
   unfold edgeLt
   simp only [decide_eq_true_eq]
   exact this
  ·rcases List.mem_append.1 hx with hx|hx
   ·have:=i3 x hx
    omega
   ·obtain rfl:=List.mem_singleton.1 hx
    exact .inr ⟨rfl,by show b<b+1;omega⟩
 ·rw [if_neg hc]
  exact⟨i1,i2,fun x hx=>by have:=i3 x hx;omega⟩
theorem inB_inv {m:Int} {T:Int→Int→Int} (hT:∀ a b,T a b≤100) {a:Int} (h0: 0≤a) (k:Nat):∀ (b:Int) (out:List S52),a<b→b+k≤m+1→invB m T out a b→invB m T (inB T a k b out) a (b+k):=by
 induction k with
 |zero=>intro b out h1 h2 h;simpa [inB] using h
 |succ k ih=>
  intro b out h1 h2 h
  have:=ih (b+1) (stepB T out a b) (by omega) (by omega) (stepB_inv hT h h0 h1 (by omega))
  rw [show b+1+ (k:Int)=b+ ((k+1:Nat):Int) by omega] at this
  exact this
theorem outB_inv {m:Int} {T:Int→Int→Int} (hT:∀ a b,T a b≤100) (k:Nat):∀ (a:Int) (out:List S52),0≤a→a+k=m+1→invB m T out a (a+1)→ (∀ x ∈ outB T (m+1) k a out,okB m T x)∧ (outB T (m+1) k a out).Pairwise (fun y x=>edgeLt y x=true):=by
 induction k with
 |zero=>intro a out h0 h1 h;exact⟨h.1,h.2.1⟩
 |succ k ih=>
  intro a out h0 h1 h
  have hi:=inB_inv hT h0 (m+1 - (a+1)).toNat (a+1) out (by omega) (by omega) h
  exact ih (a+1) _ (by omega) (by omega) ⟨hi.1,hi.2.1,fun x hx=>by have:=hi.2.2 x hx;omega⟩
theorem toldAt_le {m:Int} :∀ (l:List S57) (a b c:Int),(∀ x ∈ l,isTold m x=true)→c≤100→toldAt l a b c≤100
 | [],_,_,_,_,h=>h
 |x::r,a,b,c,hl,h=>by
  have hx:=(isTold_iff _ _).1 (hl x List.mem_cons_self)
  refine toldAt_le r a b _ (fun y hy=>hl y (List.mem_cons_of_mem _ hy)) ?_
  split<;>omega
theorem bothWays_good {n:Int} {l:List S57} (h:(bothWays n l).2=true):goodE n (bothWays n l).1=true∧ ∀ x ∈ (bothWays n l).1,okB (n - 1) (fun a b=>toldAt l a b 0) x:=by
 unfold bothWays at h ⊢
 by_cases hg:((1≤n∧n≤12)∧l.length≤80)∧l.all (isTold (wrap64 (n - 1)))=true
 ·rw [if_pos hg] at h ⊢
  unfold finB at h ⊢
  by_cases h40:(bothOf n l).length > 40
  ·rw [if_pos h40] at h
   simp at h
  ·rw [if_neg h40]
   have hall:∀ x ∈ l,isTold (n - 1) x=true:=by
    have:=hg.2
    rw [wrap_id (by omega) (by omega)] at this
    exact fun x hx=>List.all_eq_true.1 this x hx
   have hi:=outB_inv (m:=n - 1) (T:=fun a b=>toldAt l a b 0) (fun a b=>toldAt_le l a b 0 hall (by omega)) n.toNat 0 [] (by omega) (by omega) ⟨fun x hx=>by simp at hx,List.Pairwise.nil,fun x hx=>by simp at hx⟩
   rw [show n - 1+1=n by omega] at hi
   refine⟨?_,hi.1⟩
   show goodE n (bothOf n l)=true
   unfold goodE
   rw [wrap_id (by omega) (by omega),goodEF_of (bothOf n l) none (fun x hx=>(hi.1 x hx).1) hi.2 (fun y hy=>by simp at hy)]
   simp only [Bool.true_and,Bool.and_eq_true,decide_eq_true_eq]
   exact⟨hg.1.1,by omega⟩
 ·rw [if_neg hg] at h
  simp at h
/-! the draw -/
theorem drawB_l0 (c:List Int) (hc:∀ x ∈ c,0≤x∧x≤255) (hl:c.length≤1048576) (n:Nat) (hn:n≤12) (d:Nat):
  ∀ (u:Nat) (l:List S57) (a s:Int),u+d=n→l.length+12 * d≤1000→0≤a→a≤100000 - 60 * d→ ∃ r,Ev (fun k=>spec_DrawBothWays.l0 k n l u c a s) ((n:Int),r)∧r.length≤1000:=by
 induction d with
 |zero=>
  intro u l a s hu hl2 h0 h1
  have plain:∀ a s, ∃ r,Ev (fun k=>spec_DrawBothWays.j2 k n l false c a s) ((n:Int),r)∧r.length≤1000:=by
   intro a s
   refine⟨l,Ev.succ ?_,by omega⟩
   simp only [spec_DrawBothWays.j2,Bool.false_eq_true,if_false]
   exact Ev.now _
  by_cases hp:(l.length:Int) > 0
  ·obtain⟨b,a1,s1,e1,g1,g1'⟩:=one_ok c hc hl a s 20 h0 (by omega)
   cases b with
   |true=>
    obtain⟨r2,a2,s2,e2,_,_,_,g2,g2'⟩:=pick_ok c hc hl a1 s1 3 (by omega) (by omega)
    obtain⟨r3,a3,s3,e3,_,_,_,g3,g3'⟩:=pick_ok c hc hl a2 s2 3 (by omega) (by omega)
    obtain⟨r4,a4,s4,e4,_,g4,g4'⟩:=among_ok c hc hl a3 s3 [0,100,101] (by decide) (by omega) (by omega)
    refine⟨l.set (0:Int).toNat ⟨r2,r3,r4⟩,Ev.succ ?_,by rw [List.length_set];omega⟩
    simp only [spec_DrawBothWays.l0,if_neg (show ¬ (u:Int)<n by omega),if_pos hp,e1,Option.bind_some]
    refine Ev.succ ?_
    simp only [spec_DrawBothWays.j2,if_true,e2,Option.bind_some]
    simp only [e3,Option.bind_some]
    rw [e4]
    simp only [Option.bind_some,if_pos (show (0:Int)< (l.length:Int) from hp)]
    exact Ev.now _
   |false=>
    obtain⟨r,e,hr⟩:=plain a1 s1
    refine⟨r,Ev.succ ?_,hr⟩
    simp only [spec_DrawBothWays.l0,if_neg (show ¬ (u:Int)<n by omega),if_pos hp,e1,Option.bind_some]
    exact e
  ·obtain⟨r,e,hr⟩:=plain a s
   refine⟨r,Ev.succ ?_,hr⟩
   simp only [spec_DrawBothWays.l0,if_neg (show ¬ (u:Int)<n by omega),if_neg hp]
   exact e
 |succ d ih=>
  intro u l a s hu hl2 h0 h1
  have key:∀ (d2:Nat) (v:Nat) (l:List S57) (a s:Int),v+d2=n→l.length+d2+12 * d≤1000→0≤a→a+4 * d2≤100000 - 60 * d→ ∃ r,Ev (fun k=>spec_DrawBothWays.l1 k n l u v c a s) ((n:Int),r)∧r.length≤1000:=by
   intro d2
   induction d2 with
   |zero=>
    intro v l a s hv hl2 h0 h1
    obtain⟨r,e,hr⟩:=ih (u+1) l a s (by omega) (by omega) h0 (by omega)
    refine⟨r,Ev.succ ?_,hr⟩
    simp only [spec_DrawBothWays.l1,if_neg (show ¬ (v:Int)<n by omega)]
    rw [up1 u (by omega)]
    exact e
   |succ d2 ih2=>
    intro v l a s hv hl2 h0 h1
    by_cases huv:(u:Int)= (v:Int)
    ·obtain⟨r,e,hr⟩:=ih2 (v+1) l a s (by omega) (by omega) h0 (by omega)
     refine⟨r,Ev.succ ?_,hr⟩
     simp only [spec_DrawBothWays.l1,if_pos (show (v:Int)<n by omega),if_pos huv]
     rw [up1 v (by omega)]
     exact e
    ·obtain⟨b,a1,s1,e1,g1,g1'⟩:=one_ok c hc hl a s 3 h0 (by omega)
     cases b with
     |true=>
      obtain⟨r,e,hr⟩:=ih2 (v+1) l a1 s1 (by omega) (by omega) (by omega) (by omega)
      refine⟨r,Ev.succ ?_,hr⟩
      simp only [spec_DrawBothWays.l1,if_pos (show (v:Int)<n by omega),if_neg huv,e1,Option.bind_some,if_true]
      rw [up1 v (by omega)]
      exact e
     |false=>
      obtain⟨q,a2,s2,e2,_,_,_,g2,g2'⟩:=pick_ok c hc hl a1 s1 9 (by omega) (by omega)
      obtain⟨r,e,hr⟩:=ih2 (v+1) (l++ [⟨(u:Int),(v:Int),wrap64 (1+q)⟩]) a2 s2 (by omega) (by simp<;>omega) (by omega) (by omega)
      refine⟨r,Ev.succ ?_,hr⟩
      simp only [spec_DrawBothWays.l1,if_pos (show (v:Int)<n by omega),if_neg huv,e1,Option.bind_some,Bool.false_eq_true,if_false]
      rw [e2]
      simp only [Option.bind_some,if_pos (show l.length< 5864062014805 by omega)]
      rw [up1 v (by omega)]
      exact e
  obtain⟨r,e,hr⟩:=key n 0 l a s (by omega) (by omega) h0 (by omega)
  refine⟨r,Ev.succ ?_,hr⟩
  simp only [spec_DrawBothWays.l0,if_pos (show (u:Int)<n by omega)]
  exact e
theorem drawB_ok (c:List Int) (hc:∀ x ∈ c,0≤x∧x≤255) (hl:c.length≤1048576):∃ (n:Int) (r:List S57),Ev (fun k=>spec_DrawBothWays.f k c) (n,r)∧r.length≤1000:=by
 obtain⟨r1,a1,s1,e1,r10,_,r12,g1,g1'⟩:=pick_ok c hc hl 0 0 6 (by omega) (by omega)
 have:=r12 (by omega)
 obtain⟨m,hm⟩:=Int.eq_ofNat_of_zero_le (show 0≤1+r1 by omega)
 obtain⟨r,e,hr⟩:=drawB_l0 c hc hl m (by omega) m 0 [] a1 s1 (by omega) (by simp<;>omega) (by omega) (by omega)
 refine⟨m,r,?_,hr⟩
 unfold spec_DrawBothWays.f
 simp only [e1,Option.bind_some]
 rw [wrap_id (x:=1+r1) (by omega) (by omega),hm]
 exact e
theorem drawNear_ok (c:List Int) (hc:∀ x ∈ c,0≤x∧x≤255) (hl:c.length≤1048576):∃ (n:Int) (l:List S52) (v:Int),Ev (fun k=>spec_DrawNearOf.f k c) (n,l,v)∧l.length≤40:=by
 obtain⟨n,l,a,s,e,hn0,hn1,hl2,h0,h1⟩:=edges_ok c hc hl
 obtain⟨r1,a1,s1,e1,_,_,_,_,_⟩:=pick_ok c hc hl a s (wrap64 (n+2)) h0 (by omega)
 refine⟨n,l,wrap64 (r1 - 1),?_,hl2⟩
 unfold spec_DrawNearOf.f
 refine Ev.bind e ?_
 simp only [e1,Option.bind_some]
 exact Ev.now _
theorem drawWithout_ok (c:List Int) (hc:∀ x ∈ c,0≤x∧x≤255) (hl:c.length≤1048576):∃ (n:Int) (l:List S52) (v:Int),Ev (fun k=>spec_DrawWithoutEdge.f k c) (n,l,v)∧l.length≤40:=by
 obtain⟨n,l,a,s,e,hn0,hn1,hl2,h0,h1⟩:=edges_ok c hc hl
 obtain⟨r1,a1,s1,e1,_,_,_,_,_⟩:=pick_ok c hc hl a s (wrap64 ((l.length:Int)+2)) h0 (by omega)
 refine⟨n,l,wrap64 (r1 - 1),?_,hl2⟩
 unfold spec_DrawWithoutEdge.f
 refine Ev.bind e ?_
 simp only [e1,Option.bind_some]
 exact Ev.now _
/-! an edge taken out -/
def dropAt (a:Int):List S52→Int→List S52
 | [],_=> []
 |x::r,i=>if i=a then dropAt a r (i+1) else x::dropAt a r (i+1)
theorem dropAt_past (a:Int):∀ (l:List S52) (i:Int),a<i→dropAt a l i=l
 | [],_,_=>rfl
 |x::r,i,h=>by rw [dropAt,if_neg (by omega),dropAt_past a r (i+1) (by omega)]
theorem dropAt_is (a:Int):∀ (l:List S52) (i:Int),i≤a→dropAt a l i=l.take (a - i).toNat++l.drop ((a - i).toNat+1)
 | [],_,_=>by simp [dropAt]
 |x::r,i,h=>by
  by_cases e:i=a
  ·subst e
   rw [dropAt,if_pos rfl,dropAt_past i r (i+1) (by omega)]
   simp
  ·rw [dropAt,if_neg e,dropAt_is a r (i+1) (by omega)]
   obtain⟨m,hm⟩ :∃ m,(a - i).toNat=m+1:=⟨(a - i).toNat - 1,by omega⟩
   rw [hm,show (a - (i+1)).toNat=m by omega]
   simp
theorem contains1_ev (a i:Int):Ev (fun k=>slices_Contains_int.f k [a] i) (decide (i=a)):=by
 unfold slices_Contains_int.f slices_Index_int.f
 by_cases h:i=a
 ·subst h
  have hi:Ev (fun k=>slices_Index_int.l0 k [i] i (([i] :List Int).length:Int) 0) 0:=by
   refine Ev.succ ?_
   simp only [slices_Index_int.l0,List.length_singleton,if_pos (show (0:Int)< ((1:Nat):Int) by omega),if_pos (show (0:Int)≤0 by omega),show rd [i] 0=i from rfl,if_true]
   exact Ev.now _
  refine Ev.bind hi ?_
  refine Ev.some_ ?_
  simp
 ·have hi:Ev (fun k=>slices_Index_int.l0 k [a] i (([a] :List Int).length:Int) 0) (-1):=by
   refine Ev.succ ?_
   simp only [slices_Index_int.l0,List.length_singleton,if_pos (show (0:Int)< ((1:Nat):Int) by omega),if_pos (show (0:Int)≤0 by omega),show rd [a] 0=a from rfl,if_neg h]
   refine Ev.succ ?_
   simp only [slices_Index_int.l0,wrap_id (show (-9223372036854775808:Int)≤0+1 by omega) (show ((0:Int)+1≤9223372036854775807) by omega),if_neg (show ¬ (0:Int)+1< ((1:Nat):Int) by omega)]
   exact Ev.now _
  refine Ev.bind hi ?_
  refine Ev.some_ ?_
  simp [h]
theorem without_l (a:Int) (suf:List S52):∀ (pre out:List S52),(pre.length:Int)+suf.length≤1048576→out.length≤pre.length→
  Ev (fun k=>impl_without.l0 k [a] out (pre++suf) ((pre++suf).length:Int) (pre.length:Int)) (out++dropAt a suf pre.length):=by
 induction suf with
 |nil=>
  intro pre out hb ho
  refine Ev.succ ?_
  simp only [impl_without.l0,List.append_nil,if_neg (show ¬ (pre.length:Int)< (pre.length:Int) by omega),dropAt]
  exact Ev.now _
 |cons x suf ih=>
  intro pre out hb ho
  simp only [List.length_cons] at hb
  have c1:(pre.length:Int)< ((pre++x::suf).length:Int):=by simp<;>omega
  have h:=fun o ho=>ih (pre++ [x]) o (by simp<;>omega) ho
  simp only [← app_one,len_one] at h
  refine Ev.succ ?_
  simp only [impl_without.l0]
  simp only [if_pos c1,if_pos (show (0:Int)≤ (pre.length:Int) by omega),rdEdge_mid]
  rw [wrap_id (x:=(pre.length:Int)+1) (by omega) (by omega)]
  refine Ev.bind (contains1_ev a _) ?_
  by_cases e:(pre.length:Int)=a
  ·simp only [e,decide_true,if_true,dropAt]
   have:=h out (by simp<;>omega)
   rw [e] at this
   exact this
  ·simp only [e,decide_false,Bool.false_eq_true,if_false,dropAt,if_pos (show out.length< 5864062014805 by omega)]
   have:=h (out++ [x]) (by simp<;>omega)
   rw [List.append_assoc,List.singleton_append] at this
   exact this
def withoutE (n:Int) (l:List S52) (a:Int):List S52 × Bool:=if goodE n l=true then(if 0≤a∧a<l.length then(l.take a.toNat++l.drop (a.toNat+1),true) else([],false)) else([],false)
theorem withoutE_len (n:Int) (l:List S52) (a:Int):(withoutE n l a).1.length≤l.length+l.length:=by
 unfold withoutE
 split
 ·split
  ·simp only [List.length_append,List.length_take,List.length_drop]
   omega
  ·simp
 ·simp
theorem implWithout_ev (n:Int) (l:List S52) (a:Int) (hl:l.length≤1048576):Ev (fun k=>impl_WithoutEdge.f k n l a) (withoutE n l a):=by
 unfold impl_WithoutEdge.f withoutE
 refine Ev.bind (implGoodE_ev n l hl) ?_
 by_cases h:goodE n l=true
 ·simp only [if_pos h,implIn,Option.bind_some,decide_eq_true_eq]
  rw [wrap_id (x:=(l.length:Int) - 1) (by omega) (by omega)]
  by_cases hv: 0≤a∧a<l.length
  ·rw [if_pos hv]
   simp only [if_pos (show 0≤a∧a≤ (l.length:Int) - 1 by omega)]
   have hw:=without_l a l [] [] (by simp<;>omega) (by simp)
   have hd:=dropAt_is a l 0 hv.1
   rw [show a - 0=a by omega] at hd
   rw [← hd]
   have hw':Ev (fun k=>impl_without.f k l [a]) (dropAt a l 0):=hw
   exact Ev.bind hw' (Ev.now _)
  ·rw [if_neg hv]
   simp only [if_neg (show ¬ (0≤a∧a≤ (l.length:Int) - 1) by omega)]
   exact Ev.now _
 ·simp only [if_neg h]
  exact Ev.now _
theorem specWithout_ev (n:Int) (l:List S52) (a:Int) (hl:l.length≤1048576):Ev (fun k=>spec_WithoutEdge.f k n l a) (withoutE n l a):=by
 unfold spec_WithoutEdge.f withoutE
 refine Ev.bind (specGoodE_ev n l hl) ?_
 by_cases h:goodE n l=true
 ·simp only [if_pos h]
  by_cases hv: 0≤a∧a<l.length
  ·rw [if_pos hv]
   simp only [if_neg (show ¬ a< 0 by omega),if_neg (show ¬ a≥ (l.length:Int) by omega)]
   unfold spec_l8Without.f
   have e1:=List.length_take (i:=a.toNat) (l:=l)
   have e2:=List.length_drop (i:=a.toNat+1) (l:=l)
   simp only [Option.bind_some,List.nil_append,wrap_id (show (-9223372036854775808:Int)≤a+1 by omega) (show a+1≤9223372036854775807 by omega),if_pos hv.1,if_pos (show a≤ (l.length:Int) by omega),if_pos (show 0≤a+1 by omega),if_pos (show a+1≤ (l.length:Int) by omega),show (a+1).toNat=a.toNat+1 by omega]
   simp only [if_pos (show ([] :List S52).length+ (l.take a.toNat).length< 5864062014805 by simp only [List.length_nil];omega),if_pos (show (l.take a.toNat).length+ (l.drop (a.toNat+1)).length< 5864062014805 by omega),Option.bind_some]
   exact Ev.now _
  ·rw [if_neg hv]
   by_cases h1:a< 0
   ·simp only [if_pos h1]
    exact Ev.now _
   ·simp only [if_neg h1,if_pos (show a≥ (l.length:Int) by omega)]
    exact Ev.now _
 ·simp only [if_neg h]
  exact Ev.now _
/-! the law's loops -/
theorem bw_l1 (q:List Int) (L:List S57) (E:List S52) (n i e0 e1 e2:Int) (R:Bool) (suf:List S57):∀ (pre:List S57) (x y:Int),(pre.length:Int)+suf.length≤1099511627776→
  (toldAt suf e0 e1 x≠0∧toldAt suf e1 e0 y≠0∧ ¬ e2<toldAt suf e0 e1 x∧ ¬ e2<toldAt suf e1 e0 y∧ (e2=toldAt suf e0 e1 x∨e2=toldAt suf e1 e0 y))→
  Ev (fun k=>laws_FnBothWays.l0 k q L E n (wrap64 (i+1))) R→
  Ev (fun k=>laws_FnBothWays.l1 k q L x y E n i (pre++suf) ((pre++suf).length:Int) (pre.length:Int) e0 e1 e2) R:=by
 induction suf with
 |nil=>
  intro pre x y hb hx h
  simp only [toldAt] at hx
  obtain⟨h1,h2,h3,h4,h5⟩:=hx
  refine Ev.succ ?_
  simp only [laws_FnBothWays.l1,List.append_nil,if_neg (show ¬ (pre.length:Int)< (pre.length:Int) by omega),if_neg h1,if_neg h2,if_neg h3,if_neg h4]
  by_cases h6:e2=x
  ·simp only [if_pos h6]
   exact h
  ·simp only [if_neg h6,if_pos (show e2=y from h5.resolve_left h6)]
   exact h
 |cons t suf ih=>
  intro pre x y hb hx h
  simp only [List.length_cons] at hb
  simp only [toldAt] at hx
  have c1:(pre.length:Int)< ((pre++t::suf).length:Int):=by simp<;>omega
  have h':=ih (pre++ [t]) _ _ (by simp<;>omega) hx h
  simp only [← app_one,len_one] at h'
  refine Ev.succ ?_
  simp only [laws_FnBothWays.l1,if_pos c1,if_pos (show (0:Int)≤ (pre.length:Int) by omega),rdTold_mid]
  have hw:wrap64 ((pre.length:Int)+1)= (pre.length:Int)+1:=wrap_id (by omega) (by omega)
  by_cases g1:t.f0=e0
  ·simp only [if_pos g1]
   by_cases g2:t.f1=e1
   ·rw [if_pos ⟨g1,g2⟩] at h'
    simp only [show (t.f1==e1)=true from beq_iff_eq.mpr g2]
    refine Ev.succ ?_
    simp only [laws_FnBothWays.j3,if_true,hw]
    by_cases g3:t.f0=e1
    ·by_cases g4:t.f1=e0
     ·rw [if_pos ⟨g3,g4⟩] at h'
      simp only [if_pos g3,if_pos g4]
      exact h'
     ·rw [if_neg (fun hc=>g4 hc.2)] at h'
      simp only [if_pos g3,if_neg g4]
      exact h'
    ·rw [if_neg (fun hc=>g3 hc.1)] at h'
     simp only [if_neg g3]
     exact h'
   ·rw [if_neg (fun hc=>g2 hc.2)] at h'
    simp only [show (t.f1==e1)=false from beq_eq_false_iff_ne.mpr g2]
    refine Ev.succ ?_
    simp only [laws_FnBothWays.j3,Bool.false_eq_true,if_false,hw]
    by_cases g3:t.f0=e1
    ·by_cases g4:t.f1=e0
     ·rw [if_pos ⟨g3,g4⟩] at h'
      simp only [if_pos g3,if_pos g4]
      exact h'
     ·rw [if_neg (fun hc=>g4 hc.2)] at h'
      simp only [if_pos g3,if_neg g4]
      exact h'
    ·rw [if_neg (fun hc=>g3 hc.1)] at h'
     simp only [if_neg g3]
     exact h'
  ·rw [if_neg (fun hc=>g1 hc.1)] at h'
   simp only [if_neg g1]
   refine Ev.succ ?_
   simp only [laws_FnBothWays.j3,Bool.false_eq_true,if_false,hw]
   by_cases g3:t.f0=e1
   ·by_cases g4:t.f1=e0
    ·rw [if_pos ⟨g3,g4⟩] at h'
     simp only [if_pos g3,if_pos g4]
     exact h'
    ·rw [if_neg (fun hc=>g4 hc.2)] at h'
     simp only [if_pos g3,if_neg g4]
     exact h'
   ·rw [if_neg (fun hc=>g3 hc.1)] at h'
    simp only [if_neg g3]
    exact h'
theorem bw_l0 (q:List Int) (L:List S57) (hL:L.length≤1048576) (m:Int) (R:Bool) (hR:Ev (fun k=>laws_FnBothWays.j4 k q) R) (suf:List S52):∀ (pre:List S52),(pre.length:Int)+suf.length≤1099511627776→ (∀ x ∈ suf,okB m (fun a b=>toldAt L a b 0) x)→
  Ev (fun k=>laws_FnBothWays.l0 k q L (pre++suf) ((pre++suf).length:Int) (pre.length:Int)) R:=by
 induction suf with
 |nil=>
  intro pre hb hx
  refine Ev.succ ?_
  simp only [laws_FnBothWays.l0,List.append_nil,if_neg (show ¬ (pre.length:Int)< (pre.length:Int) by omega)]
  exact hR
 |cons e suf ih=>
  intro pre hb hx
  simp only [List.length_cons] at hb
  have c1:(pre.length:Int)< ((pre++e::suf).length:Int):=by simp<;>omega
  have h:=ih (pre++ [e]) (by simp<;>omega) (fun x hx'=>hx x (List.mem_cons_of_mem _ hx'))
  rw [← app_one,len_one] at h
  obtain⟨_,k1,k2,k3⟩:=hx e List.mem_cons_self
  refine Ev.succ ?_
  simp only [laws_FnBothWays.l0,if_pos c1,if_pos (show (0:Int)≤ (pre.length:Int) by omega),rdEdge_mid]
  refine bw_l1 q L (pre++e::suf) _ (pre.length:Int) e.f0 e.f1 e.f2 R L [] 0 0 (by simp<;>omega) ?_ ?_
  ·simp only [mx] at k1 k2 k3
   split at k3<;>omega
  ·rw [wrap_id (x:=(pre.length:Int)+1) (by omega) (by omega)]
   exact h
theorem near_back {n:Int} {l:List S52} (h:goodE n l=true) {v x:Int} (hv: 0≤v∧v≤wrap64 (n - 1)) (hx:x ∈ nearM n.toNat l v):nearOf n l x= (nearM n.toNat l x,true)∧v ∈ nearM n.toNat l x:=by
 have hn:=goodE_n h
 rw [wrap_id (by omega) (by omega)] at hv
 unfold nearM at hx
 rw [List.mem_filter,own0_mem,decide_eq_true_eq,costM_pos (goodE_edge h)] at hx
 constructor
 ·unfold nearOf
  rw [if_pos h,if_pos]
  rw [wrap_id (by omega) (by omega)]
  omega
 ·unfold nearM
  rw [List.mem_filter,own0_mem,decide_eq_true_eq,costM_pos (goodE_edge h)]
  obtain⟨_,e,he,hc⟩:=hx
  exact⟨by omega,e,he,by omega⟩
theorem bw_l2 (n:Int) (l:List S52) (hl:l.length≤1048576) (v:Int) (suf:List Int):∀ (pre:List Int),(pre.length:Int)+suf.length≤1099511627776→ (∀ x ∈ suf,nearOf n l x= (nearM n.toNat l x,true)∧v ∈ nearM n.toNat l x)→
  Ev (fun k=>laws_FnBothWays.l2 k n l v (pre++suf) ((pre++suf).length:Int) (pre.length:Int)) true:=by
 induction suf with
 |nil=>
  intro pre hb hx
  refine Ev.succ ?_
  simp only [laws_FnBothWays.l2,List.append_nil,if_neg (show ¬ (pre.length:Int)< (pre.length:Int) by omega)]
  exact Ev.now _
 |cons x suf ih=>
  intro pre hb hx
  simp only [List.length_cons] at hb
  have c1:(pre.length:Int)< ((pre++x::suf).length:Int):=by simp<;>omega
  have h:=ih (pre++ [x]) (by simp<;>omega) (fun y hy=>hx y (List.mem_cons_of_mem _ hy))
  rw [← app_one,len_one] at h
  obtain⟨k1,k2⟩:=hx x List.mem_cons_self
  have hlen:=nearOf_len n l x
  refine Ev.succ ?_
  simp only [laws_FnBothWays.l2,if_pos c1,if_pos (show (0:Int)≤ (pre.length:Int) by omega),rd_mid]
  rw [wrap_id (x:=(pre.length:Int)+1) (by omega) (by omega)]
  refine Ev.bind (implNearOf_ev n l x hl) ?_
  rw [k1] at hlen ⊢
  simp only [if_true]
  refine Ev.bind (has_ev v _ (by simp only at hlen;omega)) ?_
  simp only [k2,decide_true,if_true]
  exact h
end Go.Proofs.Ytpbnpepikkocmaa.P
namespace Go.Proofs.Ytpbnpepikkocmaa.Pure
open Go.RowKit Go.Proofs.Ytpbnpepikkocmaa.P Go.Proofs.YtpbnpepikkocmaaW.PrintWords Go.Proofs.YtpbnpepikkocmaaW.PrintLast
set_option linter.unusedVariables false
set_option linter.unusedSimpArgs false
theorem FnBothWays:laws_FnBothWays.Pure:=by
 intro c d hc1 hc2 hc3 hd1 hd2 hd3
 refine Ev.rounds ?_
 unfold laws_FnBothWays.f
 by_cases h:(wrap64 ((c.length:Int)+ (d.length:Int))) > 1048576
 ·simp only [if_pos h]
  exact Ev.now _
 simp only [if_neg h]
 rw [wrap_id (by omega) (by omega)] at h
 have hcb:=bytes_ok hc3
 have hdb:=bytes_ok hd3
 obtain⟨n,l,e,hl⟩:=drawB_ok c hcb (by omega)
 obtain⟨m,q,v,e2,hq⟩:=drawNear_ok d hdb (by omega)
 obtain⟨o,f,w,e3,hf⟩:=drawWithout_ok d hdb (by omega)
 have hj4:Ev (fun k=>laws_FnBothWays.j4 k d) true:=by
  refine Ev.succ ?_
  simp only [laws_FnBothWays.j4]
  refine Ev.bind e2 ?_
  have hn:=nearOf_len m q v
  have hwl:=withoutE_len o f w
  refine Ev.bind (implNearOf_ev m q v (by omega)) ?_
  refine Ev.bind (specNearOf_ev m q v (by omega)) ?_
  refine Ev.bind e3 ?_
  refine Ev.bind (implWithout_ev o f w (by omega)) ?_
  refine Ev.bind (specWithout_ev o f w (by omega)) ?_
  simp only [bne_self_eq_false,Bool.false_eq_true,if_false]
  refine Ev.bind (sameInts_ev _ _ (by omega)) ?_
  simp only [decide_true,if_true]
  refine Ev.bind (sameEdges_ev _ (by omega)) ?_
  simp only [Bool.not_true]
  refine Ev.succ ?_
  simp only [laws_FnBothWays.j5,Bool.false_eq_true,if_false]
  by_cases hg:goodE m q=true
  ·by_cases hv: 0≤v∧v≤wrap64 (m - 1)
   ·rw [show nearOf m q v= (nearM m.toNat q v,true) by unfold nearOf;rw [if_pos hg,if_pos hv]] at hn ⊢
    simp only [if_true]
    exact bw_l2 m q (by omega) v (nearM m.toNat q v) [] (by have h1:=nearM_len m.toNat q v;have h2:=goodE_n hg;simp only [List.length_nil];omega) (fun x hx=>near_back hg hv hx)
   ·rw [show nearOf m q v= ([],false) by unfold nearOf;rw [if_pos hg,if_neg hv]]
    simp only [Bool.false_eq_true,if_false]
    exact Ev.now _
  ·rw [show nearOf m q v= ([],false) by unfold nearOf;rw [if_neg hg]]
   simp only [Bool.false_eq_true,if_false]
   exact Ev.now _
 have hr:=bothWays_len n l
 have hgood:= @bothWays_good n l
 refine Ev.bind e ?_
 refine Ev.bind (implBothWays_ev n l (by omega)) ?_
 refine Ev.bind (specBothWays_ev n l (by omega)) ?_
 generalize bothWays n l=r at hr hgood ⊢
 simp only [bne_self_eq_false,Bool.false_eq_true,if_false]
 refine Ev.bind (sameEdges_ev _ (by omega)) ?_
 simp only [Bool.not_true]
 refine Ev.succ ?_
 simp only [laws_FnBothWays.j0,Bool.false_eq_true,if_false]
 by_cases hr2:r.2=true
 ·obtain⟨g1,g2⟩:=hgood hr2
  simp only [if_pos hr2]
  refine Ev.bind (implGoodE_ev n r.1 (by omega)) ?_
  simp only [g1,if_true]
  exact bw_l0 d l (by omega) (n - 1) true hj4 r.1 [] (by simp only [List.length_nil];omega) g2
 ·simp only [if_neg hr2]
  exact hj4
end Go.Proofs.Ytpbnpepikkocmaa.Pure
