/- Functions, walks and plain lemmas that the law FnExactLeastTree reaches, part 7. -/
import Derived.Test.YtedegfbheihopaaCFnExactLeastTree6
import Derived.WalkKit
import Derived.ProofKit
import Derived.OpenShut
import Derived.ChangeOld
import Derived.Below
import Derived.SizedLaws
import Derived.ChangeArms
import Derived.DataElems
import Derived.Deep.Draws
import Derived.Deep.AppendLies
import Derived.Maps.AppendAt
import Derived.OwnWalk
import Derived.Laws.BytesArg
import Derived.Laws.MakeOwn
import Derived.Laws.OwnMore
import Derived.Deep.OwnRows
import Derived.Tactics
import Derived.Lib.ConvBytes
import Derived.Laws.Slices
import Derived.KernelRfl
import Derived.RowKit3
import Derived.Deep.LoopGhost
import Derived.Deep.QuietTactic
import Derived.BigQuiet
import Derived.WideLaws
import Derived.Deep.DeepCutAuto
import Derived.Deep.CutBlock
import Derived.Deep.RegionHeld3
import Derived.Laws.Rows
import Derived.Lib.AppendStr
import Derived.ArgAppend
import Derived.Laws.IdiomCopy
import Derived.OrdersHeld
import Derived.Laws.BitsLemmas
import Derived.RowKit
import Derived.WalkSpells
import Derived.Lib.SliceRun
import Derived.Shelf.Abstract
import Derived.ShutString
namespace Go.Proofs.Ytedegfbheihopaa.P
open Go.RowKit Go.Proofs.YtedegfbheihopaaW.PrintWords Go.Proofs.YtedegfbheihopaaW.PrintLast Go.Proofs.YtedegfbheihopaaW.PrintMore
attribute [local go_sem] max2_int min2_int max_two min_two max_three min_three max_four min_four   -- for this text's walks alone
set_option linter.unusedVariables false
set_option linter.unusedSimpArgs false
mutual
def laws_FnExactLeastTree.j0:Nat→Int→List (S81)→List (S79)→Int→Bool→List (S79)→List (S79)→Int→Bool→Bool→Option (Bool)
 | 0,_,_,_,_,_,_,_,_,_,_=>none
 |k+1,x0,x1,x6,x7,x8,x9,x10,x11,x12,x54=>if x54=true then(some false) else((laws_toEdgeS.f k x1).bind fun t812=>((laws_eqEdgeS.f k x9 t812).bind fun t815=>(if t815=true then((laws_markEdgeS.f k x9 1).bind fun bt816=>(if bt816.1< 0 then(laws_FnExactLeastTree.j1 k x0 x1 x6 x7 x8 x10 true) else((laws_eqEdgeS.f k x10 x6).bind fun t818=>(if t818=true then(if x11=x7 then(laws_FnExactLeastTree.j1 k x0 x1 x6 x7 x8 x10 (x12 !=x8)) else(laws_FnExactLeastTree.j1 k x0 x1 x6 x7 x8 x10 true)) else(laws_FnExactLeastTree.j1 k x0 x1 x6 x7 x8 x10 true))))) else(some false))))
def laws_FnExactLeastTree.j1:Nat→Int→List (S81)→List (S79)→Int→Bool→List (S79)→Bool→Option (Bool)
 | 0,_,_,_,_,_,_,_=>none
 |k+1,x0,x1,x6,x7,x8,x10,x80=>if x80=true then(some false) else((laws_markEdgeS.f k x10 1).bind fun bt819=>((laws_heldEdgeS.f k bt819.2 1).bind fun t821=>(if t821< 0 then(some false) else(if t821=bt819.1 then((laws_toEdgeS.f k x1).bind fun t822=>((impl_LeastTree.f k x0 t822).bind fun bt825=>((laws_eqEdgeS.f k bt825.1 x6).bind fun t830=>(if t830=true then(if bt825.2.1=x7 then(laws_FnExactLeastTree.j2 k bt819.2 bt819.1 (bt825.2.2 !=x8)) else(laws_FnExactLeastTree.j2 k bt819.2 bt819.1 true)) else(laws_FnExactLeastTree.j2 k bt819.2 bt819.1 true))))) else(some false)))))
def laws_FnExactLeastTree.j2:Nat→List (S79)→Int→Bool→Option (Bool)
 | 0,_,_,_=>none
 |k+1,x10,x14,x113=>if x113=true then(some false) else((laws_heldEdgeS.f k x10 1).bind fun t831=>(if t831< 0 then(some false) else(if t831=x14 then(some true) else(some false))))
end
def laws_FnExactLeastTree.f (k:Nat) (a0:Int) (l1:List (S81)):Option (Bool):=(laws_szEdgeS.f l1 1048576).bind fun t794=>(if t794< 0 then(some true) else((laws_toEdgeS.f k l1).bind fun t795=>((spec_LeastTree.f k a0 t795).bind fun bt798=>((laws_toEdgeS.f k l1).bind fun t803=>((impl_LeastTree.f k a0 t803).bind fun bt806=>((laws_eqEdgeS.f k bt806.1 bt798.1).bind fun t811=>(if t811=true then(if bt806.2.1=bt798.2.1 then(laws_FnExactLeastTree.j0 k a0 l1 bt798.1 bt798.2.1 bt798.2.2 t803 bt806.1 bt806.2.1 bt806.2.2 (bt806.2.2 !=bt798.2.2)) else(laws_FnExactLeastTree.j0 k a0 l1 bt798.1 bt798.2.1 bt798.2.2 t803 bt806.1 bt806.2.1 bt806.2.2 true)) else(laws_FnExactLeastTree.j0 k a0 l1 bt798.1 bt798.2.1 bt798.2.2 t803 bt806.1 bt806.2.1 bt806.2.2 true))))))))
set_option maxHeartbeats 8000000 in
set_option maxRecDepth 100000 in
theorem laws_FnExactLeastTree.calls (k:Nat) (a0:Int) (A1:Option Addr) (c1:Nat) (l1:List (S81)) (r:Bool) (w:World) (hr1:Kd.C k81 w A1 l1.length l1) (hc1:l1.length≤c1) (h:laws_FnExactLeastTree.f k a0 l1=some r) (hrt:r=true:=by rfl):
  Calls Try.prog 10 #[.int .i64 a0,.slice A1 l1.length c1] w fun e w'=>e= .returned (.bool r)∧Below w.heap.size w w':=by
 have HRT:=Aside0.mk hrt
 clear hrt
 have HR1:=Aside0.mk hr1
 have HC1:=Aside0.mk hc1
 clear hr1 hc1
 have HB:=Aside0.mk (Below.refl w.heap.size w)
 have H:((laws_szEdgeS.f l1 1048576).bind fun t794=>(if t794< 0 then(some true) else((laws_toEdgeS.f k l1).bind fun t795=>((spec_LeastTree.f k a0 t795).bind fun bt798=>((laws_toEdgeS.f k l1).bind fun t803=>((impl_LeastTree.f k a0 t803).bind fun bt806=>((laws_eqEdgeS.f k bt806.1 bt798.1).bind fun t811=>(if t811=true then(if bt806.2.1=bt798.2.1 then(laws_FnExactLeastTree.j0 k a0 l1 bt798.1 bt798.2.1 bt798.2.2 t803 bt806.1 bt806.2.1 bt806.2.2 (bt806.2.2 !=bt798.2.2)) else(laws_FnExactLeastTree.j0 k a0 l1 bt798.1 bt798.2.1 bt798.2.2 t803 bt806.1 bt806.2.1 bt806.2.2 true)) else(laws_FnExactLeastTree.j0 k a0 l1 bt798.1 bt798.2.1 bt798.2.2 t803 bt806.1 bt806.2.1 bt806.2.2 true)))))))))=some r:=h
 clear h
 replace H:=Option.bind_eq_some_iff.mp H
 obtain⟨t794,A30,H⟩:=H
 replace H:(if t794< 0 then(some true) else((laws_toEdgeS.f k l1).bind fun t795=>((spec_LeastTree.f k a0 t795).bind fun bt798=>((laws_toEdgeS.f k l1).bind fun t803=>((impl_LeastTree.f k a0 t803).bind fun bt806=>((laws_eqEdgeS.f k bt806.1 bt798.1).bind fun t811=>(if t811=true then(if bt806.2.1=bt798.2.1 then(laws_FnExactLeastTree.j0 k a0 l1 bt798.1 bt798.2.1 bt798.2.2 t803 bt806.1 bt806.2.1 bt806.2.2 (bt806.2.2 !=bt798.2.2)) else(laws_FnExactLeastTree.j0 k a0 l1 bt798.1 bt798.2.1 bt798.2.2 t803 bt806.1 bt806.2.1 bt806.2.2 true)) else(laws_FnExactLeastTree.j0 k a0 l1 bt798.1 bt798.2.1 bt798.2.2 t803 bt806.1 bt806.2.1 bt806.2.2 true))))))))=some r:=H
 have A3:=Aside0.mk A30
 clear A30
 by_cases c4:t794< 0
 ·rw [if_pos c4] at H
  have c4b0:decide (t794< 0)=true:=decide_eq_true c4
  clear c4
  obtain rfl:=Option.some.inj H
  go_enter Try.func10,Try.ntmps10
  go_wp2_with (first|((with_reducible refine gate_callee (f:=23) rfl ?_);refine goesL_ (some 21) rfl rfl Try.func23 (by kernel_rfl) rfl #[.slice A1 l1.length c1,.int .i64 1048576] rfl zq2 ?_;(with_reducible refine(laws_szEdgeS.calls _ _ l1 1048576 t794 _ ?side1 ?side2 A3.out).mono ?_);(case side1=>exact zcc (HR1.out));(case side2=>exact HC1.out);rintro e w' ⟨rfl,⟨nd,rfl⟩⟩;refine⟨_,rfl,?_⟩))
  go_ret
  exact⟨by first|rfl|(simp [errW_none,errW_some]<;>rfl)|(simp [*,errW_none,errW_some]<;>rfl),by exact zk1 HB⟩
 ·rw [if_neg c4] at H
  have c4b0:decide (t794< 0)=false:=decide_eq_false c4
  clear c4
  replace H:=Option.bind_eq_some_iff.mp H
  obtain⟨t795,A50,H⟩:=H
  replace H:((spec_LeastTree.f k a0 t795).bind fun bt798=>((laws_toEdgeS.f k l1).bind fun t803=>((impl_LeastTree.f k a0 t803).bind fun bt806=>((laws_eqEdgeS.f k bt806.1 bt798.1).bind fun t811=>(if t811=true then(if bt806.2.1=bt798.2.1 then(laws_FnExactLeastTree.j0 k a0 l1 bt798.1 bt798.2.1 bt798.2.2 t803 bt806.1 bt806.2.1 bt806.2.2 (bt806.2.2 !=bt798.2.2)) else(laws_FnExactLeastTree.j0 k a0 l1 bt798.1 bt798.2.1 bt798.2.2 t803 bt806.1 bt806.2.1 bt806.2.2 true)) else(laws_FnExactLeastTree.j0 k a0 l1 bt798.1 bt798.2.1 bt798.2.2 t803 bt806.1 bt806.2.1 bt806.2.2 true))))))=some r:=H
  have A5:=Aside0.mk A50
  clear A50
  replace H:=Option.bind_eq_some_iff.mp H
  obtain⟨⟨t798,t799,t800⟩,A60,H⟩:=H
  replace H:((laws_toEdgeS.f k l1).bind fun t803=>((impl_LeastTree.f k a0 t803).bind fun bt806=>((laws_eqEdgeS.f k bt806.1 t798).bind fun t811=>(if t811=true then(if bt806.2.1=t799 then(laws_FnExactLeastTree.j0 k a0 l1 t798 t799 t800 t803 bt806.1 bt806.2.1 bt806.2.2 (bt806.2.2 !=t800)) else(laws_FnExactLeastTree.j0 k a0 l1 t798 t799 t800 t803 bt806.1 bt806.2.1 bt806.2.2 true)) else(laws_FnExactLeastTree.j0 k a0 l1 t798 t799 t800 t803 bt806.1 bt806.2.1 bt806.2.2 true)))))=some r:=H
  have A6:=Aside0.mk A60
  clear A60
  replace H:=Option.bind_eq_some_iff.mp H
  obtain⟨t803,A70,H⟩:=H
  replace H:((impl_LeastTree.f k a0 t803).bind fun bt806=>((laws_eqEdgeS.f k bt806.1 t798).bind fun t811=>(if t811=true then(if bt806.2.1=t799 then(laws_FnExactLeastTree.j0 k a0 l1 t798 t799 t800 t803 bt806.1 bt806.2.1 bt806.2.2 (bt806.2.2 !=t800)) else(laws_FnExactLeastTree.j0 k a0 l1 t798 t799 t800 t803 bt806.1 bt806.2.1 bt806.2.2 true)) else(laws_FnExactLeastTree.j0 k a0 l1 t798 t799 t800 t803 bt806.1 bt806.2.1 bt806.2.2 true))))=some r:=H
  have A7:=Aside0.mk A70
  clear A70
  replace H:=Option.bind_eq_some_iff.mp H
  obtain⟨⟨t806,t807,t808⟩,A80,H⟩:=H
  replace H:((laws_eqEdgeS.f k t806 t798).bind fun t811=>(if t811=true then(if t807=t799 then(laws_FnExactLeastTree.j0 k a0 l1 t798 t799 t800 t803 t806 t807 t808 (t808 !=t800)) else(laws_FnExactLeastTree.j0 k a0 l1 t798 t799 t800 t803 t806 t807 t808 true)) else(laws_FnExactLeastTree.j0 k a0 l1 t798 t799 t800 t803 t806 t807 t808 true)))=some r:=H
  have A8:=Aside0.mk A80
  clear A80
  have HC9:=Aside0.mk H
  clear H
  go_enter Try.func10,Try.ntmps10
  go_upto_region 8 with (first|((with_reducible refine gate_callee (f:=23) rfl ?_);refine goesL_ (some 21) rfl rfl Try.func23 (by kernel_rfl) rfl #[.slice A1 l1.length c1,.int .i64 1048576] rfl zq2 ?_;(with_reducible refine(laws_szEdgeS.calls _ _ l1 1048576 t794 _ ?side1 ?side2 A3.out).mono ?_);(case side1=>exact zcc (HR1.out));(case side2=>exact HC1.out);rintro e w' ⟨rfl,⟨nd,rfl⟩⟩;refine⟨_,rfl,?_⟩)|((with_reducible refine gate_callee (f:=25) rfl ?_);refine goesL_ (some 27) rfl rfl Try.func25 (by kernel_rfl) rfl #[.slice A1 l1.length c1] rfl zq2 ?_;(with_reducible refine(laws_toEdgeS.calls k _ _ l1 t795 _ ?side1 ?side2 A5.out).mono ?_);(case side1=>exact zcc (HR1.out));(case side2=>exact HC1.out);rintro e w10 ⟨v796,rfl,ho0,hb⟩;refine⟨_,rfl,?_⟩;have HO797:=Aside0.mk (Kd.R_lower ho0 (below_size (by exact zk1 HB)));replace HB:=Aside0.mk (below_step (by exact zk1 HB) hb);(try clear hb);(try clear hb2);(try clear hk);(try clear hi);(try clear ho0);obtain⟨Ao11,co11,eo11⟩:=Kd.R_slice HO797.out;subst eo11)|((with_reducible refine gate_callee (f:=41) rfl ?_);refine goesL_ (some 28) rfl rfl Try.func41 (by kernel_rfl) rfl #[.int .i64 a0,.slice Ao11 t795.length co11] rfl zq2 ?_;(with_reducible refine(spec_LeastTree.calls k a0 _ _ t795 t798 t799 t800 _ ?side1 ?side2 A6.out).mono ?_);(case side1=>exact zcc ((Kd.R_reads' HO797.out).2.2));(case side2=>exact(Kd.R_reads' HO797.out).2.1);rintro e w12 ⟨v801,rfl,ho0,hb⟩;refine⟨_,rfl,?_⟩;have HO802:=Aside0.mk (Kd.R_lower (Kd.R_new' ho0 (Kd.R_lt (zq4 HO797))) (below_size (by exact zk1 HB)));replace HO797:=Aside0.mk (Kd.R_elder' (zq4 HO797) (Kd.R_base ho0) hb);replace HB:=Aside0.mk (below_step (by exact zk1 HB) hb);(try clear hb);(try clear hb2);(try clear hk);(try clear hi);(try clear ho0))|((with_reducible refine gate_callee (f:=25) rfl ?_);refine goesL_ (some 33) rfl rfl Try.func25 (by kernel_rfl) rfl #[.slice A1 l1.length c1] rfl zq2 ?_;(with_reducible refine(laws_toEdgeS.calls k _ _ l1 t803 _ ?side1 ?side2 A7.out).mono ?_);(case side1=>exact zcc ((Kd.C_below HR1.out HB.out)));(case side2=>exact HC1.out);rintro e w13 ⟨v804,rfl,ho0,hb⟩;refine⟨_,rfl,?_⟩;have HO805:=Aside0.mk (Kd.R_lower (Kd.R_new' (Kd.R_new' ho0 (Kd.R_lt (zq4 HO797))) (Kd.R_lt (zq4 HO802))) (below_size (by exact zk1 HB)));replace HO797:=Aside0.mk (Kd.R_elder' (zq4 HO797) (Kd.R_base ho0) hb);replace HO802:=Aside0.mk (Kd.R_elder' (zq4 HO802) (Kd.R_base ho0) hb);replace HB:=Aside0.mk (below_step (by exact zk1 HB) hb);(try clear hb);(try clear hb2);(try clear hk);(try clear hi);(try clear ho0);obtain⟨Ao14,co14,eo14⟩:=Kd.R_slice HO805.out;subst eo14)|((with_reducible refine gate_callee (f:=42) rfl ?_);refine goesL_ (some 37) rfl rfl Try.func42 (by kernel_rfl) rfl #[.int .i64 a0,.slice Ao14 t803.length co14] rfl zq2 ?_;(with_reducible refine(impl_LeastTree.calls k a0 _ _ t803 t806 t807 t808 _ ?side1 ?side2 A8.out).mono ?_);(case side1=>exact zcc ((Kd.R_reads' HO805.out).2.2));(case side2=>exact(Kd.R_reads' HO805.out).2.1);rintro e w15 ⟨v809,rfl,ho0,hb⟩;refine⟨_,rfl,?_⟩;have HO810:=Aside0.mk (Kd.R_lower (Kd.R_new' (Kd.R_new' (Kd.R_new' ho0 (Kd.R_lt (zq4 HO797))) (Kd.R_lt (zq4 HO802))) (Kd.R_lt (zq4 HO805))) (below_size (by exact zk1 HB)));replace HO797:=Aside0.mk (Kd.R_elder' (zq4 HO797) (Kd.R_base ho0) hb);replace HO802:=Aside0.mk (Kd.R_elder' (zq4 HO802) (Kd.R_base ho0) hb);replace HO805:=Aside0.mk (Kd.R_elder' (zq4 HO805) (Kd.R_base ho0) hb);replace HB:=Aside0.mk (below_step (by exact zk1 HB) hb);(try clear hb);(try clear hb2);(try clear hk);(try clear hi);(try clear ho0)))
  (try simp only [Act.put,List.setIfInBounds_toArray,List.set_cons_zero,List.set_cons_succ])
  go_cut [54] (fun v54 wc=> ∃ (kq:Nat) (x54_8:Bool),v54= .bool x54_8∧Aside0 (laws_FnExactLeastTree.j0 kq a0 l1 t798 t799 t800 t803 t806 t807 t808 x54_8=some r)∧Aside0 (kq≤k)∧Aside0 (Kd.R k79 79 wc w.heap.size (fun k_=>some k_≠ ((.slice Ao14 t803.length co14):Value).ownBlock∧some k_≠ (v809:Value).ownBlock) v801 t798)∧Aside0 (Kd.R k79 79 wc w.heap.size (fun k_=>some k_≠ (v801:Value).ownBlock∧some k_≠ (v809:Value).ownBlock) (.slice Ao14 t803.length co14) t803)∧Aside0 (Kd.R k79 79 wc w.heap.size (fun k_=>some k_≠ (v801:Value).ownBlock∧some k_≠ ((.slice Ao14 t803.length co14):Value).ownBlock) v809 t806)∧Aside0 (Below w.heap.size w wc))
  case first=>
   have H:=HC9.out
   clear HC9
   replace H:=Option.bind_eq_some_iff.mp H
   obtain⟨t811,A160,H⟩:=H
   replace H:(if t811=true then(if t807=t799 then(laws_FnExactLeastTree.j0 k a0 l1 t798 t799 t800 t803 t806 t807 t808 (t808 !=t800)) else(laws_FnExactLeastTree.j0 k a0 l1 t798 t799 t800 t803 t806 t807 t808 true)) else(laws_FnExactLeastTree.j0 k a0 l1 t798 t799 t800 t803 t806 t807 t808 true))=some r:=H
   have A16:=Aside0.mk A160
   clear A160
   by_cases c17:t811=true
   ·subst c17
    have H1:(if t807=t799 then(laws_FnExactLeastTree.j0 k a0 l1 t798 t799 t800 t803 t806 t807 t808 (t808 !=t800)) else(laws_FnExactLeastTree.j0 k a0 l1 t798 t799 t800 t803 t806 t807 t808 true))=some r:=by rw [if_pos rfl] at H;exact H
    clear H
    have H:=H1
    clear H1
    by_cases c18:t807=t799
    ·rw [if_pos c18] at H
     have c18b0:(t807==t799)=true:=beq_iff_eq.mpr c18
     have c18b1:(t807 !=t799)=false:=bne_eq_false_iff_eq.mpr c18
     clear c18
     (first|rw [c18b0]|(simp only [i64_w,i32_w];rw [c18b0])|skip)
     have H':=Aside0.mk H
     clear H
     obtain⟨Ao19,co19,eo19⟩:=Kd.R_slice HO810.out
     subst eo19
     obtain⟨Ao20,co20,eo20⟩:=Kd.R_slice HO802.out
     subst eo20
     go_wp2_with (first|((with_reducible refine gate_callee (f:=27) rfl ?_);refine goesL_ (some 43) rfl rfl Try.func27 (by kernel_rfl) rfl #[.slice Ao19 t806.length co19,.slice Ao20 t798.length co20] rfl zq2 ?_;(with_reducible refine(laws_eqEdgeS.calls k _ _ t806 _ _ t798 true _ ?side1 ?side2 ?side3 ?side4 A16.out).mono ?_);(case side1=>exact zcc ((Kd.R_reads' HO810.out).2.2));(case side2=>exact(Kd.R_reads' HO810.out).2.1);(case side3=>exact zcc ((Kd.R_reads' HO802.out).2.2));(case side4=>exact(Kd.R_reads' HO802.out).2.1);rintro e w21 ⟨rfl,hb⟩;refine⟨_,rfl,?_⟩;replace HO797:=Aside0.mk (Kd.R_below (zq4 HO797) hb);replace HO802:=Aside0.mk (Kd.R_below (zq4 HO802) hb);replace HO805:=Aside0.mk (Kd.R_below (zq4 HO805) hb);replace HO810:=Aside0.mk (Kd.R_below (zq4 HO810) hb);replace HB:=Aside0.mk (below_step (by exact zk1 HB) hb);(try clear hb);(try clear hb2);(try clear hk);(try clear hi)))
     go_meet
     case rel=>exact⟨_,((t808 !=t800)),(by first|rfl|(simp;done)|(simp [*];done)),H',⟨by first|omega|exact Nat.le_refl _⟩,⟨by(with_reducible repeat(first|apply Kd.R_alloc|apply Kd.R_drewN|apply Kd.R_drew));exact Kd.R_mono HO802.out (fun _ hk=>⟨hk.1.2,hk.2⟩)⟩,⟨by(with_reducible repeat(first|apply Kd.R_alloc|apply Kd.R_drewN|apply Kd.R_drew));exact Kd.R_mono HO805.out (fun _ hk=>⟨hk.1.2,hk.2⟩)⟩,⟨by(with_reducible repeat(first|apply Kd.R_alloc|apply Kd.R_drewN|apply Kd.R_drew));exact Kd.R_mono HO810.out (fun _ hk=>⟨hk.1.2,hk.2⟩)⟩,⟨by exact zk1 HB⟩⟩
    ·rw [if_neg c18] at H
     have c18b0:(t807==t799)=false:=beq_eq_false_iff_ne.mpr c18
     have c18b1:(t807 !=t799)=true:=bne_iff_ne.mpr c18
     (first|rw [c18b0]|(simp only [i64_w,i32_w];rw [c18b0])|skip)
     exact absurd (H.trans (congrArg some HRT.out)) (by cases k<;>simp [laws_FnExactLeastTree.j0])
   ·replace c17:=Bool.eq_false_iff.mpr c17
    subst c17
    have H1:(laws_FnExactLeastTree.j0 k a0 l1 t798 t799 t800 t803 t806 t807 t808 true)=some r:=by rw [if_neg (show ¬ (false=true) by decide)] at H;exact H
    clear H
    have H:=H1
    clear H1
    exact absurd (H.trans (congrArg some HRT.out)) (by cases k<;>simp [laws_FnExactLeastTree.j0])
  case rest=>
   clear HC9
   try clear c1
   try clear c2
   try clear p2
   try clear c4
   try clear c4b0
   try clear c10
   try clear c17
   try clear c18
   try clear c18b0
   try clear c18b1
   obtain⟨kq,x54_8,rfl,HA,HJ8,HO_6,HO_9,HO_10,HB⟩:=hcut
   cases kq with
   |zero=>exact absurd HA.out (by simp [laws_FnExactLeastTree.j0])
   |succ kj8=>
    have H:=HA.out
    clear HA
    simp only [laws_FnExactLeastTree.j0] at H
    by_cases c22:x54_8=true
    ·subst c22
     have H1:(some false)=some r:=by rw [if_pos rfl] at H;exact H
     clear H
     have H:=H1
     clear H1
     exact absurd ((Option.some.inj H).trans HRT.out) (by decide)
    ·replace c22:=Bool.eq_false_iff.mpr c22
     subst c22
     have H1:((laws_toEdgeS.f kj8 l1).bind fun t812=>((laws_eqEdgeS.f kj8 t803 t812).bind fun t815=>(if t815=true then((laws_markEdgeS.f kj8 t803 1).bind fun bt816=>(if bt816.1< 0 then(laws_FnExactLeastTree.j1 kj8 a0 l1 t798 t799 t800 t806 true) else((laws_eqEdgeS.f kj8 t806 t798).bind fun t818=>(if t818=true then(if t807=t799 then(laws_FnExactLeastTree.j1 kj8 a0 l1 t798 t799 t800 t806 (t808 !=t800)) else(laws_FnExactLeastTree.j1 kj8 a0 l1 t798 t799 t800 t806 true)) else(laws_FnExactLeastTree.j1 kj8 a0 l1 t798 t799 t800 t806 true))))) else(some false))))=some r:=by rw [if_neg (show ¬ (false=true) by decide)] at H;exact H
     clear H
     have H:=H1
     clear H1
     replace H:=Option.bind_eq_some_iff.mp H
     obtain⟨t812,A230,H⟩:=H
     replace H:((laws_eqEdgeS.f kj8 t803 t812).bind fun t815=>(if t815=true then((laws_markEdgeS.f kj8 t803 1).bind fun bt816=>(if bt816.1< 0 then(laws_FnExactLeastTree.j1 kj8 a0 l1 t798 t799 t800 t806 true) else((laws_eqEdgeS.f kj8 t806 t798).bind fun t818=>(if t818=true then(if t807=t799 then(laws_FnExactLeastTree.j1 kj8 a0 l1 t798 t799 t800 t806 (t808 !=t800)) else(laws_FnExactLeastTree.j1 kj8 a0 l1 t798 t799 t800 t806 true)) else(laws_FnExactLeastTree.j1 kj8 a0 l1 t798 t799 t800 t806 true))))) else(some false)))=some r:=H
     have A23:=Aside0.mk A230
     clear A230
     replace H:=Option.bind_eq_some_iff.mp H
     obtain⟨t815,A240,H⟩:=H
     replace H:(if t815=true then((laws_markEdgeS.f kj8 t803 1).bind fun bt816=>(if bt816.1< 0 then(laws_FnExactLeastTree.j1 kj8 a0 l1 t798 t799 t800 t806 true) else((laws_eqEdgeS.f kj8 t806 t798).bind fun t818=>(if t818=true then(if t807=t799 then(laws_FnExactLeastTree.j1 kj8 a0 l1 t798 t799 t800 t806 (t808 !=t800)) else(laws_FnExactLeastTree.j1 kj8 a0 l1 t798 t799 t800 t806 true)) else(laws_FnExactLeastTree.j1 kj8 a0 l1 t798 t799 t800 t806 true))))) else(some false))=some r:=H
     have A24:=Aside0.mk A240
     clear A240
     by_cases c25:t815=true
     ·subst c25
      have H1:((laws_markEdgeS.f kj8 t803 1).bind fun bt816=>(if bt816.1< 0 then(laws_FnExactLeastTree.j1 kj8 a0 l1 t798 t799 t800 t806 true) else((laws_eqEdgeS.f kj8 t806 t798).bind fun t818=>(if t818=true then(if t807=t799 then(laws_FnExactLeastTree.j1 kj8 a0 l1 t798 t799 t800 t806 (t808 !=t800)) else(laws_FnExactLeastTree.j1 kj8 a0 l1 t798 t799 t800 t806 true)) else(laws_FnExactLeastTree.j1 kj8 a0 l1 t798 t799 t800 t806 true)))))=some r:=by rw [if_pos rfl] at H;exact H
      clear H
      have H:=H1
      clear H1
      replace H:=Option.bind_eq_some_iff.mp H
      obtain⟨⟨t816,t817⟩,A260,H⟩:=H
      replace H:(if t816< 0 then(laws_FnExactLeastTree.j1 kj8 a0 l1 t798 t799 t800 t806 true) else((laws_eqEdgeS.f kj8 t806 t798).bind fun t818=>(if t818=true then(if t807=t799 then(laws_FnExactLeastTree.j1 kj8 a0 l1 t798 t799 t800 t806 (t808 !=t800)) else(laws_FnExactLeastTree.j1 kj8 a0 l1 t798 t799 t800 t806 true)) else(laws_FnExactLeastTree.j1 kj8 a0 l1 t798 t799 t800 t806 true))))=some r:=H
      have A26:=Aside0.mk A260
      clear A260
      have HC27:=Aside0.mk H
      clear H
      go_upto_region 14 with (first|((with_reducible refine gate_callee (f:=25) rfl ?_);refine goesL_ (some 57) rfl rfl Try.func25 (by kernel_rfl) rfl #[.slice A1 l1.length c1] rfl zq2 ?_;(with_reducible refine(laws_toEdgeS.calls kj8 _ _ l1 t812 _ ?side1 ?side2 A23.out).mono ?_);(case side1=>exact zcc ((Kd.C_below HR1.out HB.out)));(case side2=>exact HC1.out);rintro e w28 ⟨v813,rfl,ho0,hb⟩;refine⟨_,rfl,?_⟩;have HO814:=Aside0.mk (Kd.R_lower (Kd.R_new' (Kd.R_new' (Kd.R_new' ho0 (Kd.R_lt (zq4 HO_6))) (Kd.R_lt (zq4 HO_9))) (Kd.R_lt (zq4 HO_10))) (below_size (by exact zk1 HB)));replace HO_6:=Aside0.mk (Kd.R_elder' (zq4 HO_6) (Kd.R_base ho0) hb);replace HO_9:=Aside0.mk (Kd.R_elder' (zq4 HO_9) (Kd.R_base ho0) hb);replace HO_10:=Aside0.mk (Kd.R_elder' (zq4 HO_10) (Kd.R_base ho0) hb);replace HB:=Aside0.mk (below_step (by exact zk1 HB) hb);(try clear hb);(try clear hb2);(try clear hk);(try clear hi);(try clear ho0);obtain⟨Ao29,co29,eo29⟩:=Kd.R_slice HO814.out;subst eo29)|((with_reducible refine gate_callee (f:=27) rfl ?_);refine goesL_ (some 58) rfl rfl Try.func27 (by kernel_rfl) rfl #[.slice Ao14 t803.length co14,.slice Ao29 t812.length co29] rfl zq2 ?_;(with_reducible refine(laws_eqEdgeS.calls kj8 _ _ t803 _ _ t812 true _ ?side1 ?side2 ?side3 ?side4 A24.out).mono ?_);(case side1=>exact zcc ((Kd.R_reads' HO_9.out).2.2));(case side2=>exact(Kd.R_reads' HO_9.out).2.1);(case side3=>exact zcc ((Kd.R_reads' HO814.out).2.2));(case side4=>exact(Kd.R_reads' HO814.out).2.1);rintro e w30 ⟨rfl,hb⟩;refine⟨_,rfl,?_⟩;replace HO_6:=Aside0.mk (Kd.R_below (zq4 HO_6) hb);replace HO_9:=Aside0.mk (Kd.R_below (zq4 HO_9) hb);replace HO_10:=Aside0.mk (Kd.R_below (zq4 HO_10) hb);replace HO814:=Aside0.mk (Kd.R_below (zq4 HO814) hb);replace HB:=Aside0.mk (below_step (by exact zk1 HB) hb);(try clear hb);(try clear hb2);(try clear hk);(try clear hi))|((with_reducible refine gate_callee (f:=35) rfl ?_);refine goesL_ (some 62) rfl rfl Try.func35 (by kernel_rfl) rfl #[.slice Ao14 t803.length co14,.int .i64 1] rfl zq2 ?_;(with_reducible refine(laws_markEdgeS.calls kj8 (fun k_=>some k_= (.slice Ao14 t803.length co14:Value).ownBlock) (.slice Ao14 t803.length co14) t803 1 t816 t817 w _ ?side1 ?side2 A26.out).mono ?_);(case side1=>exact zk1 HB);(case side2=>exact Kd.R_tight rfl HO_9.out);rintro e w31 ⟨rfl,hy0,hb,hkp⟩;refine⟨_,rfl,?_⟩;replace HO_6:=Aside0.mk (Kd.R_mono (ok':=fun k_=>some k_≠ (.slice Ao14 t803.length co14:Value).ownBlock∧some k_≠ (v809:Value).ownBlock∧some k_≠ (.slice Ao29 t812.length co29:Value).ownBlock) (Kd.R_keptB (HO_6.out) hkp (fun k_ hk_ hs_=>(hk_.1.1) hs_)) (fun k_ hk_=>⟨hk_.1.1.1,hk_.1.1.2,hk_.1.2⟩));replace HO_9:=Aside0.mk (Kd.R_reok rfl hy0 (fun k_ e_=>HO_9.out.1 k_ e_));replace HO_10:=Aside0.mk (Kd.R_mono (ok':=fun k_=>some k_≠ (v801:Value).ownBlock∧some k_≠ (.slice Ao14 t803.length co14:Value).ownBlock∧some k_≠ (.slice Ao29 t812.length co29:Value).ownBlock) (Kd.R_keptB (HO_10.out) hkp (fun k_ hk_ hs_=>(hk_.1.2) hs_)) (fun k_ hk_=>⟨hk_.1.1.1,hk_.1.1.2,hk_.1.2⟩));replace HO814:=Aside0.mk (Kd.R_mono (ok':=fun k_=>some k_≠ (v801:Value).ownBlock∧some k_≠ (.slice Ao14 t803.length co14:Value).ownBlock∧some k_≠ (v809:Value).ownBlock) (Kd.R_keptB (HO814.out) hkp (fun k_ hk_ hs_=>(hk_.1.2) hs_)) (fun k_ hk_=>⟨hk_.1.1.1.2,hk_.1.1.2,hk_.1.2⟩));replace HB:=Aside0.mk (hb);(try clear hb);(try clear hkp);(try clear hy0)))
      (try simp only [Act.put,List.setIfInBounds_toArray,List.set_cons_zero,List.set_cons_succ])
      go_cut [80] (fun v80 wc=> ∃ (kq:Nat) (x80_26:Bool),v80= .bool x80_26∧Aside0 (laws_FnExactLeastTree.j1 kq a0 l1 t798 t799 t800 t806 x80_26=some r)∧Aside0 (kq≤kj8)∧Aside0 (Kd.R k79 79 wc w.heap.size (fun k_=>some k_≠ (v809:Value).ownBlock) v801 t798)∧Aside0 (Kd.R k79 79 wc w.heap.size (fun k_=>some k_≠ (v801:Value).ownBlock) v809 t806)∧Aside0 (Below w.heap.size w wc))
      case first=>
       have H:=HC27.out
       clear HC27
       by_cases c32:t816< 0
       ·rw [if_pos c32] at H
        have c32b0:decide (t816< 0)=true:=decide_eq_true c32
        clear c32
        (first|rw [c32b0]|(simp only [i64_w,i32_w];rw [c32b0])|skip)
        exact absurd (H.trans (congrArg some HRT.out)) (by cases kj8<;>simp [laws_FnExactLeastTree.j1])
       ·rw [if_neg c32] at H
        have c32b0:decide (t816< 0)=false:=decide_eq_false c32
        clear c32
        (first|rw [c32b0]|(simp only [i64_w,i32_w];rw [c32b0])|skip)
        replace H:=Option.bind_eq_some_iff.mp H
        obtain⟨t818,A330,H⟩:=H
        replace H:(if t818=true then(if t807=t799 then(laws_FnExactLeastTree.j1 kj8 a0 l1 t798 t799 t800 t806 (t808 !=t800)) else(laws_FnExactLeastTree.j1 kj8 a0 l1 t798 t799 t800 t806 true)) else(laws_FnExactLeastTree.j1 kj8 a0 l1 t798 t799 t800 t806 true))=some r:=H
        have A33:=Aside0.mk A330
        clear A330
        by_cases c34:t818=true
        ·subst c34
         have H1:(if t807=t799 then(laws_FnExactLeastTree.j1 kj8 a0 l1 t798 t799 t800 t806 (t808 !=t800)) else(laws_FnExactLeastTree.j1 kj8 a0 l1 t798 t799 t800 t806 true))=some r:=by rw [if_pos rfl] at H;exact H
         clear H
         have H:=H1
         clear H1
         by_cases c35:t807=t799
         ·rw [if_pos c35] at H
          have c35b0:(t807==t799)=true:=beq_iff_eq.mpr c35
          have c35b1:(t807 !=t799)=false:=bne_eq_false_iff_eq.mpr c35
          clear c35
          have H':=Aside0.mk H
          clear H
          obtain⟨Ao36,co36,eo36⟩:=Kd.R_slice HO_10.out
          subst eo36
          obtain⟨Ao37,co37,eo37⟩:=Kd.R_slice HO_6.out
          subst eo37
          go_wp2_with (first|(go_at_call 27;(with_reducible refine(laws_eqEdgeS.calls kj8 _ _ t806 _ _ t798 true _ ?side1 ?side2 ?side3 ?side4 A33.out).mono ?_);(case side1=>exact zcc ((Kd.R_reads' HO_10.out).2.2));(case side2=>exact(Kd.R_reads' HO_10.out).2.1);(case side3=>exact zcc ((Kd.R_reads' HO_6.out).2.2));(case side4=>exact(Kd.R_reads' HO_6.out).2.1);rintro e w38 ⟨rfl,hb⟩;replace HO_6:=Aside0.mk (Kd.R_below (zq4 HO_6) hb);replace HO_9:=Aside0.mk (Kd.R_below (zq4 HO_9) hb);replace HO_10:=Aside0.mk (Kd.R_below (zq4 HO_10) hb);replace HO814:=Aside0.mk (Kd.R_below (zq4 HO814) hb);replace HB:=Aside0.mk (below_step (by exact zk1 HB) hb);(try clear hb);(try clear hb2);(try clear hk);(try clear hi)))
          go_meet
          case rel=>exact⟨_,((t808 !=t800)),(by first|rfl|(simp;done)|(simp [*];done)),H',⟨by have:=HJ8.out;first|omega|exact Nat.le_refl _⟩,⟨by(with_reducible repeat(first|apply Kd.R_alloc|apply Kd.R_drewN|apply Kd.R_drew));exact Kd.R_mono HO_6.out (fun _ hk=>hk.2.1)⟩,⟨by(with_reducible repeat(first|apply Kd.R_alloc|apply Kd.R_drewN|apply Kd.R_drew));exact Kd.R_mono HO_10.out (fun _ hk=>hk.1)⟩,⟨by exact zk1 HB⟩⟩
         ·rw [if_neg c35] at H
          have c35b0:(t807==t799)=false:=beq_eq_false_iff_ne.mpr c35
          have c35b1:(t807 !=t799)=true:=bne_iff_ne.mpr c35
          exact absurd (H.trans (congrArg some HRT.out)) (by cases kj8<;>simp [laws_FnExactLeastTree.j1])
        ·replace c34:=Bool.eq_false_iff.mpr c34
         subst c34
         have H1:(laws_FnExactLeastTree.j1 kj8 a0 l1 t798 t799 t800 t806 true)=some r:=by rw [if_neg (show ¬ (false=true) by decide)] at H;exact H
         clear H
         have H:=H1
         clear H1
         exact absurd (H.trans (congrArg some HRT.out)) (by cases kj8<;>simp [laws_FnExactLeastTree.j1])
      case rest=>
       clear HC27
       try clear c1
       try clear c2
       try clear p2
       try clear c3
       try clear c4
       try clear c4b0
       try clear c10
       try clear c17
       try clear c18
       try clear c18b0
       try clear c18b1
       try clear c22
       try clear c23
       try clear c25
       try clear c27
       try clear c32
       try clear c32b0
       try clear c34
       try clear c35
       try clear c35b0
       try clear c35b1
       try clear p2
       obtain⟨kq,x80_26,rfl,HA,HJ26,HO_6,HO_10,HB⟩:=hcut
       cases kq with
       |zero=>exact absurd HA.out (by simp [laws_FnExactLeastTree.j1])
       |succ kj26=>
        have H:=HA.out
        clear HA
        simp only [laws_FnExactLeastTree.j1] at H
        by_cases c39:x80_26=true
        ·subst c39
         have H1:(some false)=some r:=by rw [if_pos rfl] at H;exact H
         clear H
         have H:=H1
         clear H1
         exact absurd ((Option.some.inj H).trans HRT.out) (by decide)
        ·replace c39:=Bool.eq_false_iff.mpr c39
         subst c39
         have H1:((laws_markEdgeS.f kj26 t806 1).bind fun bt819=>((laws_heldEdgeS.f kj26 bt819.2 1).bind fun t821=>(if t821< 0 then(some false) else(if t821=bt819.1 then((laws_toEdgeS.f kj26 l1).bind fun t822=>((impl_LeastTree.f kj26 a0 t822).bind fun bt825=>((laws_eqEdgeS.f kj26 bt825.1 t798).bind fun t830=>(if t830=true then(if bt825.2.1=t799 then(laws_FnExactLeastTree.j2 kj26 bt819.2 bt819.1 (bt825.2.2 !=t800)) else(laws_FnExactLeastTree.j2 kj26 bt819.2 bt819.1 true)) else(laws_FnExactLeastTree.j2 kj26 bt819.2 bt819.1 true))))) else(some false)))))=some r:=by rw [if_neg (show ¬ (false=true) by decide)] at H;exact H
         clear H
         have H:=H1
         clear H1
         replace H:=Option.bind_eq_some_iff.mp H
         obtain⟨⟨t819,t820⟩,A400,H⟩:=H
         replace H:((laws_heldEdgeS.f kj26 t820 1).bind fun t821=>(if t821< 0 then(some false) else(if t821=t819 then((laws_toEdgeS.f kj26 l1).bind fun t822=>((impl_LeastTree.f kj26 a0 t822).bind fun bt825=>((laws_eqEdgeS.f kj26 bt825.1 t798).bind fun t830=>(if t830=true then(if bt825.2.1=t799 then(laws_FnExactLeastTree.j2 kj26 t820 t819 (bt825.2.2 !=t800)) else(laws_FnExactLeastTree.j2 kj26 t820 t819 true)) else(laws_FnExactLeastTree.j2 kj26 t820 t819 true))))) else(some false))))=some r:=H
         have A40:=Aside0.mk A400
         clear A400
         replace H:=Option.bind_eq_some_iff.mp H
         obtain⟨t821,A410,H⟩:=H
         replace H:(if t821< 0 then(some false) else(if t821=t819 then((laws_toEdgeS.f kj26 l1).bind fun t822=>((impl_LeastTree.f kj26 a0 t822).bind fun bt825=>((laws_eqEdgeS.f kj26 bt825.1 t798).bind fun t830=>(if t830=true then(if bt825.2.1=t799 then(laws_FnExactLeastTree.j2 kj26 t820 t819 (bt825.2.2 !=t800)) else(laws_FnExactLeastTree.j2 kj26 t820 t819 true)) else(laws_FnExactLeastTree.j2 kj26 t820 t819 true))))) else(some false)))=some r:=H
         have A41:=Aside0.mk A410
         clear A410
         by_cases c42:t821< 0
         ·rw [if_pos c42] at H
          have c42b0:decide (t821< 0)=true:=decide_eq_true c42
          clear c42
          exact absurd ((Option.some.inj H).trans HRT.out) (by decide)
         ·rw [if_neg c42] at H
          have c42b0:decide (t821< 0)=false:=decide_eq_false c42
          clear c42
          by_cases c43:t821=t819
          ·rw [if_pos c43] at H
           have c43b0:(t821==t819)=true:=beq_iff_eq.mpr c43
           have c43b1:(t821 !=t819)=false:=bne_eq_false_iff_eq.mpr c43
           clear c43
           replace H:=Option.bind_eq_some_iff.mp H
           obtain⟨t822,A440,H⟩:=H
           replace H:((impl_LeastTree.f kj26 a0 t822).bind fun bt825=>((laws_eqEdgeS.f kj26 bt825.1 t798).bind fun t830=>(if t830=true then(if bt825.2.1=t799 then(laws_FnExactLeastTree.j2 kj26 t820 t819 (bt825.2.2 !=t800)) else(laws_FnExactLeastTree.j2 kj26 t820 t819 true)) else(laws_FnExactLeastTree.j2 kj26 t820 t819 true))))=some r:=H
           have A44:=Aside0.mk A440
           clear A440
           replace H:=Option.bind_eq_some_iff.mp H
           obtain⟨⟨t825,t826,t827⟩,A450,H⟩:=H
           replace H:((laws_eqEdgeS.f kj26 t825 t798).bind fun t830=>(if t830=true then(if t826=t799 then(laws_FnExactLeastTree.j2 kj26 t820 t819 (t827 !=t800)) else(laws_FnExactLeastTree.j2 kj26 t820 t819 true)) else(laws_FnExactLeastTree.j2 kj26 t820 t819 true)))=some r:=H
           have A45:=Aside0.mk A450
           clear A450
           have HC46:=Aside0.mk H
           clear H
           obtain⟨Ao47,co47,eo47⟩:=Kd.R_slice HO_10.out
           subst eo47
           go_upto_region 25 with (first|((with_reducible refine gate_callee (f:=35) rfl ?_);refine goesL_ (some 83) rfl rfl Try.func35 (by kernel_rfl) rfl #[.slice Ao47 t806.length co47,.int .i64 1] rfl zq2 ?_;(with_reducible refine(laws_markEdgeS.calls kj26 (fun k_=>some k_= (.slice Ao47 t806.length co47:Value).ownBlock) (.slice Ao47 t806.length co47) t806 1 t819 t820 w _ ?side1 ?side2 A40.out).mono ?_);(case side1=>exact zk1 HB);(case side2=>exact Kd.R_tight rfl HO_10.out);rintro e w48 ⟨rfl,hy0,hb,hkp⟩;refine⟨_,rfl,?_⟩;replace HO_6:=Aside0.mk (Kd.R_mono (ok':=fun k_=>some k_≠ (.slice Ao47 t806.length co47:Value).ownBlock) (Kd.R_keptB (HO_6.out) hkp (fun k_ hk_ hs_=>(hk_) hs_)) (fun k_ hk_=>hk_.1));replace HO_10:=Aside0.mk (Kd.R_reok rfl hy0 (fun k_ e_=>HO_10.out.1 k_ e_));replace HB:=Aside0.mk (hb);(try clear hb);(try clear hkp);(try clear hy0))|((with_reducible refine gate_callee (f:=43) rfl ?_);refine goesL_ (some 86) rfl rfl Try.func43 (by kernel_rfl) rfl #[.slice Ao47 t820.length co47,.int .i64 1] rfl (by(try simp only [List.map_toArray,List.map_cons,List.map_nil]);first|done|(rw [show t820.length=t806.length from (Kd.R_reads' HO_10.out).1.symm]<;>rfl)|rfl|(simp only [List.length_drop,List.length_take];rfl)) ?_;(with_reducible refine(laws_heldEdgeS.calls kj26 _ _ t820 1 t821 _ ?side1 ?side2 A41.out).mono ?_);(case side1=>exact zcc ((Kd.R_reads' HO_10.out).2.2));(case side2=>rw [show t820.length=t806.length from (Kd.R_reads' HO_10.out).1.symm];exact(Kd.R_reads' HO_10.out).2.1);rintro e w' ⟨rfl,⟨nd,rfl⟩⟩;refine⟨_,rfl,?_⟩)|((with_reducible refine gate_callee (f:=25) rfl ?_);refine goesL_ (some 95) rfl rfl Try.func25 (by kernel_rfl) rfl #[.slice A1 l1.length c1] rfl zq2 ?_;(with_reducible refine(laws_toEdgeS.calls kj26 _ _ l1 t822 _ ?side1 ?side2 A44.out).mono ?_);(case side1=>repeat(first|exact(Kd.C_below HR1.out (by exact zk1 HB))|(with_reducible refine Kd.C_alloc ?_ _)|(with_reducible refine Kd.C_drewN ?_ _)|(with_reducible refine Kd.C_drew ?_)));(case side2=>exact HC1.out);rintro e w49 ⟨v823,rfl,ho0,hb⟩;refine⟨_,rfl,?_⟩;have HO824:=Aside0.mk (Kd.R_lower (Kd.R_new' (Kd.R_new' ho0 (Kd.R_lt (zq4 HO_6))) (Kd.R_lt (zq4 HO_10))) (below_size (by exact zk1 HB)));replace HO_6:=Aside0.mk (Kd.R_elder' (zq4 HO_6) (Kd.R_base ho0) hb);replace HO_10:=Aside0.mk (Kd.R_elder' (zq4 HO_10) (Kd.R_base ho0) hb);replace HB:=Aside0.mk (below_step (by exact zk1 HB) hb);(try clear hb);(try clear hb2);(try clear hk);(try clear hi);(try clear ho0);obtain⟨Ao50,co50,eo50⟩:=Kd.R_slice HO824.out;subst eo50)|((with_reducible refine gate_callee (f:=42) rfl ?_);refine goesL_ (some 96) rfl rfl Try.func42 (by kernel_rfl) rfl #[.int .i64 a0,.slice Ao50 t822.length co50] rfl zq2 ?_;(with_reducible refine(impl_LeastTree.calls kj26 a0 _ _ t822 t825 t826 t827 _ ?side1 ?side2 A45.out).mono ?_);(case side1=>exact zcc ((Kd.R_reads' HO824.out).2.2));(case side2=>exact(Kd.R_reads' HO824.out).2.1);rintro e w51 ⟨v828,rfl,ho0,hb⟩;refine⟨_,rfl,?_⟩;have HO829:=Aside0.mk (Kd.R_lower (Kd.R_new' (Kd.R_new' (Kd.R_new' ho0 (Kd.R_lt (zq4 HO_6))) (Kd.R_lt (zq4 HO_10))) (Kd.R_lt (zq4 HO824))) (below_size (by exact zk1 HB)));replace HO_6:=Aside0.mk (Kd.R_elder' (zq4 HO_6) (Kd.R_base ho0) hb);replace HO_10:=Aside0.mk (Kd.R_elder' (zq4 HO_10) (Kd.R_base ho0) hb);replace HO824:=Aside0.mk (Kd.R_elder' (zq4 HO824) (Kd.R_base ho0) hb);replace HB:=Aside0.mk (below_step (by exact zk1 HB) hb);(try clear hb);(try clear hb2);(try clear hk);(try clear hi);(try clear ho0)))
           (try simp only [Act.put,List.setIfInBounds_toArray,List.set_cons_zero,List.set_cons_succ])
           go_cut [113] (fun v113 wc=> ∃ (kq:Nat) (x113_45:Bool),v113= .bool x113_45∧Aside0 (laws_FnExactLeastTree.j2 kq t820 t819 x113_45=some r)∧Aside0 (kq≤kj26)∧Aside0 (Kd.R k79 79 wc w.heap.size (fun _=>True) (.slice Ao47 t806.length co47) t820)∧Aside0 (Below w.heap.size w wc))
           case first=>
            have H:=HC46.out
            clear HC46
            replace H:=Option.bind_eq_some_iff.mp H
            obtain⟨t830,A520,H⟩:=H
            replace H:(if t830=true then(if t826=t799 then(laws_FnExactLeastTree.j2 kj26 t820 t819 (t827 !=t800)) else(laws_FnExactLeastTree.j2 kj26 t820 t819 true)) else(laws_FnExactLeastTree.j2 kj26 t820 t819 true))=some r:=H
            have A52:=Aside0.mk A520
            clear A520
            by_cases c53:t830=true
            ·subst c53
             have H1:(if t826=t799 then(laws_FnExactLeastTree.j2 kj26 t820 t819 (t827 !=t800)) else(laws_FnExactLeastTree.j2 kj26 t820 t819 true))=some r:=by rw [if_pos rfl] at H;exact H
             clear H
             have H:=H1
             clear H1
             by_cases c54:t826=t799
             ·rw [if_pos c54] at H
              have c54b0:(t826==t799)=true:=beq_iff_eq.mpr c54
              have c54b1:(t826 !=t799)=false:=bne_eq_false_iff_eq.mpr c54
              clear c54
              (first|rw [c54b0]|(simp only [i64_w,i32_w];rw [c54b0])|skip)
              have H':=Aside0.mk H
              clear H
              obtain⟨Ao55,co55,eo55⟩:=Kd.R_slice HO829.out
              subst eo55
              obtain⟨Ao56,co56,eo56⟩:=Kd.R_slice HO_6.out
              subst eo56
              go_wp2_with (first|((with_reducible refine gate_callee (f:=27) rfl ?_);refine goesL_ (some 102) rfl rfl Try.func27 (by kernel_rfl) rfl #[.slice Ao55 t825.length co55,.slice Ao56 t798.length co56] rfl zq2 ?_;(with_reducible refine(laws_eqEdgeS.calls kj26 _ _ t825 _ _ t798 true _ ?side1 ?side2 ?side3 ?side4 A52.out).mono ?_);(case side1=>exact zcc ((Kd.R_reads' HO829.out).2.2));(case side2=>exact(Kd.R_reads' HO829.out).2.1);(case side3=>exact zcc ((Kd.R_reads' HO_6.out).2.2));(case side4=>exact(Kd.R_reads' HO_6.out).2.1);rintro e w57 ⟨rfl,hb⟩;refine⟨_,rfl,?_⟩;replace HO_6:=Aside0.mk (Kd.R_below (zq4 HO_6) hb);replace HO_10:=Aside0.mk (Kd.R_below (zq4 HO_10) hb);replace HO824:=Aside0.mk (Kd.R_below (zq4 HO824) hb);replace HO829:=Aside0.mk (Kd.R_below (zq4 HO829) hb);replace HB:=Aside0.mk (below_step (by exact zk1 HB) hb);(try clear hb);(try clear hb2);(try clear hk);(try clear hi)))
              go_meet
              case rel=>exact⟨_,((t827 !=t800)),(by first|rfl|(simp;done)|(simp [*];done)),H',⟨by have:=HJ8.out;have:=HJ26.out;first|omega|exact Nat.le_refl _⟩,⟨by(with_reducible repeat(first|apply Kd.R_alloc|apply Kd.R_drewN|apply Kd.R_drew));exact Kd.R_mono HO_10.out (fun _ hk=>trivial)⟩,⟨by exact zk1 HB⟩⟩
             ·rw [if_neg c54] at H
              have c54b0:(t826==t799)=false:=beq_eq_false_iff_ne.mpr c54
              have c54b1:(t826 !=t799)=true:=bne_iff_ne.mpr c54
              (first|rw [c54b0]|(simp only [i64_w,i32_w];rw [c54b0])|skip)
              exact absurd (H.trans (congrArg some HRT.out)) (by cases kj26<;>simp [laws_FnExactLeastTree.j2])
            ·replace c53:=Bool.eq_false_iff.mpr c53
             subst c53
             have H1:(laws_FnExactLeastTree.j2 kj26 t820 t819 true)=some r:=by rw [if_neg (show ¬ (false=true) by decide)] at H;exact H
             clear H
             have H:=H1
             clear H1
             exact absurd (H.trans (congrArg some HRT.out)) (by cases kj26<;>simp [laws_FnExactLeastTree.j2])
           case rest=>
            clear HC46
            try clear c1
            try clear c2
            try clear p2
            try clear c3
            try clear c4
            try clear c4b0
            try clear c5
            try clear c10
            try clear c17
            try clear c18
            try clear c18b0
            try clear c18b1
            try clear c22
            try clear c23
            try clear c25
            try clear c27
            try clear c32
            try clear c32b0
            try clear c34
            try clear c35
            try clear c35b0
            try clear c35b1
            try clear c39
            try clear c41
            try clear c42
            try clear c42b0
            try clear c43
            try clear c43b0
            try clear c43b1
            try clear c53
            try clear c54
            try clear c54b0
            try clear c54b1
            try clear p2
            obtain⟨kq,x113_45,rfl,HA,HJ45,HO_10,HB⟩:=hcut
            have hl10_45:=(Kd.R_reads' HO_10.out).1
            rw [hl10_45] at HO_10
            (try simp only [hl10_45])
            cases kq with
            |zero=>exact absurd HA.out (by simp [laws_FnExactLeastTree.j2])
            |succ kj45=>
             have H:=HA.out
             clear HA
             simp only [laws_FnExactLeastTree.j2] at H
             by_cases c58:x113_45=true
             ·subst c58
              have H1:(some false)=some r:=by rw [if_pos rfl] at H;exact H
              clear H
              have H:=H1
              clear H1
              exact absurd ((Option.some.inj H).trans HRT.out) (by decide)
             ·replace c58:=Bool.eq_false_iff.mpr c58
              subst c58
              have H1:((laws_heldEdgeS.f kj45 t820 1).bind fun t831=>(if t831< 0 then(some false) else(if t831=t819 then(some true) else(some false))))=some r:=by rw [if_neg (show ¬ (false=true) by decide)] at H;exact H
              clear H
              have H:=H1
              clear H1
              replace H:=Option.bind_eq_some_iff.mp H
              obtain⟨t831,A590,H⟩:=H
              replace H:(if t831< 0 then(some false) else(if t831=t819 then(some true) else(some false)))=some r:=H
              have A59:=Aside0.mk A590
              clear A590
              by_cases c60:t831< 0
              ·rw [if_pos c60] at H
               have c60b0:decide (t831< 0)=true:=decide_eq_true c60
               clear c60
               exact absurd ((Option.some.inj H).trans HRT.out) (by decide)
              ·rw [if_neg c60] at H
               have c60b0:decide (t831< 0)=false:=decide_eq_false c60
               clear c60
               by_cases c61:t831=t819
               ·rw [if_pos c61] at H
                have c61b0:(t831==t819)=true:=beq_iff_eq.mpr c61
                have c61b1:(t831 !=t819)=false:=bne_eq_false_iff_eq.mpr c61
                clear c61
                obtain rfl:=Option.some.inj H
                go_wp2_with (first|((with_reducible refine gate_callee (f:=43) rfl ?_);refine goesL_ (some 116) rfl rfl Try.func43 (by kernel_rfl) rfl #[.slice Ao47 t820.length co47,.int .i64 1] rfl zq2 ?_;(with_reducible refine(laws_heldEdgeS.calls kj45 _ _ t820 1 t831 _ ?side1 ?side2 A59.out).mono ?_);(case side1=>exact zcc ((Kd.R_reads' HO_10.out).2.2));(case side2=>exact(Kd.R_reads' HO_10.out).2.1);rintro e w' ⟨rfl,⟨nd,rfl⟩⟩;refine⟨_,rfl,?_⟩))
                go_ret
                exact⟨by first|rfl|(simp [errW_none,errW_some]<;>rfl)|(simp [*,errW_none,errW_some]<;>rfl),by exact zk1 HB⟩
               ·rw [if_neg c61] at H
                have c61b0:(t831==t819)=false:=beq_eq_false_iff_ne.mpr c61
                have c61b1:(t831 !=t819)=true:=bne_iff_ne.mpr c61
                exact absurd ((Option.some.inj H).trans HRT.out) (by decide)
          ·rw [if_neg c43] at H
           have c43b0:(t821==t819)=false:=beq_eq_false_iff_ne.mpr c43
           have c43b1:(t821 !=t819)=true:=bne_iff_ne.mpr c43
           exact absurd ((Option.some.inj H).trans HRT.out) (by decide)
     ·replace c25:=Bool.eq_false_iff.mpr c25
      subst c25
      have H1:(some false)=some r:=by rw [if_neg (show ¬ (false=true) by decide)] at H;exact H
      clear H
      have H:=H1
      clear H1
      exact absurd ((Option.some.inj H).trans HRT.out) (by decide)
open Go.RowKit Go.Proofs.YtedegfbheihopaaW.PrintWords Go.Proofs.YtedegfbheihopaaW.PrintLast
def wfS81 (s : S81) : Prop := (fun n : Int => (Lit.int .i64 n).wf = true) s.f0 ∧ (fun n : Int => (Lit.int .i64 n).wf = true) s.f1 ∧ (fun n : Int => (Lit.int .i64 n).wf = true) s.f2
/-- The one pure statement of laws_FnExactLeastTree. -/
def laws_FnExactLeastTree.Pure : Prop := ∀ (a0 : Int) (l1 : List (S81)), (fun n : Int => (Lit.int .i64 n).wf = true) a0 → (fun l : List (S81) => l.length ≤ maxLen ∧ ∀ x ∈ l, wfS81 x) l1 → ∃ k, laws_FnExactLeastTree.f k a0 l1 = some true
open Go.RowKit Go.Proofs.YtedegfbheihopaaW.PrintWords
theorem wrap_id {x : Int} (h0 : -9223372036854775808 ≤ x) (h1 : x ≤ 9223372036854775807) : wrap64 x = x := by unfold wrap64; omega
theorem Ev.succ {α : Type} {g : Nat → Option α} {r : α} (h : Ev (fun k => g (k + 1)) r) : Ev g r := Ev.step (fun _ => rfl) h
theorem Ev.some_ {α : Type} {r s : α} (h : r = s) : Ev (fun _ => some r) s := h ▸ Ev.now r
theorem getD_mid {α : Type} (d : α) (pre : List α) (x : α) (suf : List α) : (pre ++ x :: suf).getD ((pre.length : Int)).toNat d = x := by simp
theorem set_mid {α : Type} (pre : List α) (x y : α) (suf : List α) : (pre ++ x :: suf).set ((pre.length : Int)).toNat y = pre ++ y :: suf := by simp
theorem app_one {α : Type} (pre : List α) (x : α) (suf : List α) : pre ++ x :: suf = (pre ++ [x]) ++ suf := by simp
theorem len_mid {α : Type} (pre : List α) (x : α) (suf : List α) : ((pre ++ x :: suf).length : Int) = pre.length + suf.length + 1 := by simp; omega
theorem len_one {α : Type} (pre : List α) (x : α) : ((pre ++ [x]).length : Int) = pre.length + 1 := by simp
theorem nil_or_snoc {α : Type} (l : List α) : l = [] ∨ ∃ p y, l = p ++ [y] := by
 rcases List.eq_nil_or_concat l with rfl | ⟨p, y, rfl⟩
 ·exact .inl rfl
 ·exact .inr ⟨p, y, by simp⟩
theorem rdEdge_mid (pre : List S79) (x : S79) (suf : List S79) : rd_T79 (pre ++ x :: suf) (pre.length : Int) = x := getD_mid _ pre x suf
theorem rdLEdge_mid (pre : List S81) (x : S81) (suf : List S81) : rd_T81 (pre ++ x :: suf) (pre.length : Int) = x := getD_mid _ pre x suf
instance decEdge : DecidableEq S79 := fun a b => decidable_of_iff (a.f0 = b.f0 ∧ a.f1 = b.f1 ∧ a.f2 = b.f2) (by cases a; cases b; simp)
def cvEdge (x : S81) : S79 := ⟨x.f0, x.f1, x.f2⟩
theorem toEdgeS_l (suf : List S81) : ∀ (pre : List S81) (k : Nat), suf.length < k → (pre.length : Int) + suf.length ≤ 1099511627776 →
  laws_toEdgeS.l0 k (pre ++ suf) (pre.map cvEdge ++ List.replicate suf.length z79) (pre.length : Int) = some ((pre ++ suf).map cvEdge) := by
 induction suf with
 | nil =>
  intro pre k hk hb
  obtain ⟨k, rfl⟩ : ∃ m, k = m + 1 := ⟨k - 1, by omega⟩
  simp only [laws_toEdgeS.l0]
  rw [if_neg (by simp)]
  simp
 | cons x suf ih =>
  intro pre k hk hb
  simp only [List.length_cons] at hk hb
  obtain ⟨k, rfl⟩ : ∃ m, k = m + 1 := ⟨k - 1, by omega⟩
  have h := ih (pre ++ [x]) k (by omega) (by simp; omega)
  simp only [laws_toEdgeS.l0]
  rw [if_pos (by simp; omega), if_pos (by omega), rdLEdge_mid]
  simp only [laws_toEdge.f, Option.bind_some]
  rw [if_pos (by simp; omega), wrap_id (by omega) (by omega)]
  have e : (pre.map cvEdge ++ List.replicate (x :: suf).length z79).set ((pre.length : Int)).toNat (⟨x.f0, x.f1, x.f2⟩ : S79) = (pre ++ [x]).map cvEdge ++ List.replicate suf.length z79 := by
   simp [List.replicate_succ, cvEdge]
  rw [e]
  simpa using h
theorem toEdgeS_ev (l : List S81) (hl : l.length ≤ 1048576) : Ev (fun k => laws_toEdgeS.f k l) (l.map cvEdge) := by
 refine ⟨l.length + 1, fun k hk => ?_⟩
 have h := toEdgeS_l l [] k (by omega) (by simp; omega)
 show laws_toEdgeS.f k l = _
 unfold laws_toEdgeS.f
 rw [if_pos (by omega), if_pos (by simp; omega)]
 simpa using h
theorem eqEdge_is (a b : S79) : laws_eqEdge.f a.f0 a.f1 a.f2 b.f0 b.f1 b.f2 = some (decide (a = b)) := by
 cases a; cases b
 unfold laws_eqEdge.f
 simp only [S79.mk.injEq]
 split
 ·split
  ·split
   ·rename_i h1 h2 h3; simp [h1, h2, h3]
   ·rename_i h1 h2 h3; simp [h3]
  ·rename_i h1 h2; simp [h2]
 ·rename_i h1; simp [h1]
theorem eqEdgeS_l (s : List S79) : ∀ (t pre qre : List S79) (k : Nat), s.length < k → pre.length = qre.length → s.length = t.length → (pre.length : Int) + s.length ≤ 1099511627776 →
  laws_eqEdgeS.l0 k (pre ++ s) (qre ++ t) (pre.length : Int) = some (decide (s = t)) := by
 induction s with
 | nil =>
  intro t pre qre k hk hq hl hb
  obtain ⟨k, rfl⟩ : ∃ m, k = m + 1 := ⟨k - 1, by omega⟩
  obtain rfl : t = [] := List.eq_nil_of_length_eq_zero (by simpa using hl.symm)
  simp only [laws_eqEdgeS.l0]
  rw [if_neg (by simp)]
  simp
 | cons x s ih =>
  intro t pre qre k hk hq hl hb
  cases t with
  | nil => simp at hl
  | cons y t =>
   simp only [List.length_cons] at hk hl hb
   obtain ⟨k, rfl⟩ : ∃ m, k = m + 1 := ⟨k - 1, by omega⟩
   have h := ih t (pre ++ [x]) (qre ++ [y]) k (by omega) (by simp; omega) (by omega) (by simp; omega)
   have hy : rd_T79 (qre ++ y :: t) (pre.length : Int) = y := by rw [hq]; exact rdEdge_mid qre y t
   simp only [laws_eqEdgeS.l0]
   rw [if_pos (by simp; omega), if_pos (by omega), if_pos (by simp; omega), rdEdge_mid, hy, eqEdge_is, wrap_id (by omega) (by omega)]
   simp only [Option.bind_some]
   by_cases e : x = y
   ·subst e
    rw [if_pos (by simp)]
    simpa using h
   ·rw [if_neg (by simpa using e)]
    simp [e]
theorem eqEdgeS_ev (s t : List S79) (hs : s.length ≤ 1099511627776) : Ev (fun k => laws_eqEdgeS.f k s t) (decide (s = t)) := by
 refine ⟨s.length + 1, fun k hk => ?_⟩
 show laws_eqEdgeS.f k s t = _
 unfold laws_eqEdgeS.f
 by_cases hl : s.length = t.length
 ·rw [if_pos (by omega)]
  exact eqEdgeS_l s t [] [] k (by omega) rfl hl (by simp; omega)
 ·rw [if_neg (by omega)]
  have : s ≠ t := fun e => hl (by rw [e])
  simp [this]
theorem szEdgeS_is (l : List S81) (hl : l.length ≤ maxLen) (a : Int) (h0 : 0 ≤ a) (h1 : a ≤ 1048576) : laws_szEdgeS.f l a = some (if a - l.length < 0 then -1 else a - l.length) := by
 have hm : l.length ≤ 9223372036854775807 := by unfold maxLen at hl; exact hl
 unfold laws_szEdgeS.f
 rw [wrap_id (by omega) (by omega)]
 split <;> rfl
abbrev Ed := S79
def Srt (l : List Ed) : Prop := l.Pairwise fun x y => x.f2 ≤ y.f2
def ofK (c : Int) (l : List Ed) : List Ed := l.filter fun x => decide (x.f2 = c)
def Stab (l r : List Ed) : Prop := r.length = l.length ∧ ∀ c, ofK c r = ofK c l
def okK (l : List Ed) : Prop := ∀ x ∈ l, 0 ≤ x.f2 ∧ x.f2 ≤ 1000
theorem ofK_app (c : Int) (a b : List Ed) : ofK c (a ++ b) = ofK c a ++ ofK c b := List.filter_append ..
theorem Stab.refl (l : List Ed) : Stab l l := ⟨rfl, fun _ => rfl⟩
theorem Stab.trans {a b c : List Ed} (h : Stab a b) (k : Stab b c) : Stab a c := ⟨k.1.trans h.1, fun x => (k.2 x).trans (h.2 x)⟩
theorem Stab.app {a b c d : List Ed} (h : Stab a b) (k : Stab c d) : Stab (a ++ c) (b ++ d) := ⟨by rw [List.length_append, List.length_append, h.1, k.1], fun x => by rw [ofK_app, ofK_app, h.2, k.2]⟩
theorem Stab.mem {a b : List Ed} (h : Stab a b) {x : Ed} (hx : x ∈ b) : x ∈ a := by
 have : x ∈ ofK x.f2 b := List.mem_filter.2 ⟨hx, by simp⟩
 rw [h.2] at this
 exact (List.mem_filter.1 this).1
theorem ofK_none {c : Int} {l : List Ed} (h : ∀ x ∈ l, x.f2 ≠ c) : ofK c l = [] := by
 unfold ofK
 rw [List.filter_eq_nil_iff]
 intro x hx
 simpa using h x hx
theorem Stab.swap {a b : List Ed} (h : ∀ x ∈ a, ∀ y ∈ b, y.f2 < x.f2) : Stab (a ++ b) (b ++ a) := by
 refine ⟨by rw [List.length_append, List.length_append, Nat.add_comm], fun c => ?_⟩
 rw [ofK_app, ofK_app]
 by_cases ha : ∃ x ∈ a, x.f2 = c
 ·obtain ⟨x, hx, e⟩ := ha
  rw [ofK_none (l := b) (fun y hy => by have := h x hx y hy; omega)]
  simp
 ·rw [ofK_none (l := a) (fun x hx e => ha ⟨x, hx, e⟩)]
  simp
theorem Stab.ok {a b : List Ed} (h : Stab a b) (k : okK a) : okK b := fun x hx => k x (h.mem hx)
theorem rdE_mid (pre : List Ed) (x : Ed) (suf : List Ed) (i : Int) (h : i = pre.length) : rd_T79 (pre ++ x :: suf) i = x := by
 subst h
 exact getD_mid _ pre x suf
theorem setE_mid (pre : List Ed) (x y : Ed) (suf : List Ed) (i : Int) (h : i = pre.length) : (pre ++ x :: suf).set i.toNat y = pre ++ y :: suf := by
 subst h
 exact set_mid pre x y suf
theorem lenE_mid (pre : List Ed) (x : Ed) (suf : List Ed) : ((pre ++ x :: suf).length : Int) = pre.length + suf.length + 1 := len_mid pre x suf
-- two neighbours change places
theorem swap2 (pre : List Ed) (u v : Ed) (suf : List Ed) (i j : Int) (hi : i = pre.length) (hj : j = pre.length + 1) : ((pre ++ u :: v :: suf).set i.toNat v).set j.toNat u = pre ++ v :: u :: suf := by
 rw [setE_mid pre u v (v :: suf) i hi]
 have := setE_mid (pre ++ [v]) v u suf j (by rw [List.length_append, List.length_singleton]; omega)
 simpa using this
theorem swap2' (pre : List Ed) (u v : Ed) (suf : List Ed) (i j : Int) (hi : i = pre.length + 1) (hj : j = pre.length) : ((pre ++ u :: v :: suf).set i.toNat u).set j.toNat v = pre ++ v :: u :: suf := by
 have := setE_mid (pre ++ [u]) v u suf i (by rw [List.length_append, List.length_singleton]; omega)
 rw [show pre ++ u :: v :: suf = (pre ++ [u]) ++ v :: suf by simp, this, show pre ++ [u] ++ u :: suf = pre ++ u :: u :: suf by simp, setE_mid pre u v (u :: suf) j hj]
theorem rd_2nd (pre : List Ed) (u v : Ed) (suf : List Ed) (i : Int) (h : i = pre.length + 1) : rd_T79 (pre ++ u :: v :: suf) i = v := by
 have := rdE_mid (pre ++ [u]) v suf i (by rw [List.length_append, List.length_singleton]; omega)
 simpa using this
theorem eta3 (y : Ed) : (⟨y.f0, y.f1, y.f2⟩ : Ed) = y := rfl
-- insertion: the front is held last first
def insR : List Ed → Ed → List Ed
 | [], y => [y]
 | u :: q, y => if y.f2 < u.f2 then u :: insR q y else y :: u :: q
def insAll : List Ed → List Ed → List Ed
 | q, [] => q
 | q, y :: r => insAll (insR q y) r
theorem insR_len : ∀ (q : List Ed) (y : Ed), (insR q y).length = q.length + 1
 | [], _ => rfl
 | u :: q, y => by
  rw [insR]
  split
  ·rw [List.length_cons, insR_len q y]; rfl
  ·rfl
theorem insR_stab : ∀ (q : List Ed) (y : Ed), Stab (q.reverse ++ [y]) (insR q y).reverse
 | [], y => Stab.refl _
 | u :: q, y => by
  rw [insR]
  split
  ·rename_i h
   rw [List.reverse_cons, List.reverse_cons]
   have h1 : Stab ([u] ++ [y]) ([y] ++ [u]) := Stab.swap (fun a ha b hb => by
    rw [List.mem_singleton] at ha hb
    rw [ha, hb]; exact h)
   have h2 := (insR_stab q y).app (Stab.refl [u])
   have h3 := (Stab.refl q.reverse).app h1
   rw [← List.append_assoc, ← List.append_assoc] at h3
   exact h3.trans h2
  ·rw [show (y :: u :: q).reverse = (u :: q).reverse ++ [y] from List.reverse_cons ..]
   exact Stab.refl _
theorem insR_le : ∀ (q : List Ed) (y : Ed) (z : Ed), z ∈ insR q y → z = y ∨ z ∈ q
 | [], y, z, h => by
  rw [insR, List.mem_singleton] at h
  exact Or.inl h
 | u :: q, y, z, h => by
  rw [insR] at h
  split at h
  ·rcases List.mem_cons.1 h with e | h
   ·exact Or.inr (by rw [e]; simp)
   ·rcases insR_le q y z h with e | h
    ·exact Or.inl e
    ·exact Or.inr (by simp [h])
  ·rcases List.mem_cons.1 h with e | h
   ·exact Or.inl e
   ·exact Or.inr h
def SrtR (q : List Ed) : Prop := q.Pairwise fun x y => y.f2 ≤ x.f2
theorem SrtR_rev {q : List Ed} : Srt q.reverse ↔ SrtR q := List.pairwise_reverse
theorem insR_srt : ∀ (q : List Ed) (y : Ed), SrtR q → SrtR (insR q y)
 | [], y, _ => by simp [insR, SrtR]
 | u :: q, y, h => by
  obtain ⟨h1, h2⟩ := List.pairwise_cons.1 h
  rw [insR]
  split
  ·rename_i hl
   refine List.pairwise_cons.2 ⟨fun z hz => ?_, insR_srt q y h2⟩
   rcases insR_le q y z hz with e | hz
   ·rw [e]; omega
   ·exact h1 z hz
  ·rename_i hl
   refine List.pairwise_cons.2 ⟨fun z hz => ?_, h⟩
   rcases List.mem_cons.1 hz with e | hz
   ·rw [e]; omega
   ·have := h1 z hz; omega
theorem insAll_srt : ∀ (r q : List Ed), SrtR q → SrtR (insAll q r)
 | [], _, h => h
 | y :: r, q, h => insAll_srt r _ (insR_srt q y h)
theorem insAll_stab : ∀ (r q : List Ed), Stab (q.reverse ++ r) (insAll q r).reverse
 | [], q => by rw [List.append_nil]; exact Stab.refl _
 | y :: r, q => by
  have h1 := (insR_stab q y).app (Stab.refl r)
  rw [List.append_assoc, List.singleton_append] at h1
  exact h1.trans (insAll_stab r _)
theorem ins_l1 (P : List Ed) (a b i : Int) (ha : a = P.length) (hi : -1000000 ≤ i ∧ i ≤ 1000000) (X : List Ed) : ∀ (q : List Ed) (y : Ed) (R : List Ed), okK (P ++ q.reverse ++ y :: R) → (P ++ q.reverse ++ y :: R).length ≤ 1000 →
  Ev (fun k => slices_insertionSortCmpFunc_Edge.l0 k (P ++ (insR q y).reverse ++ R) a b (i + 1)) X → Ev (fun k => slices_insertionSortCmpFunc_Edge.l1 k (P ++ q.reverse ++ y :: R) a b i (P.length + q.length)) X
 | [], y, R, hk, hl, h => by
  refine Ev.succ ?_
  simp only [slices_insertionSortCmpFunc_Edge.l1, List.length_nil, Int.natCast_zero, Int.add_zero, ha, if_neg (show ¬ (P.length : Int) > P.length by omega), wrap_id (show (-9223372036854775808 : Int) ≤ i + 1 by omega) (show i + 1 ≤ 9223372036854775807 by omega)]
  rw [ha] at h
  simpa [insR] using h
 | u :: q, y, R, hk, hl, h => by
  have e : P ++ (u :: q).reverse ++ y :: R = (P ++ q.reverse) ++ u :: y :: R := by simp
  rw [e] at hk hl ⊢
  have hl' : (P.length : Int) + q.length + R.length + 2 ≤ 1000 := by simp at hl; omega
  have hku : 0 ≤ u.f2 ∧ u.f2 ≤ 1000 := hk u (by simp)
  have hky : 0 ≤ y.f2 ∧ y.f2 ≤ 1000 := hk y (by simp)
  have hlen : (((P ++ q.reverse) ++ u :: y :: R).length : Int) = P.length + q.length + R.length + 2 := by simp; omega
  have hpl : ((P ++ q.reverse).length : Int) = P.length + q.length := by simp
  have hj : ((P.length : Int) + ((u :: q).length : Nat)) = P.length + q.length + 1 := by rw [List.length_cons]; omega
  rw [hj]
  have r1 := rd_2nd (P ++ q.reverse) u y R ((P.length : Int) + q.length + 1) (by omega)
  have r2 := rdE_mid (P ++ q.reverse) u (y :: R) ((P.length : Int) + q.length) (by omega)
  have s1 := swap2' (P ++ q.reverse) u y R ((P.length : Int) + q.length + 1) ((P.length : Int) + q.length) (by omega) (by omega)
  have w1 : wrap64 ((P.length : Int) + q.length + 1 - 1) = (P.length : Int) + q.length := by rw [wrap_id (by omega) (by omega)]; omega
  refine Ev.succ ?_
  simp only [slices_insertionSortCmpFunc_Edge.l1, if_pos (show (P.length : Int) + q.length + 1 > a by omega), if_pos (show 0 ≤ (P.length : Int) + q.length + 1 by omega), hlen, if_pos (show (P.length : Int) + q.length + 1 < P.length + q.length + R.length + 2 by omega), w1, if_pos (show 0 ≤ (P.length : Int) + q.length by omega), if_pos (show (P.length : Int) + q.length < P.length + q.length + R.length + 2 by omega), r1, r2, cmpE.f, Option.bind_some, wrap_id (show (-9223372036854775808 : Int) ≤ y.f2 - u.f2 by omega) (show y.f2 - u.f2 ≤ 9223372036854775807 by omega), eta3, s1]
  by_cases hlt : y.f2 < u.f2
  ·rw [insR, if_pos hlt] at h
   have := ins_l1 P a b i ha hi X q y (u :: R) (by
    intro x hx; refine hk x ?_
    simp only [List.mem_append, List.mem_cons] at hx ⊢
    rcases hx with hx | hx | hx | hx
    ·exact Or.inl hx
    ·exact Or.inr (Or.inr (Or.inl hx))
    ·exact Or.inr (Or.inl hx)
    ·exact Or.inr (Or.inr (Or.inr hx))) (by simp; omega) (by simpa using h)
   simp only [if_pos (show y.f2 - u.f2 < 0 by omega)]
   exact this
  ·rw [insR, if_neg hlt] at h
   simp only [if_neg (show ¬ y.f2 - u.f2 < 0 by omega), wrap_id (show (-9223372036854775808 : Int) ≤ i + 1 by omega) (show i + 1 ≤ 9223372036854775807 by omega)]
   simpa using h
theorem ins_l0 (P S : List Ed) (a b : Int) (ha : a = P.length) : ∀ (r q : List Ed), okK (P ++ q.reverse ++ r ++ S) → (P ++ q.reverse ++ r ++ S).length ≤ 1000 → b = P.length + q.length + r.length →
  Ev (fun k => slices_insertionSortCmpFunc_Edge.l0 k (P ++ q.reverse ++ r ++ S) a b (P.length + q.length)) (P ++ (insAll q r).reverse ++ S)
 | [], q, hk, hl, hb => by
  refine Ev.succ ?_
  simp only [slices_insertionSortCmpFunc_Edge.l0, if_neg (show ¬ (P.length : Int) + q.length < b by rw [hb]; simp), List.append_nil, insAll]
  exact Ev.now _
 | y :: r, q, hk, hl, hb => by
  rw [List.length_cons] at hb
  have e : P ++ q.reverse ++ (y :: r) ++ S = P ++ q.reverse ++ y :: (r ++ S) := by simp
  rw [e] at hk hl ⊢
  have hl' : (P.length : Int) + q.length + r.length + S.length + 1 ≤ 1000 := by simp at hl; omega
  have hst := (Stab.refl P).app ((insR_stab q y).app (Stab.refl (r ++ S)))
  have e2 : P ++ (q.reverse ++ [y] ++ (r ++ S)) = P ++ q.reverse ++ y :: (r ++ S) := by simp
  rw [e2] at hst
  have e3 : P ++ ((insR q y).reverse ++ (r ++ S)) = P ++ (insR q y).reverse ++ r ++ S := by simp
  rw [e3] at hst
  have hrec := ins_l0 P S a b ha r (insR q y) (hst.ok hk) (by rw [hst.1]; exact hl) (by rw [insR_len]; omega)
  rw [insR_len] at hrec
  refine Ev.succ ?_
  simp only [slices_insertionSortCmpFunc_Edge.l0, if_pos (show (P.length : Int) + q.length < b by omega)]
  refine ins_l1 P a b _ ha (by omega) _ q y (r ++ S) hk hl ?_
  rw [← List.append_assoc]
  rw [show ((P.length : Int) + ((q.length + 1 : Nat) : Int)) = P.length + q.length + 1 by omega] at hrec
  exact hrec
def insS : List Ed → List Ed
 | [] => []
 | y :: r => (insAll [y] r).reverse
theorem insS_srt : ∀ l : List Ed, Srt (insS l)
 | [] => List.Pairwise.nil
 | y :: r => SrtR_rev.2 (insAll_srt r [y] (by simp [SrtR]))
theorem insS_stab : ∀ l : List Ed, Stab l (insS l)
 | [] => Stab.refl _
 | y :: r => insAll_stab r [y]
theorem ins_ev (P L S : List Ed) (hk : okK (P ++ L ++ S)) (hl : (P ++ L ++ S).length ≤ 1000) (z : Int) : Ev (fun k => slices_insertionSortCmpFunc_Edge.f k (P ++ L ++ S) P.length (P.length + L.length) z) (P ++ insS L ++ S) := by
 have hP : P.length ≤ 1000 := by simp at hl; omega
 unfold slices_insertionSortCmpFunc_Edge.f
 rw [wrap_id (by omega) (by omega)]
 cases L with
 | nil =>
  refine Ev.succ ?_
  simp only [slices_insertionSortCmpFunc_Edge.l0, List.length_nil, if_neg (show ¬ (P.length : Int) + 1 < P.length + ((0 : Nat) : Int) by omega), insS]
  exact Ev.now _
 | cons y r =>
  have := ins_l0 P S P.length (P.length + ((y :: r).length : Nat)) rfl r [y] (by simpa using hk) (by simpa using hl) (by simp; omega)
  simpa [insS] using this
-- stretches change places
theorem swapR_l (n : Nat) (hn : n ≤ 1000) : ∀ (A B P M S D E : List Ed) (a b z : Int), A.length = B.length → (P ++ D ++ A ++ M ++ E ++ B ++ S).length ≤ 1000 → a = P.length → b = P.length + D.length + A.length + M.length → D.length = E.length → n = D.length + A.length →
  Ev (fun k => slices_swapRangeCmpFunc_Edge.l0 k (P ++ D ++ A ++ M ++ E ++ B ++ S) a b n D.length) (P ++ D ++ B ++ M ++ E ++ A ++ S)
 | [], B, P, M, S, D, E, a, b, z, h, hl, ha, hb, hd, hnn => by
  obtain rfl : B = [] := List.eq_nil_of_length_eq_zero h.symm
  refine Ev.succ ?_
  rw [hnn]
  simp only [slices_swapRangeCmpFunc_Edge.l0, List.length_nil, Nat.add_zero, Int.lt_irrefl, if_false]
  exact Ev.now _
 | u :: A, [], P, M, S, D, E, a, b, z, h, hl, ha, hb, hd, hnn => by simp at h
 | u :: A, v :: B, P, M, S, D, E, a, b, z, h, hl, ha, hb, hd, hnn => by
  rw [List.length_cons, List.length_cons] at h
  rw [List.length_cons] at hnn hb
  have hl' : P.length + D.length + A.length + M.length + E.length + B.length + S.length + 2 ≤ 1000 := by simp at hl; omega
  have hlen : ((P ++ D ++ (u :: A) ++ M ++ E ++ (v :: B) ++ S).length : Int) = P.length + D.length + A.length + M.length + E.length + B.length + S.length + 2 := by simp; omega
  have e1 : P ++ D ++ (u :: A) ++ M ++ E ++ (v :: B) ++ S = (P ++ D) ++ u :: (A ++ M ++ E ++ (v :: B) ++ S) := by simp
  have e2 : P ++ D ++ (u :: A) ++ M ++ E ++ (v :: B) ++ S = (P ++ D ++ (u :: A) ++ M ++ E) ++ v :: (B ++ S) := by simp
  have ra : rd_T79 (P ++ D ++ (u :: A) ++ M ++ E ++ (v :: B) ++ S) (a + D.length) = u := by rw [e1]; exact rdE_mid _ _ _ _ (by rw [List.length_append]; omega)
  have rb : rd_T79 (P ++ D ++ (u :: A) ++ M ++ E ++ (v :: B) ++ S) (b + D.length) = v := by rw [e2]; exact rdE_mid _ _ _ _ (by simp only [List.length_append, List.length_cons]; omega)
  have st : ((P ++ D ++ (u :: A) ++ M ++ E ++ (v :: B) ++ S).set (a + D.length).toNat v).set (b + D.length).toNat u = P ++ (D ++ [v]) ++ A ++ M ++ (E ++ [u]) ++ B ++ S := by
   rw [e1, setE_mid (P ++ D) u v _ _ (by rw [List.length_append]; omega), show (P ++ D) ++ v :: (A ++ M ++ E ++ (v :: B) ++ S) = (P ++ D ++ (v :: A) ++ M ++ E) ++ v :: (B ++ S) by simp, setE_mid _ v u _ _ (by simp only [List.length_append, List.length_cons]; omega)]
   simp
  have hrec := swapR_l n hn A B P M S (D ++ [v]) (E ++ [u]) a b z (by omega) (by simp; omega) ha (by simp; omega) (by simp; omega) (by simp; omega)
  have wa : wrap64 (a + D.length) = a + D.length := wrap_id (by omega) (by omega)
  have wb : wrap64 (b + D.length) = b + D.length := wrap_id (by omega) (by omega)
  have wc : wrap64 ((D.length : Int) + 1) = (((D ++ [v]).length : Nat) : Int) := by rw [wrap_id (by omega) (by omega)]; simp
  refine Ev.succ ?_
  simp only [slices_swapRangeCmpFunc_Edge.l0, if_pos (show (D.length : Int) < (n : Int) by omega), wa, wb, wc, hlen, if_pos (show 0 ≤ b + (D.length : Int) by omega), if_pos (show 0 ≤ a + (D.length : Int) by omega), if_pos (show b + (D.length : Int) < P.length + D.length + A.length + M.length + E.length + B.length + S.length + 2 by omega), if_pos (show a + (D.length : Int) < P.length + D.length + A.length + M.length + E.length + B.length + S.length + 2 by omega), ra, rb, eta3, st]
  simpa using hrec
theorem swapR_ev (P A M B S : List Ed) (h : A.length = B.length) (hl : (P ++ A ++ M ++ B ++ S).length ≤ 1000) (a b n z : Int) (ha : a = P.length) (hb : b = P.length + A.length + M.length) (hn : n = A.length) : Ev (fun k => slices_swapRangeCmpFunc_Edge.f k (P ++ A ++ M ++ B ++ S) a b n z) (P ++ B ++ M ++ A ++ S) := by
 have hl' : A.length ≤ 1000 := by simp at hl; omega
 have := swapR_l A.length hl' A B P M S [] [] a b z h (by simpa using hl) ha (by simpa using hb) rfl (by simp)
 rw [hn]
 simpa [slices_swapRangeCmpFunc_Edge.f] using this
theorem rot_l (m z : Int) : ∀ (d : Nat) (P A B S : List Ed), A.length + B.length ≤ d → 1 ≤ A.length → 1 ≤ B.length → (P ++ A ++ B ++ S).length ≤ 1000 → m = P.length + A.length → ∀ (i j : Int), i = A.length → j = B.length →
  Ev (fun k => slices_rotateCmpFunc_Edge.l0 k (P ++ A ++ B ++ S) m z i j) (P ++ B ++ A ++ S) := by
 intro d
 induction d with
 | zero => intro P A B S h h1 h2; omega
 | succ d ih =>
  intro P A B S h h1 h2 hl hm i j hi hj
  have hl' : P.length + A.length + B.length + S.length ≤ 1000 := by simp at hl; omega
  have w1 : wrap64 (m - i) = P.length := by rw [wrap_id (by omega) (by omega)]; omega
  refine Ev.succ ?_
  by_cases he : i = j
  ·have := swapR_ev P A [] B S (by omega) (by simpa using hl) P.length m i z rfl (by simp; omega) hi
   simp only [slices_rotateCmpFunc_Edge.l0, if_pos he, w1]
   refine Ev.bind (by simpa using this) ?_
   exact Ev.some_ (by simp)
  ·simp only [slices_rotateCmpFunc_Edge.l0, if_neg he, w1]
   by_cases hg : i > j
   ·have eA : A = A.take B.length ++ A.drop B.length := (List.take_append_drop _ _).symm
    have l1 : (A.take B.length).length = B.length := by rw [List.length_take]; omega
    have l2 : (A.drop B.length).length = A.length - B.length := List.length_drop ..
    generalize A.take B.length = A1 at eA l1
    generalize A.drop B.length = A2 at eA l2
    subst eA
    rw [List.length_append] at h h1 hl' hm hi
    have := swapR_ev P A1 A2 B S l1 (by simpa using hl) P.length m j z rfl (by omega) (by omega)
    simp only [if_pos hg]
    have e1 : P ++ (A1 ++ A2) ++ B ++ S = P ++ A1 ++ A2 ++ B ++ S := by simp
    rw [e1]
    refine Ev.bind this ?_
    rw [show wrap64 (i - j) = i - j from wrap_id (by omega) (by omega)]
    have hrec := ih (P ++ B) A2 A1 S (by omega) (by omega) (by omega) (by simp; omega) (by simp; omega) (i - j) j (by omega) (by omega)
    have e2 : P ++ B ++ A1 ++ A2 ++ S = P ++ B ++ (A1 ++ A2) ++ S := by simp
    rw [← e2]
    exact hrec
   ·have eB : B = B.take (B.length - A.length) ++ B.drop (B.length - A.length) := (List.take_append_drop _ _).symm
    have l1 : (B.take (B.length - A.length)).length = B.length - A.length := by rw [List.length_take]; omega
    have l2 : (B.drop (B.length - A.length)).length = A.length := by rw [List.length_drop]; omega
    generalize B.take (B.length - A.length) = B1 at eB l1
    generalize B.drop (B.length - A.length) = B2 at eB l2
    subst eB
    rw [List.length_append] at h h2 hl' hj l1
    have := swapR_ev P A B1 B2 S l2.symm (by simpa using hl) P.length (m + j - i) i z rfl (by omega) hi
    simp only [if_neg hg, show wrap64 (m + j) = m + j from wrap_id (by omega) (by omega), show wrap64 (m + j - i) = m + j - i from wrap_id (by omega) (by omega)]
    have e1 : P ++ A ++ (B1 ++ B2) ++ S = P ++ A ++ B1 ++ B2 ++ S := by simp
    rw [e1]
    refine Ev.bind this ?_
    rw [show wrap64 (j - i) = j - i from wrap_id (by omega) (by omega)]
    have hrec := ih P B2 B1 (A ++ S) (by omega) (by omega) (by omega) (by simp; omega) (by omega) i (j - i) (by omega) (by omega)
    have e2 : P ++ B2 ++ B1 ++ A ++ S = P ++ B2 ++ B1 ++ (A ++ S) := by simp
    have e3 : P ++ (B1 ++ B2) ++ A ++ S = P ++ B1 ++ B2 ++ (A ++ S) := by simp
    rw [e2, e3]
    exact hrec
theorem rot_ev (P A B S : List Ed) (h1 : 1 ≤ A.length) (h2 : 1 ≤ B.length) (hl : (P ++ A ++ B ++ S).length ≤ 1000) (a m b z : Int) (ha : a = P.length) (hm : m = P.length + A.length) (hb : b = P.length + A.length + B.length) : Ev (fun k => slices_rotateCmpFunc_Edge.f k (P ++ A ++ B ++ S) a m b z) (P ++ B ++ A ++ S) := by
 have hl' : P.length + A.length + B.length + S.length ≤ 1000 := by simp at hl; omega
 unfold slices_rotateCmpFunc_Edge.f
 rw [show wrap64 (m - a) = m - a from wrap_id (by omega) (by omega), show wrap64 (b - m) = b - m from wrap_id (by omega) (by omega)]
 exact rot_l m z (A.length + B.length) P A B S (Nat.le_refl _) h1 h2 hl hm (m - a) (b - m) (by omega) (by omega)
-- one element goes up or down past a stretch
theorem up_l (x : Ed) : ∀ (B P S : List Ed) (i k : Int), (P ++ x :: B ++ S).length ≤ 1000 → k = P.length → i = P.length + B.length + 1 → Ev (fun q => slices_symMergeCmpFunc_Edge.l1 q (P ++ x :: B ++ S) i k) (P ++ B ++ x :: S)
 | [], P, S, i, k, hl, hk, hi => by
  have hl' : P.length + S.length + 1 ≤ 1000 := by simp at hl; omega
  refine Ev.succ ?_
  simp only [slices_symMergeCmpFunc_Edge.l1, show wrap64 (i - 1) = i - 1 from wrap_id (by rw [List.length_nil] at hi; omega) (by rw [List.length_nil] at hi; omega), if_neg (show ¬ k < i - 1 by rw [List.length_nil] at hi; omega)]
  exact Ev.some_ (by simp)
 | y :: B, P, S, i, k, hl, hk, hi => by
  have hl' : P.length + B.length + S.length + 2 ≤ 1000 := by simp at hl; omega
  rw [List.length_cons] at hi
  have e1 : P ++ x :: (y :: B) ++ S = P ++ x :: y :: (B ++ S) := by simp
  have hlen : ((P ++ x :: y :: (B ++ S)).length : Int) = P.length + B.length + S.length + 2 := by simp; omega
  have r1 := rd_2nd P x y (B ++ S) (k + 1) (by omega)
  have r2 := rdE_mid P x (y :: (B ++ S)) k hk
  have s1 := swap2 P x y (B ++ S) k (k + 1) hk (by omega)
  have hrec := up_l x B (P ++ [y]) S i (k + 1) (by simp; omega) (by rw [List.length_append, List.length_singleton]; omega) (by rw [List.length_append, List.length_singleton]; omega)
  rw [e1]
  refine Ev.succ ?_
  simp only [slices_symMergeCmpFunc_Edge.l1, show wrap64 (i - 1) = i - 1 from wrap_id (by omega) (by omega), if_pos (show k < i - 1 by omega), show wrap64 (k + 1) = k + 1 from wrap_id (by omega) (by omega), hlen, if_pos (show 0 ≤ k + 1 by omega), if_pos (show k + 1 < (P.length : Int) + B.length + S.length + 2 by omega), if_pos (show 0 ≤ k by omega), if_pos (show k < (P.length : Int) + B.length + S.length + 2 by omega), r1, r2, eta3, s1]
  simpa using hrec
theorem down_l (x : Ed) : ∀ (q P S : List Ed) (i k : Int), (P ++ q.reverse ++ x :: S).length ≤ 1000 → i = P.length → k = P.length + q.length → Ev (fun g => slices_symMergeCmpFunc_Edge.l3 g (P ++ q.reverse ++ x :: S) i k) (P ++ x :: q.reverse ++ S)
 | [], P, S, i, k, hl, hi, hk => by
  refine Ev.succ ?_
  simp only [slices_symMergeCmpFunc_Edge.l3, if_neg (show ¬ k > i by rw [hk, hi]; simp)]
  exact Ev.some_ (by simp)
 | u :: q, P, S, i, k, hl, hi, hk => by
  have hl' : P.length + q.length + S.length + 2 ≤ 1000 := by simp at hl; omega
  rw [List.length_cons] at hk
  have e1 : P ++ (u :: q).reverse ++ x :: S = (P ++ q.reverse) ++ u :: x :: S := by simp
  have hlen : (((P ++ q.reverse) ++ u :: x :: S).length : Int) = P.length + q.length + S.length + 2 := by simp; omega
  have hpl : ((P ++ q.reverse).length : Int) = P.length + q.length := by simp
  have r1 := rd_2nd (P ++ q.reverse) u x S k (by omega)
  have r2 := rdE_mid (P ++ q.reverse) u (x :: S) (k - 1) (by omega)
  have s1 := swap2' (P ++ q.reverse) u x S k (k - 1) (by omega) (by omega)
  have hrec := down_l x q P (u :: S) i (k - 1) (by simp; omega) hi (by omega)
  rw [e1]
  refine Ev.succ ?_
  simp only [slices_symMergeCmpFunc_Edge.l3, if_pos (show k > i by omega), show wrap64 (k - 1) = k - 1 from wrap_id (by omega) (by omega), hlen, if_pos (show 0 ≤ k by omega), if_pos (show k < (P.length : Int) + q.length + S.length + 2 by omega), if_pos (show 0 ≤ k - 1 by omega), if_pos (show k - 1 < (P.length : Int) + q.length + S.length + 2 by omega), r1, r2, eta3, s1]
  simpa using hrec
theorem mid_is {i j : Int} (h0 : 0 ≤ i) (h1 : 0 ≤ j) (h2 : i ≤ 1000) (h3 : j ≤ 1000) : wrap64 ((IntKind.u64.wrap (wrap64 (i + j))) / 2) = (i + j) / 2 := by
 rw [show wrap64 (i + j) = i + j from wrap_id (by omega) (by omega), show IntKind.u64.wrap (i + j) = i + j from ?_, wrap_id (by omega) (by omega)]
 unfold IntKind.wrap
 simp only [IntKind.signed, IntKind.bits, Bool.false_and, Bool.false_eq_true, if_false]
 omega
theorem Srt_app {a b : List Ed} : Srt (a ++ b) ↔ Srt a ∧ Srt b ∧ ∀ x ∈ a, ∀ y ∈ b, x.f2 ≤ y.f2 := List.pairwise_append
theorem last_le {a : List Ed} {u : Ed} (h : Srt (a ++ [u])) : ∀ x ∈ a ++ [u], x.f2 ≤ u.f2 := by
 intro x hx
 rcases List.mem_append.1 hx with hx | hx
 ·exact (Srt_app.1 h).2.2 x hx u (by simp)
 ·rw [List.mem_singleton] at hx; rw [hx]; exact Int.le_refl _
theorem head_le {a : List Ed} {u : Ed} (h : Srt (u :: a)) : ∀ x ∈ u :: a, u.f2 ≤ x.f2 := by
 intro x hx
 rcases List.mem_cons.1 hx with hx | hx
 ·rw [hx]; exact Int.le_refl _
 ·exact (List.pairwise_cons.1 h).1 x hx
-- the element at a cut
theorem cut_at (L : List Ed) (s : Nat) (hs : s < L.length) : ∃ u r, L.drop s = u :: r ∧ L = L.take s ++ u :: r := by
 cases h : L.drop s with
 | nil => have := congrArg List.length h; rw [List.length_drop, List.length_nil] at this; omega
 | cons u r => exact ⟨u, r, rfl, by rw [← h, List.take_append_drop]⟩
theorem cut_before (L : List Ed) (s : Nat) (h0 : 0 < s) (hs : s ≤ L.length) : ∃ p u, L.take s = p ++ [u] ∧ p.length + 1 = s := by
 rcases nil_or_snoc (L.take s) with h | ⟨p, u, h⟩
 ·have := congrArg List.length h; rw [List.length_take, List.length_nil] at this; omega
 ·have := congrArg List.length h; rw [List.length_take, List.length_append, List.length_singleton] at this; exact ⟨p, u, h, by omega⟩
-- the searches: what holds at the place that they end at
theorem bs0 (X : List Ed) (a i0 j0 : Int) (hok : okK X) (hX : X.length ≤ 1000) (h0 : 0 ≤ i0) (hj : j0 ≤ X.length) (ha0 : 0 ≤ a) (ha1 : a < X.length) (R : List Ed)
  (hR : ∀ s : Int, i0 ≤ s → s ≤ j0 → (s = i0 ∨ (rd_T79 X (s - 1)).f2 < (rd_T79 X a).f2) → (s = j0 ∨ ¬ (rd_T79 X s).f2 < (rd_T79 X a).f2) → Ev (fun k => slices_symMergeCmpFunc_Edge.l1 k X s a) R) :
  ∀ (d : Nat) (i j : Int), j - i ≤ d → i0 ≤ i → i ≤ j → j ≤ j0 → (i = i0 ∨ (rd_T79 X (i - 1)).f2 < (rd_T79 X a).f2) → (j = j0 ∨ ¬ (rd_T79 X j).f2 < (rd_T79 X a).f2) → Ev (fun k => slices_symMergeCmpFunc_Edge.l0 k X a i j) R := by
 have hrd : ∀ c : Int, 0 ≤ c → c < X.length → 0 ≤ (rd_T79 X c).f2 ∧ (rd_T79 X c).f2 ≤ 1000 := by
  intro c h0 h1
  refine hok _ ?_
  unfold rd_T79
  rw [List.getD_eq_getElem?_getD, List.getElem?_eq_getElem (by omega)]
  exact List.getElem_mem _
 intro d
 induction d with
 | zero =>
  intro i j hd hi hij hj2 hl hr
  have e : i = j := by omega
  subst e
  refine Ev.succ ?_
  simp only [slices_symMergeCmpFunc_Edge.l0, Int.lt_irrefl, if_false]
  exact hR i hi hj2 hl hr
 | succ d ih =>
  intro i j hd hi hij hj2 hl hr
  by_cases e : i = j
  ·subst e
   refine Ev.succ ?_
   simp only [slices_symMergeCmpFunc_Edge.l0, Int.lt_irrefl, if_false]
   exact hR i hi hj2 hl hr
  ·have hm := mid_is (i := i) (j := j) (by omega) (by omega) (by omega) (by omega)
   have hb := hrd ((i + j) / 2) (by omega) (by omega)
   have hb2 := hrd a ha0 ha1
   refine Ev.succ ?_
   simp only [slices_symMergeCmpFunc_Edge.l0, if_pos (show i < j by omega), hm, if_pos (show 0 ≤ (i + j) / 2 by omega), if_pos (show (i + j) / 2 < (X.length : Int) by omega), if_pos ha0, if_pos ha1, cmpE.f, Option.bind_some, wrap_id (show (-9223372036854775808 : Int) ≤ (rd_T79 X ((i + j) / 2)).f2 - (rd_T79 X a).f2 by omega) (show (rd_T79 X ((i + j) / 2)).f2 - (rd_T79 X a).f2 ≤ 9223372036854775807 by omega)]
   by_cases hc : (rd_T79 X ((i + j) / 2)).f2 < (rd_T79 X a).f2
   ·simp only [if_pos (show (rd_T79 X ((i + j) / 2)).f2 - (rd_T79 X a).f2 < 0 by omega), wrap_id (show (-9223372036854775808 : Int) ≤ (i + j) / 2 + 1 by omega) (show (i + j) / 2 + 1 ≤ 9223372036854775807 by omega)]
    exact ih _ _ (by omega) (by omega) (by omega) hj2 (Or.inr (by rw [show (i + j) / 2 + 1 - 1 = (i + j) / 2 by omega]; exact hc)) hr
   ·simp only [if_neg (show ¬ (rd_T79 X ((i + j) / 2)).f2 - (rd_T79 X a).f2 < 0 by omega)]
    exact ih _ _ (by omega) hi (by omega) (by omega) hl (Or.inr hc)
theorem bs2 (X : List Ed) (m i0 j0 : Int) (hok : okK X) (hX : X.length ≤ 1000) (h0 : 0 ≤ i0) (hj : j0 ≤ X.length) (ha0 : 0 ≤ m) (ha1 : m < X.length) (R : List Ed)
  (hR : ∀ s : Int, i0 ≤ s → s ≤ j0 → (s = i0 ∨ ¬ (rd_T79 X m).f2 < (rd_T79 X (s - 1)).f2) → (s = j0 ∨ (rd_T79 X m).f2 < (rd_T79 X s).f2) → Ev (fun k => slices_symMergeCmpFunc_Edge.l3 k X s m) R) :
  ∀ (d : Nat) (i j : Int), j - i ≤ d → i0 ≤ i → i ≤ j → j ≤ j0 → (i = i0 ∨ ¬ (rd_T79 X m).f2 < (rd_T79 X (i - 1)).f2) → (j = j0 ∨ (rd_T79 X m).f2 < (rd_T79 X j).f2) → Ev (fun k => slices_symMergeCmpFunc_Edge.l2 k X m i j) R := by
 have hrd : ∀ c : Int, 0 ≤ c → c < X.length → 0 ≤ (rd_T79 X c).f2 ∧ (rd_T79 X c).f2 ≤ 1000 := by
  intro c h0 h1
  refine hok _ ?_
  unfold rd_T79
  rw [List.getD_eq_getElem?_getD, List.getElem?_eq_getElem (by omega)]
  exact List.getElem_mem _
 intro d
 induction d with
 | zero =>
  intro i j hd hi hij hj2 hl hr
  have e : i = j := by omega
  subst e
  refine Ev.succ ?_
  simp only [slices_symMergeCmpFunc_Edge.l2, Int.lt_irrefl, if_false]
  exact hR i hi hj2 hl hr
 | succ d ih =>
  intro i j hd hi hij hj2 hl hr
  by_cases e : i = j
  ·subst e
   refine Ev.succ ?_
   simp only [slices_symMergeCmpFunc_Edge.l2, Int.lt_irrefl, if_false]
   exact hR i hi hj2 hl hr
  ·have hm := mid_is (i := i) (j := j) (by omega) (by omega) (by omega) (by omega)
   have hb := hrd ((i + j) / 2) (by omega) (by omega)
   have hb2 := hrd m ha0 ha1
   refine Ev.succ ?_
   simp only [slices_symMergeCmpFunc_Edge.l2, if_pos (show i < j by omega), hm, if_pos (show 0 ≤ (i + j) / 2 by omega), if_pos (show (i + j) / 2 < (X.length : Int) by omega), if_pos ha0, if_pos ha1, cmpE.f, Option.bind_some, wrap_id (show (-9223372036854775808 : Int) ≤ (rd_T79 X m).f2 - (rd_T79 X ((i + j) / 2)).f2 by omega) (show (rd_T79 X m).f2 - (rd_T79 X ((i + j) / 2)).f2 ≤ 9223372036854775807 by omega)]
   by_cases hc : (rd_T79 X m).f2 < (rd_T79 X ((i + j) / 2)).f2
   ·simp only [if_pos (show (rd_T79 X m).f2 - (rd_T79 X ((i + j) / 2)).f2 < 0 by omega)]
    exact ih _ _ (by omega) hi (by omega) (by omega) hl (Or.inr hc)
   ·simp only [if_neg (show ¬ (rd_T79 X m).f2 - (rd_T79 X ((i + j) / 2)).f2 < 0 by omega), wrap_id (show (-9223372036854775808 : Int) ≤ (i + j) / 2 + 1 by omega) (show (i + j) / 2 + 1 ≤ 9223372036854775807 by omega)]
    exact ih _ _ (by omega) (by omega) (by omega) hj2 (Or.inr (by rw [show (i + j) / 2 + 1 - 1 = (i + j) / 2 by omega]; exact hc)) hr
theorem bs4 (X : List Ed) (a m b z mid n p i0 j0 : Int) (hok : okK X) (hX : X.length ≤ 1000) (h0 : 0 ≤ i0) (hj : j0 ≤ X.length) (hp : ∀ c, i0 ≤ c → c < j0 → 0 ≤ p - c ∧ p - c < X.length) (hpp : -5000 ≤ p ∧ p ≤ 5000) (R : List Ed)
  (hR : ∀ s : Int, i0 ≤ s → s ≤ j0 → (s = i0 ∨ ¬ (rd_T79 X (p - (s - 1))).f2 < (rd_T79 X (s - 1)).f2) → (s = j0 ∨ (rd_T79 X (p - s)).f2 < (rd_T79 X s).f2) → Ev (fun k => if s < m then (slices_symMergeCmpFunc_Edge.j6 k X a m b z mid s (wrap64 (n - s)) (decide (m < (wrap64 (n - s))))) else (slices_symMergeCmpFunc_Edge.j6 k X a m b z mid s (wrap64 (n - s)) false)) R) :
  ∀ (d : Nat) (i j : Int), j - i ≤ d → i0 ≤ i → i ≤ j → j ≤ j0 → (i = i0 ∨ ¬ (rd_T79 X (p - (i - 1))).f2 < (rd_T79 X (i - 1)).f2) → (j = j0 ∨ (rd_T79 X (p - j)).f2 < (rd_T79 X j).f2) → Ev (fun k => slices_symMergeCmpFunc_Edge.l4 k X a m b z mid n i j p) R := by
 have hrd : ∀ c : Int, 0 ≤ c → c < X.length → 0 ≤ (rd_T79 X c).f2 ∧ (rd_T79 X c).f2 ≤ 1000 := by
  intro c h0 h1
  refine hok _ ?_
  unfold rd_T79
  rw [List.getD_eq_getElem?_getD, List.getElem?_eq_getElem (by omega)]
  exact List.getElem_mem _
 intro d
 induction d with
 | zero =>
  intro i j hd hi hij hj2 hl hr
  have e : i = j := by omega
  subst e
  refine Ev.succ ?_
  simp only [slices_symMergeCmpFunc_Edge.l4, Int.lt_irrefl, if_false]
  exact hR i hi hj2 hl hr
 | succ d ih =>
  intro i j hd hi hij hj2 hl hr
  by_cases e : i = j
  ·subst e
   refine Ev.succ ?_
   simp only [slices_symMergeCmpFunc_Edge.l4, Int.lt_irrefl, if_false]
   exact hR i hi hj2 hl hr
  ·have hm := mid_is (i := i) (j := j) (by omega) (by omega) (by omega) (by omega)
   have hpc := hp ((i + j) / 2) (by omega) (by omega)
   have hb := hrd ((i + j) / 2) (by omega) (by omega)
   have hb2 := hrd (p - (i + j) / 2) hpc.1 hpc.2
   refine Ev.succ ?_
   simp only [slices_symMergeCmpFunc_Edge.l4, if_pos (show i < j by omega), hm, wrap_id (show (-9223372036854775808 : Int) ≤ p - (i + j) / 2 by omega) (show p - (i + j) / 2 ≤ 9223372036854775807 by omega), if_pos hpc.1, if_pos hpc.2, if_pos (show 0 ≤ (i + j) / 2 by omega), if_pos (show (i + j) / 2 < (X.length : Int) by omega), cmpE.f, Option.bind_some, wrap_id (show (-9223372036854775808 : Int) ≤ (rd_T79 X (p - (i + j) / 2)).f2 - (rd_T79 X ((i + j) / 2)).f2 by omega) (show (rd_T79 X (p - (i + j) / 2)).f2 - (rd_T79 X ((i + j) / 2)).f2 ≤ 9223372036854775807 by omega)]
   by_cases hc : (rd_T79 X (p - (i + j) / 2)).f2 < (rd_T79 X ((i + j) / 2)).f2
   ·simp only [if_pos (show (rd_T79 X (p - (i + j) / 2)).f2 - (rd_T79 X ((i + j) / 2)).f2 < 0 by omega)]
    exact ih _ _ (by omega) hi (by omega) (by omega) hl (Or.inr hc)
   ·simp only [if_neg (show ¬ (rd_T79 X (p - (i + j) / 2)).f2 - (rd_T79 X ((i + j) / 2)).f2 < 0 by omega), wrap_id (show (-9223372036854775808 : Int) ≤ (i + j) / 2 + 1 by omega) (show (i + j) / 2 + 1 ≤ 9223372036854775807 by omega)]
    exact ih _ _ (by omega) (by omega) (by omega) hj2 (Or.inr (by rw [show (i + j) / 2 + 1 - 1 = (i + j) / 2 by omega]; exact hc)) hr
-- the three ways to merge
theorem rd_first (P L S : List Ed) (s : Nat) (hs : s < L.length) (i : Int) (hi : i = P.length + s) {u : Ed} {r : List Ed} (h : L.drop s = u :: r) : rd_T79 (P ++ L ++ S) i = u := by
 have e : L = L.take s ++ u :: r := by rw [← h, List.take_append_drop]
 have hl : (L.take s).length = s := by rw [List.length_take]; omega
 rw [e, show P ++ (L.take s ++ u :: r) ++ S = (P ++ L.take s) ++ u :: (r ++ S) by simp]
 exact rdE_mid _ _ _ _ (by rw [List.length_append, hl]; omega)
theorem rd_before (P L S : List Ed) (s : Nat) (hs : s ≤ L.length) (i : Int) (hi : i = P.length + s - 1) {p : List Ed} {u : Ed} (h : L.take s = p ++ [u]) : rd_T79 (P ++ L ++ S) i = u := by
 have e : L = p ++ [u] ++ L.drop s := by rw [← h, List.take_append_drop]
 have hl : p.length + 1 = s := by have := congrArg List.length h; rw [List.length_take, List.length_append, List.length_singleton] at this; omega
 rw [e, show P ++ (p ++ [u] ++ L.drop s) ++ S = (P ++ p) ++ u :: (L.drop s ++ S) by simp]
 exact rdE_mid _ _ _ _ (by rw [List.length_append]; omega)
theorem merge_one (P B S : List Ed) (x : Ed) (hB : Srt B) (hok : okK (P ++ (x :: B) ++ S)) (hl : (P ++ (x :: B) ++ S).length ≤ 1000) :
  ∃ R, Ev (fun k => slices_symMergeCmpFunc_Edge.l0 k (P ++ (x :: B) ++ S) P.length (P.length + 1) (P.length + 1 + B.length)) (P ++ R ++ S) ∧ Srt R ∧ Stab (x :: B) R := by
 have hlen : ((P ++ (x :: B) ++ S).length : Int) = P.length + B.length + S.length + 1 := by simp; omega
 have hl' : P.length + B.length + S.length + 1 ≤ 1000 := by omega
 have hra : rd_T79 (P ++ (x :: B) ++ S) P.length = x := rd_first P (x :: B) S 0 (by simp) P.length (by simp) (u := x) (r := B) rfl
 -- what the search finds is the same for each run: the stretch below x
 refine ⟨(B.filter fun y => decide (y.f2 < x.f2)) ++ x :: (B.filter fun y => decide (¬ y.f2 < x.f2)), ?_, ?_, ?_⟩
 ·refine bs0 (P ++ (x :: B) ++ S) P.length (P.length + 1) (P.length + 1 + B.length) hok hl (by omega) (by rw [hlen]; omega) (by omega) (by rw [hlen]; omega) _ ?_ (B.length) _ _ (by omega) (by omega) (by omega) (by omega) (Or.inl rfl) (Or.inl rfl)
  intro s hs0 hs1 hlo hhi
  obtain ⟨t, rfl⟩ : ∃ t : Nat, s = P.length + 1 + t := ⟨(s - P.length - 1).toNat, by omega⟩
  have ht : t ≤ B.length := by omega
  have e1 : P ++ (x :: B) ++ S = (P ++ [x]) ++ B ++ S := by simp
  have hbelow : ∀ y ∈ B.take t, y.f2 < x.f2 := by
   by_cases h0 : t = 0
   ·subst h0; simp
   ·obtain ⟨p, u, e, hp⟩ := cut_before B t (by omega) ht
    have hu := rd_before (P ++ [x]) B S t ht (P.length + 1 + t - 1) (by simp) e
    rw [← e1] at hu
    rw [hu, hra] at hlo
    have hlt : u.f2 < x.f2 := hlo.resolve_left (by omega)
    have hst : Srt (B.take t ++ B.drop t) := by rw [List.take_append_drop]; exact hB
    have hs2 := (Srt_app.1 hst).1
    rw [e] at hs2 ⊢
    intro y hy
    have := last_le hs2 y hy
    omega
  have habove : ∀ y ∈ B.drop t, ¬ y.f2 < x.f2 := by
   by_cases h0 : t = B.length
   ·subst h0; simp
   ·obtain ⟨u, r, e, _⟩ := cut_at B t (by omega)
    have hu := rd_first (P ++ [x]) B S t (by omega) (P.length + 1 + t) (by simp) e
    rw [← e1] at hu
    rw [hu, hra] at hhi
    have hnl : ¬ u.f2 < x.f2 := hhi.resolve_left (by omega)
    have hst : Srt (B.take t ++ B.drop t) := by rw [List.take_append_drop]; exact hB
    have hs2 := (Srt_app.1 hst).2.1
    rw [e] at hs2 ⊢
    intro y hy
    have := head_le hs2 y hy
    omega
  have fa : (B.take t).filter (fun y => decide (y.f2 < x.f2)) = B.take t := List.filter_eq_self.2 (fun y hy => decide_eq_true (hbelow y hy))
  have fb : (B.drop t).filter (fun y => decide (y.f2 < x.f2)) = [] := List.filter_eq_nil_iff.2 (fun y hy => by simpa using habove y hy)
  have fc : (B.take t).filter (fun y => decide (¬ y.f2 < x.f2)) = [] := List.filter_eq_nil_iff.2 (fun y hy => by simpa using hbelow y hy)
  have fd : (B.drop t).filter (fun y => decide (¬ y.f2 < x.f2)) = B.drop t := List.filter_eq_self.2 (fun y hy => decide_eq_true (habove y hy))
  have f1 : (B.filter fun y => decide (y.f2 < x.f2)) = B.take t := by
   conv => lhs; rw [← List.take_append_drop t B, List.filter_append, fa, fb, List.append_nil]
  have f2 : (B.filter fun y => decide (¬ y.f2 < x.f2)) = B.drop t := by
   conv => lhs; rw [← List.take_append_drop t B, List.filter_append, fc, fd, List.nil_append]
  rw [f1, f2]
  have := up_l x (B.take t) P (B.drop t ++ S) (P.length + 1 + t) P.length (by rw [show P ++ x :: B.take t ++ (B.drop t ++ S) = P ++ x :: (B.take t ++ B.drop t) ++ S by simp only [List.append_assoc, List.cons_append], List.take_append_drop]; simpa using hl) rfl (by rw [List.length_take]; omega)
  rw [show P ++ x :: B.take t ++ (B.drop t ++ S) = P ++ x :: (B.take t ++ B.drop t) ++ S by simp only [List.append_assoc, List.cons_append], List.take_append_drop] at this
  rw [show P ++ (B.take t ++ x :: B.drop t) ++ S = P ++ B.take t ++ x :: (B.drop t ++ S) by simp]
  exact this
 ·refine Srt_app.2 ⟨List.Pairwise.filter _ hB, ?_, ?_⟩
  ·refine List.pairwise_cons.2 ⟨fun y hy => ?_, List.Pairwise.filter _ hB⟩
   have := of_decide_eq_true (List.mem_filter.1 hy).2
   omega
  ·intro y hy z hz
   have h1 := of_decide_eq_true (List.mem_filter.1 hy).2
   rcases List.mem_cons.1 hz with e | hz
   ·rw [e]; omega
   ·have := of_decide_eq_true (List.mem_filter.1 hz).2
    omega
 ·have hpart : Stab B ((B.filter fun y => decide (y.f2 < x.f2)) ++ B.filter fun y => decide (¬ y.f2 < x.f2)) := by
   refine ⟨?_, fun c => ?_⟩
   ·rw [List.length_append, ← List.countP_eq_length_filter, ← List.countP_eq_length_filter]
    have := List.length_eq_countP_add_countP (fun y : Ed => decide (y.f2 < x.f2)) (l := B)
    simp only [decide_not] at this ⊢
    rw [this]
    congr 2
    funext y
    simp
   ·rw [ofK_app]
    unfold ofK
    rw [List.filter_filter, List.filter_filter]
    by_cases hc : c < x.f2
    ·rw [show (B.filter fun y => decide (y.f2 = c) && decide (¬ y.f2 < x.f2)) = [] from List.filter_eq_nil_iff.2 (fun y _ => by simp; omega), List.append_nil]
     refine List.filter_congr fun y _ => ?_
     by_cases h : y.f2 = c <;> simp [h]; omega
    ·rw [show (B.filter fun y => decide (y.f2 = c) && decide (y.f2 < x.f2)) = [] from List.filter_eq_nil_iff.2 (fun y _ => by simp; omega), List.nil_append]
     refine List.filter_congr fun y _ => ?_
     by_cases h : y.f2 = c <;> simp [h]; omega
  have h1 : Stab ([x] ++ B) ([x] ++ ((B.filter fun y => decide (y.f2 < x.f2)) ++ B.filter fun y => decide (¬ y.f2 < x.f2))) := (Stab.refl [x]).app hpart
  have h2 : Stab ([x] ++ B.filter fun y => decide (y.f2 < x.f2)) ((B.filter fun y => decide (y.f2 < x.f2)) ++ [x]) := Stab.swap (fun a ha b hb => by
   rw [List.mem_singleton] at ha
   rw [ha]
   exact of_decide_eq_true (List.mem_filter.1 hb).2)
  have h3 := h2.app (Stab.refl (B.filter fun y => decide (¬ y.f2 < x.f2)))
  rw [← List.append_assoc] at h1
  have h4 := h1.trans h3
  simpa using h4
theorem srt_uniq : ∀ (r s : List Ed), Srt r → Srt s → (∀ c, ofK c r = ofK c s) → r = s
 | [], [], _, _, _ => rfl
 | [], y :: s, _, _, h => by
  have := h y.f2
  simp [ofK, List.filter_cons] at this
 | x :: r, [], _, _, h => by
  have := h x.f2
  simp [ofK, List.filter_cons] at this
 | x :: r, y :: s, hr, hs, h => by
  have hx : x ∈ ofK x.f2 (y :: s) := by rw [← h]; exact List.mem_filter.2 ⟨by simp, by simp⟩
  have hy : y ∈ ofK y.f2 (x :: r) := by rw [h]; exact List.mem_filter.2 ⟨by simp, by simp⟩
  have h1 := head_le hs x (List.mem_filter.1 hx).1
  have h2 := head_le hr y (List.mem_filter.1 hy).1
  have hk : y.f2 = x.f2 := by omega
  have hc := h x.f2
  unfold ofK at hc
  rw [List.filter_cons_of_pos (by simp), List.filter_cons_of_pos (by simp [hk])] at hc
  obtain ⟨exy, hc2⟩ := List.cons.inj hc
  subst exy
  have ht : ∀ c, ofK c r = ofK c s := by
   intro c
   by_cases e : x.f2 = c
   ·rw [← e]; exact hc2
   ·have := h c
    unfold ofK at this ⊢
    rwa [List.filter_cons_of_neg (by simpa using e), List.filter_cons_of_neg (by simpa using e)] at this
  rw [srt_uniq r s (List.pairwise_cons.1 hr).2 (List.pairwise_cons.1 hs).2 ht]
theorem ins_uniq {l r : List Ed} (h : Srt r) (k : Stab l r) : r = insS l := srt_uniq _ _ h (insS_srt l) (fun c => (k.2 c).trans ((insS_stab l).2 c).symm)
theorem part_stab (B : List Ed) (k : Int) : Stab B ((B.filter fun y => decide (y.f2 < k)) ++ B.filter fun y => decide (¬ y.f2 < k)) := by
 refine ⟨?_, fun c => ?_⟩
 ·rw [List.length_append, ← List.countP_eq_length_filter, ← List.countP_eq_length_filter]
  have := List.length_eq_countP_add_countP (fun y : Ed => decide (y.f2 < k)) (l := B)
  simp only [decide_not] at this ⊢
  rw [this]
  congr 2
  funext y
  simp
 ·rw [ofK_app]
  unfold ofK
  rw [List.filter_filter, List.filter_filter]
  by_cases hc : c < k
  ·rw [show (B.filter fun y => decide (y.f2 = c) && decide (¬ y.f2 < k)) = [] from List.filter_eq_nil_iff.2 (fun y _ => by simp; omega), List.append_nil]
   refine List.filter_congr fun y _ => ?_
   by_cases h : y.f2 = c <;> simp [h]; omega
  ·rw [show (B.filter fun y => decide (y.f2 = c) && decide (y.f2 < k)) = [] from List.filter_eq_nil_iff.2 (fun y _ => by simp; omega), List.nil_append]
   refine List.filter_congr fun y _ => ?_
   by_cases h : y.f2 = c <;> simp [h]; omega
theorem merge_last (P A S : List Ed) (x : Ed) (hA : Srt A) (hok : okK (P ++ A ++ x :: S)) (hl : (P ++ A ++ x :: S).length ≤ 1000) :
  Ev (fun k => slices_symMergeCmpFunc_Edge.l2 k (P ++ A ++ x :: S) (P.length + A.length) P.length (P.length + A.length)) (P ++ insS (A ++ [x]) ++ S) := by
 have hlen : ((P ++ A ++ x :: S).length : Int) = P.length + A.length + S.length + 1 := by simp; omega
 have hl' : P.length + A.length + S.length + 1 ≤ 1000 := by omega
 have hrm : rd_T79 (P ++ A ++ x :: S) (P.length + A.length) = x := rdE_mid (P ++ A) x S _ (by rw [List.length_append]; omega)
 have hun : (A.filter fun y => decide (y.f2 < x.f2 + 1)) ++ x :: (A.filter fun y => decide (¬ y.f2 < x.f2 + 1)) = insS (A ++ [x]) := by
  refine ins_uniq ?_ ?_
  ·refine Srt_app.2 ⟨List.Pairwise.filter _ hA, ?_, ?_⟩
   ·refine List.pairwise_cons.2 ⟨fun y hy => ?_, List.Pairwise.filter _ hA⟩
    have := of_decide_eq_true (List.mem_filter.1 hy).2
    omega
   ·intro y hy z hz
    have h1 := of_decide_eq_true (List.mem_filter.1 hy).2
    rcases List.mem_cons.1 hz with e | hz
    ·rw [e]; omega
    ·have := of_decide_eq_true (List.mem_filter.1 hz).2
     omega
  ·have h1 := (part_stab A (x.f2 + 1)).app (Stab.refl [x])
   have h2 : Stab ((A.filter fun y => decide (¬ y.f2 < x.f2 + 1)) ++ [x]) ([x] ++ A.filter fun y => decide (¬ y.f2 < x.f2 + 1)) := Stab.swap (fun a ha b hb => by
    rw [List.mem_singleton] at hb
    have := of_decide_eq_true (List.mem_filter.1 ha).2
    rw [hb]
    omega)
   have h3 := (Stab.refl (A.filter fun y => decide (y.f2 < x.f2 + 1))).app h2
   rw [← List.append_assoc] at h3
   have h4 := h1.trans h3
   simpa using h4
 rw [← hun]
 refine bs2 (P ++ A ++ x :: S) (P.length + A.length) P.length (P.length + A.length) hok hl (by omega) (by rw [hlen]; omega) (by omega) (by rw [hlen]; omega) _ ?_ A.length _ _ (by omega) (by omega) (by omega) (by omega) (Or.inl rfl) (Or.inl rfl)
 intro s hs0 hs1 hlo hhi
 obtain ⟨t, rfl⟩ : ∃ t : Nat, s = P.length + t := ⟨(s - P.length).toNat, by omega⟩
 have ht : t ≤ A.length := by omega
 have hst : Srt (A.take t ++ A.drop t) := by rw [List.take_append_drop]; exact hA
 have hbelow : ∀ y ∈ A.take t, y.f2 < x.f2 + 1 := by
  by_cases h0 : t = 0
  ·subst h0; simp
  ·obtain ⟨p, u, e, hp⟩ := cut_before A t (by omega) ht
   have hu := rd_before P A (x :: S) t ht (P.length + t - 1) rfl e
   rw [hu, hrm] at hlo
   have hlt : ¬ x.f2 < u.f2 := hlo.resolve_left (by omega)
   have hs2 := (Srt_app.1 hst).1
   rw [e] at hs2 ⊢
   intro y hy
   have := last_le hs2 y hy
   omega
 have habove : ∀ y ∈ A.drop t, ¬ y.f2 < x.f2 + 1 := by
  by_cases h0 : t = A.length
  ·subst h0; simp
  ·obtain ⟨u, r, e, _⟩ := cut_at A t (by omega)
   have hu := rd_first P A (x :: S) t (by omega) (P.length + t) rfl e
   rw [hu, hrm] at hhi
   have hnl : x.f2 < u.f2 := hhi.resolve_left (by omega)
   have hs2 := (Srt_app.1 hst).2.1
   rw [e] at hs2 ⊢
   intro y hy
   have := head_le hs2 y hy
   omega
 have fa : (A.take t).filter (fun y => decide (y.f2 < x.f2 + 1)) = A.take t := List.filter_eq_self.2 (fun y hy => decide_eq_true (hbelow y hy))
 have fb : (A.drop t).filter (fun y => decide (y.f2 < x.f2 + 1)) = [] := List.filter_eq_nil_iff.2 (fun y hy => by simpa using habove y hy)
 have fc : (A.take t).filter (fun y => decide (¬ y.f2 < x.f2 + 1)) = [] := List.filter_eq_nil_iff.2 (fun y hy => by simpa using hbelow y hy)
 have fd : (A.drop t).filter (fun y => decide (¬ y.f2 < x.f2 + 1)) = A.drop t := List.filter_eq_self.2 (fun y hy => decide_eq_true (habove y hy))
 have f1 : (A.filter fun y => decide (y.f2 < x.f2 + 1)) = A.take t := by
  conv => lhs; rw [← List.take_append_drop t A, List.filter_append, fa, fb, List.append_nil]
 have f2 : (A.filter fun y => decide (¬ y.f2 < x.f2 + 1)) = A.drop t := by
  conv => lhs; rw [← List.take_append_drop t A, List.filter_append, fc, fd, List.nil_append]
 rw [f1, f2]
 have hX : P ++ A.take t ++ (A.drop t).reverse.reverse ++ x :: S = P ++ A ++ x :: S := by
  rw [List.reverse_reverse, List.append_assoc P, List.take_append_drop]
 have := down_l x (A.drop t).reverse (P ++ A.take t) S (P.length + t) (P.length + A.length) (by rw [hX]; exact hl) (by rw [List.length_append, List.length_take]; omega) (by rw [List.length_append, List.length_take, List.length_reverse, List.length_drop]; omega)
 rw [hX, List.reverse_reverse] at this
 rw [show P ++ (A.take t ++ x :: A.drop t) ++ S = P ++ A.take t ++ x :: A.drop t ++ S by simp only [List.append_assoc, List.cons_append]]
 exact this
theorem merge_one' (P B S : List Ed) (x : Ed) (hB : Srt B) (hok : okK (P ++ (x :: B) ++ S)) (hl : (P ++ (x :: B) ++ S).length ≤ 1000) :
  Ev (fun k => slices_symMergeCmpFunc_Edge.l0 k (P ++ (x :: B) ++ S) P.length (P.length + 1) (P.length + 1 + B.length)) (P ++ insS (x :: B) ++ S) := by
 obtain ⟨R, h, h1, h2⟩ := merge_one P B S x hB hok hl
 rw [← ins_uniq h1 h2]
 exact h
theorem okK_perm {a b : List Ed} (h : okK a) (hs : ∀ x ∈ b, x ∈ a) : okK b := fun x hx => h x (hs x hx)
theorem sym_ev (z : Int) : ∀ (d : Nat) (P A B S : List Ed), A.length + B.length ≤ d → 1 ≤ A.length → 1 ≤ B.length → Srt A → Srt B → okK (P ++ A ++ B ++ S) → (P ++ A ++ B ++ S).length ≤ 1000 →
  Ev (fun k => slices_symMergeCmpFunc_Edge.f k (P ++ A ++ B ++ S) P.length (P.length + A.length) (P.length + A.length + B.length) z) (P ++ insS (A ++ B) ++ S) := by
 intro d
 induction d with
 | zero => intro P A B S h h1 h2; omega
 | succ d ih =>
  intro P A B S h h1 h2 hA hB hok hl
  have hl' : P.length + A.length + B.length + S.length ≤ 1000 := by simp at hl; omega
  have hlen : ((P ++ A ++ B ++ S).length : Int) = P.length + A.length + B.length + S.length := by simp; omega
  have wma : wrap64 ((P.length : Int) + A.length - P.length) = A.length := by rw [wrap_id (by omega) (by omega)]; omega
  have wbm : wrap64 ((P.length : Int) + A.length + B.length - (P.length + A.length)) = B.length := by rw [wrap_id (by omega) (by omega)]; omega
  refine Ev.succ ?_
  by_cases c1 : (A.length : Int) = 1
  ·obtain ⟨x, rfl⟩ : ∃ x, A = [x] := by
    cases A with
    | nil => simp at c1
    | cons x A => cases A with
     | nil => exact ⟨x, rfl⟩
     | cons y A => simp at c1; omega
   have e : P ++ [x] ++ B ++ S = P ++ (x :: B) ++ S := by simp
   have := merge_one' P B S x hB (by rw [← e]; exact hok) (by rw [← e]; exact hl)
   simp only [slices_symMergeCmpFunc_Edge.f, wma, if_pos c1]
   rw [e]
   exact this
  by_cases c2 : (B.length : Int) = 1
  ·obtain ⟨x, rfl⟩ : ∃ x, B = [x] := by
    cases B with
    | nil => simp at c2
    | cons x B => cases B with
     | nil => exact ⟨x, rfl⟩
     | cons y B => simp at c2; omega
   have e : P ++ A ++ [x] ++ S = P ++ A ++ x :: S := by simp
   have := merge_last P A S x hA (by rw [← e]; exact hok) (by rw [← e]; exact hl)
   simp only [slices_symMergeCmpFunc_Edge.f, wma, wbm, if_neg c1, if_pos c2]
   rw [e]
   exact this
  have hmid := mid_is (i := P.length) (j := (P.length : Int) + A.length + B.length) (by omega) (by omega) (by omega) (by omega)
  obtain ⟨mid, hmd⟩ : ∃ mid : Int, mid = ((P.length : Int) + ((P.length : Int) + A.length + B.length)) / 2 := ⟨_, rfl⟩
  rw [← hmd] at hmid
  have wn : wrap64 (mid + (P.length + A.length)) = mid + (P.length + A.length) := wrap_id (by omega) (by omega)
  -- where the cut may lie
  have key : ∀ lo hi : Int, lo ≤ hi → (P.length : Int) ≤ lo → hi ≤ P.length + A.length → hi ≤ mid → mid + (P.length + A.length) - (P.length + A.length + B.length) ≤ lo →
    (lo = P.length ∨ lo = mid + (P.length + A.length) - (P.length + A.length + B.length)) → (hi = P.length + A.length ∨ hi = mid) →
    Ev (fun k => slices_symMergeCmpFunc_Edge.j4 k (P ++ A ++ B ++ S) P.length (P.length + A.length) (P.length + A.length + B.length) z mid (mid + (P.length + A.length)) lo hi) (P ++ insS (A ++ B) ++ S) := by
   intro lo hi hlh hlo1 hhi1 hhi2 hlo2 hloC hhiC
   refine Ev.succ ?_
   simp only [slices_symMergeCmpFunc_Edge.j4, wrap_id (show (-9223372036854775808 : Int) ≤ mid + (P.length + A.length) - 1 by omega) (show mid + (P.length + A.length) - 1 ≤ 9223372036854775807 by omega)]
   refine bs4 (P ++ A ++ B ++ S) P.length (P.length + A.length) (P.length + A.length + B.length) z mid (mid + (P.length + A.length)) (mid + (P.length + A.length) - 1) lo hi hok hl (by omega) (by rw [hlen]; omega) (fun c h0 h1 => by rw [hlen]; omega) (by omega) _ ?_ (hi - lo).toNat lo hi (by omega) (by omega) hlh (by omega) (Or.inl rfl) (Or.inl rfl)
   intro s hs0 hs1 hlo hhi
   obtain ⟨t, rfl⟩ : ∃ t : Nat, s = P.length + t := ⟨(s - P.length).toNat, by omega⟩
   obtain ⟨u, hu⟩ : ∃ u : Nat, mid + (P.length + A.length) - (P.length + t) = P.length + A.length + u := ⟨(mid - P.length - t).toNat, by omega⟩
   have ht : t ≤ A.length := by omega
   have hub : u ≤ B.length := by omega
   have hsA : Srt (A.take t ++ A.drop t) := by rw [List.take_append_drop]; exact hA
   have hsB : Srt (B.take u ++ B.drop u) := by rw [List.take_append_drop]; exact hB
   have eX : P ++ A ++ B ++ S = P ++ A ++ (B ++ S) := by simp
   have eX2 : P ++ A ++ B ++ S = (P ++ A) ++ B ++ S := rfl
   have h12 : ∀ x ∈ A.drop t, ∀ y ∈ B.take u, y.f2 < x.f2 := by
    by_cases e1 : t = A.length
    ·subst e1; simp
    by_cases e2 : u = 0
    ·subst e2; simp
    have hne : ¬ ((P.length : Int) + t = hi) := by omega
    have hk := hhi.resolve_left hne
    obtain ⟨v, r, ev, _⟩ := cut_at A t (by omega)
    obtain ⟨p, w, ew, _⟩ := cut_before B u (by omega) hub
    rw [eX, rd_first P A (B ++ S) t (by omega) (P.length + t) rfl ev, ← eX, rd_before (P ++ A) B S u hub (mid + (P.length + A.length) - 1 - (P.length + t)) (by rw [List.length_append]; omega) ew] at hk
    have h1 := (Srt_app.1 hsA).2.1
    have h2 := (Srt_app.1 hsB).1
    rw [ev] at h1 ⊢
    rw [ew] at h2 ⊢
    intro x hx y hy
    have := head_le h1 x hx
    have := last_le h2 y hy
    omega
   have h21 : ∀ x ∈ A.take t, ∀ y ∈ B.drop u, x.f2 ≤ y.f2 := by
    by_cases e1 : t = 0
    ·subst e1; simp
    by_cases e2 : u = B.length
    ·subst e2; simp
    have hne : ¬ ((P.length : Int) + t = lo) := by omega
    have hk := hlo.resolve_left hne
    obtain ⟨v, r, ev, _⟩ := cut_at B u (by omega)
    obtain ⟨p, w, ew, _⟩ := cut_before A t (by omega) ht
    rw [eX, rd_before P A (B ++ S) t ht (P.length + t - 1) rfl ew, ← eX, rd_first (P ++ A) B S u (by omega) (mid + (P.length + A.length) - 1 - (P.length + t - 1)) (by rw [List.length_append]; omega) ev] at hk
    have h1 := (Srt_app.1 hsB).2.1
    have h2 := (Srt_app.1 hsA).1
    rw [ev] at h1 ⊢
    rw [ew] at h2 ⊢
    intro x hx y hy
    have := head_le h1 y hy
    have := last_le h2 x hx
    omega
   have l1 : (A.take t).length = t := by rw [List.length_take]; omega
   have l2 : (A.drop t).length = A.length - t := List.length_drop ..
   have l3 : (B.take u).length = u := by rw [List.length_take]; omega
   have l4 : (B.drop u).length = B.length - u := List.length_drop ..
   have eA : A = A.take t ++ A.drop t := (List.take_append_drop _ _).symm
   have eB : B = B.take u ++ B.drop u := (List.take_append_drop _ _).symm
   have hsA1 := (Srt_app.1 hsA).1
   have hsA2 := (Srt_app.1 hsA).2.1
   have hA12 := (Srt_app.1 hsA).2.2
   have hsB1 := (Srt_app.1 hsB).1
   have hsB2 := (Srt_app.1 hsB).2.1
   have hB12 := (Srt_app.1 hsB).2.2
   have hnA : A.length = t + (A.length - t) := by omega
   have hnB : B.length = u + (B.length - u) := by omega
   generalize hA1 : A.take t = A1 at *
   generalize hA2 : A.drop t = A2 at *
   generalize hB1 : B.take u = B1 at *
   generalize hB2 : B.drop u = B2 at *
   clear hA1 hA2 hB1 hB2 hsA hsB hlo hhi
   -- the list behind the rotation
   have hX' : okK (P ++ A1 ++ B1 ++ (A2 ++ B2 ++ S)) := by
    refine okK_perm hok fun x hx => ?_
    rw [eA, eB]
    simp only [List.mem_append] at hx ⊢
    rcases hx with ((hx | hx) | hx) | (hx | hx) | hx
    ·exact Or.inl (Or.inl (Or.inl hx))
    ·exact Or.inl (Or.inl (Or.inr (Or.inl hx)))
    ·exact Or.inl (Or.inr (Or.inl hx))
    ·exact Or.inl (Or.inl (Or.inr (Or.inr hx)))
    ·exact Or.inl (Or.inr (Or.inr hx))
    ·exact Or.inr hx
   have hXl : (P ++ A1 ++ B1 ++ (A2 ++ B2 ++ S)).length ≤ 1000 := by simp only [List.length_append]; omega
   have hst1 := insS_stab (A1 ++ B1)
   have hst2 := insS_stab (A2 ++ B2)
   have hYok : okK (P ++ insS (A1 ++ B1) ++ A2 ++ B2 ++ S) := by
    refine okK_perm hX' fun x hx => ?_
    simp only [List.mem_append] at hx ⊢
    rcases hx with (((hx | hx) | hx) | hx) | hx
    ·exact Or.inl (Or.inl (Or.inl hx))
    ·rcases List.mem_append.1 (hst1.mem hx) with hx | hx
     ·exact Or.inl (Or.inl (Or.inr hx))
     ·exact Or.inl (Or.inr hx)
    ·exact Or.inr (Or.inl (Or.inl hx))
    ·exact Or.inr (Or.inl (Or.inr hx))
    ·exact Or.inr (Or.inr hx)
   have hil : (insS (A1 ++ B1)).length = t + u := by rw [hst1.1, List.length_append, l1, l3]
   have hYl : (P ++ insS (A1 ++ B1) ++ A2 ++ B2 ++ S).length ≤ 1000 := by simp only [List.length_append]; omega
   have hfin : insS (A1 ++ B1) ++ insS (A2 ++ B2) = insS (A ++ B) := by
    refine ins_uniq (Srt_app.2 ⟨insS_srt _, insS_srt _, fun x hx y hy => ?_⟩) ?_
    ·rcases List.mem_append.1 (hst1.mem hx) with hx | hx <;> rcases List.mem_append.1 (hst2.mem hy) with hy | hy
     ·exact hA12 x hx y hy
     ·exact h21 x hx y hy
     ·have := h12 y hy x hx; omega
     ·exact hB12 x hx y hy
    ·have s1 : Stab (A2 ++ B1) (B1 ++ A2) := Stab.swap h12
     have s2 := ((Stab.refl A1).app s1).app (Stab.refl B2)
     have s3 := s2.trans (by
      have := hst1.app hst2
      rw [show A1 ++ (B1 ++ A2) ++ B2 = A1 ++ B1 ++ (A2 ++ B2) by simp]
      exact this)
     rw [eA, eB, show A1 ++ A2 ++ (B1 ++ B2) = A1 ++ (A2 ++ B1) ++ B2 by simp]
     exact s3
   have hm2 : mid = P.length + t + u := by omega
   -- the second recursion
   have tail2 : Ev (fun k => if mid < (P.length : Int) + A.length + u then (if (P.length : Int) + A.length + u < (P.length : Int) + A.length + B.length then ((slices_symMergeCmpFunc_Edge.f k (P ++ insS (A1 ++ B1) ++ A2 ++ B2 ++ S) mid ((P.length : Int) + A.length + u) ((P.length : Int) + A.length + B.length) z).bind fun t733 => (some t733)) else (some (P ++ insS (A1 ++ B1) ++ A2 ++ B2 ++ S))) else (some (P ++ insS (A1 ++ B1) ++ A2 ++ B2 ++ S))) (P ++ insS (A ++ B) ++ S) := by
    by_cases e1 : mid < (P.length : Int) + A.length + u
    ·simp only [if_pos e1]
     by_cases e2 : (P.length : Int) + A.length + u < (P.length : Int) + A.length + B.length
     ·simp only [if_pos e2]
      have := ih (P ++ insS (A1 ++ B1)) A2 B2 S (by omega) (by omega) (by omega) hsA2 hsB2 hYok hYl
      rw [List.length_append, hil, show (((P.length + (t + u) : Nat) : Int)) = mid by omega, show mid + (A2.length : Int) = (P.length : Int) + A.length + u by omega, show (P.length : Int) + A.length + u + (B2.length : Int) = (P.length : Int) + A.length + B.length by omega, show P ++ insS (A1 ++ B1) ++ insS (A2 ++ B2) ++ S = P ++ insS (A ++ B) ++ S by rw [← hfin]; simp] at this
      exact Ev.bind this (Ev.now _)
     ·simp only [if_neg e2]
      have hB2 : B2 = [] := List.eq_nil_of_length_eq_zero (by omega)
      refine Ev.some_ ?_
      rw [← hfin, ← ins_uniq (l := A2 ++ B2) (r := A2 ++ B2) (by rw [hB2, List.append_nil]; exact hsA2) (Stab.refl _)]
      simp
    ·simp only [if_neg e1]
     have hA2 : A2 = [] := List.eq_nil_of_length_eq_zero (by omega)
     refine Ev.some_ ?_
     rw [← hfin, ← ins_uniq (l := A2 ++ B2) (r := A2 ++ B2) (by rw [hA2, List.nil_append]; exact hsB2) (Stab.refl _)]
     simp
   -- the first
   have hj7 : Ev (fun k => slices_symMergeCmpFunc_Edge.j7 k (P ++ A1 ++ B1 ++ (A2 ++ B2 ++ S)) P.length (P.length + A.length + B.length) z mid (P.length + t) ((P.length : Int) + A.length + u)) (P ++ insS (A ++ B) ++ S) := by
    have same : A1 = [] ∨ B1 = [] → P ++ A1 ++ B1 ++ (A2 ++ B2 ++ S) = P ++ insS (A1 ++ B1) ++ A2 ++ B2 ++ S := by
     intro hc
     rw [← ins_uniq (l := A1 ++ B1) (r := A1 ++ B1) ?_ (Stab.refl _)]
     ·simp
     ·rcases hc with e | e
      ·rw [e, List.nil_append]; exact hsB1
      ·rw [e, List.append_nil]; exact hsA1
    have hno : A1 = [] ∨ B1 = [] → Ev (fun k => slices_symMergeCmpFunc_Edge.j8 k (P ++ A1 ++ B1 ++ (A2 ++ B2 ++ S)) P.length (P.length + A.length + B.length) z mid (P.length + t) ((P.length : Int) + A.length + u) false) (P ++ insS (A ++ B) ++ S) := by
     intro hc
     rw [same hc]
     refine Ev.succ ?_
     simp only [slices_symMergeCmpFunc_Edge.j8, Bool.false_eq_true, if_false]
     exact tail2
    refine Ev.succ ?_
    by_cases e1 : (P.length : Int) < P.length + t
    ·simp only [slices_symMergeCmpFunc_Edge.j7, if_pos e1]
     by_cases e2 : (P.length : Int) + t < mid
     ·rw [decide_eq_true e2]
      refine Ev.succ ?_
      simp only [slices_symMergeCmpFunc_Edge.j8, if_true]
      have := ih P A1 B1 (A2 ++ B2 ++ S) (by omega) (by omega) (by omega) hsA1 hsB1 hX' hXl
      rw [l1, l3, show (P.length : Int) + t + u = mid by omega] at this
      refine Ev.bind this ?_
      rw [show P ++ insS (A1 ++ B1) ++ (A2 ++ B2 ++ S) = P ++ insS (A1 ++ B1) ++ A2 ++ B2 ++ S by simp]
      exact tail2
     ·rw [decide_eq_false e2]
      exact hno (Or.inr (List.eq_nil_of_length_eq_zero (by omega)))
    ·simp only [slices_symMergeCmpFunc_Edge.j7, if_neg e1]
     exact hno (Or.inl (List.eq_nil_of_length_eq_zero (by omega)))
   have we : wrap64 (mid + (P.length + A.length) - (P.length + t)) = (P.length : Int) + A.length + u := by rw [wrap_id (by omega) (by omega)]; omega
   have eXs : P ++ A ++ B ++ S = (P ++ A1) ++ A2 ++ B1 ++ (B2 ++ S) := by rw [eA, eB]; simp
   have hsame : A2 = [] ∨ B1 = [] → P ++ A ++ B ++ S = P ++ A1 ++ B1 ++ (A2 ++ B2 ++ S) := by
    intro hc
    rw [eXs]
    rcases hc with e | e <;> rw [e] <;> simp
   have hj6 : A2 = [] ∨ B1 = [] → Ev (fun k => slices_symMergeCmpFunc_Edge.j6 k (P ++ A ++ B ++ S) P.length (P.length + A.length) (P.length + A.length + B.length) z mid (P.length + t) ((P.length : Int) + A.length + u) false) (P ++ insS (A ++ B) ++ S) := by
    intro hc
    rw [hsame hc]
    refine Ev.succ ?_
    simp only [slices_symMergeCmpFunc_Edge.j6, Bool.false_eq_true, if_false]
    exact hj7
   simp only [we]
   by_cases e1 : (P.length : Int) + t < P.length + A.length
   ·simp only [if_pos e1]
    by_cases e2 : (P.length : Int) + A.length < P.length + A.length + u
    ·rw [decide_eq_true e2]
     refine Ev.succ ?_
     simp only [slices_symMergeCmpFunc_Edge.j6, if_true]
     have := rot_ev (P ++ A1) A2 B1 (B2 ++ S) (by omega) (by omega) (by rw [← eXs]; exact hl) (P.length + t) (P.length + A.length) ((P.length : Int) + A.length + u) z (by rw [List.length_append]; omega) (by rw [List.length_append]; omega) (by rw [List.length_append]; omega)
     rw [← eXs, show P ++ A1 ++ B1 ++ A2 ++ (B2 ++ S) = P ++ A1 ++ B1 ++ (A2 ++ B2 ++ S) by simp] at this
     exact Ev.bind this hj7
    ·rw [decide_eq_false e2]
     exact hj6 (Or.inr (List.eq_nil_of_length_eq_zero (by omega)))
   ·simp only [if_neg e1]
    exact hj6 (Or.inl (List.eq_nil_of_length_eq_zero (by omega)))
  simp only [slices_symMergeCmpFunc_Edge.f, wma, wbm, if_neg c1, if_neg c2, hmid, wn]
  by_cases hg : (P.length : Int) + A.length > mid
  ·simp only [if_pos hg, wrap_id (show (-9223372036854775808 : Int) ≤ mid + (P.length + A.length) - (P.length + A.length + B.length) by omega) (show mid + (P.length + A.length) - (P.length + A.length + B.length) ≤ 9223372036854775807 by omega)]
   exact key _ _ (by omega) (by omega) (by omega) (by omega) (by omega) (Or.inr rfl) (Or.inr rfl)
  ·simp only [if_neg hg]
   exact key _ _ (by omega) (by omega) (by omega) (by omega) (by omega) (Or.inl rfl) (Or.inl rfl)
-- the whole sort
theorem stable_ev (l : List Ed) (hok : okK l) (hl : l.length ≤ 40) (z : Int) : Ev (fun k => slices_stableCmpFunc_Edge.f k l l.length z) (insS l) := by
 unfold slices_stableCmpFunc_Edge.f
 have done : ∀ (X : List Ed) (n b : Int), ¬ b < n → Ev (fun k => slices_stableCmpFunc_Edge.l1 k X n z b) X := by
  intro X n b h
  refine Ev.succ ?_
  simp only [slices_stableCmpFunc_Edge.l1, if_neg h]
  exact Ev.now _
 by_cases h20 : (20 : Int) ≤ l.length
 ·have eL : l = l.take 20 ++ l.drop 20 := (List.take_append_drop _ _).symm
  have l1 : (l.take 20).length = 20 := by rw [List.length_take]; omega
  have l2 : (l.drop 20).length = l.length - 20 := List.length_drop ..
  generalize l.take 20 = L1 at eL l1
  generalize l.drop 20 = L2 at eL l2
  subst eL
  have hnl : (L1 ++ L2).length = 20 + L2.length := by rw [List.length_append, l1]
  rw [hnl] at h20 hl ⊢
  have st1 := insS_stab L1
  have st2 := insS_stab L2
  have hok1 : okK (insS L1 ++ L2) := (st1.app (Stab.refl L2)).ok hok
  have hok2 : okK (insS L1 ++ insS L2) := (st1.app st2).ok hok
  have hi1 : (insS L1).length = 20 := by rw [st1.1, l1]
  have hi2 : (insS L2).length = L2.length := st2.1
  have hfin : insS (insS L1 ++ insS L2) = insS (L1 ++ L2) := ins_uniq (insS_srt _) ((st1.app st2).trans (insS_stab _))
  have i1 := ins_ev [] L1 L2 (by simpa using hok) (by simp; omega) z
  rw [List.length_nil, l1] at i1
  have i2 := ins_ev (insS L1) L2 [] (by simpa using hok1) (by simp; omega) z
  rw [hi1, List.append_nil, List.append_nil] at i2
  -- behind both
  have hl1 : Ev (fun k => slices_stableCmpFunc_Edge.l1 k (insS L1 ++ insS L2) ((20 + L2.length : Nat) : Int) z 20) (insS (L1 ++ L2)) := by
   by_cases hz : L2.length = 0
   ·have : L2 = [] := List.eq_nil_of_length_eq_zero hz
    subst this
    have := done (insS L1 ++ insS []) ((20 + ([] : List Ed).length : Nat) : Int) 20 (by simp)
    rw [show insS L1 ++ insS [] = insS (L1 ++ []) by simp [insS]] at this ⊢
    exact this
   ·have hs := sym_ev z 40 [] (insS L1) (insS L2) [] (by omega) (by omega) (by omega) (insS_srt _) (insS_srt _) (by simpa using hok2) (by simp; omega)
    rw [List.length_nil, hi1, hi2] at hs
    refine Ev.succ ?_
    simp only [slices_stableCmpFunc_Edge.l1, if_pos (show (20 : Int) < ((20 + L2.length : Nat) : Int) by omega), show wrap64 (2 * 20) = 40 by unfold wrap64; omega]
    refine Ev.succ ?_
    by_cases h40 : (40 : Int) ≤ ((20 + L2.length : Nat) : Int)
    ·have h40' : L2.length = 20 := by omega
     simp only [slices_stableCmpFunc_Edge.l2, if_pos h40, show wrap64 (0 + 20) = 20 by unfold wrap64; omega, show wrap64 (2 * 20) = 40 by unfold wrap64; omega, show wrap64 (40 + 40) = 80 by unfold wrap64; omega]
     rw [h40'] at hs ⊢
     refine Ev.bind (a := insS (L1 ++ L2)) (by
      have e : insS (L1 ++ L2) = ([] : List Ed) ++ insS (insS L1 ++ insS L2) ++ [] := by rw [hfin]; simp
      rw [e]
      simpa using hs) ?_
     refine Ev.succ ?_
     simp only [slices_stableCmpFunc_Edge.l2, if_neg (show ¬ (80 : Int) ≤ ((20 + 20 : Nat) : Int) by decide), show wrap64 (40 + 20) = 60 by unfold wrap64; omega, if_neg (show ¬ (60 : Int) < ((20 + 20 : Nat) : Int) by decide), show wrap64 (20 * 2) = 40 by unfold wrap64; omega]
     exact done _ _ _ (by decide)
    ·simp only [slices_stableCmpFunc_Edge.l2, if_neg h40, show wrap64 (0 + 20) = 20 by unfold wrap64; omega, if_pos (show (20 : Int) < ((20 + L2.length : Nat) : Int) by omega), show wrap64 (20 * 2) = 40 by unfold wrap64; omega]
     refine Ev.bind (a := insS (L1 ++ L2)) (by
      have e : insS (L1 ++ L2) = ([] : List Ed) ++ insS (insS L1 ++ insS L2) ++ [] := by rw [hfin]; simp
      rw [e, show ((20 + L2.length : Nat) : Int) = 0 + 20 + L2.length by omega]
      simpa using hs) ?_
     exact done _ _ _ (by omega)
  refine Ev.succ ?_
  simp only [slices_stableCmpFunc_Edge.l0, if_pos h20, show wrap64 (20 + 20) = 40 by unfold wrap64; omega]
  refine Ev.bind (a := insS L1 ++ L2) (by simpa using i1) ?_
  refine Ev.succ ?_
  by_cases h40 : (40 : Int) ≤ ((20 + L2.length : Nat) : Int)
  ·have h40' : L2.length = 20 := by omega
   simp only [slices_stableCmpFunc_Edge.l0, if_pos h40, show wrap64 (40 + 20) = 60 by unfold wrap64; omega]
   refine Ev.bind (a := insS L1 ++ insS L2) (by rw [h40'] at i2; simpa using i2) ?_
   refine Ev.succ ?_
   simp only [slices_stableCmpFunc_Edge.l0, if_neg (show ¬ (60 : Int) ≤ ((20 + L2.length : Nat) : Int) by omega)]
   have i3 := ins_ev (insS L1 ++ insS L2) [] [] (by simpa using hok2) (by simp; omega) z
   rw [show (insS L1 ++ insS L2).length = 40 by rw [List.length_append, hi1, hi2, h40']] at i3
   refine Ev.bind (a := insS L1 ++ insS L2) (by rw [h40']; simpa [insS] using i3) ?_
   exact hl1
  ·simp only [slices_stableCmpFunc_Edge.l0, if_neg h40]
   refine Ev.bind (a := insS L1 ++ insS L2) (by rw [show ((20 + L2.length : Nat) : Int) = 20 + L2.length by omega]; simpa using i2) ?_
   exact hl1
 ·have i1 := ins_ev [] l [] (by simpa using hok) (by simp; omega) z
  refine Ev.succ ?_
  simp only [slices_stableCmpFunc_Edge.l0, if_neg h20]
  refine Ev.bind (a := insS l) (by simpa using i1) ?_
  exact done _ _ _ (by omega)
theorem sortS_ev (l : List Ed) (hok : okK l) (hl : l.length ≤ 40) (z : Int) : Ev (fun k => slices_SortStableFunc_Edge.f k l z) (insS l) := by
 unfold slices_SortStableFunc_Edge.f
 exact Ev.bind (stable_ev l hok hl z) (Ev.now _)
-- sweeps over a list of numbers, and a list taken over, both sides
theorem specIn (a b c : Int) : spec_l1In.f a b c = some (decide (b ≤ a ∧ a ≤ c)) := by
 unfold spec_l1In.f
 by_cases h : a ≥ b
 ·rw [if_pos h]
  congr 1
  by_cases h2 : a ≤ c
  ·rw [decide_eq_true h2, decide_eq_true ⟨h, h2⟩]
  ·rw [decide_eq_false h2, decide_eq_false (fun hc => h2 hc.2)]
 ·rw [if_neg h, decide_eq_false (fun hc => h hc.1)]
theorem implIn (a b c : Int) : impl_in.f a b c = some (decide (b ≤ a ∧ a ≤ c)) := specIn a b c
def isEdge (m : Int) (x : S79) : Bool := decide (0 ≤ x.f0 ∧ x.f0 ≤ m ∧ 0 ≤ x.f1 ∧ x.f1 ≤ m ∧ x.f0 < x.f1 ∧ 1 ≤ x.f2 ∧ x.f2 ≤ 100)
def edgeLt (y x : S79) : Bool := decide (y.f0 < x.f0 ∨ y.f0 = x.f0 ∧ y.f1 < x.f1)
def goodEF (m : Int) : Option S79 → List S79 → Bool
 | _, [] => true
 | none, x :: r => isEdge m x && goodEF m (some x) r
 | some y, x :: r => isEdge m x && (edgeLt y x && goodEF m (some x) r)
def goodE (n : Int) (l : List S79) : Bool := goodEF (wrap64 (n - 1)) none l && (decide (1 ≤ n ∧ n ≤ 12) && decide (l.length ≤ 40))
theorem isEdge_iff (m : Int) (x : S79) : isEdge m x = true ↔ (0 ≤ x.f0 ∧ x.f0 ≤ m ∧ 0 ≤ x.f1 ∧ x.f1 ≤ m ∧ x.f0 < x.f1 ∧ 1 ≤ x.f2 ∧ x.f2 ≤ 100) := by unfold isEdge; simp only [decide_eq_true_eq]
theorem specGoodE_l (n : Int) (suf : List S79) : ∀ (pre : List S79), (pre.length : Int) + suf.length ≤ 1099511627776 →
  Ev (fun k => spec_GoodEdges.l0 k n (pre ++ suf) (pre ++ suf) ((pre ++ suf).length : Int) (pre.length : Int)) (goodEF (wrap64 (n - 1)) pre.getLast? suf && (decide (1 ≤ n ∧ n ≤ 12) && decide ((pre ++ suf).length ≤ 40))) := by
 induction suf with
 | nil =>
  intro pre hb
  refine Ev.succ ?_
  simp only [spec_GoodEdges.l0]
  simp only [if_neg (show ¬ (pre.length : Int) < ((pre ++ ([] : List S79)).length : Int) by simp), specIn, Option.bind_some]
  have : goodEF (wrap64 (n - 1)) pre.getLast? [] = true := by cases pre.getLast? <;> rfl
  rw [this, Bool.true_and]
  by_cases h : 1 ≤ n ∧ n ≤ 12
  ·simp only [h, and_self, decide_true, if_true, Bool.true_and]
   refine Ev.some_ ?_
   congr 1
   simp only [eq_iff_iff]
   omega
  ·simp only [h, decide_false, Bool.false_eq_true, if_false, Bool.false_and]
   exact Ev.now _
 | cons x suf ih =>
  intro pre hb
  simp only [List.length_cons] at hb
  have c1 : (pre.length : Int) < ((pre ++ x :: suf).length : Int) := by simp <;> omega
  have c0 : (0 : Int) ≤ (pre.length : Int) := by omega
  have h := ih (pre ++ [x]) (by simp <;> omega)
  rw [← app_one, len_one, List.getLast?_concat] at h
  refine Ev.succ ?_
  simp only [spec_GoodEdges.l0]
  simp only [if_pos c1, if_pos c0, rdEdge_mid, specIn, Option.bind_some]
  generalize wrap64 (n - 1) = m at h ⊢
  generalize hfin : (decide (1 ≤ n ∧ n ≤ 12) && decide ((pre ++ x :: suf).length ≤ 40)) = fin at h ⊢
  have bad : ∀ (b : Bool), isEdge m x = false → b = true → Ev (fun k => spec_GoodEdges.j1 k n (pre ++ x :: suf) (pre.length : Int) (pre ++ x :: suf) ((pre ++ x :: suf).length : Int) (pre.length : Int) b x.f0 x.f1 x.f2) (goodEF m pre.getLast? (x :: suf) && fin) := by
   intro b he hb
   refine Ev.succ ?_
   simp only [spec_GoodEdges.j1, hb, if_true]
   refine Ev.some_ ?_
   cases pre.getLast? <;> simp [goodEF, he]
  by_cases h1 : 0 ≤ x.f0 ∧ x.f0 ≤ m
  ·simp only [h1, and_self, decide_true, if_true]
   by_cases h2 : 0 ≤ x.f1 ∧ x.f1 ≤ m
   ·simp only [h2, and_self, decide_true, if_true]
    by_cases h3 : x.f0 ≥ x.f1
    ·simp only [if_pos h3]
     refine bad true ?_ rfl
     unfold isEdge; simp only [decide_eq_false_iff_not]; omega
    ·simp only [if_neg h3]
     by_cases h4 : 1 ≤ x.f2 ∧ x.f2 ≤ 100
     ·have he : isEdge m x = true := by rw [isEdge_iff]; omega
      simp only [h4, and_self, decide_true, Bool.not_true]
      refine Ev.succ ?_
      simp only [spec_GoodEdges.j1, Bool.false_eq_true, if_false]
      rw [wrap_id (x := (pre.length : Int) + 1) (by omega) (by omega)]
      rcases nil_or_snoc pre with rfl | ⟨pre', y, rfl⟩
      ·simp only [if_neg (show ¬ (([] : List S79).length : Int) > 0 by simp)]
       have e : goodEF m ([] : List S79).getLast? (x :: suf) = goodEF m (some x) suf := by simp [goodEF, he]
       rw [e]
       exact h
      ·have hy : rd_T79 ((pre' ++ [y]) ++ x :: suf) (((pre' ++ [y]).length : Int) - 1) = y := by
        rw [show ((pre' ++ [y]) ++ x :: suf) = pre' ++ y :: (x :: suf) by simp, show (((pre' ++ [y]).length : Int) - 1) = (pre'.length : Int) by simp]
        exact rdEdge_mid _ _ _
       have q0 : (((pre' ++ [y]).length : Int)) > 0 := by simp <;> omega
       rw [wrap_id (x := ((pre' ++ [y]).length : Int) - 1) (by omega) (by omega)]
       simp only [if_pos q0, if_pos (show 0 ≤ ((pre' ++ [y]).length : Int) - 1 by omega), if_pos (show ((pre' ++ [y]).length : Int) - 1 < (((pre' ++ [y]) ++ x :: suf).length : Int) by omega), hy]
       have e : goodEF m (pre' ++ [y]).getLast? (x :: suf) = (edgeLt y x && goodEF m (some x) suf) := by simp [goodEF, he]
       rw [e]
       by_cases g1 : y.f0 > x.f0
       ·simp only [if_pos g1]
        refine Ev.some_ ?_
        have : edgeLt y x = false := by unfold edgeLt; simp only [decide_eq_false_iff_not]; omega
        rw [this]; rfl
       ·simp only [if_neg g1]
        by_cases g2 : y.f0 = x.f0
        ·simp only [if_pos g2]
         by_cases g3 : y.f1 ≥ x.f1
         ·simp only [if_pos g3]
          refine Ev.some_ ?_
          have : edgeLt y x = false := by unfold edgeLt; simp only [decide_eq_false_iff_not]; omega
          rw [this]; rfl
         ·simp only [if_neg g3]
          have : edgeLt y x = true := by unfold edgeLt; simp only [decide_eq_true_eq]; omega
          rw [this, Bool.true_and]
          exact h
        ·simp only [if_neg g2]
         have : edgeLt y x = true := by unfold edgeLt; simp only [decide_eq_true_eq]; omega
         rw [this, Bool.true_and]
         exact h
     ·simp only [h4, decide_false, Bool.not_false]
      refine bad true ?_ rfl
      unfold isEdge; simp only [decide_eq_false_iff_not]; omega
   ·simp only [h2, decide_false, Bool.false_eq_true, if_false]
    refine bad true ?_ rfl
    unfold isEdge; simp only [decide_eq_false_iff_not]; omega
  ·simp only [h1, decide_false, Bool.false_eq_true, if_false]
   refine bad true ?_ rfl
   unfold isEdge; simp only [decide_eq_false_iff_not]; omega
theorem specGoodE_ev (n : Int) (l : List S79) (hl : l.length ≤ 1048576) : Ev (fun k => spec_GoodEdges.f k n l) (goodE n l) := by
 unfold spec_GoodEdges.f
 exact specGoodE_l n l [] (by simp <;> omega)
theorem implGoodE_l (n : Int) (hm : wrap64 (n - 1) ≤ 9223372036854775807) (suf : List S79) : ∀ (pre : List S79), (pre.length : Int) + suf.length ≤ 1099511627776 → (∀ y, pre.getLast? = some y → isEdge (wrap64 (n - 1)) y = true) →
  Ev (fun k => impl_GoodEdges.l0 k n (pre ++ suf) (pre ++ suf) ((pre ++ suf).length : Int) (pre.length : Int)) (goodEF (wrap64 (n - 1)) pre.getLast? suf && (decide (1 ≤ n ∧ n ≤ 12) && decide ((pre ++ suf).length ≤ 40))) := by
 induction suf with
 | nil =>
  intro pre hb _
  refine Ev.succ ?_
  simp only [impl_GoodEdges.l0]
  simp only [if_neg (show ¬ (pre.length : Int) < ((pre ++ ([] : List S79)).length : Int) by simp), impl_isSpots.f, implIn, Option.bind_some]
  have : goodEF (wrap64 (n - 1)) pre.getLast? [] = true := by cases pre.getLast? <;> rfl
  rw [this, Bool.true_and]
  by_cases h : 1 ≤ n ∧ n ≤ 12
  ·simp only [h, and_self, decide_true, if_true, Bool.true_and]
   refine Ev.some_ ?_
   congr 1
   simp only [eq_iff_iff]
   omega
  ·simp only [h, decide_false, Bool.false_eq_true, if_false, Bool.false_and]
   exact Ev.now _
 | cons x suf ih =>
  intro pre hb hlast
  simp only [List.length_cons] at hb
  have c1 : (pre.length : Int) < ((pre ++ x :: suf).length : Int) := by simp <;> omega
  have c0 : (0 : Int) ≤ (pre.length : Int) := by omega
  have h := ih (pre ++ [x]) (by simp <;> omega)
  rw [← app_one, len_one, List.getLast?_concat] at h
  refine Ev.succ ?_
  simp only [impl_GoodEdges.l0]
  simp only [if_pos c1, if_pos c0, rdEdge_mid, implIn, Option.bind_some]
  generalize wrap64 (n - 1) = m at h hm hlast ⊢
  generalize hfin : (decide (1 ≤ n ∧ n ≤ 12) && decide ((pre ++ x :: suf).length ≤ 40)) = fin at h ⊢
  have bad : isEdge m x = false → Ev (fun k => some false) (goodEF m pre.getLast? (x :: suf) && fin) := by
   intro he
   refine Ev.some_ ?_
   cases pre.getLast? <;> simp [goodEF, he]
  by_cases h1 : 0 ≤ x.f0 ∧ x.f0 ≤ m
  ·simp only [h1, and_self, decide_true, if_true]
   by_cases h2 : 0 ≤ x.f1 ∧ x.f1 ≤ m
   ·simp only [h2, and_self, decide_true, if_true]
    by_cases h3 : x.f0 ≥ x.f1
    ·simp only [if_pos h3]
     refine bad ?_
     unfold isEdge; simp only [decide_eq_false_iff_not]; omega
    ·simp only [if_neg h3]
     by_cases h4 : 1 ≤ x.f2 ∧ x.f2 ≤ 100
     ·have he : isEdge m x = true := by rw [isEdge_iff]; omega
      have h := h (fun y hy => by cases hy; exact he)
      simp only [h4, and_self, decide_true, if_true]
      rw [wrap_id (x := (pre.length : Int) + 1) (by omega) (by omega)]
      rcases nil_or_snoc pre with rfl | ⟨pre', y, rfl⟩
      ·simp only [if_neg (show ¬ (([] : List S79).length : Int) > 0 by simp)]
       have e : goodEF m ([] : List S79).getLast? (x :: suf) = goodEF m (some x) suf := by simp [goodEF, he]
       rw [e]
       exact h
      ·have hy : rd_T79 ((pre' ++ [y]) ++ x :: suf) (((pre' ++ [y]).length : Int) - 1) = y := by
        rw [show ((pre' ++ [y]) ++ x :: suf) = pre' ++ y :: (x :: suf) by simp, show (((pre' ++ [y]).length : Int) - 1) = (pre'.length : Int) by simp]
        exact rdEdge_mid _ _ _
       have hye := (isEdge_iff m y).1 (hlast y (by simp))
       have hxe := (isEdge_iff m x).1 he
       have q0 : (((pre' ++ [y]).length : Int)) > 0 := by simp <;> omega
       rw [wrap_id (x := ((pre' ++ [y]).length : Int) - 1) (by omega) (by omega)]
       simp only [if_pos q0, if_pos (show 0 ≤ ((pre' ++ [y]).length : Int) - 1 by omega), if_pos (show ((pre' ++ [y]).length : Int) - 1 < (((pre' ++ [y]) ++ x :: suf).length : Int) by omega), hy]
       have e : goodEF m (pre' ++ [y]).getLast? (x :: suf) = (edgeLt y x && goodEF m (some x) suf) := by simp [goodEF, he]
       rw [e]
       have eb : impl_byEnds.f y.f0 y.f1 y.f2 x.f0 x.f1 x.f2 = some (if y.f0 = x.f0 then y.f1 - x.f1 else y.f0 - x.f0) := by
        unfold impl_byEnds.f
        split
        ·rw [wrap_id (by omega) (by omega)]
        ·rw [wrap_id (by omega) (by omega)]
       simp only [eb, Option.bind_some]
       by_cases g : edgeLt y x = true
       ·have g' : (y.f0 < x.f0 ∨ y.f0 = x.f0 ∧ y.f1 < x.f1) := by unfold edgeLt at g; simpa only [decide_eq_true_eq] using g
        rw [g, Bool.true_and]
        simp only [if_neg (show ¬ (if y.f0 = x.f0 then y.f1 - x.f1 else y.f0 - x.f0) ≥ 0 by split <;> omega)]
        exact h
       ·have g' : ¬ (y.f0 < x.f0 ∨ y.f0 = x.f0 ∧ y.f1 < x.f1) := by unfold edgeLt at g; simpa only [decide_eq_true_eq] using g
        simp only [if_pos (show (if y.f0 = x.f0 then y.f1 - x.f1 else y.f0 - x.f0) ≥ 0 by split <;> omega)]
        refine Ev.some_ ?_
        rw [Bool.not_eq_true] at g
        rw [g]; rfl
     ·simp only [h4, decide_false, Bool.false_eq_true, if_false]
      refine bad ?_
      unfold isEdge; simp only [decide_eq_false_iff_not]; omega
   ·simp only [h2, decide_false, Bool.false_eq_true, if_false]
    refine bad ?_
    unfold isEdge; simp only [decide_eq_false_iff_not]; omega
  ·simp only [h1, decide_false, Bool.false_eq_true, if_false]
   refine bad ?_
   unfold isEdge; simp only [decide_eq_false_iff_not]; omega
theorem wrap_top (x : Int) : -9223372036854775808 ≤ wrap64 x ∧ wrap64 x ≤ 9223372036854775807 := by unfold wrap64; omega
theorem implGoodE_ev (n : Int) (l : List S79) (hl : l.length ≤ 1048576) : Ev (fun k => impl_GoodEdges.f k n l) (goodE n l) := by
 unfold impl_GoodEdges.f
 exact implGoodE_l n (wrap_top _).2 l [] (by simp <;> omega) (fun y hy => by simp at hy)
/-- What good edges are. -/
theorem goodE_n {n : Int} {l : List S79} (h : goodE n l = true) : 1 ≤ n ∧ n ≤ 12 ∧ l.length ≤ 40 := by
 unfold goodE at h
 simp only [Bool.and_eq_true, decide_eq_true_eq] at h
 exact ⟨h.2.1.1, h.2.1.2, h.2.2⟩
theorem goodEF_all {m : Int} : ∀ (l : List S79) (o : Option S79), goodEF m o l = true → ∀ x ∈ l, isEdge m x = true
 | [], _, _, x, hx => by simp at hx
 | y :: r, o, h, x, hx => by
  have h2 : isEdge m y = true ∧ goodEF m (some y) r = true := by
   cases o with
   | none => simpa [goodEF] using h
   | some z =>
    simp only [goodEF, Bool.and_eq_true] at h
    exact ⟨h.1, h.2.2⟩
  rcases List.mem_cons.1 hx with rfl | hx
  ·exact h2.1
  ·exact goodEF_all r _ h2.2 x hx
theorem goodE_edge {n : Int} {l : List S79} (h : goodE n l = true) : ∀ x ∈ l, 0 ≤ x.f0 ∧ x.f0 < x.f1 ∧ x.f1 < n ∧ 1 ≤ x.f2 ∧ x.f2 ≤ 100 := by
 have hn := goodE_n h
 intro x hx
 unfold goodE at h
 simp only [Bool.and_eq_true] at h
 have := (isEdge_iff _ _).1 (goodEF_all l none h.1 x hx)
 rw [wrap_id (by omega) (by omega)] at this
 omega
def at_ (out : List Int) (v : Nat) : Int := out.getD v 0
def stepG (out : List Int) (e : Nat × Nat) : List Int := (out.set e.1 (min (at_ out e.1) (at_ out e.2))).set e.2 (min (at_ out e.1) (at_ out e.2))
def roundG (E : List (Nat × Nat)) (out : List Int) : List Int := E.foldl stepG out
def iterG (E : List (Nat × Nat)) (out : List Int) : Nat → List Int
 | 0 => out
 | k + 1 => roundG E (iterG E out k)
def InG (n : Nat) (E : List (Nat × Nat)) : Prop := ∀ e ∈ E, e.1 < n ∧ e.2 < n
inductive Conn (E : List (Nat × Nat)) : Nat → Nat → Prop
 | refl (v : Nat) : Conn E v v
 | fwd {v a b : Nat} : Conn E v a → (a, b) ∈ E → Conn E v b
 | bwd {v a b : Nat} : Conn E v b → (a, b) ∈ E → Conn E v a
theorem Conn.trans {E : List (Nat × Nat)} {u v w : Nat} (h : Conn E u v) (k : Conn E v w) : Conn E u w := by
 induction k with
 | refl => exact h
 | fwd _ he ih => exact .fwd ih he
 | bwd _ he ih => exact .bwd ih he
theorem Conn.symm {E : List (Nat × Nat)} {u v : Nat} (h : Conn E u v) : Conn E v u := by
 induction h with
 | refl => exact .refl _
 | fwd _ he ih => exact (Conn.bwd (.refl _) he).trans ih
 | bwd _ he ih => exact (Conn.fwd (.refl _) he).trans ih
theorem Conn.lt {n : Nat} {E : List (Nat × Nat)} (hE : InG n E) {u v : Nat} (h : Conn E u v) (hu : u < n) : v < n := by
 induction h with
 | refl => exact hu
 | fwd _ he _ => exact (hE _ he).2
 | bwd _ he _ => exact (hE _ he).1
theorem stepG_len (out : List Int) (e : Nat × Nat) : (stepG out e).length = out.length := by simp [stepG]
theorem at_set (out : List Int) (a v : Nat) (x : Int) (ha : a < out.length) : at_ (out.set a x) v = if v = a then x else at_ out v := by
 unfold at_
 rw [List.getD_eq_getElem?_getD, List.getD_eq_getElem?_getD]
 by_cases h : v = a
 ·subst h; rw [List.getElem?_set_self ha, if_pos rfl]; rfl
 ·rw [List.getElem?_set_ne (fun e => h e.symm), if_neg h]
theorem stepG_at (out : List Int) (e : Nat × Nat) (h1 : e.1 < out.length) (h2 : e.2 < out.length) (v : Nat) : at_ (stepG out e) v = if v = e.1 ∨ v = e.2 then min (at_ out e.1) (at_ out e.2) else at_ out v := by
 unfold stepG
 rw [at_set _ _ _ _ (by simpa using h2), at_set _ _ _ _ h1]
 by_cases h : v = e.2
 ·simp [h]
 ·by_cases h' : v = e.1 <;> simp [h, h']
theorem stepG_le (out : List Int) (e : Nat × Nat) (h1 : e.1 < out.length) (h2 : e.2 < out.length) (v : Nat) : at_ (stepG out e) v ≤ at_ out v := by
 rw [stepG_at out e h1 h2]
 split
 ·rename_i h
  rcases h with rfl | rfl <;> omega
 ·exact Int.le_refl _
theorem roundG_len : ∀ (E : List (Nat × Nat)) (out : List Int), (roundG E out).length = out.length
 | [], _ => rfl
 | e :: E, out => by
  show (roundG E (stepG out e)).length = _
  rw [roundG_len E, stepG_len]
theorem roundG_le : ∀ (E : List (Nat × Nat)) (out : List Int), InG out.length E → ∀ v, at_ (roundG E out) v ≤ at_ out v
 | [], _, _, v => Int.le_refl _
 | e :: E, out, h, v => by
  have he := h e (by simp)
  have h1 := roundG_le E (stepG out e) (by rw [stepG_len]; exact fun x hx => h x (by simp [hx])) v
  have h2 := stepG_le out e he.1 he.2 v
  show at_ (roundG E (stepG out e)) v ≤ _
  omega
/-- Behind a round both ends of an edge have no more than either had. -/
theorem roundG_edge : ∀ (E : List (Nat × Nat)) (out : List Int), InG out.length E → ∀ a b, (a, b) ∈ E → at_ (roundG E out) a ≤ at_ out b ∧ at_ (roundG E out) b ≤ at_ out a
 | [], _, _, a, b, h => by simp at h
 | e :: E, out, h, a, b, hab => by
  have he := h e (by simp)
  have hE : InG (stepG out e).length E := by rw [stepG_len]; exact fun x hx => h x (by simp [hx])
  show at_ (roundG E (stepG out e)) a ≤ _ ∧ at_ (roundG E (stepG out e)) b ≤ _
  rcases List.mem_cons.1 hab with rfl | hab
  ·have ha := roundG_le E (stepG out (a, b)) hE a
   have hb := roundG_le E (stepG out (a, b)) hE b
   rw [stepG_at out (a, b) he.1 he.2] at ha hb
   simp only [true_or, or_true, if_true] at ha hb
   omega
  ·have h1 := roundG_edge E (stepG out e) hE a b hab
   have h2 := stepG_le out e he.1 he.2 a
   have h3 := stepG_le out e he.1 he.2 b
   omega
theorem iterG_len (E : List (Nat × Nat)) (out : List Int) : ∀ k, (iterG E out k).length = out.length
 | 0 => rfl
 | k + 1 => by simp only [iterG]; rw [roundG_len, iterG_len E out k]
/-- Each label is a spot that is joined. -/
def LabG (E : List (Nat × Nat)) (out : List Int) : Prop := ∀ v, v < out.length → ∃ u : Nat, at_ out v = u ∧ Conn E v u
theorem stepG_lab {E : List (Nat × Nat)} {out : List Int} (e : Nat × Nat) (he : e ∈ E) (h1 : e.1 < out.length) (h2 : e.2 < out.length) (h : LabG E out) : LabG E (stepG out e) := by
 intro v hv
 rw [stepG_len] at hv
 rw [stepG_at out e h1 h2]
 split
 ·rename_i hve
  obtain ⟨x, y⟩ := e
  obtain ⟨u1, e1, c1⟩ := h x h1
  obtain ⟨u2, e2, c2⟩ := h y h2
  have cxy : Conn E x y := .fwd (.refl _) he
  have cv : Conn E v x ∧ Conn E v y := by
   rcases hve with rfl | rfl
   ·exact ⟨.refl _, cxy⟩
   ·exact ⟨cxy.symm, .refl _⟩
  simp only
  rw [e1, e2]
  rcases Int.le_total (u1 : Int) u2 with hle | hle
  ·exact ⟨u1, by omega, cv.1.trans c1⟩
  ·exact ⟨u2, by omega, cv.2.trans c2⟩
 ·exact h v hv
theorem foldl_lab {E : List (Nat × Nat)} : ∀ (D : List (Nat × Nat)) (out : List Int), (∀ e ∈ D, e ∈ E) → InG out.length D → LabG E out → LabG E (D.foldl stepG out)
 | [], _, _, _, h => h
 | e :: D, out, hD, hin, h => by
  have he := hin e (by simp)
  exact foldl_lab D (stepG out e) (fun x hx => hD x (by simp [hx])) (by rw [stepG_len]; exact fun x hx => hin x (by simp [hx])) (stepG_lab e (hD e (by simp)) he.1 he.2 h)
theorem iterG_lab {E : List (Nat × Nat)} {out : List Int} (hin : InG out.length E) (h : LabG E out) : ∀ k, LabG E (iterG E out k)
 | 0 => h
 | k + 1 => foldl_lab E _ (fun _ he => he) (by rw [iterG_len]; exact hin) (iterG_lab hin h k)
/-- How many spots have at most m. -/
def cntG (out : List Int) (m : Int) : Nat := (List.range out.length).countP fun v => decide (at_ out v ≤ m)
theorem countP_mono {α : Type} (p q : α → Bool) (l : List α) (h : ∀ x ∈ l, p x = true → q x = true) : l.countP p ≤ l.countP q := List.countP_mono_left h
theorem countP_lt {α : Type} (p q : α → Bool) : ∀ (l : List α), (∀ x ∈ l, p x = true → q x = true) → (∃ x ∈ l, p x = false ∧ q x = true) → l.countP p < l.countP q
 | [], _, ⟨x, hx, _⟩ => by simp at hx
 | y :: l, h, ⟨x, hx, hp, hq⟩ => by
  have h1 := countP_mono p q l (fun z hz => h z (by simp [hz]))
  rw [List.countP_cons, List.countP_cons]
  rcases List.mem_cons.1 hx with rfl | hx
  ·simp only [hp, hq, if_true, Bool.false_eq_true, if_false]
   omega
  ·have h2 := countP_lt p q l (fun z hz => h z (by simp [hz])) ⟨x, hx, hp, hq⟩
   have h3 := h y (by simp)
   cases hy : p y with
   | false => simp only [Bool.false_eq_true, if_false]; omega
   | true => simp only [h3 hy, if_true]; omega
/-- The spots that have at most m: all that are joined with m, or they grow. -/
theorem spread_one {E : List (Nat × Nat)} {out : List Int} (hin : InG out.length E) (m : Nat) (hm : at_ out m ≤ m) (hmn : m < out.length) :
  (∀ v, Conn E m v → at_ out v ≤ m) ∨ cntG out m < cntG (roundG E out) m := by
 by_cases hc : ∀ a b, (a, b) ∈ E → (at_ out a ≤ m ↔ at_ out b ≤ m)
 ·left
  intro v hv
  induction hv with
  | refl => exact hm
  | fwd _ he ih => exact (hc _ _ he).1 ih
  | bwd _ he ih => exact (hc _ _ he).2 ih
 ·right
  have hc2 : ∃ a b, (a, b) ∈ E ∧ ¬ (at_ out a ≤ m ↔ at_ out b ≤ m) := Classical.byContradiction fun hn => hc fun a b he => Classical.byContradiction fun h => hn ⟨a, b, he, h⟩
  obtain ⟨a, b, he, hne⟩ := hc2
  have hlen := roundG_len E out
  unfold cntG
  rw [hlen]
  have hab := hin _ he
  have hr := roundG_edge E out hin a b he
  refine countP_lt _ _ _ (fun v _ hv => ?_) ?_
  ·simp only [decide_eq_true_eq] at hv ⊢
   have := roundG_le E out hin v
   omega
  ·by_cases ha : at_ out a ≤ m
   ·have hb : ¬ at_ out b ≤ m := fun hb => hne ⟨fun _ => hb, fun _ => ha⟩
    exact ⟨b, List.mem_range.2 hab.2, by simpa using hb, by simp only [decide_eq_true_eq]; omega⟩
   ·have hb : at_ out b ≤ m := Classical.byContradiction fun hb => hne ⟨fun h => absurd h ha, fun h => absurd h hb⟩
    exact ⟨a, List.mem_range.2 hab.1, by simpa using ha, by simp only [decide_eq_true_eq]; omega⟩
theorem iterG_le {E : List (Nat × Nat)} {out : List Int} (hin : InG out.length E) (v : Nat) (k : Nat) : at_ (iterG E out (k + 1)) v ≤ at_ (iterG E out k) v :=
 roundG_le E _ (by rw [iterG_len]; exact hin) v
theorem spread_all {E : List (Nat × Nat)} {out : List Int} (hin : InG out.length E) (m : Nat) (hm : at_ out m ≤ m) (hmn : m < out.length) : ∀ k, at_ (iterG E out k) m ≤ m ∧ ((∀ v, Conn E m v → at_ (iterG E out k) v ≤ m) ∨ k + 1 ≤ cntG (iterG E out k) m)
 | 0 => by
  refine ⟨hm, .inr ?_⟩
  have : 0 < cntG out m := by
   unfold cntG
   rw [List.countP_pos_iff]
   exact ⟨m, List.mem_range.2 hmn, by simpa using hm⟩
  show 0 + 1 ≤ cntG out m
  omega
 | k + 1 => by
  obtain ⟨h1, h2⟩ := spread_all hin m hm hmn k
  have hin2 : InG (iterG E out k).length E := by rw [iterG_len]; exact hin
  refine ⟨Int.le_trans (iterG_le hin m k) h1, ?_⟩
  rcases h2 with h2 | h2
  ·exact .inl fun v hv => Int.le_trans (iterG_le hin v k) (h2 v hv)
  ·rcases spread_one hin2 m h1 (by rw [iterG_len]; exact hmn) with h3 | h3
   ·exact .inl fun v hv => Int.le_trans (iterG_le hin v k) (h3 v hv)
   ·right
    show k + 1 + 1 ≤ cntG (roundG E (iterG E out k)) m
    omega
theorem spread_done {E : List (Nat × Nat)} {out : List Int} (hin : InG out.length E) (m : Nat) (hm : at_ out m ≤ m) (hmn : m < out.length) {k : Nat} (hk : out.length ≤ k + 1) : ∀ v, Conn E m v → at_ (iterG E out k) v ≤ m := by
 rcases (spread_all hin m hm hmn k).2 with h | h
 ·exact h
 ·intro v hv
  refine Classical.byContradiction fun hn => ?_
  have hv2 := hv.lt hin hmn
  have : cntG (iterG E out k) m < (List.range out.length).countP (fun _ => true) := by
   unfold cntG
   rw [iterG_len]
   refine countP_lt _ _ _ (fun _ _ _ => rfl) ⟨v, List.mem_range.2 hv2, by simpa using hn, rfl⟩
  rw [show (List.range out.length).countP (fun _ => true) = out.length by simp] at this
  omega
/-- The spots' own numbers. -/
def own0 (n : Nat) : List Int := (List.range n).map fun (i : Nat) => (i : Int)
theorem own0_len (n : Nat) : (own0 n).length = n := by simp [own0]
theorem own0_at {n v : Nat} (h : v < n) : at_ (own0 n) v = v := by
 unfold at_ own0
 rw [List.getD_eq_getElem?_getD, List.getElem?_map, List.getElem?_range h]
 rfl
/-- The groups: to each spot the least one that edges lead to from it. -/
def grp (n : Nat) (E : List (Nat × Nat)) : List Int := iterG E (own0 n) n
theorem grp_len (n : Nat) (E : List (Nat × Nat)) : (grp n E).length = n := by unfold grp; rw [iterG_len, own0_len]
theorem grp_ok {n : Nat} {E : List (Nat × Nat)} (hE : InG n E) {v : Nat} (hv : v < n) : ∃ u : Nat, at_ (grp n E) v = u ∧ Conn E v u ∧ u < n ∧ ∀ m, Conn E v m → u ≤ m := by
 have hin : InG (own0 n).length E := by rw [own0_len]; exact hE
 have hlab : LabG E (own0 n) := fun v hv => by
  rw [own0_len] at hv
  exact ⟨v, own0_at hv, .refl _⟩
 obtain ⟨u, e, c⟩ := iterG_lab hin hlab n v (by rw [iterG_len, own0_len]; exact hv)
 refine ⟨u, e, c, c.lt hE hv, fun m hm => ?_⟩
 have hmn := hm.lt hE hv
 have := spread_done hin m (by rw [own0_at hmn]; exact Int.le_refl _) (by rw [own0_len]; exact hmn) (k := n) (by rw [own0_len]; omega) v hm.symm
 rw [e] at this
 omega
/-- From as many rounds on as there are spots nothing changes. -/
theorem iterG_fix {n : Nat} {E : List (Nat × Nat)} (hE : InG n E) : roundG E (grp n E) = grp n E := by
 have hin : InG (own0 n).length E := by rw [own0_len]; exact hE
 apply List.ext_getElem?
 intro v
 by_cases hv : v < n
 ·have l1 : v < (roundG E (grp n E)).length := by rw [roundG_len, grp_len]; exact hv
  have l2 : v < (grp n E).length := by rw [grp_len]; exact hv
  obtain ⟨u, e, c, hu, _⟩ := grp_ok hE hv
  have hlab : LabG E (own0 n) := fun v hv => by
   rw [own0_len] at hv
   exact ⟨v, own0_at hv, .refl _⟩
  obtain ⟨u2, e2, c2⟩ := iterG_lab hin hlab (n + 1) v (by rw [iterG_len, own0_len]; exact hv)
  have e2' : at_ (roundG E (grp n E)) v = u2 := e2
  obtain ⟨u3, e3, _, _, h3⟩ := grp_ok hE hv
  have h4 := roundG_le E (grp n E) (by rw [grp_len]; exact hE) v
  have h5 := h3 u2 c2
  have : at_ (roundG E (grp n E)) v = at_ (grp n E) v := by
   rw [e2', e3]
   rw [e2', e3] at h4
   omega
  unfold at_ at this
  rw [List.getD_eq_getElem?_getD, List.getD_eq_getElem?_getD, List.getElem?_eq_getElem l1, List.getElem?_eq_getElem l2] at this
  rw [List.getElem?_eq_getElem l1, List.getElem?_eq_getElem l2]
  exact congrArg some this
 ·rw [List.getElem?_eq_none (by rw [roundG_len, grp_len]; omega), List.getElem?_eq_none (by rw [grp_len]; omega)]
-- sweeps over a list of numbers; the least of two
theorem least_is (a b : Int) : spec_l1Least.f a b = some (min a b) := by
 unfold spec_l1Least.f
 split
 ·rw [Int.min_eq_left (by omega)]
 ·rw [Int.min_eq_right (by omega)]
theorem mn_is (a b : Int) : mn a b = min a b := by
 unfold mn
 split
 ·rw [Int.min_eq_right (by omega)]
 ·rw [Int.min_eq_left (by omega)]
theorem own0_succ (n : Nat) : own0 (n + 1) = own0 n ++ [(n : Int)] := by
 unfold own0
 rw [List.range_succ, List.map_append]
 rfl
-- the groups of the program
def prs (l : List S79) : List (Nat × Nat) := l.map fun e => (e.f0.toNat, e.f1.toNat)
theorem prs_in {n : Int} {l : List S79} (h : ∀ x ∈ l, 0 ≤ x.f0 ∧ x.f0 < x.f1 ∧ x.f1 < n) : InG n.toNat (prs l) := by
 intro e he
 unfold prs at he
 obtain ⟨x, hx, rfl⟩ := List.mem_map.1 he
 have := h x hx
 constructor
 ·show x.f0.toNat < n.toNat
  omega
 ·show x.f1.toNat < n.toNat
  omega
def groupsM (n : Int) (l : List S79) : List Int := grp n.toNat (prs l)
theorem stepG_ne {out : List Int} {e : Nat × Nat} (h1 : e.1 < out.length) (h2 : e.2 < out.length) : stepG out e = out ↔ (at_ out e.1 = min (at_ out e.1) (at_ out e.2) ∧ at_ out e.2 = min (at_ out e.1) (at_ out e.2)) := by
 constructor
 ·intro h
  have a1 := stepG_at out e h1 h2 e.1
  have a2 := stepG_at out e h1 h2 e.2
  rw [h] at a1 a2
  simp only [true_or, or_true, if_true] at a1 a2
  exact ⟨a1, a2⟩
 ·intro h
  apply List.ext_getElem?
  intro v
  by_cases hv : v < out.length
  ·have l1 : v < (stepG out e).length := by rw [stepG_len]; exact hv
   have a := stepG_at out e h1 h2 v
   have : at_ (stepG out e) v = at_ out v := by
    rw [a]
    split
    ·rename_i hve
     rcases hve with rfl | rfl
     ·exact h.1.symm
     ·exact h.2.symm
    ·rfl
   unfold at_ at this
   rw [List.getD_eq_getElem?_getD, List.getD_eq_getElem?_getD, List.getElem?_eq_getElem l1, List.getElem?_eq_getElem hv] at this
   rw [List.getElem?_eq_getElem l1, List.getElem?_eq_getElem hv]
   exact congrArg some this
  ·rw [List.getElem?_eq_none (by rw [stepG_len]; omega), List.getElem?_eq_none (by omega)]
theorem round_moved {out : List Int} {e : Nat × Nat} {E : List (Nat × Nat)} (h1 : e.1 < out.length) (h2 : e.2 < out.length) (hE : InG out.length E) (h : stepG out e ≠ out) : roundG E (stepG out e) ≠ out := by
 intro hc
 refine h ((stepG_ne h1 h2).2 ?_)
 have key : ∀ v, at_ out v ≤ at_ (stepG out e) v := fun v => by
  have := roundG_le E (stepG out e) (by rw [stepG_len]; exact hE) v
  rw [hc] at this
  exact this
 have a1 := stepG_at out e h1 h2 e.1
 have a2 := stepG_at out e h1 h2 e.2
 simp only [true_or, or_true, if_true] at a1 a2
 have k1 := key e.1
 have k2 := key e.2
 omega
def pairs (l : List S79) : List (List Int) := l.map fun e => [e.f0, e.f1]
theorem rdLL_mid (pre : List (List Int)) (x : List Int) (suf : List (List Int)) : rd_L6 (pre ++ x :: suf) (pre.length : Int) = x := getD_mid _ pre x suf
theorem implGroups_l2 (P : List (List Int)) (R : List Int) (suf : List S79) : ∀ (pre : List S79) (out : List Int) (b : Bool), pairs (pre ++ suf) = P → (P.length : Int) ≤ 1099511627776 → (∀ x ∈ suf, 0 ≤ x.f0 ∧ x.f0 < x.f1 ∧ x.f1 < out.length) →
  Ev (fun k => impl_groups.l1 k P (roundG (prs suf) out) (b || !decide (roundG (prs suf) out = out))) R →
  Ev (fun k => impl_groups.l2 k P out b P (P.length : Int) (pre.length : Int)) R := by
 induction suf with
 | nil =>
  intro pre out b he hb hx h
  refine Ev.succ ?_
  simp only [impl_groups.l2]
  have c1 : ¬ (pre.length : Int) < (P.length : Int) := by rw [← he]; simp [pairs]
  simp only [if_neg c1]
  have e : roundG (prs []) out = out := rfl
  rw [e] at h
  simpa using h
 | cons x suf ih =>
  intro pre out b he hb hx h
  have hl : P.length = pre.length + suf.length + 1 := by rw [← he]; simp [pairs] <;> omega
  have c1 : (pre.length : Int) < (P.length : Int) := by omega
  have c0 : (0 : Int) ≤ (pre.length : Int) := by omega
  have hr : rd_L6 P (pre.length : Int) = [x.f0, x.f1] := by
   rw [← he]
   have := rdLL_mid (pairs pre) [x.f0, x.f1] (pairs suf)
   unfold pairs at this ⊢
   rw [List.length_map] at this
   simpa using this
  have hxx := hx x (by simp)
  have i1 : x.f0.toNat < out.length := by omega
  have i2 : x.f1.toNat < out.length := by omega
  have hE : InG out.length (prs suf) := by
   have := prs_in (n := (out.length : Int)) (l := suf) (fun y hy => hx y (by simp [hy]))
   simpa using this
  refine Ev.succ ?_
  simp only [impl_groups.l2]
  have r0 : rd [x.f0, x.f1] 0 = x.f0 := rfl
  have r1 : rd [x.f0, x.f1] 1 = x.f1 := rfl
  have q1 : (0 : Int) < (([x.f0, x.f1] : List Int).length : Int) := by simp
  have q2 : (1 : Int) < (([x.f0, x.f1] : List Int).length : Int) := by simp
  simp only [if_pos c1, if_pos c0, hr, if_pos q1, if_pos q2, r0, r1, if_pos (show 0 ≤ x.f0 by omega), if_pos (show x.f0 < (out.length : Int) by omega), if_pos (show 0 ≤ x.f1 by omega), if_pos (show x.f1 < (out.length : Int) by omega), mn_is, wrap_id (x := (pre.length : Int) + 1) (by omega) (by omega)]
  have go : ∀ b2 : Bool, b2 = (b || !decide (stepG out (x.f0.toNat, x.f1.toNat) = out)) →
    Ev (fun k => impl_groups.l2 k P (stepG out (x.f0.toNat, x.f1.toNat)) b2 P (P.length : Int) ((pre.length : Int) + 1)) R := by
   intro b2 hb2
   have h2 := ih (pre ++ [x]) (stepG out (x.f0.toNat, x.f1.toNat)) b2 (by rw [← he]; simp) hb (by rw [stepG_len]; exact fun y hy => hx y (by simp [hy])) (by
    have e : (b2 || !decide (roundG (prs suf) (stepG out (x.f0.toNat, x.f1.toNat)) = stepG out (x.f0.toNat, x.f1.toNat))) = (b || !decide (roundG (prs (x :: suf)) out = out)) := by
     rw [hb2]
     have er : roundG (prs (x :: suf)) out = roundG (prs suf) (stepG out (x.f0.toNat, x.f1.toNat)) := rfl
     rw [er]
     by_cases hs : stepG out (x.f0.toNat, x.f1.toNat) = out
     ·simp only [hs, decide_true, Bool.not_true, Bool.or_false]
     ·have hm := round_moved i1 i2 hE hs
      simp [hs, hm]
    rw [e]
    exact h)
   rw [len_one] at h2
   exact h2
  have hs := stepG_ne (out := out) (e := (x.f0.toNat, x.f1.toNat)) i1 i2
  have es : (out.set x.f0.toNat (min (rd out x.f0) (rd out x.f1))).set x.f1.toNat (min (rd out x.f0) (rd out x.f1)) = stepG out (x.f0.toNat, x.f1.toNat) := rfl
  have e1 : rd out x.f0 = at_ out x.f0.toNat := rfl
  have e2 : rd out x.f1 = at_ out x.f1.toNat := rfl
  rw [es]
  cases b with
  | true =>
   simp only [if_true]
   exact go true (by simp)
  | false =>
   simp only [Bool.false_eq_true, if_false]
   by_cases g1 : rd out x.f0 = min (rd out x.f0) (rd out x.f1)
   ·simp only [if_pos g1]
    refine go _ ?_
    rw [Bool.false_or]
    by_cases g2 : rd out x.f1 = min (rd out x.f0) (rd out x.f1)
    ·have : stepG out (x.f0.toNat, x.f1.toNat) = out := hs.2 ⟨g1, g2⟩
     rw [← g2]
     simp [this]
    ·have : stepG out (x.f0.toNat, x.f1.toNat) ≠ out := fun h => g2 (hs.1 h).2
     simp only [this, decide_false, Bool.not_false]
     rw [bne_iff_ne]
     exact g2
   ·simp only [if_neg g1]
    refine go true ?_
    have : stepG out (x.f0.toNat, x.f1.toNat) ≠ out := fun h => g1 (hs.1 h).1
    simp [this]
theorem implGroups_l1 (l : List S79) (n : Nat) (hb : (l.length : Int) ≤ 1048576) (hx : ∀ x ∈ l, 0 ≤ x.f0 ∧ x.f0 < x.f1 ∧ x.f1 < n) (d : Nat) : ∀ (c : Nat), c + d = n + 1 →
  Ev (fun k => impl_groups.l1 k (pairs l) (iterG (prs l) (own0 n) c) true) (grp n (prs l)) := by
 have hE : InG n (prs l) := by
  have := prs_in (n := (n : Int)) (l := l) hx
  simpa using this
 have stay : ∀ j, iterG (prs l) (own0 n) (n + j) = grp n (prs l) := by
  intro j
  induction j with
  | zero => rfl
  | succ j ihj =>
   show roundG (prs l) (iterG (prs l) (own0 n) (n + j)) = _
   rw [ihj]
   exact iterG_fix hE
 have fixed : ∀ c, c ≤ n → roundG (prs l) (iterG (prs l) (own0 n) c) = iterG (prs l) (own0 n) c → iterG (prs l) (own0 n) c = grp n (prs l) := by
  intro c hc hf
  have : ∀ j, iterG (prs l) (own0 n) (c + j) = iterG (prs l) (own0 n) c := by
   intro j
   induction j with
   | zero => rfl
   | succ j ihj =>
    show roundG (prs l) (iterG (prs l) (own0 n) (c + j)) = _
    rw [ihj]
    exact hf
  have h := this (n - c)
  rw [show c + (n - c) = n by omega] at h
  exact h.symm
 induction d with
 | zero =>
  intro c hc
  have hc : c = n + 1 := by omega
  subst hc
  refine Ev.succ ?_
  simp only [impl_groups.l1, if_true]
  refine implGroups_l2 (pairs l) _ l [] _ false rfl (by simp [pairs]; omega) (by rw [iterG_len, own0_len]; exact hx) ?_
  have e1 : iterG (prs l) (own0 n) (n + 1) = grp n (prs l) := stay 1
  rw [e1, iterG_fix hE]
  simp only [decide_true, Bool.not_true, Bool.or_false]
  refine Ev.succ ?_
  simp only [impl_groups.l1, Bool.false_eq_true, if_false]
  exact Ev.now _
 | succ d ih =>
  intro c hc
  refine Ev.succ ?_
  simp only [impl_groups.l1, if_true]
  refine implGroups_l2 (pairs l) _ l [] _ false rfl (by simp [pairs]; omega) (by rw [iterG_len, own0_len]; exact hx) ?_
  by_cases hf : roundG (prs l) (iterG (prs l) (own0 n) c) = iterG (prs l) (own0 n) c
  ·rw [hf]
   simp only [decide_true, Bool.not_true, Bool.or_false]
   refine Ev.succ ?_
   simp only [impl_groups.l1, Bool.false_eq_true, if_false]
   exact Ev.some_ (fixed c (by omega) hf)
  ·simp only [hf, decide_false, Bool.not_false, Bool.or_true]
   exact ih (c + 1) (by omega)
theorem implGroups_l0 (n : Nat) (hn : n ≤ 1000) (l : List S79) (hb : (l.length : Int) ≤ 1048576) (hx : ∀ x ∈ l, 0 ≤ x.f0 ∧ x.f0 < x.f1 ∧ x.f1 < n) (d : Nat) : ∀ (c : Nat), c + d = n →
  Ev (fun k => impl_groups.l0 k (pairs l) (own0 c ++ List.replicate d 0) (n : Int) (c : Int)) (grp n (prs l)) := by
 induction d with
 | zero =>
  intro c hc
  have hc : c = n := by omega
  subst hc
  refine Ev.succ ?_
  simp only [impl_groups.l0]
  simp only [if_neg (show ¬ (c : Int) < (c : Int) by omega), List.replicate_zero, List.append_nil]
  exact implGroups_l1 l c hb hx (c + 1) 0 (by omega)
 | succ d ih =>
  intro c hc
  refine Ev.succ ?_
  simp only [impl_groups.l0]
  have hl : (own0 c ++ List.replicate (d + 1) (0 : Int)).length = n := by simp [own0_len]; omega
  simp only [if_pos (show (c : Int) < (n : Int) by omega), if_pos (show (0 : Int) ≤ (c : Int) by omega), if_pos (show (c : Int) < ((own0 c ++ List.replicate (d + 1) (0 : Int)).length : Int) by omega), wrap_id (x := (c : Int) + 1) (by omega) (by omega)]
  have h := ih (c + 1) (by omega)
  have e : (own0 c ++ List.replicate (d + 1) (0 : Int)).set ((c : Int)).toNat (c : Int) = own0 (c + 1) ++ List.replicate d 0 := by
   rw [own0_succ, List.replicate_succ]
   have := set_mid (own0 c) (0 : Int) (c : Int) (List.replicate d 0)
   rw [own0_len] at this
   rw [this]
   simp
  rw [e, show ((c : Int)) + 1 = ((c + 1 : Nat) : Int) by omega]
  exact h
theorem implGroups_ev (n : Int) (l : List S79) (h0 : 0 ≤ n) (hn : n ≤ 1000) (hb : (l.length : Int) ≤ 1048576) (hx : ∀ x ∈ l, 0 ≤ x.f0 ∧ x.f0 < x.f1 ∧ x.f1 < n) : Ev (fun k => impl_groups.f k n (pairs l)) (groupsM n l) := by
 obtain ⟨m, rfl⟩ := Int.eq_ofNat_of_zero_le h0
 unfold impl_groups.f groupsM
 simp only [if_pos h0, Int.toNat_natCast, if_pos (show m ≤ 35184372088832 by omega), Option.bind_some, List.length_replicate]
 have h := implGroups_l0 m (by omega) l hb hx m 0 (by omega)
 exact h
theorem implGroupsOf_l0 (n : Int) (R : List Int) (suf : List S79) : ∀ (pre : List S79), ((pre ++ suf).length : Int) ≤ 1048576 → Ev (fun k => impl_groups.f k n (pairs (pre ++ suf))) R →
  Ev (fun k => impl_groupsOf.l0 k n (pairs pre) (pre ++ suf) ((pre ++ suf).length : Int) (pre.length : Int)) R := by
 induction suf with
 | nil =>
  intro pre hb h
  refine Ev.succ ?_
  simp only [impl_groupsOf.l0]
  simp only [if_neg (show ¬ (pre.length : Int) < ((pre ++ ([] : List S79)).length : Int) by simp)]
  rw [List.append_nil] at h
  exact Ev.bind h (Ev.now _)
 | cons x suf ih =>
  intro pre hb h
  have c1 : (pre.length : Int) < ((pre ++ x :: suf).length : Int) := by simp <;> omega
  have c0 : (0 : Int) ≤ (pre.length : Int) := by omega
  have hp : (pairs pre).length < 5864062014805 := by simp [pairs]; omega
  refine Ev.succ ?_
  simp only [impl_groupsOf.l0]
  simp only [if_pos c1, if_pos c0, rdEdge_mid, if_pos hp, wrap_id (x := (pre.length : Int) + 1) (by omega) (by omega)]
  have h2 := ih (pre ++ [x]) (by rw [← app_one]; exact hb) (by rw [← app_one]; exact h)
  rw [← app_one, len_one] at h2
  have e : pairs (pre ++ [x]) = pairs pre ++ [[x.f0, x.f1]] := by simp [pairs]
  rw [e] at h2
  exact h2
theorem implGroupsOf_ev (n : Int) (l : List S79) (h0 : 0 ≤ n) (hn : n ≤ 1000) (hb : (l.length : Int) ≤ 1048576) (hx : ∀ x ∈ l, 0 ≤ x.f0 ∧ x.f0 < x.f1 ∧ x.f1 < n) : Ev (fun k => impl_groupsOf.f k n l) (groupsM n l) := by
 unfold impl_groupsOf.f
 exact implGroupsOf_l0 n _ l [] (by simpa using hb) (implGroups_ev n l h0 hn hb hx)
theorem groupsM_len (n : Int) (l : List S79) : (groupsM n l).length = n.toNat := grp_len _ _
theorem specGroups_l2 (l : List S79) (m : Nat) (c : Int) (R : List Int) (suf : List S79) : ∀ (pre : List S79) (out : List Int), pre ++ suf = l → (l.length : Int) ≤ 1099511627776 → out.length = m → (∀ x ∈ suf, 0 ≤ x.f0 ∧ x.f0 < x.f1 ∧ x.f1 < m) →
  Ev (fun k => spec_l8Groups.l1 k l (roundG (prs suf) out) (m : Int) (wrap64 (c + 1))) R →
  Ev (fun k => spec_l8Groups.l2 k l out (m : Int) c l (l.length : Int) (pre.length : Int)) R := by
 induction suf with
 | nil =>
  intro pre out he hb ho hx h
  refine Ev.succ ?_
  simp only [spec_l8Groups.l2]
  have c1 : ¬ (pre.length : Int) < (l.length : Int) := by rw [← he]; simp
  simp only [if_neg c1]
  exact h
 | cons x suf ih =>
  intro pre out he hb ho hx h
  have hl : l.length = pre.length + suf.length + 1 := by rw [← he]; simp <;> omega
  have c1 : (pre.length : Int) < (l.length : Int) := by omega
  have c0 : (0 : Int) ≤ (pre.length : Int) := by omega
  have hr : rd_T79 l (pre.length : Int) = x := by rw [← he]; exact rdEdge_mid _ _ _
  have hxx := hx x (by simp)
  refine Ev.succ ?_
  simp only [spec_l8Groups.l2]
  simp only [if_pos c1, if_pos c0, hr, if_pos (show 0 ≤ x.f0 by omega), if_pos (show x.f0 < (out.length : Int) by omega), if_pos (show 0 ≤ x.f1 by omega), if_pos (show x.f1 < (out.length : Int) by omega), least_is, Option.bind_some, wrap_id (x := (pre.length : Int) + 1) (by omega) (by omega)]
  have h2 := ih (pre ++ [x]) (stepG out (x.f0.toNat, x.f1.toNat)) (by rw [← he]; simp) hb (by rw [stepG_len]; exact ho) (fun y hy => hx y (by simp [hy])) h
  rw [len_one] at h2
  exact h2
theorem specGroups_l1 (l : List S79) (o0 : List Int) (hb : (l.length : Int) ≤ 1099511627776) (hm : o0.length ≤ 1000) (hx : ∀ x ∈ l, 0 ≤ x.f0 ∧ x.f0 < x.f1 ∧ x.f1 < o0.length) (d : Nat) : ∀ (c : Nat), c + d = o0.length →
  Ev (fun k => spec_l8Groups.l1 k l (iterG (prs l) o0 c) (o0.length : Int) (c : Int)) (iterG (prs l) o0 o0.length) := by
 induction d with
 | zero =>
  intro c hc
  refine Ev.succ ?_
  simp only [spec_l8Groups.l1]
  simp only [if_neg (show ¬ (c : Int) < (o0.length : Int) by omega)]
  refine Ev.some_ ?_
  rw [show c = o0.length by omega]
 | succ d ih =>
  intro c hc
  refine Ev.succ ?_
  simp only [spec_l8Groups.l1]
  simp only [if_pos (show (c : Int) < (o0.length : Int) by omega)]
  refine specGroups_l2 l o0.length (c : Int) _ l [] _ rfl hb (iterG_len _ _ _) hx ?_
  have h := ih (c + 1) (by omega)
  rw [wrap_id (x := (c : Int) + 1) (by omega) (by omega), show (c : Int) + 1 = ((c + 1 : Nat) : Int) by omega]
  exact h
theorem specGroups_l0 (n : Nat) (hn : n ≤ 1000) (l : List S79) (hb : (l.length : Int) ≤ 1099511627776) (hx : ∀ x ∈ l, 0 ≤ x.f0 ∧ x.f0 < x.f1 ∧ x.f1 < n) (d : Nat) : ∀ (c : Nat), c + d = n →
  Ev (fun k => spec_l8Groups.l0 k (n : Int) l (own0 c) (c : Int)) (grp n (prs l)) := by
 induction d with
 | zero =>
  intro c hc
  refine Ev.succ ?_
  simp only [spec_l8Groups.l0]
  simp only [if_neg (show ¬ (c : Int) < (n : Int) by omega)]
  have e : c = n := by omega
  subst e
  have h := specGroups_l1 l (own0 c) hb (by rw [own0_len]; exact hn) (by rw [own0_len]; exact hx) c 0 (by rw [own0_len]; omega)
  unfold grp
  rw [own0_len] at h ⊢
  exact h
 | succ d ih =>
  intro c hc
  refine Ev.succ ?_
  simp only [spec_l8Groups.l0]
  simp only [if_pos (show (c : Int) < (n : Int) by omega), if_pos (show (own0 c).length < 17592186044416 by rw [own0_len]; omega), wrap_id (x := (c : Int) + 1) (by omega) (by omega)]
  have h := ih (c + 1) (by omega)
  rw [own0_succ, show ((c + 1 : Nat) : Int) = (c : Int) + 1 by omega] at h
  exact h
theorem specGroups_ev (n : Int) (l : List S79) (h0 : 0 ≤ n) (hn : n ≤ 1000) (hb : (l.length : Int) ≤ 1048576) (hx : ∀ x ∈ l, 0 ≤ x.f0 ∧ x.f0 < x.f1 ∧ x.f1 < n) : Ev (fun k => spec_l8Groups.f k n l) (groupsM n l) := by
 obtain ⟨m, rfl⟩ := Int.eq_ofNat_of_zero_le h0
 unfold spec_l8Groups.f groupsM
 rw [Int.toNat_natCast]
 have h := specGroups_l0 m (by omega) l (by omega) hx m 0 (by omega)
 exact h
def kst (n : Int) (st : List Ed × Int) (e : Ed) : List Ed × Int := if rd (groupsM n st.1) e.f0 = rd (groupsM n st.1) e.f1 then st else (st.1 ++ [e], st.2 + e.f2)
def kfold (n : Int) (l : List Ed) (st : List Ed × Int) : List Ed × Int := l.foldl (kst n) st
structure KInv (n : Int) (st : List Ed × Int) (c : Nat) : Prop where
 ok : ∀ x ∈ st.1, 0 ≤ x.f0 ∧ x.f0 < x.f1 ∧ x.f1 < n
 len : st.1.length ≤ c
 low : 0 ≤ st.2
 high : st.2 ≤ 100 * c
def okX (n : Int) (e : Ed) : Prop := (0 ≤ e.f0 ∧ e.f0 < e.f1 ∧ e.f1 < n) ∧ 1 ≤ e.f2 ∧ e.f2 ≤ 100
theorem KInv.mono {n : Int} {st : List Ed × Int} {c d : Nat} (h : KInv n st c) (hd : c ≤ d) : KInv n st d := ⟨h.ok, Nat.le_trans h.len hd, h.low, by have := h.high; omega⟩
theorem KInv.step {n : Int} {st : List Ed × Int} {c : Nat} {e : Ed} (h : KInv n st c) (he : okX n e) : KInv n (kst n st e) (c + 1) := by
 unfold kst
 split
 ·exact h.mono (Nat.le_succ _)
 ·refine ⟨fun x hx => ?_, ?_, ?_, ?_⟩
  ·rcases List.mem_append.1 hx with hx | hx
   ·exact h.ok x hx
   ·rw [List.mem_singleton] at hx; rw [hx]; exact he.1
  ·show (st.1 ++ [e]).length ≤ c + 1
   rw [List.length_append, List.length_singleton]; have := h.len; omega
  ·show 0 ≤ st.2 + e.f2
   have := h.low; have := he.2.1; omega
  ·show st.2 + e.f2 ≤ 100 * ((c + 1 : Nat) : Int)
   have := h.high; have := he.2.2; omega
theorem kfold_inv {n : Int} : ∀ (l : List Ed) (st : List Ed × Int) (c : Nat), KInv n st c → (∀ e ∈ l, okX n e) → KInv n (kfold n l st) (c + l.length)
 | [], st, c, h, _ => h
 | e :: l, st, c, h, hl => by
  have := kfold_inv l (kst n st e) (c + 1) (h.step (hl e (by simp))) (fun x hx => hl x (by simp [hx]))
  rw [List.length_cons, show c + (l.length + 1) = c + 1 + l.length by omega]
  exact this
theorem implLT_l {n : Int} (h0 : 0 ≤ n) (hn : n ≤ 12) (L : List Ed) (hL : L.length ≤ 1000) : ∀ (suf pre : List Ed) (st : List Ed × Int), pre ++ suf = L → KInv n st pre.length → (∀ e ∈ suf, okX n e) →
  Ev (fun k => impl_LeastTree.l0 k n st.1 st.2 L L.length pre.length) ((kfold n suf st).1, (kfold n suf st).2, true)
 | [], pre, st, e, h, _ => by
  rw [List.append_nil] at e
  subst e
  refine Ev.succ ?_
  simp only [impl_LeastTree.l0, Int.lt_irrefl, if_false]
  exact Ev.now _
 | x :: suf, pre, st, e, h, hx => by
  have hlen := lenE_mid pre x suf
  rw [e] at hlen
  have hr : rd_T79 L (pre.length : Int) = x := by rw [← e]; exact rdE_mid pre x suf _ rfl
  have hxx := hx x (by simp)
  obtain ⟨⟨hx0, hx1, hx2⟩, hx3, hx4⟩ := hxx
  have hxx := hx x (by simp)
  have hgl := groupsM_len n st.1
  have hil := h.len
  have hih := h.high
  have hilo := h.low
  have hrec := implLT_l h0 hn L hL suf (pre ++ [x]) (kst n st x) (by rw [← app_one]; exact e) (by rw [List.length_append, List.length_singleton]; exact h.step hxx) (fun y hy => hx y (by simp [hy]))
  rw [len_one] at hrec
  refine Ev.succ ?_
  simp only [impl_LeastTree.l0, if_pos (show (pre.length : Int) < L.length by omega), if_pos (show (0 : Int) ≤ pre.length by omega), hr]
  refine Ev.bind (implGroupsOf_ev n st.1 h0 (by omega) (by omega) h.ok) ?_
  have hgz : ((groupsM n st.1).length : Int) = n := by rw [hgl]; omega
  simp only [hgz, if_pos hxx.1.1, if_pos (show x.f0 < n by omega), if_pos (show 0 ≤ x.f1 by omega), if_pos hxx.1.2.2, wrap_id (show (-9223372036854775808 : Int) ≤ (pre.length : Int) + 1 by omega) (show (pre.length : Int) + 1 ≤ 9223372036854775807 by omega), eta3]
  show Ev _ ((kfold n suf (kst n st x)).1, (kfold n suf (kst n st x)).2, true)
  unfold kst at hrec ⊢
  by_cases hg : rd (groupsM n st.1) x.f0 = rd (groupsM n st.1) x.f1
  ·rw [if_pos hg] at hrec ⊢
   simp only [if_pos hg]
   exact hrec
  ·rw [if_neg hg] at hrec ⊢
   simp only [if_neg hg, if_pos (show st.1.length < 5864062014805 by omega), wrap_id (show (-9223372036854775808 : Int) ≤ st.2 + x.f2 by omega) (show st.2 + x.f2 ≤ 9223372036854775807 by omega)]
   exact hrec
theorem specLT_l1 {n : Int} (h0 : 0 ≤ n) (hn : n ≤ 12) (L : List Ed) (hL : L.length ≤ 1000) (c : Int) (R : List Ed × Int × Bool) : ∀ (suf pre : List Ed) (st : List Ed × Int) (m : Nat), pre ++ suf = L → KInv n st m → m ≤ 1000000 → (∀ e ∈ suf, okX n e) →
  Ev (fun k => spec_LeastTree.l0 k n L (kfold n (ofK c suf) st).1 (kfold n (ofK c suf) st).2 (wrap64 (c + 1))) R → m + suf.length ≤ 1000000 →
  Ev (fun k => spec_LeastTree.l1 k n L st.1 st.2 c L L.length pre.length) R
 | [], pre, st, m, e, h, hm, _, hR, _ => by
  rw [List.append_nil] at e
  subst e
  refine Ev.succ ?_
  simp only [spec_LeastTree.l1, Int.lt_irrefl, if_false]
  exact hR
 | x :: suf, pre, st, m, e, h, hm, hx, hR, hms => by
  have hlen := lenE_mid pre x suf
  rw [e] at hlen
  have hr : rd_T79 L (pre.length : Int) = x := by rw [← e]; exact rdE_mid pre x suf _ rfl
  have hxx := hx x (by simp)
  obtain ⟨⟨hx0, hx1, hx2⟩, hx3, hx4⟩ := hxx
  have hxx := hx x (by simp)
  have hgl := groupsM_len n st.1
  have hil := h.len
  have hih := h.high
  have hilo := h.low
  rw [List.length_cons] at hms
  have hgz : ((groupsM n st.1).length : Int) = n := by rw [hgl]; omega
  refine Ev.succ ?_
  simp only [spec_LeastTree.l1, if_pos (show (pre.length : Int) < L.length by omega), if_pos (show (0 : Int) ≤ pre.length by omega), hr]
  refine Ev.bind (specGroups_ev n st.1 h0 (by omega) (by omega) h.ok) ?_
  simp only [hgz, if_pos hxx.1.1, if_pos (show x.f0 < n by omega), if_pos (show 0 ≤ x.f1 by omega), if_pos hxx.1.2.2, wrap_id (show (-9223372036854775808 : Int) ≤ (pre.length : Int) + 1 by omega) (show (pre.length : Int) + 1 ≤ 9223372036854775807 by omega), eta3]
  by_cases hc : x.f2 = c
  ·simp only [if_pos hc]
   have hR' : Ev (fun k => spec_LeastTree.l0 k n L (kfold n (ofK c suf) (kst n st x)).1 (kfold n (ofK c suf) (kst n st x)).2 (wrap64 (c + 1))) R := by
    unfold ofK at hR ⊢
    rw [List.filter_cons_of_pos (by simp [hc])] at hR
    exact hR
   have hrec := specLT_l1 h0 hn L hL c R suf (pre ++ [x]) (kst n st x) (m + 1) (by rw [← app_one]; exact e) (h.step hxx) (by omega) (fun y hy => hx y (by simp [hy])) hR' (by omega)
   rw [len_one] at hrec
   unfold kst at hrec
   by_cases hg : rd (groupsM n st.1) x.f0 = rd (groupsM n st.1) x.f1
   ·rw [if_pos hg] at hrec
    simp only [if_pos hg]
    exact hrec
   ·rw [if_neg hg] at hrec
    simp only [if_neg hg, if_pos (show st.1.length < 5864062014805 by omega), wrap_id (show (-9223372036854775808 : Int) ≤ st.2 + c by omega) (show st.2 + c ≤ 9223372036854775807 by omega)]
    rw [← hc]
    rw [hc] at hrec ⊢
    exact hrec
  ·simp only [if_neg hc]
   have hR' : Ev (fun k => spec_LeastTree.l0 k n L (kfold n (ofK c suf) st).1 (kfold n (ofK c suf) st).2 (wrap64 (c + 1))) R := by
    unfold ofK at hR ⊢
    rw [List.filter_cons_of_neg (by simp [hc])] at hR
    exact hR
   have hrec := specLT_l1 h0 hn L hL c R suf (pre ++ [x]) st m (by rw [← app_one]; exact e) h hm (fun y hy => hx y (by simp [hy])) hR' (by omega)
   rw [len_one] at hrec
   exact hrec
def catK (l : List Ed) : Nat → Int → List Ed
 | 0, _ => []
 | d + 1, c => ofK c l ++ catK l d (c + 1)
theorem specLT_l0 {n : Int} (h0 : 0 ≤ n) (hn : n ≤ 12) (L : List Ed) (hL : L.length ≤ 1000) (hx : ∀ e ∈ L, okX n e) : ∀ (d : Nat) (c : Int) (st : List Ed × Int) (m : Nat), c + d = 101 → 1 ≤ c → KInv n st m → m + d * 1000 ≤ 1000000 - 1000 →
  Ev (fun k => spec_LeastTree.l0 k n L st.1 st.2 c) ((kfold n (catK L d c) st).1, (kfold n (catK L d c) st).2, true)
 | 0, c, st, m, hc, _, h, hm => by
  refine Ev.succ ?_
  simp only [spec_LeastTree.l0, if_neg (show ¬ c ≤ 100 by omega), catK]
  exact Ev.now _
 | d + 1, c, st, m, hc, hc1, h, hm => by
  refine Ev.succ ?_
  simp only [spec_LeastTree.l0, if_pos (show c ≤ 100 by omega)]
  have hfl : (ofK c L).length ≤ 1000 := Nat.le_trans (List.length_filter_le _ _) hL
  have hinv := (kfold_inv (ofK c L) st m h (fun e he => hx e (List.mem_filter.1 he).1)).mono (show m + (ofK c L).length ≤ m + 1000 by omega)
  have hrec := specLT_l0 h0 hn L hL hx d (c + 1) (kfold n (ofK c L) st) (m + 1000) (by omega) (by omega) hinv (by omega)
  have e : kfold n (catK L (d + 1) c) st = kfold n (catK L d (c + 1)) (kfold n (ofK c L) st) := by
   unfold kfold
   rw [catK, List.foldl_append]
  rw [e]
  exact specLT_l1 h0 hn L hL c _ L [] st m rfl h (by omega) hx (by rw [wrap_id (by omega) (by omega)]; exact hrec) (by omega)
theorem catK_ge (l : List Ed) : ∀ (d : Nat) (c : Int), ∀ x ∈ catK l d c, c ≤ x.f2
 | 0, c, x, hx => by simp [catK] at hx
 | d + 1, c, x, hx => by
  rw [catK] at hx
  rcases List.mem_append.1 hx with hx | hx
  ·have := of_decide_eq_true (List.mem_filter.1 hx).2; omega
  ·have := catK_ge l d (c + 1) x hx; omega
theorem catK_srt (l : List Ed) : ∀ (d : Nat) (c : Int), Srt (catK l d c)
 | 0, c => List.Pairwise.nil
 | d + 1, c => by
  rw [catK]
  refine Srt_app.2 ⟨?_, catK_srt l d (c + 1), fun x hx y hy => ?_⟩
  ·refine List.Pairwise.imp_of_mem (R := fun _ _ => True) (fun {x y} hx hy _ => ?_) (List.pairwise_of_forall (fun _ _ => trivial))
   have := of_decide_eq_true (List.mem_filter.1 hx).2
   have := of_decide_eq_true (List.mem_filter.1 hy).2
   omega
  ·have := of_decide_eq_true (List.mem_filter.1 hx).2
   have := catK_ge l d (c + 1) y hy
   omega
theorem ofK_ofK (b c : Int) (l : List Ed) : ofK b (ofK c l) = if b = c then ofK c l else [] := by
 split
 ·rename_i h
  subst h
  unfold ofK
  rw [List.filter_filter]
  refine List.filter_congr fun y _ => ?_
  simp
 ·rename_i h
  refine ofK_none fun x hx => ?_
  have := of_decide_eq_true (List.mem_filter.1 hx).2
  omega
theorem catK_of (l : List Ed) : ∀ (d : Nat) (c b : Int), ofK b (catK l d c) = if c ≤ b ∧ b < c + d then ofK b l else []
 | 0, c, b => by rw [catK, if_neg (by omega)]; rfl
 | d + 1, c, b => by
  rw [catK, ofK_app, ofK_ofK, catK_of l d (c + 1) b]
  by_cases h : b = c
  ·subst h
   rw [if_pos rfl, if_neg (by omega), if_pos (by omega), List.append_nil]
  ·rw [if_neg h, List.nil_append]
   by_cases h2 : c + 1 ≤ b ∧ b < c + 1 + d
   ·rw [if_pos h2, if_pos (by omega)]
   ·rw [if_neg h2, if_neg (by omega)]
theorem ins_cat (l : List Ed) (h : ∀ e ∈ l, 1 ≤ e.f2 ∧ e.f2 ≤ 100) : insS l = catK l 100 1 := by
 refine srt_uniq _ _ (insS_srt l) (catK_srt l 100 1) fun c => ?_
 rw [(insS_stab l).2, catK_of]
 split
 ·rfl
 ·refine ofK_none fun x hx => ?_
  have := h x hx
  omega
def leastT (n : Int) (l : List Ed) : List Ed × Int × Bool := if goodE n l = true then ((kfold n (insS l) ([], 0)).1, (kfold n (insS l) ([], 0)).2, true) else ([], 0, false)
theorem good_okX {n : Int} {l : List Ed} (h : goodE n l = true) : ∀ e ∈ l, okX n e := fun e he => by
 have := goodE_edge h e he
 exact ⟨⟨this.1, this.2.1, this.2.2.1⟩, this.2.2.2.1, this.2.2.2.2⟩
theorem KInv.nil (n : Int) : KInv n ([], 0) 0 := ⟨by simp, by simp, by simp, by simp⟩
theorem leastT_len (n : Int) (l : List Ed) : (leastT n l).1.length ≤ 40 := by
 unfold leastT
 split
 ·rename_i h
  have hn := goodE_n h
  have := (kfold_inv (insS l) ([], 0) 0 (KInv.nil n) (fun e he => good_okX h e ((insS_stab l).mem he))).len
  rw [(insS_stab l).1] at this
  show (kfold n (insS l) ([], 0)).1.length ≤ 40
  omega
 ·simp
theorem specLT_ev (n : Int) (l : List Ed) (hl : l.length ≤ 1048576) : Ev (fun k => spec_LeastTree.f k n l) (leastT n l) := by
 unfold spec_LeastTree.f leastT
 refine Ev.bind (specGoodE_ev n l hl) ?_
 by_cases h : goodE n l = true
 ·have hn := goodE_n h
  simp only [if_pos h]
  rw [ins_cat l (fun e he => (good_okX h e he).2)]
  exact specLT_l0 (by omega) hn.2.1 l (by omega) (good_okX h) 100 1 ([], 0) 0 (by omega) (by omega) (KInv.nil n) (by omega)
 ·simp only [if_neg h]
  exact Ev.now _
theorem implLT_ev (n : Int) (l : List Ed) (hl : l.length ≤ 1048576) : Ev (fun k => impl_LeastTree.f k n l) (leastT n l) := by
 unfold impl_LeastTree.f leastT
 refine Ev.bind (implGoodE_ev n l hl) ?_
 by_cases h : goodE n l = true
 ·have hn := goodE_n h
  simp only [if_pos h, slices_Clone_Edge.f, if_pos (show l.length < 5864062014805 by omega), Option.bind_some]
  refine Ev.bind (sortS_ev l (fun e he => by have := (good_okX h e he).2; omega) (by omega) 0) ?_
  have := implLT_l (n := n) (by omega) hn.2.1 (insS l) (by rw [(insS_stab l).1]; omega) (insS l) [] ([], 0) rfl (KInv.nil n) (fun e he => good_okX h e ((insS_stab l).mem he))
  rw [show ((insS l).length : Int) = l.length by rw [(insS_stab l).1]] at this
  exact this
 ·simp only [if_neg h]
  exact Ev.now _
def marksEdge : Nat → Int → List S79
 | 0, _ => []
 | n + 1, q => ⟨q, q + 1, q + 2⟩ :: marksEdge n (q + 3)
theorem markEdgeS_l (suf : List S79) : ∀ (pre : List S79) (k : Nat) (q : Int), suf.length < k → (pre.length : Int) + suf.length ≤ 1099511627776 → 0 ≤ q → q + 3 * suf.length ≤ 4611686018427387904 →
  laws_markEdgeS.l0 k (pre ++ suf) q (pre.length : Int) = some (q + 3 * suf.length, pre ++ marksEdge suf.length q) := by
 induction suf with
 | nil =>
  intro pre k q hk hb h0 h1
  obtain ⟨k, rfl⟩ : ∃ m, k = m + 1 := ⟨k - 1, by omega⟩
  simp only [laws_markEdgeS.l0]
  rw [if_neg (by simp)]
  simp [marksEdge]
 | cons x suf ih =>
  intro pre k q hk hb h0 h1
  simp only [List.length_cons] at hk hb h1
  obtain ⟨k, rfl⟩ : ∃ m, k = m + 1 := ⟨k - 1, by omega⟩
  have h := ih (pre ++ [⟨q, q + 1, q + 2⟩]) k (q + 3) (by omega) (by simp <;> omega) (by omega) (by omega)
  simp only [laws_markEdgeS.l0]
  rw [if_pos (by simp <;> omega), if_pos (by omega)]
  simp only [Option.bind_some, set_mid, rdEdge_mid]
  rw [wrap_id (x := q + 1) (by omega) (by omega), wrap_id (x := q + 1 + 1) (by omega) (by omega), wrap_id (x := q + 1 + 1 + 1) (by omega) (by omega), wrap_id (x := (pre.length : Int) + 1) (by omega) (by omega)]
  rw [show q + 1 + 1 = q + 2 from by omega, show q + 2 + 1 = q + 3 from by omega]
  rw [show ((pre ++ [(⟨q, q + 1, q + 2⟩ : S79)]).length : Int) = (pre.length : Int) + 1 from by simp] at h
  rw [app_one, h]
  simp only [marksEdge, List.length_cons, List.append_assoc, List.cons_append, List.nil_append, Option.some.injEq, Prod.mk.injEq, and_true]
  omega
theorem markEdgeS_ev (l : List S79) (q : Int) (hl : l.length ≤ 1099511627776) (h0 : 0 ≤ q) (h1 : q ≤ 1099511627776) : Ev (fun k => laws_markEdgeS.f k l q) (q + 3 * l.length, marksEdge l.length q) := by
 refine ⟨l.length + 1, fun k hk => ?_⟩
 show laws_markEdgeS.f k l q = _
 unfold laws_markEdgeS.f
 simpa using markEdgeS_l l [] k q (by omega) (by simp <;> omega) h0 (by omega)
theorem heldEdgeS_l (n : Nat) : ∀ (pre : List S79) (k : Nat) (q : Int), n < k → (pre.length : Int) + n ≤ 1099511627776 → 0 ≤ q → q + 3 * n ≤ 4611686018427387904 →
  laws_heldEdgeS.l0 k (pre ++ marksEdge n q) q (pre.length : Int) = some (q + 3 * n) := by
 induction n with
 | zero =>
  intro pre k q hk hb h0 h1
  obtain ⟨k, rfl⟩ : ∃ m, k = m + 1 := ⟨k - 1, by omega⟩
  simp only [laws_heldEdgeS.l0]
  rw [show marksEdge 0 q = [] from rfl, if_neg (by simp)]
  simp
 | succ n ih =>
  intro pre k q hk hb h0 h1
  obtain ⟨k, rfl⟩ : ∃ m, k = m + 1 := ⟨k - 1, by omega⟩
  have h := ih (pre ++ [⟨q, q + 1, q + 2⟩]) k (q + 3) (by omega) (by simp <;> omega) (by omega) (by omega)
  simp only [laws_heldEdgeS.l0]
  rw [show marksEdge (n + 1) q = ⟨q, q + 1, q + 2⟩ :: marksEdge n (q + 3) from rfl]
  rw [if_pos (by simp <;> omega), if_pos (by omega)]
  simp only [rdEdge_mid]
  rw [wrap_id (x := q + 1) (by omega) (by omega), wrap_id (x := q + 1 + 1) (by omega) (by omega), wrap_id (x := q + 1 + 1 + 1) (by omega) (by omega), wrap_id (x := (pre.length : Int) + 1) (by omega) (by omega)]
  rw [show q + 1 + 1 = q + 2 from by omega, show q + 2 + 1 = q + 3 from by omega, if_pos rfl, if_pos rfl, if_pos trivial]
  rw [show ((pre ++ [(⟨q, q + 1, q + 2⟩ : S79)]).length : Int) = (pre.length : Int) + 1 from by simp] at h
  rw [app_one, h]
  simp only [Option.some.injEq]
  omega
theorem heldEdgeS_ev (n : Nat) (q : Int) (hl : n ≤ 1099511627776) (h0 : 0 ≤ q) (h1 : q ≤ 1099511627776) : Ev (fun k => laws_heldEdgeS.f k (marksEdge n q) q) (q + 3 * n) := by
 refine ⟨n + 1, fun k hk => ?_⟩
 show laws_heldEdgeS.f k (marksEdge n q) q = _
 unfold laws_heldEdgeS.f
 exact heldEdgeS_l n [] k q (by omega) (by simp <;> omega) h0 (by omega)
end Go.Proofs.Ytedegfbheihopaa.P
namespace Go.Proofs.Ytedegfbheihopaa.Pure
open Go.RowKit Go.Proofs.Ytedegfbheihopaa.P Go.Proofs.YtedegfbheihopaaW.PrintWords Go.Proofs.YtedegfbheihopaaW.PrintLast
set_option linter.unusedVariables false
set_option linter.unusedSimpArgs false
theorem FnExactLeastTree : laws_FnExactLeastTree.Pure := by
 intro a0 l _ ⟨hm, _⟩
 refine Ev.rounds ?_
 unfold laws_FnExactLeastTree.f
 rw [szEdgeS_is l hm 1048576 (by omega) (by omega)]
 simp only [Option.bind_some]
 by_cases h : (1048576 : Int) - l.length < 0
 ·simp only [if_pos h]
  exact Ev.now _
 ·have hl : l.length ≤ 1048576 := by omega
  have hl2 : (l.map cvEdge).length ≤ 1048576 := by simpa using hl
  have hr := leastT_len a0 (l.map cvEdge)
  simp only [if_neg h]
  refine Ev.bind (toEdgeS_ev l hl) ?_
  refine Ev.bind (specLT_ev a0 _ hl2) ?_
  refine Ev.bind (toEdgeS_ev l hl) ?_
  refine Ev.bind (implLT_ev a0 _ hl2) ?_
  have hi := implLT_ev a0 _ hl2
  generalize leastT a0 (l.map cvEdge) = r at hr hi
  refine Ev.bind (eqEdgeS_ev _ _ (by omega)) ?_
  simp only [decide_true, if_true, bne_self_eq_false]
  refine Ev.succ ?_
  simp only [laws_FnExactLeastTree.j0, Bool.false_eq_true, if_false]
  refine Ev.bind (toEdgeS_ev l hl) ?_
  refine Ev.bind (eqEdgeS_ev _ _ (by omega)) ?_
  simp only [decide_true, if_true]
  refine Ev.bind (markEdgeS_ev _ 1 (by omega) (by omega) (by omega)) ?_
  simp only [if_neg (show ¬ (1 + 3 * ((l.map cvEdge).length : Int)) < 0 by omega)]
  refine Ev.bind (eqEdgeS_ev _ _ (by omega)) ?_
  simp only [decide_true, if_true, bne_self_eq_false]
  refine Ev.succ ?_
  simp only [laws_FnExactLeastTree.j1, Bool.false_eq_true, if_false]
  refine Ev.bind (markEdgeS_ev _ 1 (by omega) (by omega) (by omega)) ?_
  refine Ev.bind (heldEdgeS_ev _ 1 (by omega) (by omega) (by omega)) ?_
  simp only [if_neg (show ¬ (1 + 3 * (r.1.length : Int)) < 0 by omega), if_true]
  refine Ev.bind (toEdgeS_ev l hl) ?_
  refine Ev.bind hi ?_
  refine Ev.bind (eqEdgeS_ev _ _ (by omega)) ?_
  simp only [decide_true, if_true, bne_self_eq_false]
  refine Ev.succ ?_
  simp only [laws_FnExactLeastTree.j2, Bool.false_eq_true, if_false]
  refine Ev.bind (heldEdgeS_ev _ 1 (by omega) (by omega) (by omega)) ?_
  simp only [if_neg (show ¬ (1 + 3 * (r.1.length : Int)) < 0 by omega), if_true]
  exact Ev.now _
end Go.Proofs.Ytedegfbheihopaa.Pure
