/- Functions, walks and plain lemmas that the law FnHops reaches, part 5. -/
import Derived.Test.YtklecgkjoofipaaCFnHops4
import Derived.Below
import Derived.Deep.Draws
import Derived.Deep.AppendLies
import Derived.Maps.AppendAt
import Derived.OwnWalk
import Derived.Laws.BytesArg
import Derived.Laws.MakeOwn
import Derived.Laws.OwnMore
import Derived.Deep.OwnRows
import Derived.Tactics
import Derived.Lib.ConvBytes
import Derived.Laws.Slices
import Derived.WalkKit
import Derived.KernelRfl
import Derived.RowKit3
import Derived.Deep.LoopGhost
import Derived.Deep.QuietTactic
import Derived.BigQuiet
import Derived.WideLaws
import Derived.Deep.DeepCutAuto
import Derived.Deep.CutBlock
import Derived.Deep.RegionHeld3
import Derived.Laws.Rows
import Derived.Lib.AppendStr
import Derived.ArgAppend
import Derived.Laws.IdiomCopy
import Derived.OrdersHeld
import Derived.Laws.BitsLemmas
import Derived.RowKit
import Derived.WalkSpells
import Derived.Lib.SliceRun
import Derived.Shelf.Abstract
import Derived.ProofKit
import Derived.OpenShut
import Derived.ShutString
import Derived.ChangeOld
import Derived.SizedLaws
namespace Go.Proofs.Ytklecgkjoofipaa.P
open Go.RowKit Go.Proofs.YtklecgkjoofipaaW.PrintWords Go.Proofs.YtklecgkjoofipaaW.PrintLast Go.Proofs.YtklecgkjoofipaaW.PrintMore
attribute [local go_sem] max2_int min2_int max_two min_two max_three min_three max_four min_four   -- for this text's walks alone
set_option linter.unusedVariables false
set_option linter.unusedSimpArgs false
def spec_WayTo.l0:Nat→Int→List (S67)→Int→Int→List Int→Int→Option (List Int × Int × Bool)
 | 0,_,_,_,_,_,_=>none
 |k+1,x0,x1,x2,x3,x11,x12=>if x12=x3 then((spec_l9Fars.f k x0 x1 x3).bind fun t539=>(if 0≤x2 then(if x2< (t539.length:Int) then(some (x11,rd t539 x2,true)) else(none)) else(none))) else((spec_l9Hops.f k x0 x1 x12 x3).bind fun t543=>(if (t543.length:Int)=0 then(some (([] :List Int),0,false)) else(if 0< (t543.length:Int) then(if x11.length< 17592186044416 then(spec_WayTo.l0 k x0 x1 x2 x3 (x11++ [rd t543 0]) (rd t543 0)) else(none)) else(none))))
def spec_WayTo.f (k:Nat) (a0:Int) (l1:List (S67)) (a2:Int) (a3:Int):Option (List Int × Int × Bool):=(spec_l9Two.f k a0 l1 a2 a3).bind fun t535=>(if t535=true then(spec_WayTo.l0 k a0 l1 a2 a3 (([a2] :List Int)) a2) else(some (([] :List Int),0,false)))
def spec_WayTo.T11:Bool × List (List Nat × List Nat):=(true,[([],[]),([],[]),([],[]),([],[]),([1,2,3],[1,2,3]),([],[]),([4,5],[4,5]),([6],[6]),([0,4,0],[0]),([7,8,0,1,2,3,4,5,6,7,8],[7]),([9,0,1,2,3,4,5,6,7,8,9],[])])
def spec_WayTo.B11:List Nat:= [0,0,0,0,14,0,62,126,31,511,1023]
theorem spec_WayTo.tab11:rtab .any (opsOf Try.f32 11)=spec_WayTo.T11:=by kernel_rfl
theorem spec_WayTo.bits11:waitsOk spec_WayTo.T11.2 spec_WayTo.B11=true:=by kernel_rfl
set_option maxHeartbeats 8000000 in
set_option maxRecDepth 100000 in
theorem spec_WayTo.calls (k:Nat) (a0:Int) (A1:Option Addr) (c1:Nat) (l1:List (S67)) (a2:Int) (a3:Int) (r1:List Int) (r2:Int) (r3:Bool) (w:World) (hr1:Kd.C k67 w A1 l1.length l1) (hc1:l1.length≤c1) (h:spec_WayTo.f k a0 l1 a2 a3=some (r1,r2,r3)):
  Calls Try.prog 32 #[.int .i64 a0,.slice A1 l1.length c1,.int .i64 a2,.int .i64 a3] w fun e w'=> ∃ v0_:Value,e= .returned (.tuple #[v0_,.int .i64 r2,.bool r3])∧Kd.R (Kd.int .i64) 3 w' w.heap.size (fun _=>True) v0_ r1∧Below w.heap.size w w':=by
 have HR1:=Aside0.mk hr1
 have HC1:=Aside0.mk hc1
 clear hr1 hc1
 have HB:=Aside0.mk (Below.refl w.heap.size w)
 have H:((spec_l9Two.f k a0 l1 a2 a3).bind fun t535=>(if t535=true then(spec_WayTo.l0 k a0 l1 a2 a3 (([a2] :List Int)) a2) else(some (([] :List Int),0,false))))=some (r1,r2,r3):=h
 clear h
 replace H:=Option.bind_eq_some_iff.mp H
 obtain⟨t535,A50,H⟩:=H
 replace H:(if t535=true then(spec_WayTo.l0 k a0 l1 a2 a3 (([a2] :List Int)) a2) else(some (([] :List Int),0,false)))=some (r1,r2,r3):=H
 have A5:=Aside0.mk A50
 clear A50
 by_cases c6:t535=true
 ·subst c6
  have H1:(spec_WayTo.l0 k a0 l1 a2 a3 (([a2] :List Int)) a2)=some (r1,r2,r3):=by rw [if_pos rfl] at H;exact H
  clear H
  have H:=H1
  clear H1
  obtain⟨y536,hy536⟩ :∃ y_:List Int,y_= (([a2] :List Int)):=⟨_,rfl⟩
  replace H:(spec_WayTo.l0 k a0 l1 a2 a3 y536 a2)=some (r1,r2,r3):=by first|(rw [hy536];with_reducible exact H)|(have H2_:=(Option.bind_some _ _).symm.trans H;rw [hy536];with_reducible exact H2_)|(have H2_:=(Option.bind_some _ _).symm.trans H;with_reducible exact H2_)|with_reducible exact H|(rw [hy536];exact H)|exact H
  have Ny536:=Aside0.mk hy536
  clear hy536
  have H':=Aside0.mk H
  clear H
  go_enter Try.func32,Try.ntmps32
  go_wp2_with (first|((with_reducible refine gate_callee (f:=59) rfl ?_);refine goesL_ (some 18) rfl rfl Try.func59 (by kernel_rfl) rfl #[.int .i64 a0,.slice A1 l1.length c1,.int .i64 a2,.int .i64 a3] rfl zq2 ?_;(with_reducible refine(spec_l9Two.calls k a0 _ _ l1 a2 a3 true _ ?side1 ?side2 A5.out).mono ?_);(case side1=>repeat(first|exact HR1.out|(with_reducible refine Kd.C_alloc ?_ _)|(with_reducible refine Kd.C_drewN ?_ _)|(with_reducible refine Kd.C_drew ?_)));(case side2=>exact HC1.out);rintro e w7 ⟨rfl,hb⟩;refine⟨_,rfl,?_⟩;have n0_:=Aside0.mk (below_step (zb0 HB) hb);clear HB;have HB:=n0_;clear n0_;(try clear hb);(try clear hb2);(try clear hk);(try clear hi))|((with_reducible refine gate_dst (N:=21) rfl ?_);refine Kd.R_lit (Kd.int .i64) _ 3 ?hg (N:=21) ?hd (xs:=([a2] :List Int)) (inner:= [.int .i64 a2]) (ok:=fun _=>True) (okp:=fun _=>True) ?hr ?hp (fun _ hk=>hk) trivial (Below.refl _ _) (Nat.le_refl _) (by simp) ?_;(case hd=>rfl);(case hg=>rfl);(case hr=>first|(go_simp;done)|(go_simp;rfl));(case hp=>exact(Reps.one (show Kd.M (Kd.int .i64) _ _ _ a2 [.int .i64 a2] from rfl) (Reps.none _ _)));intro v537 w8 ho9 hb hg_ hnew_;clear hg_ hnew_;(first|rw [← Ny536.out] at ho9|(simp only [Int.reduceToNat] at ho9;rw [← Ny536.out] at ho9));have n0_:=Aside0.mk (Kd.R_lower ho9 (below_size (zb0 HB)));have n1_:=Aside0.mk (below_step (zb0 HB) hb);clear HB;have HO538:=n0_;have HB:=n1_;clear n0_ n1_;clear hb ho9))
  go_loopg [11,12] k (fun kq v11 v12 w'=> ∃ (x11_1:List Int) (x12_1:Int),v12= .int .i64 x12_1∧Aside0 (spec_WayTo.l0 kq a0 l1 a2 a3 x11_1 x12_1=some (r1,r2,r3))∧Aside0 (kq≤k)∧Aside0 (Kd.R (Kd.int .i64) 3 w' w.heap.size (fun _=>True) v11 x11_1)∧Aside0 (Below w.heap.size w w'))
  case atStart=>exact⟨(y536),(a2),(by first|rfl|(simp;done)|(simp [*];done)),H',⟨Nat.le_refl _⟩,⟨by(with_reducible repeat(first|apply Kd.R_alloc|apply Kd.R_drewN|apply Kd.R_drew));exact HO538.out⟩,⟨by repeat(first|(with_reducible first|exact HB.out|apply below_alloc|apply pw_below_drewN|apply below_drew1)|exact HB.out)⟩⟩
  case round=>
   clear H'
   try clear c1
   try clear p2
   try clear c3
   try clear c5
   try clear c6
   obtain⟨x11_1,x12_1,rfl,HA,HK1,HO_11,HB⟩:=hrel
   cases gk with
   |zero=>exact absurd HA.out (by simp [spec_WayTo.l0])
   |succ k1=>
    have H:=HA.out
    clear HA
    simp only [spec_WayTo.l0] at H
    by_cases c10:x12_1=a3
    ·rw [if_pos c10] at H
     have c10b0:(x12_1==a3)=true:=beq_iff_eq.mpr c10
     have c10b1:(x12_1 !=a3)=false:=bne_eq_false_iff_eq.mpr c10
     clear c10
     replace H:=Option.bind_eq_some_iff.mp H
     obtain⟨t539,A110,H⟩:=H
     replace H:(if 0≤a2 then(if a2< (t539.length:Int) then(some (x11_1,rd t539 a2,true)) else(none)) else(none))=some (r1,r2,r3):=H
     have A11:=Aside0.mk A110
     clear A110
     by_cases c12: 0≤a2
     ·rw [if_pos c12] at H
      have c12b0:decide (0≤a2)=true:=decide_eq_true c12
      clear c12
      by_cases c13:a2< (t539.length:Int)
      ·rw [if_pos c13] at H
       have c13b0:decide (a2< (t539.length:Int))=true:=decide_eq_true c13
       clear c13
       simp only [Option.some.injEq,Prod.mk.injEq] at H
       obtain⟨rfl,rfl,rfl⟩:=H
       try go_wp2
       have n0_:=Aside0.mk (Kd.R_drew HO_11.out)
       have n1_:=Aside0.mk (below_drew1 HB.out)
       clear HO_11
       clear HB
       have HO_11:=n0_
       have HB:=n1_
       clear n0_ n1_
       refine start_ (n:=11) (S:=fun w'=>True) (ds:= []) #[false,false,false,false,false,false,false,false,false,false,false] (by kernel_rfl) rfl rfl trivial (fun hHeld=>?_);refine with_tabW spec_WayTo.tab11 spec_WayTo.bits11 (fun HT_ HW_=>?_)
       generalize wr.drew=w14 at HO_11 HB hHeld ⊢
       refine pure_ (i:=0) (N:=some 41) (v:=?_) (a':=?_) #[true,false,false,false,false,false,false,false,false,false,false] rfl rfl (any_of HT_.out (by kernel_rfl)) (fun _ _ _ h=>h) (Or.inl ⟨by rfl,?_⟩) ?_ ?_
       rotate_left
       ·intro w'
        go_simp
        with_reducible rfl
       rotate_left
       ·simp only [Act.put,List.setIfInBounds_toArray,List.set_cons_zero,List.set_cons_succ,i64_w,i32_w]
        rfl
       refine pure_ (i:=1) (N:=some 42) (v:=?_) (a':=?_) #[true,true,false,false,false,false,false,false,false,false,false] rfl rfl (any_of HT_.out (by kernel_rfl)) (fun _ _ _ h=>h) (Or.inl ⟨by rfl,?_⟩) ?_ ?_
       rotate_left
       ·intro w'
        go_simp
        with_reducible rfl
       rotate_left
       ·simp only [Act.put,List.setIfInBounds_toArray,List.set_cons_zero,List.set_cons_succ,i64_w,i32_w]
        rfl
       refine pure_ (i:=2) (N:=some 43) (v:=?_) (a':=?_) #[true,true,true,false,false,false,false,false,false,false,false] rfl rfl (any_of HT_.out (by kernel_rfl)) (fun _ _ _ h=>h) (Or.inl ⟨by rfl,?_⟩) ?_ ?_
       rotate_left
       ·intro w'
        go_simp
        with_reducible rfl
       rotate_left
       ·simp only [Act.put,List.setIfInBounds_toArray,List.set_cons_zero,List.set_cons_succ,i64_w,i32_w]
        rfl
       refine pure_ (i:=3) (N:=some 44) (v:=?_) (a':=?_) #[true,true,true,true,false,false,false,false,false,false,false] rfl rfl (any_of HT_.out (by kernel_rfl)) (fun _ _ _ h=>h) (Or.inl ⟨by rfl,?_⟩) ?_ ?_
       rotate_left
       ·intro w'
        go_simp
        with_reducible rfl
       rotate_left
       ·simp only [Act.put,List.setIfInBounds_toArray,List.set_cons_zero,List.set_cons_succ,i64_w,i32_w]
        rfl
       refine pure_ (i:=5) (N:=some 46) (v:=?_) (a':=?_) #[true,true,true,true,false,true,false,false,false,false,false] rfl rfl (any_of HT_.out (by kernel_rfl)) (fun _ _ _ h=>h) (Or.inl ⟨by rfl,?_⟩) ?_ ?_
       rotate_left
       ·intro w'
        go_simp
        with_reducible rfl
       rotate_left
       ·simp only [Act.put,List.setIfInBounds_toArray,List.set_cons_zero,List.set_cons_succ,i64_w,i32_w]
        rfl
       refine one_ (i:=4) (N:=some 45) #[true,true,true,true,true,true,false,false,false,false,false] rfl rfl (one_of HT_.out (by kernel_rfl)) (by decide) (fun K hK=>?_)
       refine goes_ Try.func53 (by kernel_rfl) rfl #[.int .i64 a0,.slice A1 l1.length c1,.int .i64 a3] (by rfl) rfl rfl zq2 ?_
       with_reducible refine(spec_l9Fars.calls k1 a0 _ _ l1 a3 t539 _ ?side1 ?side2 A11.out).mono ?_
       (case side1=>repeat(first|exact(Kd.C_below HR1.out HB.out)|(with_reducible refine Kd.C_alloc ?_ _)|(with_reducible refine Kd.C_drewN ?_ _)|(with_reducible refine Kd.C_drew ?_)))
       (case side2=>exact HC1.out)
       rintro e w15 ⟨v540,rfl,ho0,hb⟩
       refine⟨_,rfl,?_⟩
       have n0_:=Aside0.mk (Kd.R_elder' (zq4 HO_11) (Kd.R_base ho0) hb)
       have n1_:=Aside0.mk (Kd.R_lower (Kd.R_new' ho0 (Kd.R_lt (zq4 HO_11))) (below_size (zb0 HB)))
       have n2_:=Aside0.mk (below_step (zb0 HB) hb)
       clear HO_11
       clear HB
       have HO_11:=n0_
       have HO541:=n1_
       have HB:=n2_
       clear n0_ n1_ n2_
       (try clear hb)
       (try clear hb2)
       (try clear hk)
       (try clear hi)
       (try clear ho0)
       obtain⟨Ao16,co16,eo16⟩:=Kd.R_slice HO541.out
       (first|subst eo16|(injection eo16 with f1_ f2_ f3_;have f4_:=f1_.symm;have f5_:=f3_.symm;clear f1_ f2_ f3_;subst f4_;subst f5_))
       have p542: 0≤ (a2:Int):=of_decide_eq_true zq1
       have q542:a2< (t539.length:Int):=of_decide_eq_true zq1
       obtain⟨ad542,e542,hx542_0⟩:=Kd.at_int (Kd.R_reads' HO541.out).2.2 a2 p542 q542
       cases e542
       replace p542:=eq_true p542
       replace q542:=eq_true q542
       refine hK.out _ _ trivial (fun hHeld=>?_)
       clear hK K
       refine norm_ (a':=?_) ?_ ?_
       rotate_left
       ·show Act.put _ (some 45) _=_
        simp only [Act.put,List.setIfInBounds_toArray,List.set_cons_zero,List.set_cons_succ,i64_w,i32_w]
        rfl
       refine pure_ (i:=6) (N:=some 47) (v:=?_) (a':=?_) #[true,true,true,true,true,true,true,false,false,false,false] rfl rfl (any_of HT_.out (by kernel_rfl)) (fun _ _ _ h=>h) (Or.inl ⟨by rfl,?_⟩) ?_ ?_
       rotate_left
       ·intro w'
        go_simp
        with_reducible rfl
       rotate_left
       ·simp only [Act.put,List.setIfInBounds_toArray,List.set_cons_zero,List.set_cons_succ,i64_w,i32_w]
        rfl
       refine pure_ (i:=8) (N:=some 8) (v:=?_) (a':=?_) #[true,true,true,true,true,true,true,false,true,false,false] rfl rfl (any_of HT_.out (by kernel_rfl)) (fun _ _ _ h=>h) (Or.inl ⟨by rfl,?_⟩) ?_ ?_
       rotate_left
       ·intro w'
        go_simp
        with_reducible rfl
       rotate_left
       ·simp only [Act.put,List.setIfInBounds_toArray,List.set_cons_zero,List.set_cons_succ,i64_w,i32_w]
        rfl
       refine one_ (i:=7) (N:=some 48) #[true,true,true,true,true,true,true,true,true,false,false] rfl rfl (one_of HT_.out (by kernel_rfl)) (by decide) (fun K hK=>?_)
       refine value_ (v:= .int .i64 (rd t539 a2)) (w1:=w15) (by rfl) rfl ?_ ?_
       ·go_simp
        try with_reducible rfl
       refine hK.out _ _ trivial (fun hHeld=>?_)
       clear hK K
       refine norm_ (a':=?_) ?_ ?_
       rotate_left
       ·show Act.put _ (some 48) _=_
        simp only [Act.put,List.setIfInBounds_toArray,List.set_cons_zero,List.set_cons_succ,i64_w,i32_w]
        rfl
       refine pure_ (i:=9) (N:=some 9) (v:=?_) (a':=?_) #[true,true,true,true,true,true,true,true,true,true,false] rfl rfl (any_of HT_.out (by kernel_rfl)) (fun _ _ _ h=>h) (Or.inl ⟨by rfl,?_⟩) ?_ ?_
       rotate_left
       ·intro w'
        go_simp
        with_reducible rfl
       rotate_left
       ·simp only [Act.put,List.setIfInBounds_toArray,List.set_cons_zero,List.set_cons_succ,i64_w,i32_w]
        rfl
       refine pure_ (i:=10) (N:=some 10) (v:=?_) (a':=?_) #[true,true,true,true,true,true,true,true,true,true,true] rfl rfl (any_of HT_.out (by kernel_rfl)) (fun _ _ _ h=>h) (Or.inl ⟨by rfl,?_⟩) ?_ ?_
       rotate_left
       ·intro w'
        go_simp
        with_reducible rfl
       rotate_left
       ·simp only [Act.put,List.setIfInBounds_toArray,List.set_cons_zero,List.set_cons_succ,i64_w,i32_w]
        rfl
       refine done_ (done_of HT_.out (by kernel_rfl)) ?_
       try go_wp2
       go_ret3
       exact⟨_,by first|rfl|(simp [errW_none,errW_some]<;>rfl)|(simp [*,errW_none,errW_some]<;>rfl),by(with_reducible repeat(first|apply Kd.R_alloc|apply Kd.R_drewN|apply Kd.R_drew));exact Kd.R_mono HO_11.out (fun _ hk=>trivial),by repeat(first|(with_reducible first|exact HB.out|apply below_alloc|apply pw_below_drewN|apply below_drew1)|exact HB.out)⟩
      ·rw [if_neg c13] at H
       exact absurd H (by simp)
     ·rw [if_neg c12] at H
      exact absurd H (by simp)
    ·rw [if_neg c10] at H
     have c10b0:(x12_1==a3)=false:=beq_eq_false_iff_ne.mpr c10
     have c10b1:(x12_1 !=a3)=true:=bne_iff_ne.mpr c10
     replace H:=Option.bind_eq_some_iff.mp H
     obtain⟨t543,A170,H⟩:=H
     replace H:(if (t543.length:Int)=0 then(some (([] :List Int),0,false)) else(if 0< (t543.length:Int) then(if x11_1.length< 17592186044416 then(spec_WayTo.l0 k1 a0 l1 a2 a3 (x11_1++ [rd t543 0]) (rd t543 0)) else(none)) else(none)))=some (r1,r2,r3):=H
     have A17:=Aside0.mk A170
     clear A170
     by_cases c18:(t543.length:Int)=0
     ·rw [if_pos c18] at H
      have c18b0:((t543.length:Int)==0)=true:=beq_iff_eq.mpr c18
      have c18b1:((t543.length:Int) !=0)=false:=bne_eq_false_iff_eq.mpr c18
      clear c18
      simp only [Option.some.injEq,Prod.mk.injEq] at H
      obtain⟨rfl,rfl,rfl⟩:=H
      go_wp2_with (first|((with_reducible refine gate_callee (f:=60) rfl ?_);refine goesL_ (some 30) rfl rfl Try.func60 (by kernel_rfl) rfl #[.int .i64 a0,.slice A1 l1.length c1,.int .i64 x12_1,.int .i64 a3] rfl zq2 ?_;(with_reducible refine(spec_l9Hops.calls k1 a0 _ _ l1 x12_1 a3 t543 _ ?side1 ?side2 A17.out).mono ?_);(case side1=>repeat(first|exact(Kd.C_below HR1.out HB.out)|(with_reducible refine Kd.C_alloc ?_ _)|(with_reducible refine Kd.C_drewN ?_ _)|(with_reducible refine Kd.C_drew ?_)));(case side2=>exact HC1.out);rintro e w19 ⟨v544,rfl,ho0,hb⟩;refine⟨_,rfl,?_⟩;have n0_:=Aside0.mk (Kd.R_elder' (zq4 HO_11) (Kd.R_base ho0) hb);have n1_:=Aside0.mk (Kd.R_lower (Kd.R_new' ho0 (Kd.R_lt (zq4 HO_11))) (below_size (zb0 HB)));have n2_:=Aside0.mk (below_step (zb0 HB) hb);clear HO_11;clear HB;have HO_11:=n0_;have HO545:=n1_;have HB:=n2_;clear n0_ n1_ n2_;(try clear hb);(try clear hb2);(try clear hk);(try clear hi);(try clear ho0);obtain⟨Ao20,co20,eo20⟩:=Kd.R_slice HO545.out;subst eo20))
      go_ret3
      exact⟨_,by first|rfl|(simp [errW_none,errW_some]<;>rfl)|(simp [*,errW_none,errW_some]<;>rfl),by first|exact Kd.R_nil _ _ _ _ _|exact Kd.N_nil _ _ _ _ _|exact Kd.V_nil _ _ _ _ _|exact Kd.Q_nil _ _ _ _ _|exact Kd.S_nil _ _ _ _ _,by repeat(first|(with_reducible first|exact HB.out|apply below_alloc|apply pw_below_drewN|apply below_drew1)|exact HB.out)⟩
     ·rw [if_neg c18] at H
      have c18b0:((t543.length:Int)==0)=false:=beq_eq_false_iff_ne.mpr c18
      have c18b1:((t543.length:Int) !=0)=true:=bne_iff_ne.mpr c18
      have c18b2:¬ (t543= []):=fun h_=>c18 (by rw [h_];rfl)
      by_cases c21: 0< (t543.length:Int)
      ·rw [if_pos c21] at H
       have c21b0:decide (0< (t543.length:Int))=true:=decide_eq_true c21
       have c21b1:decide (0<t543.length)=true:=decide_eq_true (by omega)
       clear c21
       by_cases c22:x11_1.length< 17592186044416
       ·rw [if_pos c22] at H
        have LMc22:=Aside0.mk c22
        clear c22
        obtain⟨y547,hy547⟩ :∃ y_:List Int,y_= (x11_1++ [rd t543 0]):=⟨_,rfl⟩
        replace H:(spec_WayTo.l0 k1 a0 l1 a2 a3 y547 (rd t543 0))=some (r1,r2,r3):=by first|(rw [hy547];with_reducible exact H)|(have H2_:=(Option.bind_some _ _).symm.trans H;rw [hy547];with_reducible exact H2_)|(have H2_:=(Option.bind_some _ _).symm.trans H;with_reducible exact H2_)|with_reducible exact H|(rw [hy547];exact H)|exact H
        have Ny547:=Aside0.mk hy547
        clear hy547
        have H':=Aside0.mk H
        clear H
        go_wp2_with (first|((with_reducible refine gate_callee (f:=60) rfl ?_);refine goesL_ (some 30) rfl rfl Try.func60 (by kernel_rfl) rfl #[.int .i64 a0,.slice A1 l1.length c1,.int .i64 x12_1,.int .i64 a3] rfl zq2 ?_;(with_reducible refine(spec_l9Hops.calls k1 a0 _ _ l1 x12_1 a3 t543 _ ?side1 ?side2 A17.out).mono ?_);(case side1=>repeat(first|exact(Kd.C_below HR1.out HB.out)|(with_reducible refine Kd.C_alloc ?_ _)|(with_reducible refine Kd.C_drewN ?_ _)|(with_reducible refine Kd.C_drew ?_)));(case side2=>exact HC1.out);rintro e w23 ⟨v544,rfl,ho0,hb⟩;refine⟨_,rfl,?_⟩;have n0_:=Aside0.mk (Kd.R_elder' (zq4 HO_11) (Kd.R_base ho0) hb);have n1_:=Aside0.mk (Kd.R_lower (Kd.R_new' ho0 (Kd.R_lt (zq4 HO_11))) (below_size (zb0 HB)));have n2_:=Aside0.mk (below_step (zb0 HB) hb);clear HO_11;clear HB;have HO_11:=n0_;have HO545:=n1_;have HB:=n2_;clear n0_ n1_ n2_;(try clear hb);(try clear hb2);(try clear hk);(try clear hi);(try clear ho0);obtain⟨Ao24,co24,eo24⟩:=Kd.R_slice HO545.out;subst eo24;have p546: 0≤ (0:Int):=(by omega);have q546: 0< (t543.length:Int):=of_decide_eq_true zq1;obtain⟨ad546,e546,hx546_0⟩:=Kd.at_int (Kd.R_reads' HO545.out).2.2 0 p546 q546;cases e546;have qi546:(0<t543.length)=True:=eq_true (by omega);(try rw [show ((0:Int)).toNat=0 from rfl] at hx546_0);(try rw [Addr.add_zero'] at hx546_0);replace p546:=eq_true p546;replace q546:=eq_true q546)|((with_reducible refine gate_builtin (b:= .append) (xs:= #[.tmp 37,.tmp 39]) rfl ?_);at_builtin;refine Kd.R_append (Kd.int .i64) (w0:=w) w.heap.size rfl (.tmp 37) (.tmp 39) 23 3 (.int .i64 0) 8 rfl Try.underlying23 info3 rfl (by decide) (by omega) u11 x11_1 (rd t543 0) [.int .i64 (rd t543 0)] (fun k_=>some k_≠ (.slice (some ad546) t543.length co24:Value).ownBlock) (fun _=>False) rfl rfl ?aP (fun _ hk=>hk.elim) ?aF ?aO ?aB ?aS ?aL ?_;(case aP=>exact rfl);(case aB=>exact(zb0 HB));(case aF=>exact(fun k_ hk=>Kd.fresh' (Kd.R_lt (zq4 HO545)) k_ hk));(case aO=>exact(by(with_reducible repeat(first|apply Kd.R_alloc|apply Kd.R_drewN|apply Kd.R_drew));exact Kd.R_mono HO_11.out (fun _ hk=>hk.2)));(case aS=>exact(below_size (zb0 HB)));(case aL=>have:=LMc22.out;omega);intro v548 w25 ho hb hg hat;rw [← Ny547.out] at ho;have n0_:=Aside0.mk (Kd.R_after (ok:=(fun _=>True)) (zq4 HO545) hg hat);have n1_:=Aside0.mk (hb);have n2_:=Aside0.mk (ho);clear HO545;clear HB;clear HO_11;have HO545:=n0_;have HB:=n1_;have HO549:=n2_;clear n0_ n1_ n2_;clear ho hb hg hat))
        go_roundg k1
        case measure=>have:=HK1.out;omega
        case rel=>exact⟨(y547),(rd t543 0),(by first|rfl|(simp;done)|(simp [*];done)),H',⟨by have:=HK1.out;omega⟩,⟨by(with_reducible repeat(first|apply Kd.R_alloc|apply Kd.R_drewN|apply Kd.R_drew));exact Kd.R_mono HO549.out (fun _ hk=>trivial)⟩,⟨by repeat(first|(with_reducible first|exact HB.out|apply below_alloc|apply pw_below_drewN|apply below_drew1)|exact HB.out)⟩⟩
       ·rw [if_neg c22] at H
        exact absurd H (by simp)
      ·rw [if_neg c21] at H
       exact absurd H (by simp)
 ·replace c6:=Bool.eq_false_iff.mpr c6
  subst c6
  have H1:(some (([] :List Int),0,false))=some (r1,r2,r3):=by rw [if_neg (show ¬ (false=true) by decide)] at H;exact H
  clear H
  have H:=H1
  clear H1
  simp only [Option.some.injEq,Prod.mk.injEq] at H
  obtain⟨rfl,rfl,rfl⟩:=H
  go_enter Try.func32,Try.ntmps32
  go_wp2_with (first|((with_reducible refine gate_callee (f:=59) rfl ?_);refine goesL_ (some 18) rfl rfl Try.func59 (by kernel_rfl) rfl #[.int .i64 a0,.slice A1 l1.length c1,.int .i64 a2,.int .i64 a3] rfl zq2 ?_;(with_reducible refine(spec_l9Two.calls k a0 _ _ l1 a2 a3 false _ ?side1 ?side2 A5.out).mono ?_);(case side1=>repeat(first|exact HR1.out|(with_reducible refine Kd.C_alloc ?_ _)|(with_reducible refine Kd.C_drewN ?_ _)|(with_reducible refine Kd.C_drew ?_)));(case side2=>exact HC1.out);rintro e w26 ⟨rfl,hb⟩;refine⟨_,rfl,?_⟩;have n0_:=Aside0.mk (below_step (zb0 HB) hb);clear HB;have HB:=n0_;clear n0_;(try clear hb);(try clear hb2);(try clear hk);(try clear hi)))
  go_ret3
  exact⟨_,by first|rfl|(simp [errW_none,errW_some]<;>rfl)|(simp [*,errW_none,errW_some]<;>rfl),by first|exact Kd.R_nil _ _ _ _ _|exact Kd.N_nil _ _ _ _ _|exact Kd.V_nil _ _ _ _ _|exact Kd.Q_nil _ _ _ _ _|exact Kd.S_nil _ _ _ _ _,by repeat(first|(with_reducible first|exact HB.out|apply below_alloc|apply pw_below_drewN|apply below_drew1)|exact HB.out)⟩
def impl_wayTo.l0:Nat→Int→List (S67)→Int→Int→List Int→List Int→Int→Option (List Int × Int × Bool)
 | 0,_,_,_,_,_,_,_=>none
 |k+1,x0,x1,x2,x3,x11,x12,x13=>if x13=x3 then(if 0≤x2 then(if x2< (x11.length:Int) then(some (x12,rd x11 x2,true)) else(none)) else(none)) else((impl_hops.f k x0 x1 x13 x11).bind fun t558=>(if 0< (t558.length:Int) then(if x12.length< 17592186044416 then(impl_wayTo.l0 k x0 x1 x2 x3 x11 (x12++ [rd t558 0]) (rd t558 0)) else(none)) else(none)))
def impl_wayTo.f (k:Nat) (a0:Int) (l1:List (S67)) (a2:Int) (a3:Int):Option (List Int × Int × Bool):=(impl_fars.f k a0 l1 a3).bind fun t550=>(if 0≤a2 then(if a2< (t550.length:Int) then(if (rd t550 a2)=100000 then(some (([] :List Int),0,false)) else(impl_wayTo.l0 k a0 l1 a2 a3 t550 (([a2] :List Int)) a2)) else(none)) else(none))
set_option maxHeartbeats 8000000 in
set_option maxRecDepth 100000 in
theorem impl_wayTo.calls (k:Nat) (a0:Int) (A1:Option Addr) (c1:Nat) (l1:List (S67)) (a2:Int) (a3:Int) (r1:List Int) (r2:Int) (r3:Bool) (w:World) (hr1:Kd.C k67 w A1 l1.length l1) (hc1:l1.length≤c1) (h:impl_wayTo.f k a0 l1 a2 a3=some (r1,r2,r3)):
  Calls Try.prog 62 #[.int .i64 a0,.slice A1 l1.length c1,.int .i64 a2,.int .i64 a3] w fun e w'=> ∃ v0_:Value,e= .returned (.tuple #[v0_,.int .i64 r2,.bool r3])∧Kd.R (Kd.int .i64) 3 w' w.heap.size (fun _=>True) v0_ r1∧Below w.heap.size w w':=by
 have HR1:=Aside0.mk hr1
 have HC1:=Aside0.mk hc1
 clear hr1 hc1
 have HB:=Aside0.mk (Below.refl w.heap.size w)
 have H:((impl_fars.f k a0 l1 a3).bind fun t550=>(if 0≤a2 then(if a2< (t550.length:Int) then(if (rd t550 a2)=100000 then(some (([] :List Int),0,false)) else(impl_wayTo.l0 k a0 l1 a2 a3 t550 (([a2] :List Int)) a2)) else(none)) else(none)))=some (r1,r2,r3):=h
 clear h
 replace H:=Option.bind_eq_some_iff.mp H
 obtain⟨t550,A50,H⟩:=H
 replace H:(if 0≤a2 then(if a2< (t550.length:Int) then(if (rd t550 a2)=100000 then(some (([] :List Int),0,false)) else(impl_wayTo.l0 k a0 l1 a2 a3 t550 (([a2] :List Int)) a2)) else(none)) else(none))=some (r1,r2,r3):=H
 have A5:=Aside0.mk A50
 clear A50
 by_cases c6: 0≤a2
 ·rw [if_pos c6] at H
  have c6b0:decide (0≤a2)=true:=decide_eq_true c6
  clear c6
  by_cases c7:a2< (t550.length:Int)
  ·rw [if_pos c7] at H
   have c7b0:decide (a2< (t550.length:Int))=true:=decide_eq_true c7
   clear c7
   by_cases c8:(rd t550 a2)=100000
   ·rw [if_pos c8] at H
    have c8b0:((rd t550 a2)==100000)=true:=beq_iff_eq.mpr c8
    have c8b1:((rd t550 a2) !=100000)=false:=bne_eq_false_iff_eq.mpr c8
    clear c8
    simp only [Option.some.injEq,Prod.mk.injEq] at H
    obtain⟨rfl,rfl,rfl⟩:=H
    go_enter Try.func62,Try.ntmps62
    go_wp2_with (first|(go_at_call 55;(with_reducible refine(impl_fars.calls k a0 _ _ l1 a3 t550 _ ?side1 ?side2 A5.out).mono ?_);(case side1=>repeat(first|exact HR1.out|(with_reducible refine Kd.C_alloc ?_ _)|(with_reducible refine Kd.C_drewN ?_ _)|(with_reducible refine Kd.C_drew ?_)));(case side2=>exact HC1.out);rintro e w9 ⟨v551,rfl,ho0,hb⟩;have n0_:=Aside0.mk (Kd.R_lower ho0 (below_size (zb0 HB)));have n1_:=Aside0.mk (below_step (zb0 HB) hb);clear HB;have HO552:=n0_;have HB:=n1_;clear n0_ n1_;(try clear hb);(try clear hb2);(try clear hk);(try clear hi);(try clear ho0);obtain⟨Ao10,co10,eo10⟩:=Kd.R_slice HO552.out;subst eo10;have p553: 0≤ (a2:Int):=of_decide_eq_true zq1;have q553:a2< (t550.length:Int):=of_decide_eq_true zq1;obtain⟨ad553,e553,hx553_0⟩:=Kd.at_int (Kd.R_reads' HO552.out).2.2 a2 p553 q553;cases e553;replace p553:=eq_true p553;replace q553:=eq_true q553))
    repeat(go_quiet (first|(go_at_call 55;(with_reducible refine(impl_fars.calls k a0 _ _ l1 a3 t550 _ ?side1 ?side2 A5.out).mono ?_);(case side1=>repeat(first|exact HR1.out|(with_reducible refine Kd.C_alloc ?_ _)|(with_reducible refine Kd.C_drewN ?_ _)|(with_reducible refine Kd.C_drew ?_)));(case side2=>exact HC1.out);rintro e w9 ⟨v551,rfl,ho0,hb⟩;have n0_:=Aside0.mk (Kd.R_lower ho0 (below_size (zb0 HB)));have n1_:=Aside0.mk (below_step (zb0 HB) hb);clear HB;have HO552:=n0_;have HB:=n1_;clear n0_ n1_;(try clear hb);(try clear hb2);(try clear hk);(try clear hi);(try clear ho0);obtain⟨Ao10,co10,eo10⟩:=Kd.R_slice HO552.out;subst eo10;have p553: 0≤ (a2:Int):=of_decide_eq_true zq1;have q553:a2< (t550.length:Int):=of_decide_eq_true zq1;obtain⟨ad553,e553,hx553_0⟩:=Kd.at_int (Kd.R_reads' HO552.out).2.2 a2 p553 q553;cases e553;replace p553:=eq_true p553;replace q553:=eq_true q553));try go_wp2_with (first|(go_at_call 55;(with_reducible refine(impl_fars.calls k a0 _ _ l1 a3 t550 _ ?side1 ?side2 A5.out).mono ?_);(case side1=>repeat(first|exact HR1.out|(with_reducible refine Kd.C_alloc ?_ _)|(with_reducible refine Kd.C_drewN ?_ _)|(with_reducible refine Kd.C_drew ?_)));(case side2=>exact HC1.out);rintro e w9 ⟨v551,rfl,ho0,hb⟩;have n0_:=Aside0.mk (Kd.R_lower ho0 (below_size (zb0 HB)));have n1_:=Aside0.mk (below_step (zb0 HB) hb);clear HB;have HO552:=n0_;have HB:=n1_;clear n0_ n1_;(try clear hb);(try clear hb2);(try clear hk);(try clear hi);(try clear ho0);obtain⟨Ao10,co10,eo10⟩:=Kd.R_slice HO552.out;subst eo10;have p553: 0≤ (a2:Int):=of_decide_eq_true zq1;have q553:a2< (t550.length:Int):=of_decide_eq_true zq1;obtain⟨ad553,e553,hx553_0⟩:=Kd.at_int (Kd.R_reads' HO552.out).2.2 a2 p553 q553;cases e553;replace p553:=eq_true p553;replace q553:=eq_true q553)))
    go_ret3
    exact⟨_,by first|rfl|(simp [errW_none,errW_some]<;>rfl)|(simp [*,errW_none,errW_some]<;>rfl),by first|exact Kd.R_nil _ _ _ _ _|exact Kd.N_nil _ _ _ _ _|exact Kd.V_nil _ _ _ _ _|exact Kd.Q_nil _ _ _ _ _|exact Kd.S_nil _ _ _ _ _,by repeat(first|(with_reducible first|exact HB.out|apply below_alloc|apply pw_below_drewN|apply below_drew1)|exact HB.out)⟩
   ·rw [if_neg c8] at H
    have c8b0:((rd t550 a2)==100000)=false:=beq_eq_false_iff_ne.mpr c8
    have c8b1:((rd t550 a2) !=100000)=true:=bne_iff_ne.mpr c8
    obtain⟨y554,hy554⟩ :∃ y_:List Int,y_= (([a2] :List Int)):=⟨_,rfl⟩
    replace H:(impl_wayTo.l0 k a0 l1 a2 a3 t550 y554 a2)=some (r1,r2,r3):=by first|(rw [hy554];with_reducible exact H)|(have H2_:=(Option.bind_some _ _).symm.trans H;rw [hy554];with_reducible exact H2_)|(have H2_:=(Option.bind_some _ _).symm.trans H;with_reducible exact H2_)|with_reducible exact H|(rw [hy554];exact H)|exact H
    have Ny554:=Aside0.mk hy554
    clear hy554
    have H':=Aside0.mk H
    clear H
    go_enter Try.func62,Try.ntmps62
    go_wp2_with (first|(go_at_call 55;(with_reducible refine(impl_fars.calls k a0 _ _ l1 a3 t550 _ ?side1 ?side2 A5.out).mono ?_);(case side1=>repeat(first|exact HR1.out|(with_reducible refine Kd.C_alloc ?_ _)|(with_reducible refine Kd.C_drewN ?_ _)|(with_reducible refine Kd.C_drew ?_)));(case side2=>exact HC1.out);rintro e w11 ⟨v551,rfl,ho0,hb⟩;have n0_:=Aside0.mk (Kd.R_lower ho0 (below_size (zb0 HB)));have n1_:=Aside0.mk (below_step (zb0 HB) hb);clear HB;have HO552:=n0_;have HB:=n1_;clear n0_ n1_;(try clear hb);(try clear hb2);(try clear hk);(try clear hi);(try clear ho0);obtain⟨Ao12,co12,eo12⟩:=Kd.R_slice HO552.out;subst eo12;have p553: 0≤ (a2:Int):=of_decide_eq_true zq1;have q553:a2< (t550.length:Int):=of_decide_eq_true zq1;obtain⟨ad553,e553,hx553_0⟩:=Kd.at_int (Kd.R_reads' HO552.out).2.2 a2 p553 q553;cases e553;replace p553:=eq_true p553;replace q553:=eq_true q553)|((with_reducible refine gate_dst (N:=24) rfl ?_);refine Kd.R_lit (Kd.int .i64) _ 3 ?hg (N:=24) ?hd (xs:=([a2] :List Int)) (inner:= [.int .i64 a2]) (ok:=fun _=>True) (okp:=fun _=>True) ?hr ?hp (fun _ hk=>hk) trivial (Below.refl _ _) (Nat.le_refl _) (by simp) ?_;(case hd=>rfl);(case hg=>rfl);(case hr=>first|(go_simp;done)|(go_simp;rfl));(case hp=>exact(Reps.one (show Kd.M (Kd.int .i64) _ _ _ a2 [.int .i64 a2] from rfl) (Reps.none _ _)));intro v555 w13 ho14 hb hg_ hnew_;clear hg_ hnew_;(first|rw [← Ny554.out] at ho14|(simp only [Int.reduceToNat] at ho14;rw [← Ny554.out] at ho14));have n0_:=Aside0.mk (Kd.R_elder' (zq4 HO552) (Kd.R_base ho14) hb);have n1_:=Aside0.mk (Kd.R_lower (Kd.R_new' ho14 (Kd.R_lt (zq4 HO552))) (below_size (zb0 HB)));have n2_:=Aside0.mk (below_step (zb0 HB) hb);clear HO552;clear HB;have HO552:=n0_;have HO556:=n1_;have HB:=n2_;clear n0_ n1_ n2_;clear hb ho14))
    repeat(go_quiet (first|(go_at_call 55;(with_reducible refine(impl_fars.calls k a0 _ _ l1 a3 t550 _ ?side1 ?side2 A5.out).mono ?_);(case side1=>repeat(first|exact HR1.out|(with_reducible refine Kd.C_alloc ?_ _)|(with_reducible refine Kd.C_drewN ?_ _)|(with_reducible refine Kd.C_drew ?_)));(case side2=>exact HC1.out);rintro e w11 ⟨v551,rfl,ho0,hb⟩;have n0_:=Aside0.mk (Kd.R_lower ho0 (below_size (zb0 HB)));have n1_:=Aside0.mk (below_step (zb0 HB) hb);clear HB;have HO552:=n0_;have HB:=n1_;clear n0_ n1_;(try clear hb);(try clear hb2);(try clear hk);(try clear hi);(try clear ho0);obtain⟨Ao12,co12,eo12⟩:=Kd.R_slice HO552.out;subst eo12;have p553: 0≤ (a2:Int):=of_decide_eq_true zq1;have q553:a2< (t550.length:Int):=of_decide_eq_true zq1;obtain⟨ad553,e553,hx553_0⟩:=Kd.at_int (Kd.R_reads' HO552.out).2.2 a2 p553 q553;cases e553;replace p553:=eq_true p553;replace q553:=eq_true q553)|((with_reducible refine gate_dst (N:=24) rfl ?_);refine Kd.R_lit (Kd.int .i64) _ 3 ?hg (N:=24) ?hd (xs:=([a2] :List Int)) (inner:= [.int .i64 a2]) (ok:=fun _=>True) (okp:=fun _=>True) ?hr ?hp (fun _ hk=>hk) trivial (Below.refl _ _) (Nat.le_refl _) (by simp) ?_;(case hd=>rfl);(case hg=>rfl);(case hr=>first|(go_simp;done)|(go_simp;rfl));(case hp=>exact(Reps.one (show Kd.M (Kd.int .i64) _ _ _ a2 [.int .i64 a2] from rfl) (Reps.none _ _)));intro v555 w13 ho14 hb hg_ hnew_;clear hg_ hnew_;(first|rw [← Ny554.out] at ho14|(simp only [Int.reduceToNat] at ho14;rw [← Ny554.out] at ho14));have n0_:=Aside0.mk (Kd.R_elder' (zq4 HO552) (Kd.R_base ho14) hb);have n1_:=Aside0.mk (Kd.R_lower (Kd.R_new' ho14 (Kd.R_lt (zq4 HO552))) (below_size (zb0 HB)));have n2_:=Aside0.mk (below_step (zb0 HB) hb);clear HO552;clear HB;have HO552:=n0_;have HO556:=n1_;have HB:=n2_;clear n0_ n1_ n2_;clear hb ho14));try go_wp2_with (first|(go_at_call 55;(with_reducible refine(impl_fars.calls k a0 _ _ l1 a3 t550 _ ?side1 ?side2 A5.out).mono ?_);(case side1=>repeat(first|exact HR1.out|(with_reducible refine Kd.C_alloc ?_ _)|(with_reducible refine Kd.C_drewN ?_ _)|(with_reducible refine Kd.C_drew ?_)));(case side2=>exact HC1.out);rintro e w11 ⟨v551,rfl,ho0,hb⟩;have n0_:=Aside0.mk (Kd.R_lower ho0 (below_size (zb0 HB)));have n1_:=Aside0.mk (below_step (zb0 HB) hb);clear HB;have HO552:=n0_;have HB:=n1_;clear n0_ n1_;(try clear hb);(try clear hb2);(try clear hk);(try clear hi);(try clear ho0);obtain⟨Ao12,co12,eo12⟩:=Kd.R_slice HO552.out;subst eo12;have p553: 0≤ (a2:Int):=of_decide_eq_true zq1;have q553:a2< (t550.length:Int):=of_decide_eq_true zq1;obtain⟨ad553,e553,hx553_0⟩:=Kd.at_int (Kd.R_reads' HO552.out).2.2 a2 p553 q553;cases e553;replace p553:=eq_true p553;replace q553:=eq_true q553)|((with_reducible refine gate_dst (N:=24) rfl ?_);refine Kd.R_lit (Kd.int .i64) _ 3 ?hg (N:=24) ?hd (xs:=([a2] :List Int)) (inner:= [.int .i64 a2]) (ok:=fun _=>True) (okp:=fun _=>True) ?hr ?hp (fun _ hk=>hk) trivial (Below.refl _ _) (Nat.le_refl _) (by simp) ?_;(case hd=>rfl);(case hg=>rfl);(case hr=>first|(go_simp;done)|(go_simp;rfl));(case hp=>exact(Reps.one (show Kd.M (Kd.int .i64) _ _ _ a2 [.int .i64 a2] from rfl) (Reps.none _ _)));intro v555 w13 ho14 hb hg_ hnew_;clear hg_ hnew_;(first|rw [← Ny554.out] at ho14|(simp only [Int.reduceToNat] at ho14;rw [← Ny554.out] at ho14));have n0_:=Aside0.mk (Kd.R_elder' (zq4 HO552) (Kd.R_base ho14) hb);have n1_:=Aside0.mk (Kd.R_lower (Kd.R_new' ho14 (Kd.R_lt (zq4 HO552))) (below_size (zb0 HB)));have n2_:=Aside0.mk (below_step (zb0 HB) hb);clear HO552;clear HB;have HO552:=n0_;have HO556:=n1_;have HB:=n2_;clear n0_ n1_ n2_;clear hb ho14)))
    go_loopg [12,13] k (fun kq v12 v13 w'=> ∃ (x12_1:List Int) (x13_1:Int),v13= .int .i64 x13_1∧Aside0 (impl_wayTo.l0 kq a0 l1 a2 a3 t550 x12_1 x13_1=some (r1,r2,r3))∧Aside0 (kq≤k)∧Aside0 (Kd.R (Kd.int .i64) 3 w' w.heap.size (fun k_=>some k_≠ (v12:Value).ownBlock) (.slice (some ad553) t550.length co12) t550)∧Aside0 (Kd.R (Kd.int .i64) 3 w' w.heap.size (fun k_=>some k_≠ ((.slice (some ad553) t550.length co12):Value).ownBlock) v12 x12_1)∧Aside0 (Below w.heap.size w w'))
    case atStart=>exact⟨(y554),(a2),(by first|rfl|(simp;done)|(simp [*];done)),H',⟨Nat.le_refl _⟩,⟨by(with_reducible repeat(first|apply Kd.R_alloc|apply Kd.R_drewN|apply Kd.R_drew));exact Kd.R_mono HO552.out (fun _ hk=>hk.2)⟩,⟨by(with_reducible repeat(first|apply Kd.R_alloc|apply Kd.R_drewN|apply Kd.R_drew));exact Kd.R_mono HO556.out (fun _ hk=>hk.2)⟩,⟨by repeat(first|(with_reducible first|exact HB.out|apply below_alloc|apply pw_below_drewN|apply below_drew1)|exact HB.out)⟩⟩
    case round=>
     clear H'
     try clear c1
     try clear p2
     try clear p5
     try clear q5
     try clear hx5
     try clear c6
     try clear c6b0
     try clear c7
     try clear c7b0
     try clear c8
     try clear c8b0
     try clear c8b1
     try clear hx553_0
     try clear p553
     try clear q553
     obtain⟨x12_1,x13_1,rfl,HA,HK1,HO_11,HO_12,HB⟩:=hrel
     cases gk with
     |zero=>exact absurd HA.out (by simp [impl_wayTo.l0])
     |succ k1=>
      have H:=HA.out
      clear HA
      simp only [impl_wayTo.l0] at H
      by_cases c15:x13_1=a3
      ·rw [if_pos c15] at H
       have c15b0:(x13_1==a3)=true:=beq_iff_eq.mpr c15
       have c15b1:(x13_1 !=a3)=false:=bne_eq_false_iff_eq.mpr c15
       clear c15
       by_cases c16: 0≤a2
       ·rw [if_pos c16] at H
        have c16b0:decide (0≤a2)=true:=decide_eq_true c16
        clear c16
        by_cases c17:a2< (t550.length:Int)
        ·rw [if_pos c17] at H
         have c17b0:decide (a2< (t550.length:Int))=true:=decide_eq_true c17
         clear c17
         simp only [Option.some.injEq,Prod.mk.injEq] at H
         obtain⟨rfl,rfl,rfl⟩:=H
         have p557: 0≤ (a2:Int):=of_decide_eq_true zq1
         have q557:a2< (t550.length:Int):=of_decide_eq_true zq1
         obtain⟨ad557,e557,hx557_0⟩:=Kd.at_int (Kd.R_reads' HO_11.out).2.2 a2 p557 q557
         obtain rfl:ad553=ad557:=(by injection e557)
         replace p557:=eq_true p557
         replace q557:=eq_true q557
         go_wp2
         repeat(go_quiet (fail);try go_wp2)
         go_ret3
         exact⟨_,by first|rfl|(simp [errW_none,errW_some]<;>rfl)|(simp [*,errW_none,errW_some]<;>rfl),by(with_reducible repeat(first|apply Kd.R_alloc|apply Kd.R_drewN|apply Kd.R_drew));exact Kd.R_mono HO_12.out (fun _ hk=>trivial),by repeat(first|(with_reducible first|exact HB.out|apply below_alloc|apply pw_below_drewN|apply below_drew1)|exact HB.out)⟩
        ·rw [if_neg c17] at H
         exact absurd H (by simp)
       ·rw [if_neg c16] at H
        exact absurd H (by simp)
      ·rw [if_neg c15] at H
       have c15b0:(x13_1==a3)=false:=beq_eq_false_iff_ne.mpr c15
       have c15b1:(x13_1 !=a3)=true:=bne_iff_ne.mpr c15
       replace H:=Option.bind_eq_some_iff.mp H
       obtain⟨t558,A180,H⟩:=H
       replace H:(if 0< (t558.length:Int) then(if x12_1.length< 17592186044416 then(impl_wayTo.l0 k1 a0 l1 a2 a3 t550 (x12_1++ [rd t558 0]) (rd t558 0)) else(none)) else(none))=some (r1,r2,r3):=H
       have A18:=Aside0.mk A180
       clear A180
       by_cases c19: 0< (t558.length:Int)
       ·rw [if_pos c19] at H
        have c19b0:decide (0< (t558.length:Int))=true:=decide_eq_true c19
        have c19b1:decide (0<t558.length)=true:=decide_eq_true (by omega)
        clear c19
        by_cases c20:x12_1.length< 17592186044416
        ·rw [if_pos c20] at H
         have LMc20:=Aside0.mk c20
         clear c20
         obtain⟨y562,hy562⟩ :∃ y_:List Int,y_= (x12_1++ [rd t558 0]):=⟨_,rfl⟩
         replace H:(impl_wayTo.l0 k1 a0 l1 a2 a3 t550 y562 (rd t558 0))=some (r1,r2,r3):=by first|(rw [hy562];with_reducible exact H)|(have H2_:=(Option.bind_some _ _).symm.trans H;rw [hy562];with_reducible exact H2_)|(have H2_:=(Option.bind_some _ _).symm.trans H;with_reducible exact H2_)|with_reducible exact H|(rw [hy562];exact H)|exact H
         have Ny562:=Aside0.mk hy562
         clear hy562
         have H':=Aside0.mk H
         clear H
         go_wp2_with (first|(go_at_call 61;(with_reducible refine(impl_hops.calls k1 a0 _ _ l1 x13_1 _ _ t550 t558 _ ?side1 ?side2 ?side3 ?side4 A18.out).mono ?_);(case side1=>repeat(first|exact(Kd.C_below HR1.out HB.out)|(with_reducible refine Kd.C_alloc ?_ _)|(with_reducible refine Kd.C_drewN ?_ _)|(with_reducible refine Kd.C_drew ?_)));(case side2=>exact HC1.out);(case side3=>repeat(first|exact(Kd.R_reads' HO_11.out).2.2|(with_reducible refine Kd.C_alloc ?_ _)|(with_reducible refine Kd.C_drewN ?_ _)|(with_reducible refine Kd.C_drew ?_)));(case side4=>exact(Kd.R_reads' HO_11.out).2.1);rintro e w21 ⟨v559,rfl,ho0,hb⟩;have n0_:=Aside0.mk (Kd.R_elder' (zq4 HO_11) (Kd.R_base ho0) hb);have n1_:=Aside0.mk (Kd.R_elder' (zq4 HO_12) (Kd.R_base ho0) hb);have n2_:=Aside0.mk (Kd.R_lower (Kd.R_new' (Kd.R_new' ho0 (Kd.R_lt (zq4 HO_11))) (Kd.R_lt (zq4 HO_12))) (below_size (zb0 HB)));have n3_:=Aside0.mk (below_step (zb0 HB) hb);clear HO_11;clear HO_12;clear HB;have HO_11:=n0_;have HO_12:=n1_;have HO560:=n2_;have HB:=n3_;clear n0_ n1_ n2_ n3_;(try clear hb);(try clear hb2);(try clear hk);(try clear hi);(try clear ho0);obtain⟨Ao22,co22,eo22⟩:=Kd.R_slice HO560.out;subst eo22;have p561: 0≤ (0:Int):=(by omega);have q561: 0< (t558.length:Int):=of_decide_eq_true zq1;obtain⟨ad561,e561,hx561_0⟩:=Kd.at_int (Kd.R_reads' HO560.out).2.2 0 p561 q561;cases e561;have qi561:(0<t558.length)=True:=eq_true (by omega);(try rw [show ((0:Int)).toNat=0 from rfl] at hx561_0);(try rw [Addr.add_zero'] at hx561_0);replace p561:=eq_true p561;replace q561:=eq_true q561)|((with_reducible refine gate_builtin (b:= .append) (xs:= #[.tmp 36,.tmp 38]) rfl ?_);at_builtin;refine Kd.R_append (Kd.int .i64) (w0:=w) w.heap.size rfl (.tmp 36) (.tmp 38) 23 3 (.int .i64 0) 8 rfl Try.underlying23 info3 rfl (by decide) (by omega) u12 x12_1 (rd t558 0) [.int .i64 (rd t558 0)] (fun k_=>some k_≠ (.slice (some ad553) t550.length co12:Value).ownBlock∧some k_≠ (.slice (some ad561) t558.length co22:Value).ownBlock) (fun _=>False) rfl rfl ?aP (fun _ hk=>hk.elim) ?aF ?aO ?aB ?aS ?aL ?_;(case aP=>exact rfl);(case aB=>exact(zb0 HB));(case aF=>exact(fun k_ hk=>⟨Kd.fresh' (Kd.R_lt (zq4 HO_11)) k_ hk,Kd.fresh' (Kd.R_lt (zq4 HO560)) k_ hk⟩));(case aO=>exact(zq4 HO_12));(case aS=>exact(below_size (zb0 HB)));(case aL=>have:=LMc20.out;omega);intro v563 w23 ho hb hg hat;rw [← Ny562.out] at ho;have n0_:=Aside0.mk (Kd.R_after (ok:=(fun k_=>some k_≠ (.slice (some ad561) t558.length co22:Value).ownBlock)) (by(with_reducible repeat(first|apply Kd.R_alloc|apply Kd.R_drewN|apply Kd.R_drew));exact Kd.R_mono HO_11.out (fun _ hk=>⟨hk.2,hk.1⟩)) hg hat);have n1_:=Aside0.mk (Kd.R_after (ok:=(fun k_=>some k_≠ (.slice (some ad553) t550.length co12:Value).ownBlock)) (by(with_reducible repeat(first|apply Kd.R_alloc|apply Kd.R_drewN|apply Kd.R_drew));exact Kd.R_mono HO560.out (fun _ hk=>⟨hk.1.2,hk.2⟩)) hg hat);have n2_:=Aside0.mk (hb);have n3_:=Aside0.mk (ho);clear HO_11;clear HO560;clear HB;clear HO_12;have HO_11:=n0_;have HO560:=n1_;have HB:=n2_;have HO564:=n3_;clear n0_ n1_ n2_ n3_;clear ho hb hg hat))
         repeat(go_quiet (first|(go_at_call 61;(with_reducible refine(impl_hops.calls k1 a0 _ _ l1 x13_1 _ _ t550 t558 _ ?side1 ?side2 ?side3 ?side4 A18.out).mono ?_);(case side1=>repeat(first|exact(Kd.C_below HR1.out HB.out)|(with_reducible refine Kd.C_alloc ?_ _)|(with_reducible refine Kd.C_drewN ?_ _)|(with_reducible refine Kd.C_drew ?_)));(case side2=>exact HC1.out);(case side3=>repeat(first|exact(Kd.R_reads' HO_11.out).2.2|(with_reducible refine Kd.C_alloc ?_ _)|(with_reducible refine Kd.C_drewN ?_ _)|(with_reducible refine Kd.C_drew ?_)));(case side4=>exact(Kd.R_reads' HO_11.out).2.1);rintro e w21 ⟨v559,rfl,ho0,hb⟩;have n0_:=Aside0.mk (Kd.R_elder' (zq4 HO_11) (Kd.R_base ho0) hb);have n1_:=Aside0.mk (Kd.R_elder' (zq4 HO_12) (Kd.R_base ho0) hb);have n2_:=Aside0.mk (Kd.R_lower (Kd.R_new' (Kd.R_new' ho0 (Kd.R_lt (zq4 HO_11))) (Kd.R_lt (zq4 HO_12))) (below_size (zb0 HB)));have n3_:=Aside0.mk (below_step (zb0 HB) hb);clear HO_11;clear HO_12;clear HB;have HO_11:=n0_;have HO_12:=n1_;have HO560:=n2_;have HB:=n3_;clear n0_ n1_ n2_ n3_;(try clear hb);(try clear hb2);(try clear hk);(try clear hi);(try clear ho0);obtain⟨Ao22,co22,eo22⟩:=Kd.R_slice HO560.out;subst eo22;have p561: 0≤ (0:Int):=(by omega);have q561: 0< (t558.length:Int):=of_decide_eq_true zq1;obtain⟨ad561,e561,hx561_0⟩:=Kd.at_int (Kd.R_reads' HO560.out).2.2 0 p561 q561;cases e561;have qi561:(0<t558.length)=True:=eq_true (by omega);(try rw [show ((0:Int)).toNat=0 from rfl] at hx561_0);(try rw [Addr.add_zero'] at hx561_0);replace p561:=eq_true p561;replace q561:=eq_true q561)|((with_reducible refine gate_builtin (b:= .append) (xs:= #[.tmp 36,.tmp 38]) rfl ?_);at_builtin;refine Kd.R_append (Kd.int .i64) (w0:=w) w.heap.size rfl (.tmp 36) (.tmp 38) 23 3 (.int .i64 0) 8 rfl Try.underlying23 info3 rfl (by decide) (by omega) u12 x12_1 (rd t558 0) [.int .i64 (rd t558 0)] (fun k_=>some k_≠ (.slice (some ad553) t550.length co12:Value).ownBlock∧some k_≠ (.slice (some ad561) t558.length co22:Value).ownBlock) (fun _=>False) rfl rfl ?aP (fun _ hk=>hk.elim) ?aF ?aO ?aB ?aS ?aL ?_;(case aP=>exact rfl);(case aB=>exact(zb0 HB));(case aF=>exact(fun k_ hk=>⟨Kd.fresh' (Kd.R_lt (zq4 HO_11)) k_ hk,Kd.fresh' (Kd.R_lt (zq4 HO560)) k_ hk⟩));(case aO=>exact(zq4 HO_12));(case aS=>exact(below_size (zb0 HB)));(case aL=>have:=LMc20.out;omega);intro v563 w23 ho hb hg hat;rw [← Ny562.out] at ho;have n0_:=Aside0.mk (Kd.R_after (ok:=(fun k_=>some k_≠ (.slice (some ad561) t558.length co22:Value).ownBlock)) (by(with_reducible repeat(first|apply Kd.R_alloc|apply Kd.R_drewN|apply Kd.R_drew));exact Kd.R_mono HO_11.out (fun _ hk=>⟨hk.2,hk.1⟩)) hg hat);have n1_:=Aside0.mk (Kd.R_after (ok:=(fun k_=>some k_≠ (.slice (some ad553) t550.length co12:Value).ownBlock)) (by(with_reducible repeat(first|apply Kd.R_alloc|apply Kd.R_drewN|apply Kd.R_drew));exact Kd.R_mono HO560.out (fun _ hk=>⟨hk.1.2,hk.2⟩)) hg hat);have n2_:=Aside0.mk (hb);have n3_:=Aside0.mk (ho);clear HO_11;clear HO560;clear HB;clear HO_12;have HO_11:=n0_;have HO560:=n1_;have HB:=n2_;have HO564:=n3_;clear n0_ n1_ n2_ n3_;clear ho hb hg hat));try go_wp2_with (first|(go_at_call 61;(with_reducible refine(impl_hops.calls k1 a0 _ _ l1 x13_1 _ _ t550 t558 _ ?side1 ?side2 ?side3 ?side4 A18.out).mono ?_);(case side1=>repeat(first|exact(Kd.C_below HR1.out HB.out)|(with_reducible refine Kd.C_alloc ?_ _)|(with_reducible refine Kd.C_drewN ?_ _)|(with_reducible refine Kd.C_drew ?_)));(case side2=>exact HC1.out);(case side3=>repeat(first|exact(Kd.R_reads' HO_11.out).2.2|(with_reducible refine Kd.C_alloc ?_ _)|(with_reducible refine Kd.C_drewN ?_ _)|(with_reducible refine Kd.C_drew ?_)));(case side4=>exact(Kd.R_reads' HO_11.out).2.1);rintro e w21 ⟨v559,rfl,ho0,hb⟩;have n0_:=Aside0.mk (Kd.R_elder' (zq4 HO_11) (Kd.R_base ho0) hb);have n1_:=Aside0.mk (Kd.R_elder' (zq4 HO_12) (Kd.R_base ho0) hb);have n2_:=Aside0.mk (Kd.R_lower (Kd.R_new' (Kd.R_new' ho0 (Kd.R_lt (zq4 HO_11))) (Kd.R_lt (zq4 HO_12))) (below_size (zb0 HB)));have n3_:=Aside0.mk (below_step (zb0 HB) hb);clear HO_11;clear HO_12;clear HB;have HO_11:=n0_;have HO_12:=n1_;have HO560:=n2_;have HB:=n3_;clear n0_ n1_ n2_ n3_;(try clear hb);(try clear hb2);(try clear hk);(try clear hi);(try clear ho0);obtain⟨Ao22,co22,eo22⟩:=Kd.R_slice HO560.out;subst eo22;have p561: 0≤ (0:Int):=(by omega);have q561: 0< (t558.length:Int):=of_decide_eq_true zq1;obtain⟨ad561,e561,hx561_0⟩:=Kd.at_int (Kd.R_reads' HO560.out).2.2 0 p561 q561;cases e561;have qi561:(0<t558.length)=True:=eq_true (by omega);(try rw [show ((0:Int)).toNat=0 from rfl] at hx561_0);(try rw [Addr.add_zero'] at hx561_0);replace p561:=eq_true p561;replace q561:=eq_true q561)|((with_reducible refine gate_builtin (b:= .append) (xs:= #[.tmp 36,.tmp 38]) rfl ?_);at_builtin;refine Kd.R_append (Kd.int .i64) (w0:=w) w.heap.size rfl (.tmp 36) (.tmp 38) 23 3 (.int .i64 0) 8 rfl Try.underlying23 info3 rfl (by decide) (by omega) u12 x12_1 (rd t558 0) [.int .i64 (rd t558 0)] (fun k_=>some k_≠ (.slice (some ad553) t550.length co12:Value).ownBlock∧some k_≠ (.slice (some ad561) t558.length co22:Value).ownBlock) (fun _=>False) rfl rfl ?aP (fun _ hk=>hk.elim) ?aF ?aO ?aB ?aS ?aL ?_;(case aP=>exact rfl);(case aB=>exact(zb0 HB));(case aF=>exact(fun k_ hk=>⟨Kd.fresh' (Kd.R_lt (zq4 HO_11)) k_ hk,Kd.fresh' (Kd.R_lt (zq4 HO560)) k_ hk⟩));(case aO=>exact(zq4 HO_12));(case aS=>exact(below_size (zb0 HB)));(case aL=>have:=LMc20.out;omega);intro v563 w23 ho hb hg hat;rw [← Ny562.out] at ho;have n0_:=Aside0.mk (Kd.R_after (ok:=(fun k_=>some k_≠ (.slice (some ad561) t558.length co22:Value).ownBlock)) (by(with_reducible repeat(first|apply Kd.R_alloc|apply Kd.R_drewN|apply Kd.R_drew));exact Kd.R_mono HO_11.out (fun _ hk=>⟨hk.2,hk.1⟩)) hg hat);have n1_:=Aside0.mk (Kd.R_after (ok:=(fun k_=>some k_≠ (.slice (some ad553) t550.length co12:Value).ownBlock)) (by(with_reducible repeat(first|apply Kd.R_alloc|apply Kd.R_drewN|apply Kd.R_drew));exact Kd.R_mono HO560.out (fun _ hk=>⟨hk.1.2,hk.2⟩)) hg hat);have n2_:=Aside0.mk (hb);have n3_:=Aside0.mk (ho);clear HO_11;clear HO560;clear HB;clear HO_12;have HO_11:=n0_;have HO560:=n1_;have HB:=n2_;have HO564:=n3_;clear n0_ n1_ n2_ n3_;clear ho hb hg hat)))
         go_roundg k1
         case measure=>have:=HK1.out;omega
         case rel=>exact⟨(y562),(rd t558 0),(by first|rfl|(simp;done)|(simp [*];done)),H',⟨by have:=HK1.out;omega⟩,⟨by(with_reducible repeat(first|apply Kd.R_alloc|apply Kd.R_drewN|apply Kd.R_drew));exact Kd.R_mono HO_11.out (fun _ hk=>hk.2)⟩,⟨by(with_reducible repeat(first|apply Kd.R_alloc|apply Kd.R_drewN|apply Kd.R_drew));exact Kd.R_mono HO564.out (fun _ hk=>hk.1)⟩,⟨by repeat(first|(with_reducible first|exact HB.out|apply below_alloc|apply pw_below_drewN|apply below_drew1)|exact HB.out)⟩⟩
        ·rw [if_neg c20] at H
         exact absurd H (by simp)
       ·rw [if_neg c19] at H
        exact absurd H (by simp)
  ·rw [if_neg c7] at H
   exact absurd H (by simp)
 ·rw [if_neg c6] at H
  exact absurd H (by simp)
end Go.Proofs.Ytklecgkjoofipaa.P

namespace Go.Proofs.Ytklecgkjoofipaa.P
open Go.RowKit Go.Proofs.YtklecgkjoofipaaW.PrintWords Go.Proofs.YtklecgkjoofipaaW.PrintLast Go.Proofs.YtklecgkjoofipaaW.PrintMore
attribute [local go_sem] max2_int min2_int max_two min_two max_three min_three max_four min_four   -- for this text's walks alone
set_option linter.unusedVariables false
set_option linter.unusedSimpArgs false
def impl_WayTo.f (k:Nat) (a0:Int) (l1:List (S67)) (a2:Int) (a3:Int):Option (List Int × Int × Bool):=(impl_goodAt.f k a0 l1 (([a2,a3] :List Int))).bind fun t568=>(if t568=true then((impl_wayTo.f k a0 l1 a2 a3).bind fun bt569=>(some (bt569.1,bt569.2.1,bt569.2.2))) else(some (([] :List Int),0,false)))
set_option maxHeartbeats 8000000 in
set_option maxRecDepth 100000 in
theorem impl_WayTo.calls (k:Nat) (a0:Int) (A1:Option Addr) (c1:Nat) (l1:List (S67)) (a2:Int) (a3:Int) (r1:List Int) (r2:Int) (r3:Bool) (w:World) (hr1:Kd.C k67 w A1 l1.length l1) (hc1:l1.length≤c1) (h:impl_WayTo.f k a0 l1 a2 a3=some (r1,r2,r3)):
  Calls Try.prog 33 #[.int .i64 a0,.slice A1 l1.length c1,.int .i64 a2,.int .i64 a3] w fun e w'=> ∃ v0_:Value,e= .returned (.tuple #[v0_,.int .i64 r2,.bool r3])∧Kd.R (Kd.int .i64) 3 w' w.heap.size (fun _=>True) v0_ r1∧Below w.heap.size w w':=by
 have HR1:=Aside0.mk hr1
 have HC1:=Aside0.mk hc1
 clear hr1 hc1
 have HB:=Aside0.mk (Below.refl w.heap.size w)
 have H:((impl_goodAt.f k a0 l1 (([a2,a3] :List Int))).bind fun t568=>(if t568=true then((impl_wayTo.f k a0 l1 a2 a3).bind fun bt569=>(some (bt569.1,bt569.2.1,bt569.2.2))) else(some (([] :List Int),0,false))))=some (r1,r2,r3):=h
 clear h
 obtain⟨y565,hy565⟩ :∃ y_:List Int,y_= (([a2,a3] :List Int)):=⟨_,rfl⟩
 replace H:((impl_goodAt.f k a0 l1 y565).bind fun t568=>(if t568=true then((impl_wayTo.f k a0 l1 a2 a3).bind fun bt569=>(some (bt569.1,bt569.2.1,bt569.2.2))) else(some (([] :List Int),0,false))))=some (r1,r2,r3):=by first|(rw [hy565];with_reducible exact H)|(have H2_:=(Option.bind_some _ _).symm.trans H;rw [hy565];with_reducible exact H2_)|(have H2_:=(Option.bind_some _ _).symm.trans H;with_reducible exact H2_)|with_reducible exact H|(rw [hy565];exact H)|exact H
 have Ny565:=Aside0.mk hy565
 clear hy565
 replace H:=Option.bind_eq_some_iff.mp H
 obtain⟨t568,A50,H⟩:=H
 replace H:(if t568=true then((impl_wayTo.f k a0 l1 a2 a3).bind fun bt569=>(some (bt569.1,bt569.2.1,bt569.2.2))) else(some (([] :List Int),0,false)))=some (r1,r2,r3):=H
 have A5:=Aside0.mk A50
 clear A50
 by_cases c6:t568=true
 ·subst c6
  have H1:((impl_wayTo.f k a0 l1 a2 a3).bind fun bt569=>(some (bt569.1,bt569.2.1,bt569.2.2)))=some (r1,r2,r3):=by rw [if_pos rfl] at H;exact H
  clear H
  have H:=H1
  clear H1
  replace H:=Option.bind_eq_some_iff.mp H
  obtain⟨⟨t569,t570,t571⟩,A70,H⟩:=H
  replace H:(some (t569,t570,t571))=some (r1,r2,r3):=H
  have A7:=Aside0.mk A70
  clear A70
  simp only [Option.some.injEq,Prod.mk.injEq] at H
  obtain⟨rfl,rfl,rfl⟩:=H
  go_enter Try.func33,Try.ntmps33
  go_wp2_with (first|((with_reducible refine gate_dst (N:=15) rfl ?_);refine Kd.R_lit (Kd.int .i64) _ 3 ?hg (N:=15) ?hd (xs:=([a2,a3] :List Int)) (inner:= [.int .i64 a2,.int .i64 a3]) (ok:=fun _=>True) (okp:=fun _=>True) ?hr ?hp (fun _ hk=>hk) trivial (Below.refl _ _) (Nat.le_refl _) (by simp) ?_;(case hd=>rfl);(case hg=>rfl);(case hr=>first|(go_simp;done)|(go_simp;rfl));(case hp=>exact(Reps.one (show Kd.M (Kd.int .i64) _ _ _ a2 [.int .i64 a2] from rfl) (Reps.one (show Kd.M (Kd.int .i64) _ _ _ a3 [.int .i64 a3] from rfl) (Reps.none _ _))));intro v566 w8 ho9 hb hg_ hnew_;clear hg_ hnew_;(first|rw [← Ny565.out] at ho9|(simp only [Int.reduceToNat] at ho9;rw [← Ny565.out] at ho9));have n0_:=Aside0.mk (Kd.R_lower ho9 (below_size (zb0 HB)));have n1_:=Aside0.mk (below_step (zb0 HB) hb);clear HB;have HO567:=n0_;have HB:=n1_;clear n0_ n1_;clear hb ho9;obtain⟨Ao10,co10,eo10⟩:=Kd.R_slice HO567.out;subst eo10)|((with_reducible refine gate_callee (f:=50) rfl ?_);refine goesL_ (some 16) rfl rfl Try.func50 (by kernel_rfl) rfl #[.int .i64 a0,.slice A1 l1.length c1,.slice Ao10 y565.length co10] rfl zq2 ?_;(with_reducible refine(impl_goodAt.calls k a0 _ _ l1 _ _ y565 true _ ?side1 ?side2 ?side3 ?side4 A5.out).mono ?_);(case side1=>repeat(first|exact(Kd.C_below HR1.out HB.out)|(with_reducible refine Kd.C_alloc ?_ _)|(with_reducible refine Kd.C_drewN ?_ _)|(with_reducible refine Kd.C_drew ?_)));(case side2=>exact HC1.out);(case side3=>repeat(first|exact(Kd.R_reads' HO567.out).2.2|(with_reducible refine Kd.C_alloc ?_ _)|(with_reducible refine Kd.C_drewN ?_ _)|(with_reducible refine Kd.C_drew ?_)));(case side4=>exact(Kd.R_reads' HO567.out).2.1);rintro e w11 ⟨rfl,hb⟩;refine⟨_,rfl,?_⟩;have n0_:=Aside0.mk (Kd.R_below (zq4 HO567) hb);have n1_:=Aside0.mk (below_step (zb0 HB) hb);clear HO567;clear HB;have HO567:=n0_;have HB:=n1_;clear n0_ n1_;(try clear hb);(try clear hb2);(try clear hk);(try clear hi))|((with_reducible refine gate_callee (f:=62) rfl ?_);refine goesL_ (some 22) rfl rfl Try.func62 (by kernel_rfl) rfl #[.int .i64 a0,.slice A1 l1.length c1,.int .i64 a2,.int .i64 a3] rfl zq2 ?_;(with_reducible refine(impl_wayTo.calls k a0 _ _ l1 a2 a3 t569 t570 t571 _ ?side1 ?side2 A7.out).mono ?_);(case side1=>repeat(first|exact(Kd.C_below HR1.out HB.out)|(with_reducible refine Kd.C_alloc ?_ _)|(with_reducible refine Kd.C_drewN ?_ _)|(with_reducible refine Kd.C_drew ?_)));(case side2=>exact HC1.out);rintro e w12 ⟨v572,rfl,ho0,hb⟩;refine⟨_,rfl,?_⟩;have n0_:=Aside0.mk (Kd.R_elder' (zq4 HO567) (Kd.R_base ho0) hb);have n1_:=Aside0.mk (Kd.R_lower (Kd.R_new' ho0 (Kd.R_lt (zq4 HO567))) (below_size (zb0 HB)));have n2_:=Aside0.mk (below_step (zb0 HB) hb);clear HO567;clear HB;have HO567:=n0_;have HO573:=n1_;have HB:=n2_;clear n0_ n1_ n2_;(try clear hb);(try clear hb2);(try clear hk);(try clear hi);(try clear ho0)))
  go_ret3
  exact⟨_,by first|rfl|(simp [errW_none,errW_some]<;>rfl)|(simp [*,errW_none,errW_some]<;>rfl),by(with_reducible repeat(first|apply Kd.R_alloc|apply Kd.R_drewN|apply Kd.R_drew));exact Kd.R_mono HO573.out (fun _ hk=>trivial),by repeat(first|(with_reducible first|exact HB.out|apply below_alloc|apply pw_below_drewN|apply below_drew1)|exact HB.out)⟩
 ·replace c6:=Bool.eq_false_iff.mpr c6
  subst c6
  have H1:(some (([] :List Int),0,false))=some (r1,r2,r3):=by rw [if_neg (show ¬ (false=true) by decide)] at H;exact H
  clear H
  have H:=H1
  clear H1
  simp only [Option.some.injEq,Prod.mk.injEq] at H
  obtain⟨rfl,rfl,rfl⟩:=H
  go_enter Try.func33,Try.ntmps33
  go_wp2_with (first|((with_reducible refine gate_dst (N:=15) rfl ?_);refine Kd.R_lit (Kd.int .i64) _ 3 ?hg (N:=15) ?hd (xs:=([a2,a3] :List Int)) (inner:= [.int .i64 a2,.int .i64 a3]) (ok:=fun _=>True) (okp:=fun _=>True) ?hr ?hp (fun _ hk=>hk) trivial (Below.refl _ _) (Nat.le_refl _) (by simp) ?_;(case hd=>rfl);(case hg=>rfl);(case hr=>first|(go_simp;done)|(go_simp;rfl));(case hp=>exact(Reps.one (show Kd.M (Kd.int .i64) _ _ _ a2 [.int .i64 a2] from rfl) (Reps.one (show Kd.M (Kd.int .i64) _ _ _ a3 [.int .i64 a3] from rfl) (Reps.none _ _))));intro v566 w13 ho14 hb hg_ hnew_;clear hg_ hnew_;(first|rw [← Ny565.out] at ho14|(simp only [Int.reduceToNat] at ho14;rw [← Ny565.out] at ho14));have n0_:=Aside0.mk (Kd.R_lower ho14 (below_size (zb0 HB)));have n1_:=Aside0.mk (below_step (zb0 HB) hb);clear HB;have HO567:=n0_;have HB:=n1_;clear n0_ n1_;clear hb ho14;obtain⟨Ao15,co15,eo15⟩:=Kd.R_slice HO567.out;subst eo15)|((with_reducible refine gate_callee (f:=50) rfl ?_);refine goesL_ (some 16) rfl rfl Try.func50 (by kernel_rfl) rfl #[.int .i64 a0,.slice A1 l1.length c1,.slice Ao15 y565.length co15] rfl zq2 ?_;(with_reducible refine(impl_goodAt.calls k a0 _ _ l1 _ _ y565 false _ ?side1 ?side2 ?side3 ?side4 A5.out).mono ?_);(case side1=>repeat(first|exact(Kd.C_below HR1.out HB.out)|(with_reducible refine Kd.C_alloc ?_ _)|(with_reducible refine Kd.C_drewN ?_ _)|(with_reducible refine Kd.C_drew ?_)));(case side2=>exact HC1.out);(case side3=>repeat(first|exact(Kd.R_reads' HO567.out).2.2|(with_reducible refine Kd.C_alloc ?_ _)|(with_reducible refine Kd.C_drewN ?_ _)|(with_reducible refine Kd.C_drew ?_)));(case side4=>exact(Kd.R_reads' HO567.out).2.1);rintro e w16 ⟨rfl,hb⟩;refine⟨_,rfl,?_⟩;have n0_:=Aside0.mk (Kd.R_below (zq4 HO567) hb);have n1_:=Aside0.mk (below_step (zb0 HB) hb);clear HO567;clear HB;have HO567:=n0_;have HB:=n1_;clear n0_ n1_;(try clear hb);(try clear hb2);(try clear hk);(try clear hi)))
  go_ret3
  exact⟨_,by first|rfl|(simp [errW_none,errW_some]<;>rfl)|(simp [*,errW_none,errW_some]<;>rfl),by first|exact Kd.R_nil _ _ _ _ _|exact Kd.N_nil _ _ _ _ _|exact Kd.V_nil _ _ _ _ _|exact Kd.Q_nil _ _ _ _ _|exact Kd.S_nil _ _ _ _ _,by repeat(first|(with_reducible first|exact HB.out|apply below_alloc|apply pw_below_drewN|apply below_drew1)|exact HB.out)⟩
end Go.Proofs.Ytklecgkjoofipaa.P

namespace Go.Proofs.Ytklecgkjoofipaa.P
open Go.RowKit Go.Proofs.YtklecgkjoofipaaW.PrintWords Go.Proofs.YtklecgkjoofipaaW.PrintLast Go.Proofs.YtklecgkjoofipaaW.PrintMore
attribute [local go_sem] max2_int min2_int max_two min_two max_three min_three max_four min_four   -- for this text's walks alone
set_option linter.unusedVariables false
set_option linter.unusedSimpArgs false
def laws_sameInts.l0:Nat→List Int→List Int→Int→Int→Option (Bool)
 | 0,_,_,_,_=>none
 |k+1,x0,x1,x12,x13=>if x13<x12 then(if 0≤x13 then(if x13< (x0.length:Int) then(if x13< (x1.length:Int) then(if (rd x0 x13)= (rd x1 x13) then(laws_sameInts.l0 k x0 x1 x12 (wrap64 (x13+1))) else(some false)) else(none)) else(none)) else(none)) else(some true)
def laws_sameInts.f (k:Nat) (l0:List Int) (l1:List Int):Option (Bool):=if (l0.length:Int)= (l1.length:Int) then(laws_sameInts.l0 k l0 l1 (l0.length:Int) 0) else(some false)
set_option maxHeartbeats 8000000 in
set_option maxRecDepth 100000 in
theorem laws_sameInts.calls (k:Nat) (A0:Option Addr) (c0:Nat) (l0:List Int) (A1:Option Addr) (c1:Nat) (l1:List Int) (r:Bool) (w:World) (hr0:Kd.C (Kd.int .i64) w A0 l0.length l0) (hc0:l0.length≤c0) (hr1:Kd.C (Kd.int .i64) w A1 l1.length l1) (hc1:l1.length≤c1) (h:laws_sameInts.f k l0 l1=some r):
  Calls Try.prog 35 #[.slice A0 l0.length c0,.slice A1 l1.length c1] w fun e w'=>e= .returned (.bool r)∧Drawn0 w w':=by
 have HR0:=Aside0.mk hr0
 have HC0:=Aside0.mk hc0
 clear hr0 hc0
 have HR1:=Aside0.mk hr1
 have HC1:=Aside0.mk hc1
 clear hr1 hc1
 have H:(if (l0.length:Int)= (l1.length:Int) then(laws_sameInts.l0 k l0 l1 (l0.length:Int) 0) else(some false))=some r:=h
 clear h
 by_cases c3:(l0.length:Int)= (l1.length:Int)
 ·rw [if_pos c3] at H
  have c3b0:((l0.length:Int)== (l1.length:Int))=true:=beq_iff_eq.mpr c3
  have c3b1:((l0.length:Int) != (l1.length:Int))=false:=bne_eq_false_iff_eq.mpr c3
  have c3b2:(l0.length==l1.length)=true:=by first|simpa using c3|(simp at c3 ⊢;omega)
  clear c3
  have H':=Aside0.mk H
  clear H
  go_enter Try.func35,Try.ntmps35
  go_wp2
  repeat(go_quiet (fail);try go_wp2)
  go_loopg [13] k (fun kq v13 w'=> ∃ (x13_1:Int),v13= .int .i64 x13_1∧Aside0 (laws_sameInts.l0 kq l0 l1 (l0.length:Int) x13_1=some r)∧Aside0 (kq≤k)∧Drawn0 w w')
  case atStart=>exact⟨(0),(by first|rfl|(simp;done)|(simp [*];done)),H',⟨Nat.le_refl _⟩,by repeat(first|exact Drawn0.refl _|apply Drawn0.step)⟩
  case round=>
   clear H'
   try clear c1
   try clear p2
   try clear c3
   try clear c3b0
   try clear c3b1
   try clear c3b2
   obtain⟨x13_1,rfl,HA,HK1,⟨m1,rfl⟩⟩:=hrel
   cases gk with
   |zero=>exact absurd HA.out (by simp [laws_sameInts.l0])
   |succ k1=>
    have H:=HA.out
    clear HA
    simp only [laws_sameInts.l0] at H
    by_cases c4:x13_1< (l0.length:Int)
    ·rw [if_pos c4] at H
     have c4b0:decide (x13_1< (l0.length:Int))=true:=decide_eq_true c4
     clear c4
     by_cases c5: 0≤x13_1
     ·rw [if_pos c5] at H
      have c5b0:decide (0≤x13_1)=true:=decide_eq_true c5
      clear c5
      by_cases c6:x13_1< (l0.length:Int)
      ·rw [if_pos c6] at H
       have c6b0:decide (x13_1< (l0.length:Int))=true:=decide_eq_true c6
       clear c6
       by_cases c7:x13_1< (l1.length:Int)
       ·rw [if_pos c7] at H
        have c7b0:decide (x13_1< (l1.length:Int))=true:=decide_eq_true c7
        clear c7
        by_cases c8:(rd l0 x13_1)= (rd l1 x13_1)
        ·rw [if_pos c8] at H
         have c8b0:((rd l0 x13_1)== (rd l1 x13_1))=true:=beq_iff_eq.mpr c8
         have c8b1:((rd l0 x13_1) != (rd l1 x13_1))=false:=bne_eq_false_iff_eq.mpr c8
         clear c8
         have H':=Aside0.mk H
         clear H
         have p675: 0≤ (x13_1:Int):=of_decide_eq_true zq1
         have q675:x13_1< (l0.length:Int):=of_decide_eq_true zq1
         obtain⟨ad675,e675,hx675_0⟩:=Kd.at_int HR0.out x13_1 p675 q675
         cases e675
         replace p675:=eq_true p675
         replace q675:=eq_true q675
         have p676: 0≤ (x13_1:Int):=of_decide_eq_true zq1
         have q676:x13_1< (l1.length:Int):=of_decide_eq_true zq1
         obtain⟨ad676,e676,hx676_0⟩:=Kd.at_int HR1.out x13_1 p676 q676
         cases e676
         replace p676:=eq_true p676
         replace q676:=eq_true q676
         go_wp2
         repeat(go_quiet (fail);try go_wp2)
         go_roundg k1
         case measure=>have:=HK1.out;omega
         case rel=>exact⟨(wrap64 (x13_1+1)),(by first|rfl|(simp;done)|(simp [*];done)),H',⟨by have:=HK1.out;omega⟩,by repeat(first|exact Drawn0.refl _|apply Drawn0.step)⟩
        ·rw [if_neg c8] at H
         have c8b0:((rd l0 x13_1)== (rd l1 x13_1))=false:=beq_eq_false_iff_ne.mpr c8
         have c8b1:((rd l0 x13_1) != (rd l1 x13_1))=true:=bne_iff_ne.mpr c8
         obtain rfl:=Option.some.inj H
         have p675: 0≤ (x13_1:Int):=of_decide_eq_true zq1
         have q675:x13_1< (l0.length:Int):=of_decide_eq_true zq1
         obtain⟨ad675,e675,hx675_0⟩:=Kd.at_int HR0.out x13_1 p675 q675
         cases e675
         replace p675:=eq_true p675
         replace q675:=eq_true q675
         have p676: 0≤ (x13_1:Int):=of_decide_eq_true zq1
         have q676:x13_1< (l1.length:Int):=of_decide_eq_true zq1
         obtain⟨ad676,e676,hx676_0⟩:=Kd.at_int HR1.out x13_1 p676 q676
         cases e676
         replace p676:=eq_true p676
         replace q676:=eq_true q676
         go_wp2
         repeat(go_quiet (fail);try go_wp2)
         go_ret
         exact⟨by first|rfl|(simp;done)|(simp [*];done),by repeat(first|exact Drawn0.refl _|apply Drawn0.step)⟩
       ·rw [if_neg c7] at H
        exact absurd H (by simp)
      ·rw [if_neg c6] at H
       exact absurd H (by simp)
     ·rw [if_neg c5] at H
      exact absurd H (by simp)
    ·rw [if_neg c4] at H
     have c4b0:decide (x13_1< (l0.length:Int))=false:=decide_eq_false c4
     clear c4
     obtain rfl:=Option.some.inj H
     go_wp2
     repeat(go_quiet (fail);try go_wp2)
     go_ret
     exact⟨by first|rfl|(simp;done)|(simp [*];done),by repeat(first|exact Drawn0.refl _|apply Drawn0.step)⟩
 ·rw [if_neg c3] at H
  have c3b0:((l0.length:Int)== (l1.length:Int))=false:=beq_eq_false_iff_ne.mpr c3
  have c3b1:((l0.length:Int) != (l1.length:Int))=true:=bne_iff_ne.mpr c3
  have c3b2:(l0.length==l1.length)=false:=by first|simpa using c3|(simp at c3 ⊢;omega)
  obtain rfl:=Option.some.inj H
  go_enter Try.func35,Try.ntmps35
  go_wp2
  repeat(go_quiet (fail);try go_wp2)
  go_ret
  exact⟨by first|rfl|(simp;done)|(simp [*];done),by repeat(first|exact Drawn0.refl _|apply Drawn0.step)⟩
end Go.Proofs.Ytklecgkjoofipaa.P

namespace Go.Proofs.Ytklecgkjoofipaa.P
open Go.RowKit Go.Proofs.YtklecgkjoofipaaW.PrintWords Go.Proofs.YtklecgkjoofipaaW.PrintLast Go.Proofs.YtklecgkjoofipaaW.PrintMore
attribute [local go_sem] max2_int min2_int max_two min_two max_three min_three max_four min_four   -- for this text's walks alone
set_option linter.unusedVariables false
set_option linter.unusedSimpArgs false
/-- A state of type 81 at block g of W; what its slices lead to came in by w0. -/
def IsS81 (w0 W:World) (g:Nat) (f0:List Int) (f1:Int) (f2:Int):Prop:= ∃ A0 c0,W.heap[g]?=some (.cells #[.slice A0 f0.length c0,.int .i64 f1,.int .u64 f2] 81 (0,0))∧w0.heap.size≤g∧Kd.C (Kd.int .u8) w0 A0 f0.length f0
theorem IsS81.grown {w0 W:World} {g:Nat} {f0:List Int} {f1:Int} {f2:Int} {W1:World} {row:Option Nat} (h:IsS81 w0 W g f0 f1 f2) (hw:W.grownBy W1 row) (hne:some g≠row):IsS81 w0 W1 g f0 f1 f2:=by
 obtain⟨A0,c0,hb,hg,hr0⟩:=h
 exact⟨A0,c0,blk_grown hb hw hne,hg,hr0⟩
theorem IsS81.below {w0 W:World} {g:Nat} {f0:List Int} {f1:Int} {f2:Int} {W1:World} (h:IsS81 w0 W g f0 f1 f2) (hw:Below W.heap.size W W1):IsS81 w0 W1 g f0 f1 f2:=h.grown (grown_of_below hw none) (by simp)
theorem IsS81.drewN {w0 W:World} {g:Nat} {f0:List Int} {f1:Int} {f2:Int} (h:IsS81 w0 W g f0 f1 f2) (m:Nat):IsS81 w0 (W.drewN m) g f0 f1 f2:=h
theorem IsS81.apart {w0 W:World} {g:Nat} {f0:List Int} {f1:Int} {f2:Int} {α :Type} {d:Kd α} {e:Nat} {base:Nat} {ok:Nat→Prop} {v:Value} {xs:List α} (h:IsS81 w0 W g f0 f1 f2) (ho:d.R e W base ok v xs) (ht:∀ q,q ∈ e::d.E→q≠81):d.R e W base (fun k=>ok k∧k≠g) v xs:=by
 obtain⟨A0,c0,hb,hg,hr0⟩:=h
 exact Kd.R_types ho hb ht
theorem IsS81.own_ne {w0 W:World} {g:Nat} {f0:List Int} {f1:Int} {f2:Int} {α :Type} {d:Kd α} {e:Nat} {base:Nat} {ok:Nat→Prop} {v:Value} {xs:List α} (h:IsS81 w0 W g f0 f1 f2) (ho:d.R e W base ok v xs) (ht:e≠81):some g≠v.ownBlock:=by
 obtain⟨A0,c0,hb,hg,hr0⟩:=h
 exact Kd.R_ne ho hb ht
theorem IsS81.ge {w0 W:World} {g:Nat} {f0:List Int} {f1:Int} {f2:Int} (h:IsS81 w0 W g f0 f1 f2):w0.heap.size≤g:=by
 obtain⟨A0,c0,hb,hg,hr0⟩:=h
 exact hg
theorem cellS81_0 {W:World} {g:Nat} {A0:Option Addr} {c0:Nat} {f0:List Int} {f1:Int} {f2:Int} (h:W.heap[g]?=some (.cells #[.slice A0 f0.length c0,.int .i64 f1,.int .u64 f2] 81 (0,0))):W.cell? ⟨g,0,none⟩=some (.slice A0 f0.length c0):=(blk_cell h 0).trans rfl
theorem cellS81_1 {W:World} {g:Nat} {A0:Option Addr} {c0:Nat} {f0:List Int} {f1:Int} {f2:Int} (h:W.heap[g]?=some (.cells #[.slice A0 f0.length c0,.int .i64 f1,.int .u64 f2] 81 (0,0))):W.cell? ⟨g,1,none⟩=some (.int .i64 f1):=(blk_cell h 1).trans rfl
theorem IsS81.set_1 {w0 W:World} {g:Nat} {f0:List Int} {f1:Int} {f2:Int} (h:IsS81 w0 W g f0 f1 f2) (x:Int):IsS81 w0 (W.setCell ⟨g,1,none⟩ (.int .i64 x)) g f0 x f2:=by
 obtain⟨A0,c0,hb,hg,hr0⟩:=h
 exact⟨A0,c0,by simpa using blk_set hb 1 (.int .i64 x),hg,hr0⟩
theorem cellS81_2 {W:World} {g:Nat} {A0:Option Addr} {c0:Nat} {f0:List Int} {f1:Int} {f2:Int} (h:W.heap[g]?=some (.cells #[.slice A0 f0.length c0,.int .i64 f1,.int .u64 f2] 81 (0,0))):W.cell? ⟨g,2,none⟩=some (.int .u64 f2):=(blk_cell h 2).trans rfl
theorem IsS81.set_2 {w0 W:World} {g:Nat} {f0:List Int} {f1:Int} {f2:Int} (h:IsS81 w0 W g f0 f1 f2) (x:Int):IsS81 w0 (W.setCell ⟨g,2,none⟩ (.int .u64 x)) g f0 f1 x:=by
 obtain⟨A0,c0,hb,hg,hr0⟩:=h
 exact⟨A0,c0,by simpa using blk_set hb 2 (.int .u64 x),hg,hr0⟩
def spec_l1Cur_next.f (s0_0:List Int) (s0_1:Int) (s0_2:Int):Option (Int × Int × Int):=if s0_1< (s0_0.length:Int) then(if 0≤s0_1 then(if (wrap64 (s0_1+1))≤ (s0_0.length:Int) then(some (wrap64 (rd s0_0 s0_1),wrap64 (s0_1+1),IntKind.u64.wrap ((IntKind.u64.wrap ((IntKind.u64.wrap (s0_2 * 6364136223846793005))+ (IntKind.u64.wrap (wrap64 (rd s0_0 s0_1)))))+1442695040888963407))) else(some (wrap64 (Go.bits .and .u64 ((IntKind.u64.wrap ((IntKind.u64.wrap ((IntKind.u64.wrap (s0_2 * 6364136223846793005))+ (IntKind.u64.wrap (wrap64 (rd s0_0 s0_1)))))+1442695040888963407)) / 1099511627776) 255),wrap64 (s0_1+1),IntKind.u64.wrap ((IntKind.u64.wrap ((IntKind.u64.wrap (s0_2 * 6364136223846793005))+ (IntKind.u64.wrap (wrap64 (rd s0_0 s0_1)))))+1442695040888963407)))) else(none)) else(if (wrap64 (s0_1+1))≤ (s0_0.length:Int) then(some (0,wrap64 (s0_1+1),IntKind.u64.wrap ((IntKind.u64.wrap ((IntKind.u64.wrap (s0_2 * 6364136223846793005))))+1442695040888963407))) else(some (wrap64 (Go.bits .and .u64 ((IntKind.u64.wrap ((IntKind.u64.wrap ((IntKind.u64.wrap (s0_2 * 6364136223846793005))))+1442695040888963407)) / 1099511627776) 255),wrap64 (s0_1+1),IntKind.u64.wrap ((IntKind.u64.wrap ((IntKind.u64.wrap (s0_2 * 6364136223846793005))))+1442695040888963407))))
set_option maxHeartbeats 8000000 in
set_option maxRecDepth 100000 in
theorem spec_l1Cur_next.calls (g:Nat) (s0_0:List Int) (s0_1:Int) (s0_2:Int) (r1:Int) (r2:Int) (r3:Int) (w0 w:World) (hI:IsS81 w0 w g s0_0 s0_1 s0_2) (hB:Below w0.heap.size w0 w) (h:spec_l1Cur_next.f s0_0 s0_1 s0_2=some (r1,r2,r3)):
  Calls Try.prog 76 #[.pointer (some ⟨g,0,none⟩)] w fun e w'=>e= .returned (.int .i64 r1)∧IsS81 w0 w' g s0_0 r2 r3∧Below w0.heap.size w0 w'∧KeepBut w w' g none:=by
 have HI0:=Aside0.mk hI
 have HK:=Aside0.mk (KeepBut.refl w g none)
 have HL:=Aside0.mk hB.size
 clear hI
 have HW0:=Aside0.mk hB.size
 have HB:=Aside0.mk hB
 clear hB
 have H:(if s0_1< (s0_0.length:Int) then(if 0≤s0_1 then(if (wrap64 (s0_1+1))≤ (s0_0.length:Int) then(some (wrap64 (rd s0_0 s0_1),wrap64 (s0_1+1),IntKind.u64.wrap ((IntKind.u64.wrap ((IntKind.u64.wrap (s0_2 * 6364136223846793005))+ (IntKind.u64.wrap (wrap64 (rd s0_0 s0_1)))))+1442695040888963407))) else(some (wrap64 (Go.bits .and .u64 ((IntKind.u64.wrap ((IntKind.u64.wrap ((IntKind.u64.wrap (s0_2 * 6364136223846793005))+ (IntKind.u64.wrap (wrap64 (rd s0_0 s0_1)))))+1442695040888963407)) / 1099511627776) 255),wrap64 (s0_1+1),IntKind.u64.wrap ((IntKind.u64.wrap ((IntKind.u64.wrap (s0_2 * 6364136223846793005))+ (IntKind.u64.wrap (wrap64 (rd s0_0 s0_1)))))+1442695040888963407)))) else(none)) else(if (wrap64 (s0_1+1))≤ (s0_0.length:Int) then(some (0,wrap64 (s0_1+1),IntKind.u64.wrap ((IntKind.u64.wrap ((IntKind.u64.wrap (s0_2 * 6364136223846793005))))+1442695040888963407))) else(some (wrap64 (Go.bits .and .u64 ((IntKind.u64.wrap ((IntKind.u64.wrap ((IntKind.u64.wrap (s0_2 * 6364136223846793005))))+1442695040888963407)) / 1099511627776) 255),wrap64 (s0_1+1),IntKind.u64.wrap ((IntKind.u64.wrap ((IntKind.u64.wrap (s0_2 * 6364136223846793005))))+1442695040888963407)))))=some (r1,r2,r3):=h
 clear h
 by_cases c2:s0_1< (s0_0.length:Int)
 ·rw [if_pos c2] at H
  have c2b0:decide (s0_1< (s0_0.length:Int))=true:=decide_eq_true c2
  clear c2
  by_cases c3: 0≤s0_1
  ·rw [if_pos c3] at H
   have c3b0:decide (0≤s0_1)=true:=decide_eq_true c3
   clear c3
   by_cases c4:(wrap64 (s0_1+1))≤ (s0_0.length:Int)
   ·rw [if_pos c4] at H
    have c4b0:decide ((wrap64 (s0_1+1))≤ (s0_0.length:Int))=true:=decide_eq_true c4
    clear c4
    simp only [Option.some.injEq,Prod.mk.injEq] at H
    obtain⟨rfl,rfl,rfl⟩:=H
    obtain⟨ASz5_0,cSz5_0,HGz5,hgz5,HSz5_0⟩:=HI0.out
    have hcz5_0:=cellS81_0 HGz5
    have hcz5_1:=cellS81_1 HGz5
    have hcz5_2:=cellS81_2 HGz5
    have hfz5_1:=blk_frozen HGz5 1
    have hfz5_2:=blk_frozen HGz5 2
    clear HGz5 hgz5
    have p612: 0≤ (s0_1:Int):=of_decide_eq_true zq1
    have q612:s0_1< (s0_0.length:Int):=of_decide_eq_true zq1
    obtain⟨ad612,e612,hx612_0⟩:=Kd.at_int HSz5_0 s0_1 p612 q612
    cases e612
    replace hx612_0:=pw_cell_below HB.out hx612_0
    replace p612:=eq_true p612
    replace q612:=eq_true q612
    go_enter Try.func76,Try.ntmps76
    go_wp2
    repeat(go_quiet (fail);try go_wp2)
    go_ret
    exact⟨by first|rfl|(simp [errW_none,errW_some]<;>rfl)|(simp [*,errW_none,errW_some]<;>rfl),by repeat(first|(with_reducible first|exact HI0.out|apply IsS81.alloc|apply IsS81.drewN|apply IsS81.drew|apply IsS81.set_1|apply IsS81.set_2)|exact HI0.out),by repeat(first|(with_reducible first|exact HB.out|apply below_alloc|apply pw_below_drewN|apply below_drew1|refine below_set ?_ (IsS81.ge HI0.out))|exact HB.out),by repeat(first|(with_reducible first|exact HK.out|apply KeepBut.set_|apply keep_drewN|apply keep_drew|apply keep_alloc)|exact HK.out)⟩
   ·rw [if_neg c4] at H
    have c4b0:decide ((wrap64 (s0_1+1))≤ (s0_0.length:Int))=false:=decide_eq_false c4
    clear c4
    simp only [Option.some.injEq,Prod.mk.injEq] at H
    obtain⟨rfl,rfl,rfl⟩:=H
    obtain⟨ASz6_0,cSz6_0,HGz6,hgz6,HSz6_0⟩:=HI0.out
    have hcz6_0:=cellS81_0 HGz6
    have hcz6_1:=cellS81_1 HGz6
    have hcz6_2:=cellS81_2 HGz6
    have hfz6_1:=blk_frozen HGz6 1
    have hfz6_2:=blk_frozen HGz6 2
    clear HGz6 hgz6
    have p612: 0≤ (s0_1:Int):=of_decide_eq_true zq1
    have q612:s0_1< (s0_0.length:Int):=of_decide_eq_true zq1
    obtain⟨ad612,e612,hx612_0⟩:=Kd.at_int HSz6_0 s0_1 p612 q612
    cases e612
    replace hx612_0:=pw_cell_below HB.out hx612_0
    replace p612:=eq_true p612
    replace q612:=eq_true q612
    go_enter Try.func76,Try.ntmps76
    go_wp2
    repeat(go_quiet (fail);try go_wp2)
    go_ret
    exact⟨by first|rfl|(simp [errW_none,errW_some]<;>rfl)|(simp [*,errW_none,errW_some]<;>rfl),by repeat(first|(with_reducible first|exact HI0.out|apply IsS81.alloc|apply IsS81.drewN|apply IsS81.drew|apply IsS81.set_1|apply IsS81.set_2)|exact HI0.out),by repeat(first|(with_reducible first|exact HB.out|apply below_alloc|apply pw_below_drewN|apply below_drew1|refine below_set ?_ (IsS81.ge HI0.out))|exact HB.out),by repeat(first|(with_reducible first|exact HK.out|apply KeepBut.set_|apply keep_drewN|apply keep_drew|apply keep_alloc)|exact HK.out)⟩
  ·rw [if_neg c3] at H
   exact absurd H (by simp)
 ·rw [if_neg c2] at H
  have c2b0:decide (s0_1< (s0_0.length:Int))=false:=decide_eq_false c2
  clear c2
  by_cases c7:(wrap64 (s0_1+1))≤ (s0_0.length:Int)
  ·rw [if_pos c7] at H
   have c7b0:decide ((wrap64 (s0_1+1))≤ (s0_0.length:Int))=true:=decide_eq_true c7
   clear c7
   simp only [Option.some.injEq,Prod.mk.injEq] at H
   obtain⟨rfl,rfl,rfl⟩:=H
   obtain⟨ASz8_0,cSz8_0,HGz8,hgz8,HSz8_0⟩:=HI0.out
   have hcz8_0:=cellS81_0 HGz8
   have hcz8_1:=cellS81_1 HGz8
   have hcz8_2:=cellS81_2 HGz8
   have hfz8_1:=blk_frozen HGz8 1
   have hfz8_2:=blk_frozen HGz8 2
   clear HGz8 hgz8
   go_enter Try.func76,Try.ntmps76
   go_wp2
   repeat(go_quiet (fail);try go_wp2)
   go_ret
   exact⟨by first|rfl|(simp [errW_none,errW_some]<;>rfl)|(simp [*,errW_none,errW_some]<;>rfl),by repeat(first|(with_reducible first|exact HI0.out|apply IsS81.alloc|apply IsS81.drewN|apply IsS81.drew|apply IsS81.set_1|apply IsS81.set_2)|exact HI0.out),by repeat(first|(with_reducible first|exact HB.out|apply below_alloc|apply pw_below_drewN|apply below_drew1|refine below_set ?_ (IsS81.ge HI0.out))|exact HB.out),by repeat(first|(with_reducible first|exact HK.out|apply KeepBut.set_|apply keep_drewN|apply keep_drew|apply keep_alloc)|exact HK.out)⟩
  ·rw [if_neg c7] at H
   have c7b0:decide ((wrap64 (s0_1+1))≤ (s0_0.length:Int))=false:=decide_eq_false c7
   clear c7
   simp only [Option.some.injEq,Prod.mk.injEq] at H
   obtain⟨rfl,rfl,rfl⟩:=H
   obtain⟨ASz9_0,cSz9_0,HGz9,hgz9,HSz9_0⟩:=HI0.out
   have hcz9_0:=cellS81_0 HGz9
   have hcz9_1:=cellS81_1 HGz9
   have hcz9_2:=cellS81_2 HGz9
   have hfz9_1:=blk_frozen HGz9 1
   have hfz9_2:=blk_frozen HGz9 2
   clear HGz9 hgz9
   go_enter Try.func76,Try.ntmps76
   go_wp2
   repeat(go_quiet (fail);try go_wp2)
   go_ret
   exact⟨by first|rfl|(simp [errW_none,errW_some]<;>rfl)|(simp [*,errW_none,errW_some]<;>rfl),by repeat(first|(with_reducible first|exact HI0.out|apply IsS81.alloc|apply IsS81.drewN|apply IsS81.drew|apply IsS81.set_1|apply IsS81.set_2)|exact HI0.out),by repeat(first|(with_reducible first|exact HB.out|apply below_alloc|apply pw_below_drewN|apply below_drew1|refine below_set ?_ (IsS81.ge HI0.out))|exact HB.out),by repeat(first|(with_reducible first|exact HK.out|apply KeepBut.set_|apply keep_drewN|apply keep_drew|apply keep_alloc)|exact HK.out)⟩
def spec_l1Cur_pick.f (s0_0:List Int) (s0_1:Int) (s0_2:Int) (a1:Int):Option (Int × Int × Int):=if a1≤1 then(some (0,s0_1,s0_2)) else((spec_l1Cur_next.f s0_0 s0_1 s0_2).bind fun bt613=>(if a1 > 200 then((spec_l1Cur_next.f s0_0 bt613.2.1 bt613.2.2).bind fun bt616=>(if a1=0 then(none) else(some (Int.tmod (wrap64 ((wrap64 (bt613.1 * 256))+bt616.1)) a1,bt616.2.1,bt616.2.2)))) else(if a1=0 then(none) else(some (Int.tmod bt613.1 a1,bt613.2.1,bt613.2.2)))))
set_option maxHeartbeats 8000000 in
set_option maxRecDepth 100000 in
theorem spec_l1Cur_pick.calls (g:Nat) (s0_0:List Int) (s0_1:Int) (s0_2:Int) (a1:Int) (r1:Int) (r2:Int) (r3:Int) (w0 w:World) (hI:IsS81 w0 w g s0_0 s0_1 s0_2) (hB:Below w0.heap.size w0 w) (h:spec_l1Cur_pick.f s0_0 s0_1 s0_2 a1=some (r1,r2,r3)):
  Calls Try.prog 67 #[.pointer (some ⟨g,0,none⟩),.int .i64 a1] w fun e w'=>e= .returned (.int .i64 r1)∧IsS81 w0 w' g s0_0 r2 r3∧Below w0.heap.size w0 w'∧KeepBut w w' g none:=by
 have HI0:=Aside0.mk hI
 have HK:=Aside0.mk (KeepBut.refl w g none)
 have HL:=Aside0.mk hB.size
 clear hI
 have HW0:=Aside0.mk hB.size
 have HB:=Aside0.mk hB
 clear hB
 have H:(if a1≤1 then(some (0,s0_1,s0_2)) else((spec_l1Cur_next.f s0_0 s0_1 s0_2).bind fun bt613=>(if a1 > 200 then((spec_l1Cur_next.f s0_0 bt613.2.1 bt613.2.2).bind fun bt616=>(if a1=0 then(none) else(some (Int.tmod (wrap64 ((wrap64 (bt613.1 * 256))+bt616.1)) a1,bt616.2.1,bt616.2.2)))) else(if a1=0 then(none) else(some (Int.tmod bt613.1 a1,bt613.2.1,bt613.2.2))))))=some (r1,r2,r3):=h
 clear h
 by_cases c3:a1≤1
 ·rw [if_pos c3] at H
  have c3b0:decide (a1≤1)=true:=decide_eq_true c3
  clear c3
  simp only [Option.some.injEq,Prod.mk.injEq] at H
  obtain⟨rfl,rfl,rfl⟩:=H
  go_enter Try.func67,Try.ntmps67
  go_wp2
  go_ret
  exact⟨by first|rfl|(simp [errW_none,errW_some]<;>rfl)|(simp [*,errW_none,errW_some]<;>rfl),by repeat(first|(with_reducible first|exact HI0.out|apply IsS81.alloc|apply IsS81.drewN|apply IsS81.drew|apply IsS81.set_1|apply IsS81.set_2)|exact HI0.out),by repeat(first|(with_reducible first|exact HB.out|apply below_alloc|apply pw_below_drewN|apply below_drew1|refine below_set ?_ (IsS81.ge HI0.out))|exact HB.out),by repeat(first|(with_reducible first|exact HK.out|apply KeepBut.set_|apply keep_drewN|apply keep_drew|apply keep_alloc)|exact HK.out)⟩
 ·rw [if_neg c3] at H
  have c3b0:decide (a1≤1)=false:=decide_eq_false c3
  clear c3
  replace H:=Option.bind_eq_some_iff.mp H
  obtain⟨⟨t613,t614,t615⟩,A40,H⟩:=H
  replace H:(if a1 > 200 then((spec_l1Cur_next.f s0_0 t614 t615).bind fun bt616=>(if a1=0 then(none) else(some (Int.tmod (wrap64 ((wrap64 (t613 * 256))+bt616.1)) a1,bt616.2.1,bt616.2.2)))) else(if a1=0 then(none) else(some (Int.tmod t613 a1,t614,t615))))=some (r1,r2,r3):=H
  have A4:=Aside0.mk A40
  clear A40
  by_cases c5:a1 > 200
  ·rw [if_pos c5] at H
   have c5b0:decide (200<a1)=true:=decide_eq_true c5
   clear c5
   replace H:=Option.bind_eq_some_iff.mp H
   obtain⟨⟨t616,t617,t618⟩,A60,H⟩:=H
   replace H:(if a1=0 then(none) else(some (Int.tmod (wrap64 ((wrap64 (t613 * 256))+t616)) a1,t617,t618)))=some (r1,r2,r3):=H
   have A6:=Aside0.mk A60
   clear A60
   by_cases c7:a1=0
   ·rw [if_pos c7] at H
    exact absurd H (by simp)
   ·rw [if_neg c7] at H
    have c7b0:(a1==0)=false:=beq_eq_false_iff_ne.mpr c7
    have c7b1:(a1 !=0)=true:=bne_iff_ne.mpr c7
    simp only [Option.some.injEq,Prod.mk.injEq] at H
    obtain⟨rfl,rfl,rfl⟩:=H
    go_enter Try.func67,Try.ntmps67
    go_wp2_with (first|((with_reducible refine gate_callee (f:=76) rfl ?_);refine goesL_ (some 9) rfl rfl Try.func76 (by kernel_rfl) rfl #[.pointer (some ⟨g,0,none⟩)] rfl zq2 ?_;(with_reducible refine(spec_l1Cur_next.calls g s0_0 s0_1 s0_2 t613 t614 t615 w0 _ ?side1 ?side2 A4.out).mono ?_);(case side1=>repeat(first|(with_reducible first|exact HI0.out|apply IsS81.alloc|apply IsS81.drewN|apply IsS81.drew|apply IsS81.set_1|apply IsS81.set_2)|exact HI0.out));(case side2=>repeat(first|(with_reducible first|exact HB.out|apply below_alloc|apply pw_below_drewN|apply below_drew1|refine below_set ?_ (IsS81.ge HI0.out))|exact HB.out));rintro e w8 ⟨rfl,hi,hb,hk⟩;refine⟨_,rfl,?_⟩;have n0_:=Aside0.mk (KeepBut.trans (by repeat(first|(with_reducible first|exact HK.out|apply KeepBut.set_|apply keep_drewN|apply keep_drew|apply keep_alloc)|exact HK.out)) hk (.inl rfl));have n1_:=Aside0.mk (hb);have n2_:=Aside0.mk (hi);clear HK;clear HB;clear HI0;have HK:=n0_;have HB:=n1_;have HI0:=n2_;clear n0_ n1_ n2_;(try clear hb);(try clear hb2);(try clear hk);(try clear hi))|((with_reducible refine gate_callee (f:=76) rfl ?_);refine goesL_ (some 15) rfl rfl Try.func76 (by kernel_rfl) rfl #[.pointer (some ⟨g,0,none⟩)] rfl zq2 ?_;(with_reducible refine(spec_l1Cur_next.calls g s0_0 t614 t615 t616 t617 t618 w0 _ ?side1 ?side2 A6.out).mono ?_);(case side1=>repeat(first|(with_reducible first|exact HI0.out|apply IsS81.alloc|apply IsS81.drewN|apply IsS81.drew|apply IsS81.set_1|apply IsS81.set_2)|exact HI0.out));(case side2=>repeat(first|(with_reducible first|exact HB.out|apply below_alloc|apply pw_below_drewN|apply below_drew1|refine below_set ?_ (IsS81.ge HI0.out))|exact HB.out));rintro e w9 ⟨rfl,hi,hb,hk⟩;refine⟨_,rfl,?_⟩;have n0_:=Aside0.mk (KeepBut.trans (by repeat(first|(with_reducible first|exact HK.out|apply KeepBut.set_|apply keep_drewN|apply keep_drew|apply keep_alloc)|exact HK.out)) hk (.inl rfl));have n1_:=Aside0.mk (hb);have n2_:=Aside0.mk (hi);clear HK;clear HB;clear HI0;have HK:=n0_;have HB:=n1_;have HI0:=n2_;clear n0_ n1_ n2_;(try clear hb);(try clear hb2);(try clear hk);(try clear hi)))
    go_ret
    exact⟨by first|rfl|(simp [errW_none,errW_some]<;>rfl)|(simp [*,errW_none,errW_some]<;>rfl),by repeat(first|(with_reducible first|exact HI0.out|apply IsS81.alloc|apply IsS81.drewN|apply IsS81.drew|apply IsS81.set_1|apply IsS81.set_2)|exact HI0.out),by repeat(first|(with_reducible first|exact HB.out|apply below_alloc|apply pw_below_drewN|apply below_drew1|refine below_set ?_ (IsS81.ge HI0.out))|exact HB.out),by repeat(first|(with_reducible first|exact HK.out|apply KeepBut.set_|apply keep_drewN|apply keep_drew|apply keep_alloc)|exact HK.out)⟩
  ·rw [if_neg c5] at H
   have c5b0:decide (200<a1)=false:=decide_eq_false c5
   clear c5
   by_cases c10:a1=0
   ·rw [if_pos c10] at H
    exact absurd H (by simp)
   ·rw [if_neg c10] at H
    have c10b0:(a1==0)=false:=beq_eq_false_iff_ne.mpr c10
    have c10b1:(a1 !=0)=true:=bne_iff_ne.mpr c10
    simp only [Option.some.injEq,Prod.mk.injEq] at H
    obtain⟨rfl,rfl,rfl⟩:=H
    go_enter Try.func67,Try.ntmps67
    go_wp2_with (first|((with_reducible refine gate_callee (f:=76) rfl ?_);refine goesL_ (some 9) rfl rfl Try.func76 (by kernel_rfl) rfl #[.pointer (some ⟨g,0,none⟩)] rfl zq2 ?_;(with_reducible refine(spec_l1Cur_next.calls g s0_0 s0_1 s0_2 t613 t614 t615 w0 _ ?side1 ?side2 A4.out).mono ?_);(case side1=>repeat(first|(with_reducible first|exact HI0.out|apply IsS81.alloc|apply IsS81.drewN|apply IsS81.drew|apply IsS81.set_1|apply IsS81.set_2)|exact HI0.out));(case side2=>repeat(first|(with_reducible first|exact HB.out|apply below_alloc|apply pw_below_drewN|apply below_drew1|refine below_set ?_ (IsS81.ge HI0.out))|exact HB.out));rintro e w11 ⟨rfl,hi,hb,hk⟩;refine⟨_,rfl,?_⟩;have n0_:=Aside0.mk (KeepBut.trans (by repeat(first|(with_reducible first|exact HK.out|apply KeepBut.set_|apply keep_drewN|apply keep_drew|apply keep_alloc)|exact HK.out)) hk (.inl rfl));have n1_:=Aside0.mk (hb);have n2_:=Aside0.mk (hi);clear HK;clear HB;clear HI0;have HK:=n0_;have HB:=n1_;have HI0:=n2_;clear n0_ n1_ n2_;(try clear hb);(try clear hb2);(try clear hk);(try clear hi)))
    go_ret
    exact⟨by first|rfl|(simp [errW_none,errW_some]<;>rfl)|(simp [*,errW_none,errW_some]<;>rfl),by repeat(first|(with_reducible first|exact HI0.out|apply IsS81.alloc|apply IsS81.drewN|apply IsS81.drew|apply IsS81.set_1|apply IsS81.set_2)|exact HI0.out),by repeat(first|(with_reducible first|exact HB.out|apply below_alloc|apply pw_below_drewN|apply below_drew1|refine below_set ?_ (IsS81.ge HI0.out))|exact HB.out),by repeat(first|(with_reducible first|exact HK.out|apply KeepBut.set_|apply keep_drewN|apply keep_drew|apply keep_alloc)|exact HK.out)⟩
def spec_l1Cur_among.f (s0_0:List Int) (s0_1:Int) (s0_2:Int) (l1:List Int):Option (Int × Int × Int):=(spec_l1Cur_pick.f s0_0 s0_1 s0_2 (l1.length:Int)).bind fun bt619=>(if 0≤bt619.1 then(if bt619.1< (l1.length:Int) then(some (rd l1 bt619.1,bt619.2.1,bt619.2.2)) else(none)) else(none))
set_option maxHeartbeats 8000000 in
set_option maxRecDepth 100000 in
theorem spec_l1Cur_among.calls (g:Nat) (s0_0:List Int) (s0_1:Int) (s0_2:Int) (A1:Option Addr) (c1:Nat) (l1:List Int) (r1:Int) (r2:Int) (r3:Int) (w0 w:World) (hI:IsS81 w0 w g s0_0 s0_1 s0_2) (hB:Below w0.heap.size w0 w) (hr1:Kd.C (Kd.int .i64) w A1 l1.length l1) (hc1:l1.length≤c1) (hf1:∀ ad,A1=some ad→0<l1.length→ad.block≠g) (h:spec_l1Cur_among.f s0_0 s0_1 s0_2 l1=some (r1,r2,r3)):
  Calls Try.prog 66 #[.pointer (some ⟨g,0,none⟩),.slice A1 l1.length c1] w fun e w'=>e= .returned (.int .i64 r1)∧IsS81 w0 w' g s0_0 r2 r3∧Below w0.heap.size w0 w'∧KeepBut w w' g none:=by
 have HR1:=Aside0.mk hr1
 have HC1:=Aside0.mk hc1
 clear hr1 hc1
 have HI0:=Aside0.mk hI
 have HK:=Aside0.mk (KeepBut.refl w g none)
 have HL:=Aside0.mk hB.size
 clear hI
 have HW0:=Aside0.mk hB.size
 have HB:=Aside0.mk hB
 clear hB
 have H:((spec_l1Cur_pick.f s0_0 s0_1 s0_2 (l1.length:Int)).bind fun bt619=>(if 0≤bt619.1 then(if bt619.1< (l1.length:Int) then(some (rd l1 bt619.1,bt619.2.1,bt619.2.2)) else(none)) else(none)))=some (r1,r2,r3):=h
 clear h
 replace H:=Option.bind_eq_some_iff.mp H
 obtain⟨⟨t619,t620,t621⟩,A30,H⟩:=H
 replace H:(if 0≤t619 then(if t619< (l1.length:Int) then(some (rd l1 t619,t620,t621)) else(none)) else(none))=some (r1,r2,r3):=H
 have A3:=Aside0.mk A30
 clear A30
 by_cases c4: 0≤t619
 ·rw [if_pos c4] at H
  have c4b0:decide (0≤t619)=true:=decide_eq_true c4
  clear c4
  by_cases c5:t619< (l1.length:Int)
  ·rw [if_pos c5] at H
   have c5b0:decide (t619< (l1.length:Int))=true:=decide_eq_true c5
   clear c5
   simp only [Option.some.injEq,Prod.mk.injEq] at H
   obtain⟨rfl,rfl,rfl⟩:=H
   go_enter Try.func66,Try.ntmps66
   go_wp2_with (first|((with_reducible refine gate_callee (f:=67) rfl ?_);refine goesL_ (some 9) rfl rfl Try.func67 (by kernel_rfl) rfl #[.pointer (some ⟨g,0,none⟩),.int .i64 (l1.length:Int)] rfl zq2 ?_;(with_reducible refine(spec_l1Cur_pick.calls g s0_0 s0_1 s0_2 (l1.length:Int) t619 t620 t621 w0 _ ?side1 ?side2 A3.out).mono ?_);(case side1=>repeat(first|(with_reducible first|exact HI0.out|apply IsS81.alloc|apply IsS81.drewN|apply IsS81.drew|apply IsS81.set_1|apply IsS81.set_2)|exact HI0.out));(case side2=>repeat(first|(with_reducible first|exact HB.out|apply below_alloc|apply pw_below_drewN|apply below_drew1|refine below_set ?_ (IsS81.ge HI0.out))|exact HB.out));rintro e w6 ⟨rfl,hi,hb,hk⟩;refine⟨_,rfl,?_⟩;have n0_:=Aside0.mk (KeepBut.trans (by repeat(first|(with_reducible first|exact HK.out|apply KeepBut.set_|apply keep_drewN|apply keep_drew|apply keep_alloc)|exact HK.out)) hk (.inl rfl));have n1_:=Aside0.mk (hb);have n2_:=Aside0.mk (hi);clear HK;clear HB;clear HI0;have HK:=n0_;have HB:=n1_;have HI0:=n2_;clear n0_ n1_ n2_;(try clear hb);(try clear hb2);(try clear hk);(try clear hi);have p622: 0≤ (t619:Int):=of_decide_eq_true zq1;have q622:t619< (l1.length:Int):=of_decide_eq_true zq1;obtain⟨ad622,e622,hx622_0⟩:=Kd.at_int HR1.out t619 p622 q622;cases e622;replace hx622_0:=keep_cell HK.out hx622_0 (by first|(rw [add_block];exact hf1 _ rfl (by omega))|exact hf1 _ rfl (by omega)|exact hf1 ad622 rfl (by omega));replace p622:=eq_true p622;replace q622:=eq_true q622))
   go_ret
   exact⟨by first|rfl|(simp [errW_none,errW_some]<;>rfl)|(simp [*,errW_none,errW_some]<;>rfl),by repeat(first|(with_reducible first|exact HI0.out|apply IsS81.alloc|apply IsS81.drewN|apply IsS81.drew|apply IsS81.set_1|apply IsS81.set_2)|exact HI0.out),by repeat(first|(with_reducible first|exact HB.out|apply below_alloc|apply pw_below_drewN|apply below_drew1|refine below_set ?_ (IsS81.ge HI0.out))|exact HB.out),by repeat(first|(with_reducible first|exact HK.out|apply KeepBut.set_|apply keep_drewN|apply keep_drew|apply keep_alloc)|exact HK.out)⟩
  ·rw [if_neg c5] at H
   exact absurd H (by simp)
 ·rw [if_neg c4] at H
  exact absurd H (by simp)
def spec_l1Cur_one.f (s0_0:List Int) (s0_1:Int) (s0_2:Int) (a1:Int):Option (Bool × Int × Int):=(spec_l1Cur_pick.f s0_0 s0_1 s0_2 a1).bind fun bt623=>(some ((bt623.1==0),bt623.2.1,bt623.2.2))
set_option maxHeartbeats 8000000 in
set_option maxRecDepth 100000 in
theorem spec_l1Cur_one.calls (g:Nat) (s0_0:List Int) (s0_1:Int) (s0_2:Int) (a1:Int) (r1:Bool) (r2:Int) (r3:Int) (w0 w:World) (hI:IsS81 w0 w g s0_0 s0_1 s0_2) (hB:Below w0.heap.size w0 w) (h:spec_l1Cur_one.f s0_0 s0_1 s0_2 a1=some (r1,r2,r3)):
  Calls Try.prog 68 #[.pointer (some ⟨g,0,none⟩),.int .i64 a1] w fun e w'=>e= .returned (.bool r1)∧IsS81 w0 w' g s0_0 r2 r3∧Below w0.heap.size w0 w'∧KeepBut w w' g none:=by
 have HI0:=Aside0.mk hI
 have HK:=Aside0.mk (KeepBut.refl w g none)
 have HL:=Aside0.mk hB.size
 clear hI
 have HW0:=Aside0.mk hB.size
 have HB:=Aside0.mk hB
 clear hB
 have H:((spec_l1Cur_pick.f s0_0 s0_1 s0_2 a1).bind fun bt623=>(some ((bt623.1==0),bt623.2.1,bt623.2.2)))=some (r1,r2,r3):=h
 clear h
 replace H:=Option.bind_eq_some_iff.mp H
 obtain⟨⟨t623,t624,t625⟩,A30,H⟩:=H
 replace H:(some ((t623==0),t624,t625))=some (r1,r2,r3):=H
 have A3:=Aside0.mk A30
 clear A30
 simp only [Option.some.injEq,Prod.mk.injEq] at H
 obtain⟨rfl,rfl,rfl⟩:=H
 go_enter Try.func68,Try.ntmps68
 go_wp2_with (first|((with_reducible refine gate_callee (f:=67) rfl ?_);refine goesL_ (some 7) rfl rfl Try.func67 (by kernel_rfl) rfl #[.pointer (some ⟨g,0,none⟩),.int .i64 a1] rfl zq2 ?_;(with_reducible refine(spec_l1Cur_pick.calls g s0_0 s0_1 s0_2 a1 t623 t624 t625 w0 _ ?side1 ?side2 A3.out).mono ?_);(case side1=>repeat(first|(with_reducible first|exact HI0.out|apply IsS81.alloc|apply IsS81.drewN|apply IsS81.drew|apply IsS81.set_1|apply IsS81.set_2)|exact HI0.out));(case side2=>repeat(first|(with_reducible first|exact HB.out|apply below_alloc|apply pw_below_drewN|apply below_drew1|refine below_set ?_ (IsS81.ge HI0.out))|exact HB.out));rintro e w4 ⟨rfl,hi,hb,hk⟩;refine⟨_,rfl,?_⟩;have n0_:=Aside0.mk (KeepBut.trans (by repeat(first|(with_reducible first|exact HK.out|apply KeepBut.set_|apply keep_drewN|apply keep_drew|apply keep_alloc)|exact HK.out)) hk (.inl rfl));have n1_:=Aside0.mk (hb);have n2_:=Aside0.mk (hi);clear HK;clear HB;clear HI0;have HK:=n0_;have HB:=n1_;have HI0:=n2_;clear n0_ n1_ n2_;(try clear hb);(try clear hb2);(try clear hk);(try clear hi)))
 go_ret
 exact⟨by first|rfl|(simp [errW_none,errW_some]<;>rfl)|(simp [*,errW_none,errW_some]<;>rfl),by repeat(first|(with_reducible first|exact HI0.out|apply IsS81.alloc|apply IsS81.drewN|apply IsS81.drew|apply IsS81.set_1|apply IsS81.set_2)|exact HI0.out),by repeat(first|(with_reducible first|exact HB.out|apply below_alloc|apply pw_below_drewN|apply below_drew1|refine below_set ?_ (IsS81.ge HI0.out))|exact HB.out),by repeat(first|(with_reducible first|exact HK.out|apply KeepBut.set_|apply keep_drewN|apply keep_drew|apply keep_alloc)|exact HK.out)⟩
end Go.Proofs.Ytklecgkjoofipaa.P

namespace Go.Proofs.Ytklecgkjoofipaa.P
open Go.RowKit Go.Proofs.YtklecgkjoofipaaW.PrintWords Go.Proofs.YtklecgkjoofipaaW.PrintLast Go.Proofs.YtklecgkjoofipaaW.PrintMore
attribute [local go_sem] max2_int min2_int max_two min_two max_three min_three max_four min_four   -- for this text's walks alone
set_option linter.unusedVariables false
set_option linter.unusedSimpArgs false
mutual
def spec_l1Cur_edges.j0:Nat→Int→List Int→Int→Int→Option (Int × (List (S67)) × Int × Int)
 | 0,_,_,_,_=>none
 |k+1,x4,x1000,x1001,x1002=>(spec_l1Cur_pick.f x1000 x1001 x1002 3).bind fun bt638=>(spec_l1Cur_edges.l0 k x4 ([] :List (S67)) (wrap64 (1+bt638.1)) 0 x1000 bt638.2.1 bt638.2.2)
def spec_l1Cur_edges.l0:Nat→Int→List (S67)→Int→Int→List Int→Int→Int→Option (Int × (List (S67)) × Int × Int)
 | 0,_,_,_,_,_,_,_=>none
 |k+1,x4,x5,x6,x7,x1000,x1001,x1002=>if x7<x4 then(spec_l1Cur_edges.l1 k x4 x5 x6 x7 (wrap64 (x7+1)) x1000 x1001 x1002) else(if (x5.length:Int) > 0 then((spec_l1Cur_one.f x1000 x1001 x1002 30).bind fun bt650=>(if bt650.1=true then((spec_l1Cur_among.f x1000 bt650.2.1 bt650.2.2 (([0,100,101] :List Int))).bind fun bt656=>(if 0< (x5.length:Int) then(some (x4,(x5.set (0:Int).toNat (⟨(rd_T67 x5 0).f0,(rd_T67 x5 0).f1,bt656.1⟩ :S67)),bt656.2.1,bt656.2.2)) else(none))) else(some (x4,x5,bt650.2.1,bt650.2.2)))) else(some (x4,x5,x1001,x1002)))
def spec_l1Cur_edges.l1:Nat→Int→List (S67)→Int→Int→Int→List Int→Int→Int→Option (Int × (List (S67)) × Int × Int)
 | 0,_,_,_,_,_,_,_,_=>none
 |k+1,x4,x5,x6,x7,x8,x1000,x1001,x1002=>if x8<x4 then((spec_l1Cur_one.f x1000 x1001 x1002 (wrap64 (1+x6))).bind fun bt641=>(if bt641.1=true then(if (x5.length:Int)< 40 then((spec_l1Cur_pick.f x1000 bt641.2.1 bt641.2.2 5).bind fun bt644=>(if x5.length< 5864062014805 then(spec_l1Cur_edges.l1 k x4 (x5++ [(⟨x7,x8,wrap64 (1+bt644.1)⟩ :S67)]) x6 x7 (wrap64 (x8+1)) x1000 bt644.2.1 bt644.2.2) else(none))) else(spec_l1Cur_edges.l1 k x4 x5 x6 x7 (wrap64 (x8+1)) x1000 bt641.2.1 bt641.2.2)) else(spec_l1Cur_edges.l1 k x4 x5 x6 x7 (wrap64 (x8+1)) x1000 bt641.2.1 bt641.2.2))) else(spec_l1Cur_edges.l0 k x4 x5 x6 (wrap64 (x7+1)) x1000 x1001 x1002)
end
def spec_l1Cur_edges.f (k:Nat) (s0_0:List Int) (s0_1:Int) (s0_2:Int):Option (Int × (List (S67)) × Int × Int):=(spec_l1Cur_pick.f s0_0 s0_1 s0_2 8).bind fun bt626=>((spec_l1Cur_one.f s0_0 bt626.2.1 bt626.2.2 30).bind fun bt629=>(if bt629.1=true then((spec_l1Cur_among.f s0_0 bt629.2.1 bt629.2.2 (([0,12,13] :List Int))).bind fun bt635=>(spec_l1Cur_edges.j0 k bt635.1 s0_0 bt635.2.1 bt635.2.2)) else(spec_l1Cur_edges.j0 k (wrap64 (1+bt626.1)) s0_0 bt629.2.1 bt629.2.2)))
set_option maxHeartbeats 8000000 in
set_option maxRecDepth 100000 in
theorem spec_l1Cur_edges.calls (k:Nat) (g:Nat) (s0_0:List Int) (s0_1:Int) (s0_2:Int) (r1:Int) (r2:List (S67)) (r3:Int) (r4:Int) (w0 w:World) (hI:IsS81 w0 w g s0_0 s0_1 s0_2) (hB:Below w0.heap.size w0 w) (h:spec_l1Cur_edges.f k s0_0 s0_1 s0_2=some (r1,r2,r3,r4)):
  Calls Try.prog 65 #[.pointer (some ⟨g,0,none⟩)] w fun e w'=> ∃ v1_:Value,e= .returned (.tuple #[.int .i64 r1,v1_])∧Kd.R k67 67 w' w.heap.size (fun _=>True) v1_ r2∧IsS81 w0 w' g s0_0 r3 r4∧Below w0.heap.size w0 w'∧KeepBut w w' g none:=by
 have hu67:=Try.underlying67
 have HI0:=Aside0.mk hI
 have HK:=Aside0.mk (KeepBut.refl w g none)
 have HL:=Aside0.mk hB.size
 clear hI
 have HW0:=Aside0.mk hB.size
 have HB:=Aside0.mk hB
 clear hB
 have H:((spec_l1Cur_pick.f s0_0 s0_1 s0_2 8).bind fun bt626=>((spec_l1Cur_one.f s0_0 bt626.2.1 bt626.2.2 30).bind fun bt629=>(if bt629.1=true then((spec_l1Cur_among.f s0_0 bt629.2.1 bt629.2.2 (([0,12,13] :List Int))).bind fun bt635=>(spec_l1Cur_edges.j0 k bt635.1 s0_0 bt635.2.1 bt635.2.2)) else(spec_l1Cur_edges.j0 k (wrap64 (1+bt626.1)) s0_0 bt629.2.1 bt629.2.2))))=some (r1,r2,r3,r4):=h
 clear h
 replace H:=Option.bind_eq_some_iff.mp H
 obtain⟨⟨t626,t627,t628⟩,A20,H⟩:=H
 replace H:((spec_l1Cur_one.f s0_0 t627 t628 30).bind fun bt629=>(if bt629.1=true then((spec_l1Cur_among.f s0_0 bt629.2.1 bt629.2.2 (([0,12,13] :List Int))).bind fun bt635=>(spec_l1Cur_edges.j0 k bt635.1 s0_0 bt635.2.1 bt635.2.2)) else(spec_l1Cur_edges.j0 k (wrap64 (1+t626)) s0_0 bt629.2.1 bt629.2.2)))=some (r1,r2,r3,r4):=H
 have A2:=Aside0.mk A20
 clear A20
 replace H:=Option.bind_eq_some_iff.mp H
 obtain⟨⟨t629,t630,t631⟩,A30,H⟩:=H
 replace H:(if t629=true then((spec_l1Cur_among.f s0_0 t630 t631 (([0,12,13] :List Int))).bind fun bt635=>(spec_l1Cur_edges.j0 k bt635.1 s0_0 bt635.2.1 bt635.2.2)) else(spec_l1Cur_edges.j0 k (wrap64 (1+t626)) s0_0 t630 t631))=some (r1,r2,r3,r4):=H
 have A3:=Aside0.mk A30
 clear A30
 have HC4:=Aside0.mk H
 clear H
 go_enter Try.func65,Try.ntmps65
 go_upto_if 13 with (first|((with_reducible refine gate_callee (f:=67) rfl ?_);refine goesL_ (some 10) rfl rfl Try.func67 (by kernel_rfl) rfl #[.pointer (some ⟨g,0,none⟩),.int .i64 8] rfl zq2 ?_;(with_reducible refine(spec_l1Cur_pick.calls g s0_0 s0_1 s0_2 8 t626 t627 t628 w0 _ ?side1 ?side2 A2.out).mono ?_);(case side1=>repeat(first|(with_reducible first|exact HI0.out|apply IsS81.alloc|apply IsS81.drewN|apply IsS81.drew|apply IsS81.set_1|apply IsS81.set_2)|exact HI0.out));(case side2=>repeat(first|(with_reducible first|exact HB.out|apply below_alloc|apply pw_below_drewN|apply below_drew1|refine below_set ?_ (IsS81.ge HI0.out))|exact HB.out));rintro e w5 ⟨rfl,hi,hb,hk⟩;refine⟨_,rfl,?_⟩;have n0_:=Aside0.mk (KeepBut.trans (by repeat(first|(with_reducible first|exact HK.out|apply KeepBut.set_|apply keep_drewN|apply keep_drew|apply keep_alloc)|exact HK.out)) hk (.inl rfl));have n1_:=Aside0.mk (hb);have n2_:=Aside0.mk (hi);clear HK;clear HB;clear HI0;have HK:=n0_;have HB:=n1_;have HI0:=n2_;clear n0_ n1_ n2_;(try clear hb);(try clear hb2);(try clear hk);(try clear hi))|((with_reducible refine gate_callee (f:=68) rfl ?_);refine goesL_ (some 13) rfl rfl Try.func68 (by kernel_rfl) rfl #[.pointer (some ⟨g,0,none⟩),.int .i64 30] rfl zq2 ?_;(with_reducible refine(spec_l1Cur_one.calls g s0_0 t627 t628 30 t629 t630 t631 w0 _ ?side1 ?side2 A3.out).mono ?_);(case side1=>repeat(first|(with_reducible first|exact HI0.out|apply IsS81.alloc|apply IsS81.drewN|apply IsS81.drew|apply IsS81.set_1|apply IsS81.set_2)|exact HI0.out));(case side2=>repeat(first|(with_reducible first|exact HB.out|apply below_alloc|apply pw_below_drewN|apply below_drew1|refine below_set ?_ (IsS81.ge HI0.out))|exact HB.out));rintro e w6 ⟨rfl,hi,hb,hk⟩;refine⟨_,rfl,?_⟩;have n0_:=Aside0.mk (KeepBut.trans (by repeat(first|(with_reducible first|exact HK.out|apply KeepBut.set_|apply keep_drewN|apply keep_drew|apply keep_alloc)|exact HK.out)) hk (.inl rfl));have n1_:=Aside0.mk (hb);have n2_:=Aside0.mk (hi);clear HK;clear HB;clear HI0;have HK:=n0_;have HB:=n1_;have HI0:=n2_;clear n0_ n1_ n2_;(try clear hb);(try clear hb2);(try clear hk);(try clear hi)))
 (try simp only [Act.put,List.setIfInBounds_toArray,List.set_cons_zero,List.set_cons_succ])
 go_cut [4] (fun v4 wc=> ∃ (kq:Nat) (x4_3:Int) (x1001_3:Int) (x1002_3:Int),v4= .int .i64 x4_3∧Aside0 (spec_l1Cur_edges.j0 kq x4_3 s0_0 x1001_3 x1002_3=some (r1,r2,r3,r4))∧Aside0 (kq≤k)∧Aside0 (IsS81 w0 wc g s0_0 x1001_3 x1002_3)∧Aside0 (KeepBut w wc g none)∧Aside0 (Below w0.heap.size w0 wc))
 case first=>
  have H:=HC4.out
  clear HC4
  by_cases c7:t629=true
  ·subst c7
   have H1:((spec_l1Cur_among.f s0_0 t630 t631 (([0,12,13] :List Int))).bind fun bt635=>(spec_l1Cur_edges.j0 k bt635.1 s0_0 bt635.2.1 bt635.2.2))=some (r1,r2,r3,r4):=by rw [if_pos rfl] at H;exact H
   clear H
   have H:=H1
   clear H1
   obtain⟨y632,hy632⟩ :∃ y_:List Int,y_= (([0,12,13] :List Int)):=⟨_,rfl⟩
   replace H:((spec_l1Cur_among.f s0_0 t630 t631 y632).bind fun bt635=>(spec_l1Cur_edges.j0 k bt635.1 s0_0 bt635.2.1 bt635.2.2))=some (r1,r2,r3,r4):=by first|(rw [hy632];with_reducible exact H)|(have H2_:=(Option.bind_some _ _).symm.trans H;rw [hy632];with_reducible exact H2_)|(have H2_:=(Option.bind_some _ _).symm.trans H;with_reducible exact H2_)|with_reducible exact H|(rw [hy632];exact H)|exact H
   have Ny632:=Aside0.mk hy632
   clear hy632
   replace H:=Option.bind_eq_some_iff.mp H
   obtain⟨⟨t635,t636,t637⟩,A80,H⟩:=H
   replace H:(spec_l1Cur_edges.j0 k t635 s0_0 t636 t637)=some (r1,r2,r3,r4):=H
   have A8:=Aside0.mk A80
   clear A80
   have H':=Aside0.mk H
   clear H
   go_wp2_with (first|((with_reducible refine gate_dst (N:=15) rfl ?_);(try(refine gate_guard (by rfl) ?_;dsimp only));refine Kd.R_lit (Kd.int .i64) _ 3 ?hg (N:=15) ?hd (xs:=([0,12,13] :List Int)) (inner:= [.int .i64 0,.int .i64 12,.int .i64 13]) (ok:=fun _=>True) (okp:=fun _=>True) ?hr ?hp (fun _ hk=>hk) trivial (Below.refl _ _) (Nat.le_refl _) (by simp) ?_;(case hd=>rfl);(case hg=>rfl);(case hr=>first|(go_simp;done)|(go_simp;rfl));(case hp=>exact(Reps.one (show Kd.M (Kd.int .i64) _ _ _ 0 [.int .i64 0] from rfl) (Reps.one (show Kd.M (Kd.int .i64) _ _ _ 12 [.int .i64 12] from rfl) (Reps.one (show Kd.M (Kd.int .i64) _ _ _ 13 [.int .i64 13] from rfl) (Reps.none _ _)))));intro v633 w9 ho10 hb hg_ hnew_;clear hg_ hnew_;(first|rw [← Ny632.out] at ho10|(simp only [Int.reduceToNat] at ho10;rw [← Ny632.out] at ho10));have n0_:=Aside0.mk (Kd.R_lower ho10 (keep_size (w:=w) (g:=g) (row:=none) (by repeat(first|(with_reducible first|exact HK.out|apply KeepBut.set_|apply keep_drewN|apply keep_drew|apply keep_alloc)|exact HK.out))));have n1_:=Aside0.mk (IsS81.below (by repeat(first|(with_reducible first|exact HI0.out|apply IsS81.alloc|apply IsS81.drewN|apply IsS81.drew|apply IsS81.set_1|apply IsS81.set_2)|exact HI0.out)) hb);have n2_:=Aside0.mk (KeepBut.trans (by repeat(first|(with_reducible first|exact HK.out|apply KeepBut.set_|apply keep_drewN|apply keep_drew|apply keep_alloc)|exact HK.out)) (KeepBut.of_below hb g none) (.inl rfl));have n3_:=Aside0.mk (below_step (by repeat(first|(with_reducible first|exact HB.out|apply below_alloc|apply pw_below_drewN|apply below_drew1|refine below_set ?_ (IsS81.ge HI0.out))|exact HB.out)) hb);clear HI0;clear HK;clear HB;have HO634:=n0_;have HI0:=n1_;have HK:=n2_;have HB:=n3_;clear n0_ n1_ n2_ n3_;clear hb ho10;obtain⟨Ao11,co11,eo11⟩:=Kd.R_slice HO634.out;subst eo11)|((with_reducible refine gate_callee (f:=66) rfl ?_);refine goesL_ (some 16) rfl rfl Try.func66 (by kernel_rfl) rfl #[.pointer (some ⟨g,0,none⟩),.slice Ao11 y632.length co11] rfl zq2 ?_;(with_reducible refine(spec_l1Cur_among.calls g s0_0 t630 t631 _ _ y632 t635 t636 t637 w0 _ ?side1 ?side2 ?side3 ?side4 ?side5 A8.out).mono ?_);(case side1=>repeat(first|(with_reducible first|exact HI0.out|apply IsS81.alloc|apply IsS81.drewN|apply IsS81.drew|apply IsS81.set_1|apply IsS81.set_2)|exact HI0.out));(case side2=>repeat(first|(with_reducible first|exact HB.out|apply below_alloc|apply pw_below_drewN|apply below_drew1|refine below_set ?_ (IsS81.ge HI0.out))|exact HB.out));(case side3=>repeat(first|exact(Kd.R_reads' HO634.out).2.2|(with_reducible refine Kd.C_alloc ?_ _)|(with_reducible refine Kd.C_drewN ?_ _)|(with_reducible refine Kd.C_drew ?_)));(case side4=>exact(Kd.R_reads' HO634.out).2.1);(case side5=>exact far_slice (IsS81.own_ne HI0.out HO634.out (by decide)));rintro e w12 ⟨rfl,hi,hb,hk⟩;refine⟨_,rfl,?_⟩;have n0_:=Aside0.mk (Kd.R_mono (Kd.R_keep (IsS81.apart (show IsS81 w0 _ g s0_0 t630 t631 from by repeat(first|(with_reducible first|exact HI0.out|apply IsS81.alloc|apply IsS81.drewN|apply IsS81.drew|apply IsS81.set_1|apply IsS81.set_2)|exact HI0.out)) (zq4 HO634) (by decide)) hk (fun _ h=>h.2)) (fun _ h=>h.1));have n1_:=Aside0.mk (KeepBut.trans (by repeat(first|(with_reducible first|exact HK.out|apply KeepBut.set_|apply keep_drewN|apply keep_drew|apply keep_alloc)|exact HK.out)) hk (.inl rfl));have n2_:=Aside0.mk (hb);have n3_:=Aside0.mk (hi);clear HO634;clear HK;clear HB;clear HI0;have HO634:=n0_;have HK:=n1_;have HB:=n2_;have HI0:=n3_;clear n0_ n1_ n2_ n3_;(try clear hb);(try clear hb2);(try clear hk);(try clear hi)))
   go_meet
   case rel=>exact⟨_,(t635),(t636),(t637),(by first|rfl|(simp;done)|(simp [*];done)),H',⟨by first|omega|exact Nat.le_refl _⟩,⟨by repeat(first|(with_reducible first|exact HI0.out|apply IsS81.alloc|apply IsS81.drewN|apply IsS81.drew|apply IsS81.set_1|apply IsS81.set_2)|exact HI0.out)⟩,⟨by repeat(first|(with_reducible first|exact HK.out|apply KeepBut.set_|apply keep_drewN|apply keep_drew|apply keep_alloc)|exact HK.out)⟩,⟨by repeat(first|(with_reducible first|exact HB.out|apply below_alloc|apply pw_below_drewN|apply below_drew1|refine below_set ?_ (IsS81.ge HI0.out))|exact HB.out)⟩⟩
  ·replace c7:=Bool.eq_false_iff.mpr c7
   subst c7
   have H1:(spec_l1Cur_edges.j0 k (wrap64 (1+t626)) s0_0 t630 t631)=some (r1,r2,r3,r4):=by rw [if_neg (show ¬ (false=true) by decide)] at H;exact H
   clear H
   have H:=H1
   clear H1
   have H':=Aside0.mk H
   clear H
   go_wp2
   go_meet
   case rel=>exact⟨_,(wrap64 (1+t626)),(t630),(t631),(by first|rfl|(simp;done)|(simp [*];done)),H',⟨by first|omega|exact Nat.le_refl _⟩,⟨by repeat(first|(with_reducible first|exact HI0.out|apply IsS81.alloc|apply IsS81.drewN|apply IsS81.drew|apply IsS81.set_1|apply IsS81.set_2)|exact HI0.out)⟩,⟨by repeat(first|(with_reducible first|exact HK.out|apply KeepBut.set_|apply keep_drewN|apply keep_drew|apply keep_alloc)|exact HK.out)⟩,⟨by repeat(first|(with_reducible first|exact HB.out|apply below_alloc|apply pw_below_drewN|apply below_drew1|refine below_set ?_ (IsS81.ge HI0.out))|exact HB.out)⟩⟩
 case rest=>
  clear HC4
  try clear p2
  try clear c6
  try clear p6
  try clear c7
  obtain⟨kq,x4_3,x1001_3,x1002_3,rfl,HA,HJ3,HI0,HK,HB⟩:=hcut
  cases kq with
  |zero=>exact absurd HA.out (by simp [spec_l1Cur_edges.j0])
  |succ kj3=>
   have H:=HA.out
   clear HA
   simp only [spec_l1Cur_edges.j0] at H
   replace H:=Option.bind_eq_some_iff.mp H
   obtain⟨⟨t638,t639,t640⟩,A130,H⟩:=H
   replace H:(spec_l1Cur_edges.l0 kj3 x4_3 ([] :List (S67)) (wrap64 (1+t638)) 0 s0_0 t639 t640)=some (r1,r2,r3,r4):=H
   have A13:=Aside0.mk A130
   clear A130
   have H':=Aside0.mk H
   clear H
   go_wp2_with (first|((with_reducible refine gate_callee (f:=67) rfl ?_);refine goesL_ (some 18) rfl rfl Try.func67 (by kernel_rfl) rfl #[.pointer (some ⟨g,0,none⟩),.int .i64 3] rfl zq2 ?_;(with_reducible refine(spec_l1Cur_pick.calls g s0_0 x1001_3 x1002_3 3 t638 t639 t640 w0 _ ?side1 ?side2 A13.out).mono ?_);(case side1=>repeat(first|(with_reducible first|exact HI0.out|apply IsS81.alloc|apply IsS81.drewN|apply IsS81.drew|apply IsS81.set_1|apply IsS81.set_2)|exact HI0.out));(case side2=>repeat(first|(with_reducible first|exact HB.out|apply below_alloc|apply pw_below_drewN|apply below_drew1|refine below_set ?_ (IsS81.ge HI0.out))|exact HB.out));rintro e w14 ⟨rfl,hi,hb,hk⟩;refine⟨_,rfl,?_⟩;have n0_:=Aside0.mk (KeepBut.trans (by repeat(first|(with_reducible first|exact HK.out|apply KeepBut.set_|apply keep_drewN|apply keep_drew|apply keep_alloc)|exact HK.out)) hk (.inl rfl));have n1_:=Aside0.mk (hb);have n2_:=Aside0.mk (hi);clear HK;clear HB;clear HI0;have HK:=n0_;have HB:=n1_;have HI0:=n2_;clear n0_ n1_ n2_;(try clear hb);(try clear hb2);(try clear hk);(try clear hi)))
   go_loopg [5,7] kj3 (fun kq v5 v7 w'=> ∃ (x5_2:List (S67)) (x7_2:Int) (x1001_2:Int) (x1002_2:Int),v7= .int .i64 x7_2∧Aside0 (spec_l1Cur_edges.l0 kq x4_3 x5_2 (wrap64 (1+t638)) x7_2 s0_0 x1001_2 x1002_2=some (r1,r2,r3,r4))∧Aside0 (kq≤kj3)∧Aside0 (Kd.R k67 67 w' w.heap.size (fun _=>True) v5 x5_2)∧Aside0 (IsS81 w0 w' g s0_0 x1001_2 x1002_2)∧Aside0 (KeepBut w w' g none)∧Aside0 (Below w0.heap.size w0 w'))
   case atStart=>exact⟨(([] :List (S67))),(0),(t639),(t640),(by first|rfl|(simp;done)|(simp [*];done)),H',⟨Nat.le_refl _⟩,⟨by first|exact Kd.R_nil _ _ _ _ _|exact Kd.N_nil _ _ _ _ _|exact Kd.V_nil _ _ _ _ _|exact Kd.Q_nil _ _ _ _ _|exact Kd.S_nil _ _ _ _ _⟩,⟨by repeat(first|(with_reducible first|exact HI0.out|apply IsS81.alloc|apply IsS81.drewN|apply IsS81.drew|apply IsS81.set_1|apply IsS81.set_2)|exact HI0.out)⟩,⟨by repeat(first|(with_reducible first|exact HK.out|apply KeepBut.set_|apply keep_drewN|apply keep_drew|apply keep_alloc)|exact HK.out)⟩,⟨by repeat(first|(with_reducible first|exact HB.out|apply below_alloc|apply pw_below_drewN|apply below_drew1|refine below_set ?_ (IsS81.ge HI0.out))|exact HB.out)⟩⟩
   case round=>
    clear H'
    try clear p2
    try clear c6
    try clear p6
    try clear c7
    try clear p2
    try clear p6
    obtain⟨x5_2,x7_2,x1001_2,x1002_2,rfl,HA,HK2,HO_5,HI0,HK,HB⟩:=hrel
    cases gk with
    |zero=>exact absurd HA.out (by simp [spec_l1Cur_edges.l0])
    |succ k2=>
     have H:=HA.out
     clear HA
     simp only [spec_l1Cur_edges.l0] at H
     by_cases c15:x7_2<x4_3
     ·rw [if_pos c15] at H
      have c15b0:decide (x7_2<x4_3)=true:=decide_eq_true c15
      clear c15
      have H':=Aside0.mk H
      clear H
      go_wp2
      go_loopg [5,8] k2 (fun kq v5 v8 w'=> ∃ (x5_3:List (S67)) (x8_3:Int) (x1001_3:Int) (x1002_3:Int),v8= .int .i64 x8_3∧Aside0 (spec_l1Cur_edges.l1 kq x4_3 x5_3 (wrap64 (1+t638)) x7_2 x8_3 s0_0 x1001_3 x1002_3=some (r1,r2,r3,r4))∧Aside0 (kq≤k2)∧Aside0 (Kd.R k67 67 w' w.heap.size (fun _=>True) v5 x5_3)∧Aside0 (IsS81 w0 w' g s0_0 x1001_3 x1002_3)∧Aside0 (KeepBut w w' g none)∧Aside0 (Below w0.heap.size w0 w'))
      case atStart=>exact⟨(x5_2),(wrap64 (x7_2+1)),(x1001_2),(x1002_2),(by first|rfl|(simp;done)|(simp [*];done)),H',⟨Nat.le_refl _⟩,⟨by(with_reducible repeat(first|apply Kd.R_alloc|apply Kd.R_drewN|apply Kd.R_drew));exact HO_5.out⟩,⟨by repeat(first|(with_reducible first|exact HI0.out|apply IsS81.alloc|apply IsS81.drewN|apply IsS81.drew|apply IsS81.set_1|apply IsS81.set_2)|exact HI0.out)⟩,⟨by repeat(first|(with_reducible first|exact HK.out|apply KeepBut.set_|apply keep_drewN|apply keep_drew|apply keep_alloc)|exact HK.out)⟩,⟨by repeat(first|(with_reducible first|exact HB.out|apply below_alloc|apply pw_below_drewN|apply below_drew1|refine below_set ?_ (IsS81.ge HI0.out))|exact HB.out)⟩⟩
      case round=>
       clear H'
       try clear c1
       try clear p2
       try clear c6
       try clear p6
       try clear c7
       try clear c15
       try clear c15b0
       try clear p2
       try clear p6
       obtain⟨x5_3,x8_3,x1001_3,x1002_3,rfl,HA,HK3,HO_5,HI0,HK,HB⟩:=hrel
       cases gk with
       |zero=>exact absurd HA.out (by simp [spec_l1Cur_edges.l1])
       |succ k3=>
        have H:=HA.out
        clear HA
        simp only [spec_l1Cur_edges.l1] at H
        by_cases c16:x8_3<x4_3
        ·rw [if_pos c16] at H
         have c16b0:decide (x8_3<x4_3)=true:=decide_eq_true c16
         clear c16
         replace H:=Option.bind_eq_some_iff.mp H
         obtain⟨⟨t641,t642,t643⟩,A170,H⟩:=H
         replace H:(if t641=true then(if (x5_3.length:Int)< 40 then((spec_l1Cur_pick.f s0_0 t642 t643 5).bind fun bt644=>(if x5_3.length< 5864062014805 then(spec_l1Cur_edges.l1 k3 x4_3 (x5_3++ [(⟨x7_2,x8_3,wrap64 (1+bt644.1)⟩ :S67)]) (wrap64 (1+t638)) x7_2 (wrap64 (x8_3+1)) s0_0 bt644.2.1 bt644.2.2) else(none))) else(spec_l1Cur_edges.l1 k3 x4_3 x5_3 (wrap64 (1+t638)) x7_2 (wrap64 (x8_3+1)) s0_0 t642 t643)) else(spec_l1Cur_edges.l1 k3 x4_3 x5_3 (wrap64 (1+t638)) x7_2 (wrap64 (x8_3+1)) s0_0 t642 t643))=some (r1,r2,r3,r4):=H
         have A17:=Aside0.mk A170
         clear A170
         by_cases c18:t641=true
         ·subst c18
          have H1:(if (x5_3.length:Int)< 40 then((spec_l1Cur_pick.f s0_0 t642 t643 5).bind fun bt644=>(if x5_3.length< 5864062014805 then(spec_l1Cur_edges.l1 k3 x4_3 (x5_3++ [(⟨x7_2,x8_3,wrap64 (1+bt644.1)⟩ :S67)]) (wrap64 (1+t638)) x7_2 (wrap64 (x8_3+1)) s0_0 bt644.2.1 bt644.2.2) else(none))) else(spec_l1Cur_edges.l1 k3 x4_3 x5_3 (wrap64 (1+t638)) x7_2 (wrap64 (x8_3+1)) s0_0 t642 t643))=some (r1,r2,r3,r4):=by rw [if_pos rfl] at H;exact H
          clear H
          have H:=H1
          clear H1
          by_cases c19:(x5_3.length:Int)< 40
          ·rw [if_pos c19] at H
           have c19b0:decide ((x5_3.length:Int)< 40)=true:=decide_eq_true c19
           have c19b1:decide (x5_3.length< 40)=true:=decide_eq_true (by omega)
           clear c19
           replace H:=Option.bind_eq_some_iff.mp H
           obtain⟨⟨t644,t645,t646⟩,A200,H⟩:=H
           replace H:(if x5_3.length< 5864062014805 then(spec_l1Cur_edges.l1 k3 x4_3 (x5_3++ [(⟨x7_2,x8_3,wrap64 (1+t644)⟩ :S67)]) (wrap64 (1+t638)) x7_2 (wrap64 (x8_3+1)) s0_0 t645 t646) else(none))=some (r1,r2,r3,r4):=H
           have A20:=Aside0.mk A200
           clear A200
           by_cases c21:x5_3.length< 5864062014805
           ·rw [if_pos c21] at H
            have LMc21:=Aside0.mk c21
            clear c21
            obtain⟨y647,hy647⟩ :∃ y_:List (S67),y_= (x5_3++ [(⟨x7_2,x8_3,wrap64 (1+t644)⟩ :S67)]):=⟨_,rfl⟩
            replace H:(spec_l1Cur_edges.l1 k3 x4_3 y647 (wrap64 (1+t638)) x7_2 (wrap64 (x8_3+1)) s0_0 t645 t646)=some (r1,r2,r3,r4):=by first|(rw [hy647];with_reducible exact H)|(have H2_:=(Option.bind_some _ _).symm.trans H;rw [hy647];with_reducible exact H2_)|(have H2_:=(Option.bind_some _ _).symm.trans H;with_reducible exact H2_)|with_reducible exact H|(rw [hy647];exact H)|exact H
            have Ny647:=Aside0.mk hy647
            clear hy647
            have H':=Aside0.mk H
            clear H
            go_wp2_with (first|((with_reducible refine gate_callee (f:=68) rfl ?_);refine goesL_ (some 35) rfl rfl Try.func68 (by kernel_rfl) rfl #[.pointer (some ⟨g,0,none⟩),.int .i64 (wrap64 (1+ (wrap64 (1+t638))))] rfl zq2 ?_;(with_reducible refine(spec_l1Cur_one.calls g s0_0 x1001_3 x1002_3 (wrap64 (1+ (wrap64 (1+t638)))) true t642 t643 w0 _ ?side1 ?side2 A17.out).mono ?_);(case side1=>repeat(first|(with_reducible first|exact HI0.out|apply IsS81.alloc|apply IsS81.drewN|apply IsS81.drew|apply IsS81.set_1|apply IsS81.set_2)|exact HI0.out));(case side2=>repeat(first|(with_reducible first|exact HB.out|apply below_alloc|apply pw_below_drewN|apply below_drew1|refine below_set ?_ (IsS81.ge HI0.out))|exact HB.out));rintro e w22 ⟨rfl,hi,hb,hk⟩;refine⟨_,rfl,?_⟩;have n0_:=Aside0.mk (Kd.R_mono (Kd.R_keep (IsS81.apart (show IsS81 w0 _ g s0_0 x1001_3 x1002_3 from by repeat(first|(with_reducible first|exact HI0.out|apply IsS81.alloc|apply IsS81.drewN|apply IsS81.drew|apply IsS81.set_1|apply IsS81.set_2)|exact HI0.out)) (zq4 HO_5) (by decide)) hk (fun _ h=>h.2)) (fun _ h=>h.1));have n1_:=Aside0.mk (KeepBut.trans (by repeat(first|(with_reducible first|exact HK.out|apply KeepBut.set_|apply keep_drewN|apply keep_drew|apply keep_alloc)|exact HK.out)) hk (.inl rfl));have n2_:=Aside0.mk (hb);have n3_:=Aside0.mk (hi);clear HO_5;clear HK;clear HB;clear HI0;have HO_5:=n0_;have HK:=n1_;have HB:=n2_;have HI0:=n3_;clear n0_ n1_ n2_ n3_;(try clear hb);(try clear hb2);(try clear hk);(try clear hi);obtain⟨Ao23,co23,eo23⟩:=Kd.R_slice HO_5.out;subst eo23)|((with_reducible refine gate_callee (f:=67) rfl ?_);refine goesL_ (some 45) rfl rfl Try.func67 (by kernel_rfl) rfl #[.pointer (some ⟨g,0,none⟩),.int .i64 5] rfl zq2 ?_;(with_reducible refine(spec_l1Cur_pick.calls g s0_0 t642 t643 5 t644 t645 t646 w0 _ ?side1 ?side2 A20.out).mono ?_);(case side1=>repeat(first|(with_reducible first|exact HI0.out|apply IsS81.alloc|apply IsS81.drewN|apply IsS81.drew|apply IsS81.set_1|apply IsS81.set_2)|exact HI0.out));(case side2=>repeat(first|(with_reducible first|exact HB.out|apply below_alloc|apply pw_below_drewN|apply below_drew1|refine below_set ?_ (IsS81.ge HI0.out))|exact HB.out));rintro e w24 ⟨rfl,hi,hb,hk⟩;refine⟨_,rfl,?_⟩;have n0_:=Aside0.mk (Kd.R_mono (Kd.R_keep (IsS81.apart (show IsS81 w0 _ g s0_0 t642 t643 from by repeat(first|(with_reducible first|exact HI0.out|apply IsS81.alloc|apply IsS81.drewN|apply IsS81.drew|apply IsS81.set_1|apply IsS81.set_2)|exact HI0.out)) (zq4 HO_5) (by decide)) hk (fun _ h=>h.2)) (fun _ h=>h.1));have n1_:=Aside0.mk (KeepBut.trans (by repeat(first|(with_reducible first|exact HK.out|apply KeepBut.set_|apply keep_drewN|apply keep_drew|apply keep_alloc)|exact HK.out)) hk (.inl rfl));have n2_:=Aside0.mk (hb);have n3_:=Aside0.mk (hi);clear HO_5;clear HK;clear HB;clear HI0;have HO_5:=n0_;have HK:=n1_;have HB:=n2_;have HI0:=n3_;clear n0_ n1_ n2_ n3_;(try clear hb);(try clear hb2);(try clear hk);(try clear hi))|((with_reducible refine gate_builtin (b:= .append) (xs:= #[.tmp 41,.tmp 48]) rfl ?_);(try(refine gate_guard (by rfl) ?_;dsimp only));at_builtin;refine Kd.R_append k67 w.heap.size rfl (.tmp 41) (.tmp 48) 27 67 (.agg #[(.int .i64 0),(.int .i64 0),(.int .i64 0)]) 24 rfl Try.underlying27 info67 rfl (by decide) (by omega) (.slice Ao23 x5_3.length co23) x5_3 (⟨x7_2,x8_3,wrap64 (1+t644)⟩ :S67) [.int .i64 x7_2,.int .i64 x8_3,.int .i64 (wrap64 (1+t644))] (fun _=>True) (fun _=>False) rfl rfl ?aP (fun _ hk=>hk.elim) ?aF ?aO (Below.refl _ _) ?aS ?aL ?_;(case aP=>exact k67_mkM _ _ _ (⟨x7_2,x8_3,wrap64 (1+t644)⟩ :S67));(case aF=>exact(fun _ _=>trivial));(case aO=>exact(zq4 HO_5));(case aS=>exact(keep_size (w:=w) (g:=g) (row:=none) (by repeat(first|(with_reducible first|exact HK.out|apply KeepBut.set_|apply keep_drewN|apply keep_drew|apply keep_alloc)|exact HK.out))));(case aL=>have:=LMc21.out;omega);intro v648 w25 ho hb hg hat;rw [← Ny647.out] at ho;have n0_:=Aside0.mk (IsS81.grown (by repeat(first|(with_reducible first|exact HI0.out|apply IsS81.alloc|apply IsS81.drewN|apply IsS81.drew|apply IsS81.set_1|apply IsS81.set_2)|exact HI0.out)) hg (IsS81.own_ne HI0.out HO_5.out (by decide)));have n1_:=Aside0.mk (below_weaken (by repeat(first|(with_reducible first|exact HB.out|apply below_alloc|apply pw_below_drewN|apply below_drew1|refine below_set ?_ (IsS81.ge HI0.out))|exact HB.out)) HL.out hb);have n2_:=Aside0.mk (KeepBut.trans (by repeat(first|(with_reducible first|exact HK.out|apply KeepBut.set_|apply keep_drewN|apply keep_drew|apply keep_alloc)|exact HK.out)) (KeepBut.of_grown hg g) (Kd.R_base2 HO_5.out));have n3_:=Aside0.mk (ho);clear HI0;clear HB;clear HK;clear HO_5;have HI0:=n0_;have HB:=n1_;have HK:=n2_;have HO649:=n3_;clear n0_ n1_ n2_ n3_;clear ho hb hg hat))
            go_roundg k3
            case measure=>have:=HJ3.out;have:=HK2.out;have:=HK3.out;omega
            case rel=>exact⟨(y647),(wrap64 (x8_3+1)),(t645),(t646),(by first|rfl|(simp;done)|(simp [*];done)),H',⟨by have:=HJ3.out;have:=HK2.out;have:=HK3.out;omega⟩,⟨by(with_reducible repeat(first|apply Kd.R_alloc|apply Kd.R_drewN|apply Kd.R_drew));exact HO649.out⟩,⟨by repeat(first|(with_reducible first|exact HI0.out|apply IsS81.alloc|apply IsS81.drewN|apply IsS81.drew|apply IsS81.set_1|apply IsS81.set_2)|exact HI0.out)⟩,⟨by repeat(first|(with_reducible first|exact HK.out|apply KeepBut.set_|apply keep_drewN|apply keep_drew|apply keep_alloc)|exact HK.out)⟩,⟨by repeat(first|(with_reducible first|exact HB.out|apply below_alloc|apply pw_below_drewN|apply below_drew1|refine below_set ?_ (IsS81.ge HI0.out))|exact HB.out)⟩⟩
           ·rw [if_neg c21] at H
            exact absurd H (by simp)
          ·rw [if_neg c19] at H
           have c19b0:decide ((x5_3.length:Int)< 40)=false:=decide_eq_false c19
           have c19b1:decide (x5_3.length< 40)=false:=decide_eq_false (by omega)
           clear c19
           have H':=Aside0.mk H
           clear H
           go_wp2_with (first|((with_reducible refine gate_callee (f:=68) rfl ?_);refine goesL_ (some 35) rfl rfl Try.func68 (by kernel_rfl) rfl #[.pointer (some ⟨g,0,none⟩),.int .i64 (wrap64 (1+ (wrap64 (1+t638))))] rfl zq2 ?_;(with_reducible refine(spec_l1Cur_one.calls g s0_0 x1001_3 x1002_3 (wrap64 (1+ (wrap64 (1+t638)))) true t642 t643 w0 _ ?side1 ?side2 A17.out).mono ?_);(case side1=>repeat(first|(with_reducible first|exact HI0.out|apply IsS81.alloc|apply IsS81.drewN|apply IsS81.drew|apply IsS81.set_1|apply IsS81.set_2)|exact HI0.out));(case side2=>repeat(first|(with_reducible first|exact HB.out|apply below_alloc|apply pw_below_drewN|apply below_drew1|refine below_set ?_ (IsS81.ge HI0.out))|exact HB.out));rintro e w26 ⟨rfl,hi,hb,hk⟩;refine⟨_,rfl,?_⟩;have n0_:=Aside0.mk (Kd.R_mono (Kd.R_keep (IsS81.apart (show IsS81 w0 _ g s0_0 x1001_3 x1002_3 from by repeat(first|(with_reducible first|exact HI0.out|apply IsS81.alloc|apply IsS81.drewN|apply IsS81.drew|apply IsS81.set_1|apply IsS81.set_2)|exact HI0.out)) (zq4 HO_5) (by decide)) hk (fun _ h=>h.2)) (fun _ h=>h.1));have n1_:=Aside0.mk (KeepBut.trans (by repeat(first|(with_reducible first|exact HK.out|apply KeepBut.set_|apply keep_drewN|apply keep_drew|apply keep_alloc)|exact HK.out)) hk (.inl rfl));have n2_:=Aside0.mk (hb);have n3_:=Aside0.mk (hi);clear HO_5;clear HK;clear HB;clear HI0;have HO_5:=n0_;have HK:=n1_;have HB:=n2_;have HI0:=n3_;clear n0_ n1_ n2_ n3_;(try clear hb);(try clear hb2);(try clear hk);(try clear hi);obtain⟨Ao27,co27,eo27⟩:=Kd.R_slice HO_5.out;subst eo27))
           go_roundg k3
           case measure=>have:=HJ3.out;have:=HK2.out;have:=HK3.out;omega
           case rel=>exact⟨(x5_3),(wrap64 (x8_3+1)),(t642),(t643),(by first|rfl|(simp;done)|(simp [*];done)),H',⟨by have:=HJ3.out;have:=HK2.out;have:=HK3.out;omega⟩,⟨by(with_reducible repeat(first|apply Kd.R_alloc|apply Kd.R_drewN|apply Kd.R_drew));exact HO_5.out⟩,⟨by repeat(first|(with_reducible first|exact HI0.out|apply IsS81.alloc|apply IsS81.drewN|apply IsS81.drew|apply IsS81.set_1|apply IsS81.set_2)|exact HI0.out)⟩,⟨by repeat(first|(with_reducible first|exact HK.out|apply KeepBut.set_|apply keep_drewN|apply keep_drew|apply keep_alloc)|exact HK.out)⟩,⟨by repeat(first|(with_reducible first|exact HB.out|apply below_alloc|apply pw_below_drewN|apply below_drew1|refine below_set ?_ (IsS81.ge HI0.out))|exact HB.out)⟩⟩
         ·replace c18:=Bool.eq_false_iff.mpr c18
          subst c18
          have H1:(spec_l1Cur_edges.l1 k3 x4_3 x5_3 (wrap64 (1+t638)) x7_2 (wrap64 (x8_3+1)) s0_0 t642 t643)=some (r1,r2,r3,r4):=by rw [if_neg (show ¬ (false=true) by decide)] at H;exact H
          clear H
          have H:=H1
          clear H1
          have H':=Aside0.mk H
          clear H
          go_wp2_with (first|((with_reducible refine gate_callee (f:=68) rfl ?_);refine goesL_ (some 35) rfl rfl Try.func68 (by kernel_rfl) rfl #[.pointer (some ⟨g,0,none⟩),.int .i64 (wrap64 (1+ (wrap64 (1+t638))))] rfl zq2 ?_;(with_reducible refine(spec_l1Cur_one.calls g s0_0 x1001_3 x1002_3 (wrap64 (1+ (wrap64 (1+t638)))) false t642 t643 w0 _ ?side1 ?side2 A17.out).mono ?_);(case side1=>repeat(first|(with_reducible first|exact HI0.out|apply IsS81.alloc|apply IsS81.drewN|apply IsS81.drew|apply IsS81.set_1|apply IsS81.set_2)|exact HI0.out));(case side2=>repeat(first|(with_reducible first|exact HB.out|apply below_alloc|apply pw_below_drewN|apply below_drew1|refine below_set ?_ (IsS81.ge HI0.out))|exact HB.out));rintro e w28 ⟨rfl,hi,hb,hk⟩;refine⟨_,rfl,?_⟩;have n0_:=Aside0.mk (Kd.R_mono (Kd.R_keep (IsS81.apart (show IsS81 w0 _ g s0_0 x1001_3 x1002_3 from by repeat(first|(with_reducible first|exact HI0.out|apply IsS81.alloc|apply IsS81.drewN|apply IsS81.drew|apply IsS81.set_1|apply IsS81.set_2)|exact HI0.out)) (zq4 HO_5) (by decide)) hk (fun _ h=>h.2)) (fun _ h=>h.1));have n1_:=Aside0.mk (KeepBut.trans (by repeat(first|(with_reducible first|exact HK.out|apply KeepBut.set_|apply keep_drewN|apply keep_drew|apply keep_alloc)|exact HK.out)) hk (.inl rfl));have n2_:=Aside0.mk (hb);have n3_:=Aside0.mk (hi);clear HO_5;clear HK;clear HB;clear HI0;have HO_5:=n0_;have HK:=n1_;have HB:=n2_;have HI0:=n3_;clear n0_ n1_ n2_ n3_;(try clear hb);(try clear hb2);(try clear hk);(try clear hi)))
          go_roundg k3
          case measure=>have:=HJ3.out;have:=HK2.out;have:=HK3.out;omega
          case rel=>exact⟨(x5_3),(wrap64 (x8_3+1)),(t642),(t643),(by first|rfl|(simp;done)|(simp [*];done)),H',⟨by have:=HJ3.out;have:=HK2.out;have:=HK3.out;omega⟩,⟨by(with_reducible repeat(first|apply Kd.R_alloc|apply Kd.R_drewN|apply Kd.R_drew));exact HO_5.out⟩,⟨by repeat(first|(with_reducible first|exact HI0.out|apply IsS81.alloc|apply IsS81.drewN|apply IsS81.drew|apply IsS81.set_1|apply IsS81.set_2)|exact HI0.out)⟩,⟨by repeat(first|(with_reducible first|exact HK.out|apply KeepBut.set_|apply keep_drewN|apply keep_drew|apply keep_alloc)|exact HK.out)⟩,⟨by repeat(first|(with_reducible first|exact HB.out|apply below_alloc|apply pw_below_drewN|apply below_drew1|refine below_set ?_ (IsS81.ge HI0.out))|exact HB.out)⟩⟩
        ·rw [if_neg c16] at H
         have c16b0:decide (x8_3<x4_3)=false:=decide_eq_false c16
         clear c16
         have H':=Aside0.mk H
         clear H
         go_wp2
         go_roundg k3
         case measure=>have:=HJ3.out;have:=HK2.out;have:=HK3.out;omega
         case rel=>exact⟨(x5_3),(wrap64 (x7_2+1)),(x1001_3),(x1002_3),(by first|rfl|(simp;done)|(simp [*];done)),H',⟨by have:=HJ3.out;have:=HK2.out;have:=HK3.out;omega⟩,⟨by(with_reducible repeat(first|apply Kd.R_alloc|apply Kd.R_drewN|apply Kd.R_drew));exact HO_5.out⟩,⟨by repeat(first|(with_reducible first|exact HI0.out|apply IsS81.alloc|apply IsS81.drewN|apply IsS81.drew|apply IsS81.set_1|apply IsS81.set_2)|exact HI0.out)⟩,⟨by repeat(first|(with_reducible first|exact HK.out|apply KeepBut.set_|apply keep_drewN|apply keep_drew|apply keep_alloc)|exact HK.out)⟩,⟨by repeat(first|(with_reducible first|exact HB.out|apply below_alloc|apply pw_below_drewN|apply below_drew1|refine below_set ?_ (IsS81.ge HI0.out))|exact HB.out)⟩⟩
     ·rw [if_neg c15] at H
      have c15b0:decide (x7_2<x4_3)=false:=decide_eq_false c15
      clear c15
      by_cases c29:(x5_2.length:Int) > 0
      ·rw [if_pos c29] at H
       have c29b0:decide (0< (x5_2.length:Int))=true:=decide_eq_true c29
       have c29b1:decide (0<x5_2.length)=true:=decide_eq_true (by omega)
       clear c29
       replace H:=Option.bind_eq_some_iff.mp H
       obtain⟨⟨t650,t651,t652⟩,A300,H⟩:=H
       replace H:(if t650=true then((spec_l1Cur_among.f s0_0 t651 t652 (([0,100,101] :List Int))).bind fun bt656=>(if 0< (x5_2.length:Int) then(some (x4_3,(x5_2.set (0:Int).toNat (⟨(rd_T67 x5_2 0).f0,(rd_T67 x5_2 0).f1,bt656.1⟩ :S67)),bt656.2.1,bt656.2.2)) else(none))) else(some (x4_3,x5_2,t651,t652)))=some (r1,r2,r3,r4):=H
       have A30:=Aside0.mk A300
       clear A300
       by_cases c31:t650=true
       ·subst c31
        have H1:((spec_l1Cur_among.f s0_0 t651 t652 (([0,100,101] :List Int))).bind fun bt656=>(if 0< (x5_2.length:Int) then(some (x4_3,(x5_2.set (0:Int).toNat (⟨(rd_T67 x5_2 0).f0,(rd_T67 x5_2 0).f1,bt656.1⟩ :S67)),bt656.2.1,bt656.2.2)) else(none)))=some (r1,r2,r3,r4):=by rw [if_pos rfl] at H;exact H
        clear H
        have H:=H1
        clear H1
        obtain⟨y653,hy653⟩ :∃ y_:List Int,y_= (([0,100,101] :List Int)):=⟨_,rfl⟩
        replace H:((spec_l1Cur_among.f s0_0 t651 t652 y653).bind fun bt656=>(if 0< (x5_2.length:Int) then(some (x4_3,(x5_2.set (0:Int).toNat (⟨(rd_T67 x5_2 0).f0,(rd_T67 x5_2 0).f1,bt656.1⟩ :S67)),bt656.2.1,bt656.2.2)) else(none)))=some (r1,r2,r3,r4):=by first|(rw [hy653];with_reducible exact H)|(have H2_:=(Option.bind_some _ _).symm.trans H;rw [hy653];with_reducible exact H2_)|(have H2_:=(Option.bind_some _ _).symm.trans H;with_reducible exact H2_)|with_reducible exact H|(rw [hy653];exact H)|exact H
        have Ny653:=Aside0.mk hy653
        clear hy653
        replace H:=Option.bind_eq_some_iff.mp H
        obtain⟨⟨t656,t657,t658⟩,A320,H⟩:=H
        replace H:(if 0< (x5_2.length:Int) then(some (x4_3,(x5_2.set (0:Int).toNat (⟨(rd_T67 x5_2 0).f0,(rd_T67 x5_2 0).f1,t656⟩ :S67)),t657,t658)) else(none))=some (r1,r2,r3,r4):=H
        have A32:=Aside0.mk A320
        clear A320
        by_cases c33: 0< (x5_2.length:Int)
        ·rw [if_pos c33] at H
         have c33b0:decide (0< (x5_2.length:Int))=true:=decide_eq_true c33
         have c33b1:decide (0<x5_2.length)=true:=decide_eq_true (by omega)
         clear c33
         obtain⟨y659,hy659⟩ :∃ y_:List (S67),y_= (x5_2.set (0:Int).toNat (⟨(rd_T67 x5_2 0).f0,(rd_T67 x5_2 0).f1,t656⟩ :S67)):=⟨_,rfl⟩
         replace H:(some (x4_3,y659,t657,t658))=some (r1,r2,r3,r4):=by first|(rw [hy659];with_reducible exact H)|(have H2_:=(Option.bind_some _ _).symm.trans H;rw [hy659];with_reducible exact H2_)|(have H2_:=(Option.bind_some _ _).symm.trans H;with_reducible exact H2_)|with_reducible exact H|(rw [hy659];exact H)|exact H
         have Ny659:=Aside0.mk hy659
         clear hy659
         simp only [Option.some.injEq,Prod.mk.injEq] at H
         obtain⟨rfl,rfl,rfl,rfl⟩:=H
         obtain⟨Ao35,co35,eo35⟩:=Kd.R_slice HO_5.out
         subst eo35
         go_wp2_with (first|(go_at_call 68;(with_reducible refine(spec_l1Cur_one.calls g s0_0 x1001_2 x1002_2 30 true t651 t652 w0 _ ?side1 ?side2 A30.out).mono ?_);(case side1=>repeat(first|(with_reducible first|exact HI0.out|apply IsS81.alloc|apply IsS81.drewN|apply IsS81.drew|apply IsS81.set_1|apply IsS81.set_2)|exact HI0.out));(case side2=>repeat(first|(with_reducible first|exact HB.out|apply below_alloc|apply pw_below_drewN|apply below_drew1|refine below_set ?_ (IsS81.ge HI0.out))|exact HB.out));rintro e w36 ⟨rfl,hi,hb,hk⟩;have n0_:=Aside0.mk (Kd.R_mono (Kd.R_keep (IsS81.apart (show IsS81 w0 _ g s0_0 x1001_2 x1002_2 from by repeat(first|(with_reducible first|exact HI0.out|apply IsS81.alloc|apply IsS81.drewN|apply IsS81.drew|apply IsS81.set_1|apply IsS81.set_2)|exact HI0.out)) (zq4 HO_5) (by decide)) hk (fun _ h=>h.2)) (fun _ h=>h.1));have n1_:=Aside0.mk (KeepBut.trans (by repeat(first|(with_reducible first|exact HK.out|apply KeepBut.set_|apply keep_drewN|apply keep_drew|apply keep_alloc)|exact HK.out)) hk (.inl rfl));have n2_:=Aside0.mk (hb);have n3_:=Aside0.mk (hi);clear HO_5;clear HK;clear HB;clear HI0;have HO_5:=n0_;have HK:=n1_;have HB:=n2_;have HI0:=n3_;clear n0_ n1_ n2_ n3_;(try clear hb);(try clear hb2);(try clear hk);(try clear hi))|((with_reducible refine gate_dst (N:=59) rfl ?_);(try(refine gate_guard (by rfl) ?_;dsimp only));refine Kd.R_lit (Kd.int .i64) _ 3 ?hg (N:=59) ?hd (xs:=([0,100,101] :List Int)) (inner:= [.int .i64 0,.int .i64 100,.int .i64 101]) (ok:=fun _=>True) (okp:=fun _=>True) ?hr ?hp (fun _ hk=>hk) trivial (Below.refl _ _) (Nat.le_refl _) (by simp) ?_;(case hd=>rfl);(case hg=>rfl);(case hr=>first|(go_simp;done)|(go_simp;rfl));(case hp=>exact(Reps.one (show Kd.M (Kd.int .i64) _ _ _ 0 [.int .i64 0] from rfl) (Reps.one (show Kd.M (Kd.int .i64) _ _ _ 100 [.int .i64 100] from rfl) (Reps.one (show Kd.M (Kd.int .i64) _ _ _ 101 [.int .i64 101] from rfl) (Reps.none _ _)))));intro v654 w37 ho38 hb hg_ hnew_;clear hg_ hnew_;(first|rw [← Ny653.out] at ho38|(simp only [Int.reduceToNat] at ho38;rw [← Ny653.out] at ho38));have n0_:=Aside0.mk (Kd.R_below (zq4 HO_5) hb);have n1_:=Aside0.mk (Kd.R_lower ho38 (keep_size (w:=w) (g:=g) (row:=none) (by repeat(first|(with_reducible first|exact HK.out|apply KeepBut.set_|apply keep_drewN|apply keep_drew|apply keep_alloc)|exact HK.out))));have n2_:=Aside0.mk (IsS81.below (by repeat(first|(with_reducible first|exact HI0.out|apply IsS81.alloc|apply IsS81.drewN|apply IsS81.drew|apply IsS81.set_1|apply IsS81.set_2)|exact HI0.out)) hb);have n3_:=Aside0.mk (KeepBut.trans (by repeat(first|(with_reducible first|exact HK.out|apply KeepBut.set_|apply keep_drewN|apply keep_drew|apply keep_alloc)|exact HK.out)) (KeepBut.of_below hb g none) (.inl rfl));have n4_:=Aside0.mk (below_step (by repeat(first|(with_reducible first|exact HB.out|apply below_alloc|apply pw_below_drewN|apply below_drew1|refine below_set ?_ (IsS81.ge HI0.out))|exact HB.out)) hb);clear HO_5;clear HI0;clear HK;clear HB;have HO_5:=n0_;have HO655:=n1_;have HI0:=n2_;have HK:=n3_;have HB:=n4_;clear n0_ n1_ n2_ n3_ n4_;clear hb ho38;obtain⟨Ao39,co39,eo39⟩:=Kd.R_slice HO655.out;subst eo39)|((with_reducible refine gate_callee (f:=66) rfl ?_);refine goesL_ (some 60) rfl rfl Try.func66 (by kernel_rfl) rfl #[.pointer (some ⟨g,0,none⟩),.slice Ao39 y653.length co39] rfl zq2 ?_;(with_reducible refine(spec_l1Cur_among.calls g s0_0 t651 t652 _ _ y653 t656 t657 t658 w0 _ ?side1 ?side2 ?side3 ?side4 ?side5 A32.out).mono ?_);(case side1=>repeat(first|(with_reducible first|exact HI0.out|apply IsS81.alloc|apply IsS81.drewN|apply IsS81.drew|apply IsS81.set_1|apply IsS81.set_2)|exact HI0.out));(case side2=>repeat(first|(with_reducible first|exact HB.out|apply below_alloc|apply pw_below_drewN|apply below_drew1|refine below_set ?_ (IsS81.ge HI0.out))|exact HB.out));(case side3=>repeat(first|exact(Kd.R_reads' HO655.out).2.2|(with_reducible refine Kd.C_alloc ?_ _)|(with_reducible refine Kd.C_drewN ?_ _)|(with_reducible refine Kd.C_drew ?_)));(case side4=>exact(Kd.R_reads' HO655.out).2.1);(case side5=>exact far_slice (IsS81.own_ne HI0.out HO655.out (by decide)));rintro e w40 ⟨rfl,hi,hb,hk⟩;refine⟨_,rfl,?_⟩;have n0_:=Aside0.mk (Kd.R_mono (Kd.R_keep (IsS81.apart (show IsS81 w0 _ g s0_0 t651 t652 from by repeat(first|(with_reducible first|exact HI0.out|apply IsS81.alloc|apply IsS81.drewN|apply IsS81.drew|apply IsS81.set_1|apply IsS81.set_2)|exact HI0.out)) (zq4 HO_5) (by decide)) hk (fun _ h=>h.2)) (fun _ h=>h.1));have n1_:=Aside0.mk (Kd.R_mono (Kd.R_keep (IsS81.apart (show IsS81 w0 _ g s0_0 t651 t652 from by repeat(first|(with_reducible first|exact HI0.out|apply IsS81.alloc|apply IsS81.drewN|apply IsS81.drew|apply IsS81.set_1|apply IsS81.set_2)|exact HI0.out)) (zq4 HO655) (by decide)) hk (fun _ h=>h.2)) (fun _ h=>h.1));have n2_:=Aside0.mk (KeepBut.trans (by repeat(first|(with_reducible first|exact HK.out|apply KeepBut.set_|apply keep_drewN|apply keep_drew|apply keep_alloc)|exact HK.out)) hk (.inl rfl));have n3_:=Aside0.mk (hb);have n4_:=Aside0.mk (hi);clear HO_5;clear HO655;clear HK;clear HB;clear HI0;have HO_5:=n0_;have HO655:=n1_;have HK:=n2_;have HB:=n3_;have HI0:=n4_;clear n0_ n1_ n2_ n3_ n4_;(try clear hb);(try clear hb2);(try clear hk);(try clear hi);have p34: 0≤ (0:Int):=(by omega);have q34:(0:Int)< ((x5_2.length:Int):Int):=of_decide_eq_true zq1;have qi34:(0<x5_2.length)=True:=eq_true (by omega);obtain⟨go34,co34,eo34,gb34,gl34,cl34,HG34⟩:=Kd.R_form HO_5.out (by omega);(first|cases eo34|(injection eo34 with ea_ en_ ec_;(first|subst ea_|(injection ea_ with ea_;subst ea_));subst ec_;clear en_));have GB34:=Aside0.mk gb34;have GG34:=Aside0.mk HG34;clear gb34 gl34 HG34;obtain⟨ce34,hcl34,hM34,hcc34,hfr34⟩:=Kd.R_elem HO_5.out z67 (0:Int) p34 q34;obtain rfl:=k67_openM hM34;have hx34_0:w40.cell? ⟨go34,(0:Int).toNat * 3,none⟩=some (.int .i64 ((rd_T67 x5_2 0).f0)):=hcc34 0 _ rfl;have hx34_1:w40.cell? ⟨go34,(0:Int).toNat * 3+1,none⟩=some (.int .i64 ((rd_T67 x5_2 0).f1)):=hcc34 1 _ rfl;have hx34_2:w40.cell? ⟨go34,(0:Int).toNat * 3+2,none⟩=some (.int .i64 ((rd_T67 x5_2 0).f2)):=hcc34 2 _ rfl;have hf34_0:w40.frozen? ⟨go34,(0:Int).toNat * 3,none⟩=false:=hfr34 0;have hf34_1:w40.frozen? ⟨go34,(0:Int).toNat * 3+1,none⟩=false:=hfr34 1;have hf34_2:w40.frozen? ⟨go34,(0:Int).toNat * 3+2,none⟩=false:=hfr34 2;clear hcl34 hcc34 hfr34 hM34;(try rw [show ((0:Int)).toNat=0 from rfl] at hx34_0);(try simp only [Nat.reduceMul,Nat.zero_mul,Nat.zero_add,Nat.reduceAdd] at hx34_0);(try rw [show ((0:Int)).toNat=0 from rfl] at hf34_0);(try simp only [Nat.reduceMul,Nat.zero_mul,Nat.zero_add,Nat.reduceAdd] at hf34_0);(try rw [show ((0:Int)).toNat=0 from rfl] at hx34_1);(try simp only [Nat.reduceMul,Nat.zero_mul,Nat.zero_add,Nat.reduceAdd] at hx34_1);(try rw [show ((0:Int)).toNat=0 from rfl] at hf34_1);(try simp only [Nat.reduceMul,Nat.zero_mul,Nat.zero_add,Nat.reduceAdd] at hf34_1);(try rw [show ((0:Int)).toNat=0 from rfl] at hx34_2);(try simp only [Nat.reduceMul,Nat.zero_mul,Nat.zero_add,Nat.reduceAdd] at hx34_2);(try rw [show ((0:Int)).toNat=0 from rfl] at hf34_2);(try simp only [Nat.reduceMul,Nat.zero_mul,Nat.zero_add,Nat.reduceAdd] at hf34_2);replace p34:=eq_true p34;replace q34:=eq_true q34;have HX41:=Aside0.mk (show Kd.R k67 67 w40 w.heap.size (fun _=>True) (.slice (some ⟨go34,0,none⟩) x5_2.length co35) x5_2 from (zq4 HO_5));obtain⟨ce41,hcl41,hM41,hcc41,hfr41⟩:=Kd.R_elem HX41.out z67 (0:Int) (by omega) (by have h_:(0:Int)< ((x5_2.length:Int):Int):=of_decide_eq_true zq1;first|exact h_|(have e_:=(Kd.R_reads' HO_5.out).1;omega)|simpa using h_);obtain rfl:=k67_openM hM41;have HP41:=Kd.R_seg HX41.out (0:Int) (by omega) (by have h_:(0:Int)< ((x5_2.length:Int):Int):=of_decide_eq_true zq1;first|exact h_|(have e_:=(Kd.R_reads' HO_5.out).1;omega)|simpa using h_) (seg:= [.int .i64 t656]) (j:=2) hcl41 hcc41 (show 3≤3 from by decide) (x':=(⟨(rd_T67 x5_2 0).f0,(rd_T67 x5_2 0).f1,t656⟩ :S67)) (k67_mkM _ _ _ (⟨(rd_T67 x5_2 0).f0,(rd_T67 x5_2 0).f1,t656⟩ :S67) ) (fun _ hk=>hk);have hx41_2:=hcc41 2 _ rfl;(try simp only [show (k67).sz=3 from rfl,Nat.mul_one,Nat.add_zero] at hx41_2);(try rw [show ((0:Int)).toNat=0 from rfl] at hx41_2);(try simp only [Nat.reduceMul,Nat.zero_mul,Nat.zero_add,Nat.reduceAdd] at hx41_2);have hf41_2:=hfr41 2;(try simp only [show (k67).sz=3 from rfl,Nat.mul_one,Nat.add_zero] at hf41_2);(try rw [show ((0:Int)).toNat=0 from rfl] at hf41_2);(try simp only [Nat.reduceMul,Nat.zero_mul,Nat.zero_add,Nat.reduceAdd] at hf41_2);clear hcl41 hcc41 hfr41 hM41)|((with_reducible refine gate_store (t:=3) (p:=62) rfl ?_);refine store_event (t:=3) (p:=62) (v:=?vo_w42) (w1:=(w40.setCell ⟨go34,2,none⟩ (.int .i64 t656))) ?hg ?ho ?hn ?hr ?_;(case ho=>rfl);(case hg=>rfl);(case hn=>rfl);(case hr=>first|(go_simp;done)|(go_simp;rfl));intro w42 hw;have hg:w40.grownBy w42 (some go34):=(by rw [hw];exact HP41.2);have hp_:Kd.R k67 67 w42 w.heap.size (fun _=>True) (.slice (some ⟨go34,0,none⟩) x5_2.length co35) y659:=(by rw [hw,Ny659.out];exact HP41.1);clear HP41;have n0_:=Aside0.mk (hp_);have n1_:=Aside0.mk (IsS81.grown (by repeat(first|(with_reducible first|exact HI0.out|apply IsS81.alloc|apply IsS81.drewN|apply IsS81.drew|apply IsS81.set_1|apply IsS81.set_2)|exact HI0.out)) hg (IsS81.own_ne HI0.out HO_5.out (by decide)));have n2_:=Aside0.mk (Kd.R_over' (v:=(.slice (some ⟨go34,0,none⟩) x5_2.length co35)) (zq4 HO655) (Kd.R_typed HO_5.out) (by decide) hg);have n3_:=Aside0.mk ((by rw [hw];exact below_set (HB.out) (Nat.le_trans HL.out GB34.out):Below w0.heap.size w0 w42));have n4_:=Aside0.mk (KeepBut.trans (by repeat(first|(with_reducible first|exact HK.out|apply KeepBut.set_|apply keep_drewN|apply keep_drew|apply keep_alloc)|exact HK.out)) (KeepBut.of_grown hg g) (Kd.R_base2 HO_5.out));clear HO_5;clear HI0;clear HO655;clear HB;clear HK;have HO_5:=n0_;have HI0:=n1_;have HO655:=n2_;have HB:=n3_;have HK:=n4_;clear n0_ n1_ n2_ n3_ n4_;clear hg hw hp_))
         go_ret2
         exact⟨_,by first|rfl|(simp [errW_none,errW_some]<;>rfl)|(simp [*,errW_none,errW_some]<;>rfl),by(with_reducible repeat(first|apply Kd.R_alloc|apply Kd.R_drewN|apply Kd.R_drew));exact HO_5.out,by repeat(first|(with_reducible first|exact HI0.out|apply IsS81.alloc|apply IsS81.drewN|apply IsS81.drew|apply IsS81.set_1|apply IsS81.set_2)|exact HI0.out),by repeat(first|(with_reducible first|exact HB.out|apply below_alloc|apply pw_below_drewN|apply below_drew1|refine below_set ?_ (IsS81.ge HI0.out))|exact HB.out),by repeat(first|(with_reducible first|exact HK.out|apply KeepBut.set_|apply keep_drewN|apply keep_drew|apply keep_alloc)|exact HK.out)⟩
        ·rw [if_neg c33] at H
         exact absurd H (by simp)
       ·replace c31:=Bool.eq_false_iff.mpr c31
        subst c31
        have H1:(some (x4_3,x5_2,t651,t652))=some (r1,r2,r3,r4):=by rw [if_neg (show ¬ (false=true) by decide)] at H;exact H
        clear H
        have H:=H1
        clear H1
        simp only [Option.some.injEq,Prod.mk.injEq] at H
        obtain⟨rfl,rfl,rfl,rfl⟩:=H
        obtain⟨Ao43,co43,eo43⟩:=Kd.R_slice HO_5.out
        subst eo43
        go_wp2_with (first|(go_at_call 68;(with_reducible refine(spec_l1Cur_one.calls g s0_0 x1001_2 x1002_2 30 false t651 t652 w0 _ ?side1 ?side2 A30.out).mono ?_);(case side1=>repeat(first|(with_reducible first|exact HI0.out|apply IsS81.alloc|apply IsS81.drewN|apply IsS81.drew|apply IsS81.set_1|apply IsS81.set_2)|exact HI0.out));(case side2=>repeat(first|(with_reducible first|exact HB.out|apply below_alloc|apply pw_below_drewN|apply below_drew1|refine below_set ?_ (IsS81.ge HI0.out))|exact HB.out));rintro e w44 ⟨rfl,hi,hb,hk⟩;have n0_:=Aside0.mk (Kd.R_mono (Kd.R_keep (IsS81.apart (show IsS81 w0 _ g s0_0 x1001_2 x1002_2 from by repeat(first|(with_reducible first|exact HI0.out|apply IsS81.alloc|apply IsS81.drewN|apply IsS81.drew|apply IsS81.set_1|apply IsS81.set_2)|exact HI0.out)) (zq4 HO_5) (by decide)) hk (fun _ h=>h.2)) (fun _ h=>h.1));have n1_:=Aside0.mk (KeepBut.trans (by repeat(first|(with_reducible first|exact HK.out|apply KeepBut.set_|apply keep_drewN|apply keep_drew|apply keep_alloc)|exact HK.out)) hk (.inl rfl));have n2_:=Aside0.mk (hb);have n3_:=Aside0.mk (hi);clear HO_5;clear HK;clear HB;clear HI0;have HO_5:=n0_;have HK:=n1_;have HB:=n2_;have HI0:=n3_;clear n0_ n1_ n2_ n3_;(try clear hb);(try clear hb2);(try clear hk);(try clear hi)))
        go_ret2
        exact⟨_,by first|rfl|(simp [errW_none,errW_some]<;>rfl)|(simp [*,errW_none,errW_some]<;>rfl),by(with_reducible repeat(first|apply Kd.R_alloc|apply Kd.R_drewN|apply Kd.R_drew));exact HO_5.out,by repeat(first|(with_reducible first|exact HI0.out|apply IsS81.alloc|apply IsS81.drewN|apply IsS81.drew|apply IsS81.set_1|apply IsS81.set_2)|exact HI0.out),by repeat(first|(with_reducible first|exact HB.out|apply below_alloc|apply pw_below_drewN|apply below_drew1|refine below_set ?_ (IsS81.ge HI0.out))|exact HB.out),by repeat(first|(with_reducible first|exact HK.out|apply KeepBut.set_|apply keep_drewN|apply keep_drew|apply keep_alloc)|exact HK.out)⟩
      ·rw [if_neg c29] at H
       have c29b0:decide (0< (x5_2.length:Int))=false:=decide_eq_false c29
       have c29b1:decide (0<x5_2.length)=false:=decide_eq_false (by omega)
       clear c29
       simp only [Option.some.injEq,Prod.mk.injEq] at H
       obtain⟨rfl,rfl,rfl,rfl⟩:=H
       obtain⟨Ao45,co45,eo45⟩:=Kd.R_slice HO_5.out
       subst eo45
       go_wp2
       go_ret2
       exact⟨_,by first|rfl|(simp [errW_none,errW_some]<;>rfl)|(simp [*,errW_none,errW_some]<;>rfl),by(with_reducible repeat(first|apply Kd.R_alloc|apply Kd.R_drewN|apply Kd.R_drew));exact HO_5.out,by repeat(first|(with_reducible first|exact HI0.out|apply IsS81.alloc|apply IsS81.drewN|apply IsS81.drew|apply IsS81.set_1|apply IsS81.set_2)|exact HI0.out),by repeat(first|(with_reducible first|exact HB.out|apply below_alloc|apply pw_below_drewN|apply below_drew1|refine below_set ?_ (IsS81.ge HI0.out))|exact HB.out),by repeat(first|(with_reducible first|exact HK.out|apply KeepBut.set_|apply keep_drewN|apply keep_drew|apply keep_alloc)|exact HK.out)⟩
end Go.Proofs.Ytklecgkjoofipaa.P

namespace Go.Proofs.Ytklecgkjoofipaa.P
open Go.RowKit Go.Proofs.YtklecgkjoofipaaW.PrintWords Go.Proofs.YtklecgkjoofipaaW.PrintLast Go.Proofs.YtklecgkjoofipaaW.PrintMore
attribute [local go_sem] max2_int min2_int max_two min_two max_three min_three max_four min_four   -- for this text's walks alone
set_option linter.unusedVariables false
set_option linter.unusedSimpArgs false
def spec_DrawFirstHops.f (k:Nat) (l0:List Int):Option (Int × (List (S67)) × Int × Int):=(spec_l1Cur_edges.f k l0 0 0).bind fun bt822=>((spec_l1Cur_pick.f l0 bt822.2.2.1 bt822.2.2.2 (wrap64 (bt822.1+1))).bind fun bt828=>((spec_l1Cur_pick.f l0 bt828.2.1 bt828.2.2 9).bind fun bt831=>((spec_l1Cur_pick.f l0 bt831.2.1 bt831.2.2 9).bind fun bt834=>((spec_l1Cur_pick.f l0 bt834.2.1 bt834.2.2 (wrap64 (bt822.1+ (wrap64 (Int.tdiv bt834.1 8))))).bind fun bt837=>(some (bt822.1,bt822.2.1,wrap64 (bt828.1 - (wrap64 (Int.tdiv bt831.1 8))),bt837.1))))))
set_option maxHeartbeats 8000000 in
set_option maxRecDepth 100000 in
theorem spec_DrawFirstHops.calls (k:Nat) (A0:Option Addr) (c0:Nat) (l0:List Int) (r1:Int) (r2:List (S67)) (r3:Int) (r4:Int) (w:World) (hr0:Kd.C (Kd.int .u8) w A0 l0.length l0) (hc0:l0.length≤c0) (h:spec_DrawFirstHops.f k l0=some (r1,r2,r3,r4)):
  Calls Try.prog 40 #[.slice A0 l0.length c0] w fun e w'=> ∃ v1_:Value,e= .returned (.tuple #[.int .i64 r1,v1_,.int .i64 r3,.int .i64 r4])∧Kd.R k67 67 w' w.heap.size (fun _=>True) v1_ r2∧Below w.heap.size w w':=by
 have hu81:=Try.underlying81
 have HR0:=Aside0.mk hr0
 have HC0:=Aside0.mk hc0
 clear hr0 hc0
 have HB:=Aside0.mk (Below.refl w.heap.size w)
 have H:((spec_l1Cur_edges.f k l0 0 0).bind fun bt822=>((spec_l1Cur_pick.f l0 bt822.2.2.1 bt822.2.2.2 (wrap64 (bt822.1+1))).bind fun bt828=>((spec_l1Cur_pick.f l0 bt828.2.1 bt828.2.2 9).bind fun bt831=>((spec_l1Cur_pick.f l0 bt831.2.1 bt831.2.2 9).bind fun bt834=>((spec_l1Cur_pick.f l0 bt834.2.1 bt834.2.2 (wrap64 (bt822.1+ (wrap64 (Int.tdiv bt834.1 8))))).bind fun bt837=>(some (bt822.1,bt822.2.1,wrap64 (bt828.1 - (wrap64 (Int.tdiv bt831.1 8))),bt837.1)))))))=some (r1,r2,r3,r4):=h
 clear h
 replace H:=Option.bind_eq_some_iff.mp H
 obtain⟨⟨t822,t823,t826,t827⟩,A20,H⟩:=H
 replace H:((spec_l1Cur_pick.f l0 t826 t827 (wrap64 (t822+1))).bind fun bt828=>((spec_l1Cur_pick.f l0 bt828.2.1 bt828.2.2 9).bind fun bt831=>((spec_l1Cur_pick.f l0 bt831.2.1 bt831.2.2 9).bind fun bt834=>((spec_l1Cur_pick.f l0 bt834.2.1 bt834.2.2 (wrap64 (t822+ (wrap64 (Int.tdiv bt834.1 8))))).bind fun bt837=>(some (t822,t823,wrap64 (bt828.1 - (wrap64 (Int.tdiv bt831.1 8))),bt837.1))))))=some (r1,r2,r3,r4):=H
 have A2:=Aside0.mk A20
 clear A20
 replace H:=Option.bind_eq_some_iff.mp H
 obtain⟨⟨t828,t829,t830⟩,A30,H⟩:=H
 replace H:((spec_l1Cur_pick.f l0 t829 t830 9).bind fun bt831=>((spec_l1Cur_pick.f l0 bt831.2.1 bt831.2.2 9).bind fun bt834=>((spec_l1Cur_pick.f l0 bt834.2.1 bt834.2.2 (wrap64 (t822+ (wrap64 (Int.tdiv bt834.1 8))))).bind fun bt837=>(some (t822,t823,wrap64 (t828 - (wrap64 (Int.tdiv bt831.1 8))),bt837.1)))))=some (r1,r2,r3,r4):=H
 have A3:=Aside0.mk A30
 clear A30
 replace H:=Option.bind_eq_some_iff.mp H
 obtain⟨⟨t831,t832,t833⟩,A40,H⟩:=H
 replace H:((spec_l1Cur_pick.f l0 t832 t833 9).bind fun bt834=>((spec_l1Cur_pick.f l0 bt834.2.1 bt834.2.2 (wrap64 (t822+ (wrap64 (Int.tdiv bt834.1 8))))).bind fun bt837=>(some (t822,t823,wrap64 (t828 - (wrap64 (Int.tdiv t831 8))),bt837.1))))=some (r1,r2,r3,r4):=H
 have A4:=Aside0.mk A40
 clear A40
 replace H:=Option.bind_eq_some_iff.mp H
 obtain⟨⟨t834,t835,t836⟩,A50,H⟩:=H
 replace H:((spec_l1Cur_pick.f l0 t835 t836 (wrap64 (t822+ (wrap64 (Int.tdiv t834 8))))).bind fun bt837=>(some (t822,t823,wrap64 (t828 - (wrap64 (Int.tdiv t831 8))),bt837.1)))=some (r1,r2,r3,r4):=H
 have A5:=Aside0.mk A50
 clear A50
 replace H:=Option.bind_eq_some_iff.mp H
 obtain⟨⟨t837,t838,t839⟩,A60,H⟩:=H
 replace H:(some (t822,t823,wrap64 (t828 - (wrap64 (Int.tdiv t831 8))),t837))=some (r1,r2,r3,r4):=H
 have A6:=Aside0.mk A60
 clear A60
 simp only [Option.some.injEq,Prod.mk.injEq] at H
 obtain⟨rfl,rfl,rfl,rfl⟩:=H
 go_enter Try.func40,Try.ntmps40
 go_wp2_with (first|((with_reducible refine gate_dst (N:=11) rfl ?_);refine box_event ?hg (N:=11) ?hd (cs:= #[.slice A0 l0.length c0,.int .i64 0,.int .u64 0]) (t:=81) ?hr ?_;(case hd=>rfl);(case hg=>rfl);(case hr=>first|(go_simp;done)|(go_simp;rfl));intro gb821 hg w7 hbox hb;have n0_:=Aside0.mk (below_step (zb0 HB) hb);have n1_:=Aside0.mk ((by rw [hg];exact(below_size (zb0 HB)):w.heap.size≤gb821));have n2_:=Aside0.mk ((by rw [hg];exact(below_size (zb0 HB)):w.heap.size≤gb821));have n3_:=Aside0.mk ((show IsS81 w _ gb821 l0 0 0 from ⟨_,_,hbox,(by rw [hg];exact(below_size (zb0 HB)):w.heap.size≤gb821),HR0.out⟩));clear HB;have HB:=n0_;have GW821:=n1_;have GE821:=n2_;have HI821:=n3_;clear n0_ n1_ n2_ n3_;clear hb hbox hg)|((with_reducible refine gate_callee (f:=65) rfl ?_);refine goesL_ (some 14) rfl rfl Try.func65 (by kernel_rfl) rfl #[.pointer (some ⟨gb821,0,none⟩)] rfl zq2 ?_;(with_reducible refine(spec_l1Cur_edges.calls k gb821 l0 0 0 t822 t823 t826 t827 w _ ?side1 ?side2 A2.out).mono ?_);(case side1=>repeat(first|(with_reducible first|exact HI821.out|apply IsS81.alloc|apply IsS81.drewN|apply IsS81.drew|apply IsS81.set_1|apply IsS81.set_2)|exact HI821.out));(case side2=>repeat(first|(with_reducible first|exact HB.out|apply below_alloc|apply pw_below_drewN|apply below_drew1|refine below_set ?_ (IsS81.ge HI821.out))|exact HB.out));rintro e w8 ⟨v824,rfl,ho0,hi,hb,hk⟩;refine⟨_,rfl,?_⟩;have n0_:=Aside0.mk (Kd.R_lower ho0 (below_size (by repeat(first|(with_reducible first|exact HB.out|apply below_alloc|apply pw_below_drewN|apply below_drew1|refine below_set ?_ (IsS81.ge HI821.out))|exact HB.out))));have n1_:=Aside0.mk (hb);have n2_:=Aside0.mk (hi);clear HB;clear HI821;have HO825:=n0_;have HB:=n1_;have HI821:=n2_;clear n0_ n1_ n2_;(try clear hb);(try clear hb2);(try clear hk);(try clear hi);(try clear ho0))|((with_reducible refine gate_callee (f:=67) rfl ?_);refine goesL_ (some 22) rfl rfl Try.func67 (by kernel_rfl) rfl #[.pointer (some ⟨gb821,0,none⟩),.int .i64 (wrap64 (t822+1))] rfl zq2 ?_;(with_reducible refine(spec_l1Cur_pick.calls gb821 l0 t826 t827 (wrap64 (t822+1)) t828 t829 t830 w _ ?side1 ?side2 A3.out).mono ?_);(case side1=>repeat(first|(with_reducible first|exact HI821.out|apply IsS81.alloc|apply IsS81.drewN|apply IsS81.drew|apply IsS81.set_1|apply IsS81.set_2)|exact HI821.out));(case side2=>repeat(first|(with_reducible first|exact HB.out|apply below_alloc|apply pw_below_drewN|apply below_drew1|refine below_set ?_ (IsS81.ge HI821.out))|exact HB.out));rintro e w9 ⟨rfl,hi,hb,hk⟩;refine⟨_,rfl,?_⟩;have n0_:=Aside0.mk (Kd.R_mono (Kd.R_keep (IsS81.apart (show IsS81 w _ gb821 l0 t826 t827 from by repeat(first|(with_reducible first|exact HI821.out|apply IsS81.alloc|apply IsS81.drewN|apply IsS81.drew|apply IsS81.set_1|apply IsS81.set_2)|exact HI821.out)) (zq4 HO825) (by decide)) hk (fun _ h=>h.2)) (fun _ h=>h.1));have n1_:=Aside0.mk (hb);have n2_:=Aside0.mk (hi);clear HO825;clear HB;clear HI821;have HO825:=n0_;have HB:=n1_;have HI821:=n2_;clear n0_ n1_ n2_;(try clear hb);(try clear hb2);(try clear hk);(try clear hi))|((with_reducible refine gate_callee (f:=67) rfl ?_);refine goesL_ (some 24) rfl rfl Try.func67 (by kernel_rfl) rfl #[.pointer (some ⟨gb821,0,none⟩),.int .i64 9] rfl zq2 ?_;(with_reducible refine(spec_l1Cur_pick.calls gb821 l0 t829 t830 9 t831 t832 t833 w _ ?side1 ?side2 A4.out).mono ?_);(case side1=>repeat(first|(with_reducible first|exact HI821.out|apply IsS81.alloc|apply IsS81.drewN|apply IsS81.drew|apply IsS81.set_1|apply IsS81.set_2)|exact HI821.out));(case side2=>repeat(first|(with_reducible first|exact HB.out|apply below_alloc|apply pw_below_drewN|apply below_drew1|refine below_set ?_ (IsS81.ge HI821.out))|exact HB.out));rintro e w10 ⟨rfl,hi,hb,hk⟩;refine⟨_,rfl,?_⟩;have n0_:=Aside0.mk (Kd.R_mono (Kd.R_keep (IsS81.apart (show IsS81 w _ gb821 l0 t829 t830 from by repeat(first|(with_reducible first|exact HI821.out|apply IsS81.alloc|apply IsS81.drewN|apply IsS81.drew|apply IsS81.set_1|apply IsS81.set_2)|exact HI821.out)) (zq4 HO825) (by decide)) hk (fun _ h=>h.2)) (fun _ h=>h.1));have n1_:=Aside0.mk (hb);have n2_:=Aside0.mk (hi);clear HO825;clear HB;clear HI821;have HO825:=n0_;have HB:=n1_;have HI821:=n2_;clear n0_ n1_ n2_;(try clear hb);(try clear hb2);(try clear hk);(try clear hi))|((with_reducible refine gate_callee (f:=67) rfl ?_);refine goesL_ (some 30) rfl rfl Try.func67 (by kernel_rfl) rfl #[.pointer (some ⟨gb821,0,none⟩),.int .i64 9] rfl zq2 ?_;(with_reducible refine(spec_l1Cur_pick.calls gb821 l0 t832 t833 9 t834 t835 t836 w _ ?side1 ?side2 A5.out).mono ?_);(case side1=>repeat(first|(with_reducible first|exact HI821.out|apply IsS81.alloc|apply IsS81.drewN|apply IsS81.drew|apply IsS81.set_1|apply IsS81.set_2)|exact HI821.out));(case side2=>repeat(first|(with_reducible first|exact HB.out|apply below_alloc|apply pw_below_drewN|apply below_drew1|refine below_set ?_ (IsS81.ge HI821.out))|exact HB.out));rintro e w11 ⟨rfl,hi,hb,hk⟩;refine⟨_,rfl,?_⟩;have n0_:=Aside0.mk (Kd.R_mono (Kd.R_keep (IsS81.apart (show IsS81 w _ gb821 l0 t832 t833 from by repeat(first|(with_reducible first|exact HI821.out|apply IsS81.alloc|apply IsS81.drewN|apply IsS81.drew|apply IsS81.set_1|apply IsS81.set_2)|exact HI821.out)) (zq4 HO825) (by decide)) hk (fun _ h=>h.2)) (fun _ h=>h.1));have n1_:=Aside0.mk (hb);have n2_:=Aside0.mk (hi);clear HO825;clear HB;clear HI821;have HO825:=n0_;have HB:=n1_;have HI821:=n2_;clear n0_ n1_ n2_;(try clear hb);(try clear hb2);(try clear hk);(try clear hi))|((with_reducible refine gate_callee (f:=67) rfl ?_);refine goesL_ (some 33) rfl rfl Try.func67 (by kernel_rfl) rfl #[.pointer (some ⟨gb821,0,none⟩),.int .i64 (wrap64 (t822+ (wrap64 (Int.tdiv t834 8))))] rfl zq2 ?_;(with_reducible refine(spec_l1Cur_pick.calls gb821 l0 t835 t836 (wrap64 (t822+ (wrap64 (Int.tdiv t834 8)))) t837 t838 t839 w _ ?side1 ?side2 A6.out).mono ?_);(case side1=>repeat(first|(with_reducible first|exact HI821.out|apply IsS81.alloc|apply IsS81.drewN|apply IsS81.drew|apply IsS81.set_1|apply IsS81.set_2)|exact HI821.out));(case side2=>repeat(first|(with_reducible first|exact HB.out|apply below_alloc|apply pw_below_drewN|apply below_drew1|refine below_set ?_ (IsS81.ge HI821.out))|exact HB.out));rintro e w12 ⟨rfl,hi,hb,hk⟩;refine⟨_,rfl,?_⟩;have n0_:=Aside0.mk (Kd.R_mono (Kd.R_keep (IsS81.apart (show IsS81 w _ gb821 l0 t835 t836 from by repeat(first|(with_reducible first|exact HI821.out|apply IsS81.alloc|apply IsS81.drewN|apply IsS81.drew|apply IsS81.set_1|apply IsS81.set_2)|exact HI821.out)) (zq4 HO825) (by decide)) hk (fun _ h=>h.2)) (fun _ h=>h.1));have n1_:=Aside0.mk (hb);have n2_:=Aside0.mk (hi);clear HO825;clear HB;clear HI821;have HO825:=n0_;have HB:=n1_;have HI821:=n2_;clear n0_ n1_ n2_;(try clear hb);(try clear hb2);(try clear hk);(try clear hi)))
 refine bodyPost_ret (results_list (rs:= [.tmp 2,.tmp 3,.tmp 4,.tmp 5]) rfl (by simp) (.tmp (.tmp (.tmp (.tmp .nil))))) rfl ?_
 exact⟨_,by first|rfl|(simp [errW_none,errW_some]<;>rfl)|(simp [*,errW_none,errW_some]<;>rfl),by(with_reducible repeat(first|apply Kd.R_alloc|apply Kd.R_drewN|apply Kd.R_drew));exact HO825.out,by repeat(first|(with_reducible first|exact HB.out|apply below_alloc|apply pw_below_drewN|apply below_drew1|refine below_set ?_ (IsS81.ge HI821.out))|exact HB.out)⟩
def spec_DrawWayTo.f (k:Nat) (l0:List Int):Option (Int × (List (S67)) × Int × Int):=(spec_DrawFirstHops.f k l0).bind fun bt840=>(some (bt840.1,bt840.2.1,bt840.2.2.1,bt840.2.2.2))
set_option maxHeartbeats 8000000 in
set_option maxRecDepth 100000 in
theorem spec_DrawWayTo.calls (k:Nat) (A0:Option Addr) (c0:Nat) (l0:List Int) (r1:Int) (r2:List (S67)) (r3:Int) (r4:Int) (w:World) (hr0:Kd.C (Kd.int .u8) w A0 l0.length l0) (hc0:l0.length≤c0) (h:spec_DrawWayTo.f k l0=some (r1,r2,r3,r4)):
  Calls Try.prog 39 #[.slice A0 l0.length c0] w fun e w'=> ∃ v1_:Value,e= .returned (.tuple #[.int .i64 r1,v1_,.int .i64 r3,.int .i64 r4])∧Kd.R k67 67 w' w.heap.size (fun _=>True) v1_ r2∧Below w.heap.size w w':=by
 have HR0:=Aside0.mk hr0
 have HC0:=Aside0.mk hc0
 clear hr0 hc0
 have HB:=Aside0.mk (Below.refl w.heap.size w)
 have H:((spec_DrawFirstHops.f k l0).bind fun bt840=>(some (bt840.1,bt840.2.1,bt840.2.2.1,bt840.2.2.2)))=some (r1,r2,r3,r4):=h
 clear h
 replace H:=Option.bind_eq_some_iff.mp H
 obtain⟨⟨t840,t841,t842,t843⟩,A20,H⟩:=H
 replace H:(some (t840,t841,t842,t843))=some (r1,r2,r3,r4):=H
 have A2:=Aside0.mk A20
 clear A20
 simp only [Option.some.injEq,Prod.mk.injEq] at H
 obtain⟨rfl,rfl,rfl,rfl⟩:=H
 go_enter Try.func39,Try.ntmps39
 go_wp2_with (first|((with_reducible refine gate_callee (f:=40) rfl ?_);refine goesL_ (some 7) rfl rfl Try.func40 (by kernel_rfl) rfl #[.slice A0 l0.length c0] rfl zq2 ?_;(with_reducible refine(spec_DrawFirstHops.calls k _ _ l0 t840 t841 t842 t843 _ ?side1 ?side2 A2.out).mono ?_);(case side1=>repeat(first|exact HR0.out|(with_reducible refine Kd.C_alloc ?_ _)|(with_reducible refine Kd.C_drewN ?_ _)|(with_reducible refine Kd.C_drew ?_)));(case side2=>exact HC0.out);rintro e w3 ⟨v844,rfl,ho0,hb⟩;refine⟨_,rfl,?_⟩;have n0_:=Aside0.mk (Kd.R_lower ho0 (below_size (zb0 HB)));have n1_:=Aside0.mk (below_step (zb0 HB) hb);clear HB;have HO845:=n0_;have HB:=n1_;clear n0_ n1_;(try clear hb);(try clear hb2);(try clear hk);(try clear hi);(try clear ho0)))
 refine bodyPost_ret (results_list (rs:= [.tmp 2,.tmp 3,.tmp 4,.tmp 5]) rfl (by simp) (.tmp (.tmp (.tmp (.tmp .nil))))) rfl ?_
 exact⟨_,by first|rfl|(simp [errW_none,errW_some]<;>rfl)|(simp [*,errW_none,errW_some]<;>rfl),by(with_reducible repeat(first|apply Kd.R_alloc|apply Kd.R_drewN|apply Kd.R_drew));exact HO845.out,by repeat(first|(with_reducible first|exact HB.out|apply below_alloc|apply pw_below_drewN|apply below_drew1)|exact HB.out)⟩
def spec_DrawHopFor.f (k:Nat) (l0:List Int):Option (Int × (List (S67)) × Int × Int × Int):=(spec_DrawFirstHops.f k l0).bind fun bt846=>((spec_l1Cur_among.f l0 0 0 (([(-1),0,1,7,1000,1001] :List Int))).bind fun bt856=>(some (bt846.1,bt846.2.1,bt846.2.2.1,bt846.2.2.2,bt856.1)))
set_option maxHeartbeats 8000000 in
set_option maxRecDepth 100000 in
theorem spec_DrawHopFor.calls (k:Nat) (A0:Option Addr) (c0:Nat) (l0:List Int) (r1:Int) (r2:List (S67)) (r3:Int) (r4:Int) (r5:Int) (w:World) (hr0:Kd.C (Kd.int .u8) w A0 l0.length l0) (hc0:l0.length≤c0) (h:spec_DrawHopFor.f k l0=some (r1,r2,r3,r4,r5)):
  Calls Try.prog 41 #[.slice A0 l0.length c0] w fun e w'=> ∃ v1_:Value,e= .returned (.tuple #[.int .i64 r1,v1_,.int .i64 r3,.int .i64 r4,.int .i64 r5])∧Kd.R k67 67 w' w.heap.size (fun _=>True) v1_ r2∧Below w.heap.size w w':=by
 have hu81:=Try.underlying81
 have HR0:=Aside0.mk hr0
 have HC0:=Aside0.mk hc0
 clear hr0 hc0
 have HB:=Aside0.mk (Below.refl w.heap.size w)
 have H:((spec_DrawFirstHops.f k l0).bind fun bt846=>((spec_l1Cur_among.f l0 0 0 (([(-1),0,1,7,1000,1001] :List Int))).bind fun bt856=>(some (bt846.1,bt846.2.1,bt846.2.2.1,bt846.2.2.2,bt856.1))))=some (r1,r2,r3,r4,r5):=h
 clear h
 replace H:=Option.bind_eq_some_iff.mp H
 obtain⟨⟨t846,t847,t848,t849⟩,A20,H⟩:=H
 replace H:((spec_l1Cur_among.f l0 0 0 (([(-1),0,1,7,1000,1001] :List Int))).bind fun bt856=>(some (t846,t847,t848,t849,bt856.1)))=some (r1,r2,r3,r4,r5):=H
 have A2:=Aside0.mk A20
 clear A20
 obtain⟨y853,hy853⟩ :∃ y_:List Int,y_= (([(-1),0,1,7,1000,1001] :List Int)):=⟨_,rfl⟩
 replace H:((spec_l1Cur_among.f l0 0 0 y853).bind fun bt856=>(some (t846,t847,t848,t849,bt856.1)))=some (r1,r2,r3,r4,r5):=by first|(rw [hy853];with_reducible exact H)|(have H2_:=(Option.bind_some _ _).symm.trans H;rw [hy853];with_reducible exact H2_)|(have H2_:=(Option.bind_some _ _).symm.trans H;with_reducible exact H2_)|with_reducible exact H|(rw [hy853];exact H)|exact H
 have Ny853:=Aside0.mk hy853
 clear hy853
 replace H:=Option.bind_eq_some_iff.mp H
 obtain⟨⟨t856,t857,t858⟩,A30,H⟩:=H
 replace H:(some (t846,t847,t848,t849,t856))=some (r1,r2,r3,r4,r5):=H
 have A3:=Aside0.mk A30
 clear A30
 simp only [Option.some.injEq,Prod.mk.injEq] at H
 obtain⟨rfl,rfl,rfl,rfl,rfl⟩:=H
 go_enter Try.func41,Try.ntmps41
 go_wp2_with (first|((with_reducible refine gate_callee (f:=40) rfl ?_);refine goesL_ (some 14) rfl rfl Try.func40 (by kernel_rfl) rfl #[.slice A0 l0.length c0] rfl zq2 ?_;(with_reducible refine(spec_DrawFirstHops.calls k _ _ l0 t846 t847 t848 t849 _ ?side1 ?side2 A2.out).mono ?_);(case side1=>repeat(first|exact HR0.out|(with_reducible refine Kd.C_alloc ?_ _)|(with_reducible refine Kd.C_drewN ?_ _)|(with_reducible refine Kd.C_drew ?_)));(case side2=>exact HC0.out);rintro e w4 ⟨v850,rfl,ho0,hb⟩;refine⟨_,rfl,?_⟩;have n0_:=Aside0.mk (Kd.R_lower ho0 (below_size (zb0 HB)));have n1_:=Aside0.mk (below_step (zb0 HB) hb);clear HB;have HO851:=n0_;have HB:=n1_;clear n0_ n1_;(try clear hb);(try clear hb2);(try clear hk);(try clear hi);(try clear ho0))|((with_reducible refine gate_dst (N:=21) rfl ?_);refine box_event ?hg (N:=21) ?hd (cs:= #[.slice A0 l0.length c0,.int .i64 0,.int .u64 0]) (t:=81) ?hr ?_;(case hd=>rfl);(case hg=>rfl);(case hr=>first|(go_simp;done)|(go_simp;rfl));intro gb852 hg w5 hbox hb;have n0_:=Aside0.mk (Kd.R_below (zq4 HO851) hb);have n1_:=Aside0.mk (below_step (zb0 HB) hb);have n2_:=Aside0.mk ((by rw [hg];exact(below_size (zb0 HB)):w.heap.size≤gb852));have n3_:=Aside0.mk ((by rw [hg];exact(below_size (zb0 HB)):w.heap.size≤gb852));have n4_:=Aside0.mk ((show IsS81 w _ gb852 l0 0 0 from ⟨_,_,hbox,(by rw [hg];exact(below_size (zb0 HB)):w.heap.size≤gb852),HR0.out⟩));clear HO851;clear HB;have HO851:=n0_;have HB:=n1_;have GW852:=n2_;have GE852:=n3_;have HI852:=n4_;clear n0_ n1_ n2_ n3_ n4_;clear hb hbox hg)|((with_reducible refine gate_dst (N:=27) rfl ?_);refine Kd.R_lit (Kd.int .i64) _ 3 ?hg (N:=27) ?hd (xs:=([(-1),0,1,7,1000,1001] :List Int)) (inner:= [.int .i64 (-1),.int .i64 0,.int .i64 1,.int .i64 7,.int .i64 1000,.int .i64 1001]) (ok:=fun _=>True) (okp:=fun _=>True) ?hr ?hp (fun _ hk=>hk) trivial (Below.refl _ _) (Nat.le_refl _) (by simp) ?_;(case hd=>rfl);(case hg=>rfl);(case hr=>first|(go_simp;done)|(go_simp;rfl));(case hp=>exact(Reps.one (show Kd.M (Kd.int .i64) _ _ _ (-1) [.int .i64 (-1)] from rfl) (Reps.one (show Kd.M (Kd.int .i64) _ _ _ 0 [.int .i64 0] from rfl) (Reps.one (show Kd.M (Kd.int .i64) _ _ _ 1 [.int .i64 1] from rfl) (Reps.one (show Kd.M (Kd.int .i64) _ _ _ 7 [.int .i64 7] from rfl) (Reps.one (show Kd.M (Kd.int .i64) _ _ _ 1000 [.int .i64 1000] from rfl) (Reps.one (show Kd.M (Kd.int .i64) _ _ _ 1001 [.int .i64 1001] from rfl) (Reps.none _ _))))))));intro v854 w6 ho7 hb hg_ hnew_;clear hg_ hnew_;(first|rw [← Ny853.out] at ho7|(simp only [Int.reduceToNat] at ho7;rw [← Ny853.out] at ho7));have n0_:=Aside0.mk (Kd.R_below (zq4 HO851) hb);have n1_:=Aside0.mk (Kd.R_lower ho7 (below_size (by repeat(first|(with_reducible first|exact HB.out|apply below_alloc|apply pw_below_drewN|apply below_drew1|refine below_set ?_ (IsS81.ge HI852.out))|exact HB.out))));have n2_:=Aside0.mk (IsS81.below (by repeat(first|(with_reducible first|exact HI852.out|apply IsS81.alloc|apply IsS81.drewN|apply IsS81.drew|apply IsS81.set_1|apply IsS81.set_2)|exact HI852.out)) hb);have n3_:=Aside0.mk (below_step (by repeat(first|(with_reducible first|exact HB.out|apply below_alloc|apply pw_below_drewN|apply below_drew1|refine below_set ?_ (IsS81.ge HI852.out))|exact HB.out)) hb);clear HO851;clear HI852;clear HB;have HO851:=n0_;have HO855:=n1_;have HI852:=n2_;have HB:=n3_;clear n0_ n1_ n2_ n3_;clear hb ho7;obtain⟨Ao8,co8,eo8⟩:=Kd.R_slice HO855.out;subst eo8)|((with_reducible refine gate_callee (f:=66) rfl ?_);refine goesL_ (some 28) rfl rfl Try.func66 (by kernel_rfl) rfl #[.pointer (some ⟨gb852,0,none⟩),.slice Ao8 y853.length co8] rfl zq2 ?_;(with_reducible refine(spec_l1Cur_among.calls gb852 l0 0 0 _ _ y853 t856 t857 t858 w _ ?side1 ?side2 ?side3 ?side4 ?side5 A3.out).mono ?_);(case side1=>repeat(first|(with_reducible first|exact HI852.out|apply IsS81.alloc|apply IsS81.drewN|apply IsS81.drew|apply IsS81.set_1|apply IsS81.set_2)|exact HI852.out));(case side2=>repeat(first|(with_reducible first|exact HB.out|apply below_alloc|apply pw_below_drewN|apply below_drew1|refine below_set ?_ (IsS81.ge HI852.out))|exact HB.out));(case side3=>repeat(first|exact(Kd.R_reads' HO855.out).2.2|(with_reducible refine Kd.C_alloc ?_ _)|(with_reducible refine Kd.C_drewN ?_ _)|(with_reducible refine Kd.C_drew ?_)));(case side4=>exact(Kd.R_reads' HO855.out).2.1);(case side5=>exact far_slice (IsS81.own_ne HI852.out HO855.out (by decide)));rintro e w9 ⟨rfl,hi,hb,hk⟩;refine⟨_,rfl,?_⟩;have n0_:=Aside0.mk (Kd.R_mono (Kd.R_keep (IsS81.apart (show IsS81 w _ gb852 l0 0 0 from by repeat(first|(with_reducible first|exact HI852.out|apply IsS81.alloc|apply IsS81.drewN|apply IsS81.drew|apply IsS81.set_1|apply IsS81.set_2)|exact HI852.out)) (zq4 HO851) (by decide)) hk (fun _ h=>h.2)) (fun _ h=>h.1));have n1_:=Aside0.mk (Kd.R_mono (Kd.R_keep (IsS81.apart (show IsS81 w _ gb852 l0 0 0 from by repeat(first|(with_reducible first|exact HI852.out|apply IsS81.alloc|apply IsS81.drewN|apply IsS81.drew|apply IsS81.set_1|apply IsS81.set_2)|exact HI852.out)) (zq4 HO855) (by decide)) hk (fun _ h=>h.2)) (fun _ h=>h.1));have n2_:=Aside0.mk (hb);have n3_:=Aside0.mk (hi);clear HO851;clear HO855;clear HB;clear HI852;have HO851:=n0_;have HO855:=n1_;have HB:=n2_;have HI852:=n3_;clear n0_ n1_ n2_ n3_;(try clear hb);(try clear hb2);(try clear hk);(try clear hi)))
 refine bodyPost_ret (results_list (rs:= [.tmp 2,.tmp 3,.tmp 4,.tmp 5,.tmp 6]) rfl (by simp) (.tmp (.tmp (.tmp (.tmp (.tmp .nil)))))) rfl ?_
 exact⟨_,by first|rfl|(simp [errW_none,errW_some]<;>rfl)|(simp [*,errW_none,errW_some]<;>rfl),by(with_reducible repeat(first|apply Kd.R_alloc|apply Kd.R_drewN|apply Kd.R_drew));exact HO851.out,by repeat(first|(with_reducible first|exact HB.out|apply below_alloc|apply pw_below_drewN|apply below_drew1|refine below_set ?_ (IsS81.ge HI852.out))|exact HB.out)⟩
def spec_DrawCostOf.f (k:Nat) (l0:List Int):Option (Int × (List (S67)) × List Int):=(spec_DrawFirstHops.f k l0).bind fun bt859=>((spec_WayTo.f k bt859.1 bt859.2.1 bt859.2.2.1 bt859.2.2.2).bind fun bt866=>(if bt866.2.2=true then(if (bt866.1.length:Int) > 1 then((spec_l1Cur_one.f l0 0 0 4).bind fun bt871=>(if bt871.1=true then((spec_l1Cur_pick.f l0 bt871.2.1 bt871.2.2 9).bind fun bt874=>(if 0< (bt866.1.length:Int) then(some (bt859.1,bt859.2.1,(bt866.1.set (0:Int).toNat bt874.1))) else(none))) else(some (bt859.1,bt859.2.1,bt866.1)))) else(some (bt859.1,bt859.2.1,bt866.1))) else(some (bt859.1,bt859.2.1,bt866.1))))
set_option maxHeartbeats 8000000 in
set_option maxRecDepth 100000 in
theorem spec_DrawCostOf.calls (k:Nat) (A0:Option Addr) (c0:Nat) (l0:List Int) (r1:Int) (r2:List (S67)) (r3:List Int) (w:World) (hr0:Kd.C (Kd.int .u8) w A0 l0.length l0) (hc0:l0.length≤c0) (h:spec_DrawCostOf.f k l0=some (r1,r2,r3)):
  Calls Try.prog 42 #[.slice A0 l0.length c0] w fun e w'=> ∃ v1_ v2_:Value,e= .returned (.tuple #[.int .i64 r1,v1_,v2_])∧Kd.R k67 67 w' w.heap.size (fun _=>True) v1_ r2∧Kd.R (Kd.int .i64) 3 w' w.heap.size (fun _=>True) v2_ r3∧Below w.heap.size w w':=by
 have hu81:=Try.underlying81
 have HR0:=Aside0.mk hr0
 have HC0:=Aside0.mk hc0
 clear hr0 hc0
 have HB:=Aside0.mk (Below.refl w.heap.size w)
 have H:((spec_DrawFirstHops.f k l0).bind fun bt859=>((spec_WayTo.f k bt859.1 bt859.2.1 bt859.2.2.1 bt859.2.2.2).bind fun bt866=>(if bt866.2.2=true then(if (bt866.1.length:Int) > 1 then((spec_l1Cur_one.f l0 0 0 4).bind fun bt871=>(if bt871.1=true then((spec_l1Cur_pick.f l0 bt871.2.1 bt871.2.2 9).bind fun bt874=>(if 0< (bt866.1.length:Int) then(some (bt859.1,bt859.2.1,(bt866.1.set (0:Int).toNat bt874.1))) else(none))) else(some (bt859.1,bt859.2.1,bt866.1)))) else(some (bt859.1,bt859.2.1,bt866.1))) else(some (bt859.1,bt859.2.1,bt866.1)))))=some (r1,r2,r3):=h
 clear h
 replace H:=Option.bind_eq_some_iff.mp H
 obtain⟨⟨t859,t860,t861,t862⟩,A20,H⟩:=H
 replace H:((spec_WayTo.f k t859 t860 t861 t862).bind fun bt866=>(if bt866.2.2=true then(if (bt866.1.length:Int) > 1 then((spec_l1Cur_one.f l0 0 0 4).bind fun bt871=>(if bt871.1=true then((spec_l1Cur_pick.f l0 bt871.2.1 bt871.2.2 9).bind fun bt874=>(if 0< (bt866.1.length:Int) then(some (t859,t860,(bt866.1.set (0:Int).toNat bt874.1))) else(none))) else(some (t859,t860,bt866.1)))) else(some (t859,t860,bt866.1))) else(some (t859,t860,bt866.1))))=some (r1,r2,r3):=H
 have A2:=Aside0.mk A20
 clear A20
 replace H:=Option.bind_eq_some_iff.mp H
 obtain⟨⟨t866,t867,t868⟩,A30,H⟩:=H
 replace H:(if t868=true then(if (t866.length:Int) > 1 then((spec_l1Cur_one.f l0 0 0 4).bind fun bt871=>(if bt871.1=true then((spec_l1Cur_pick.f l0 bt871.2.1 bt871.2.2 9).bind fun bt874=>(if 0< (t866.length:Int) then(some (t859,t860,(t866.set (0:Int).toNat bt874.1))) else(none))) else(some (t859,t860,t866)))) else(some (t859,t860,t866))) else(some (t859,t860,t866)))=some (r1,r2,r3):=H
 have A3:=Aside0.mk A30
 clear A30
 by_cases c4:t868=true
 ·subst c4
  have H1:(if (t866.length:Int) > 1 then((spec_l1Cur_one.f l0 0 0 4).bind fun bt871=>(if bt871.1=true then((spec_l1Cur_pick.f l0 bt871.2.1 bt871.2.2 9).bind fun bt874=>(if 0< (t866.length:Int) then(some (t859,t860,(t866.set (0:Int).toNat bt874.1))) else(none))) else(some (t859,t860,t866)))) else(some (t859,t860,t866)))=some (r1,r2,r3):=by rw [if_pos rfl] at H;exact H
  clear H
  have H:=H1
  clear H1
  by_cases c5:(t866.length:Int) > 1
  ·rw [if_pos c5] at H
   have c5b0:decide (1< (t866.length:Int))=true:=decide_eq_true c5
   have c5b1:decide (1<t866.length)=true:=decide_eq_true (by omega)
   clear c5
   replace H:=Option.bind_eq_some_iff.mp H
   obtain⟨⟨t871,t872,t873⟩,A60,H⟩:=H
   replace H:(if t871=true then((spec_l1Cur_pick.f l0 t872 t873 9).bind fun bt874=>(if 0< (t866.length:Int) then(some (t859,t860,(t866.set (0:Int).toNat bt874.1))) else(none))) else(some (t859,t860,t866)))=some (r1,r2,r3):=H
   have A6:=Aside0.mk A60
   clear A60
   by_cases c7:t871=true
   ·subst c7
    have H1:((spec_l1Cur_pick.f l0 t872 t873 9).bind fun bt874=>(if 0< (t866.length:Int) then(some (t859,t860,(t866.set (0:Int).toNat bt874.1))) else(none)))=some (r1,r2,r3):=by rw [if_pos rfl] at H;exact H
    clear H
    have H:=H1
    clear H1
    replace H:=Option.bind_eq_some_iff.mp H
    obtain⟨⟨t874,t875,t876⟩,A80,H⟩:=H
    replace H:(if 0< (t866.length:Int) then(some (t859,t860,(t866.set (0:Int).toNat t874))) else(none))=some (r1,r2,r3):=H
    have A8:=Aside0.mk A80
    clear A80
    by_cases c9: 0< (t866.length:Int)
    ·rw [if_pos c9] at H
     have c9b0:decide (0< (t866.length:Int))=true:=decide_eq_true c9
     have c9b1:decide (0<t866.length)=true:=decide_eq_true (by omega)
     clear c9
     obtain⟨y877,hy877⟩ :∃ y_:List Int,y_= (t866.set (0:Int).toNat t874):=⟨_,rfl⟩
     replace H:(some (t859,t860,y877))=some (r1,r2,r3):=by first|(rw [hy877];with_reducible exact H)|(have H2_:=(Option.bind_some _ _).symm.trans H;rw [hy877];with_reducible exact H2_)|(have H2_:=(Option.bind_some _ _).symm.trans H;with_reducible exact H2_)|with_reducible exact H|(rw [hy877];exact H)|exact H
     have Ny877:=Aside0.mk hy877
     clear hy877
     simp only [Option.some.injEq,Prod.mk.injEq] at H
     obtain⟨rfl,rfl,rfl⟩:=H
     go_enter Try.func42,Try.ntmps42
     go_wp2_with (first|((with_reducible refine gate_callee (f:=40) rfl ?_);refine goesL_ (some 15) rfl rfl Try.func40 (by kernel_rfl) rfl #[.slice A0 l0.length c0] rfl zq2 ?_;(with_reducible refine(spec_DrawFirstHops.calls k _ _ l0 t859 t860 t861 t862 _ ?side1 ?side2 A2.out).mono ?_);(case side1=>repeat(first|exact HR0.out|(with_reducible refine Kd.C_alloc ?_ _)|(with_reducible refine Kd.C_drewN ?_ _)|(with_reducible refine Kd.C_drew ?_)));(case side2=>exact HC0.out);rintro e w11 ⟨v863,rfl,ho0,hb⟩;refine⟨_,rfl,?_⟩;have n0_:=Aside0.mk (Kd.R_lower ho0 (below_size (zb0 HB)));have n1_:=Aside0.mk (below_step (zb0 HB) hb);clear HB;have HO864:=n0_;have HB:=n1_;clear n0_ n1_;(try clear hb);(try clear hb2);(try clear hk);(try clear hi);(try clear ho0))|((with_reducible refine gate_dst (N:=22) rfl ?_);(try(refine gate_guard (by rfl) ?_;dsimp only));refine box_event ?hg (N:=22) ?hd (cs:= #[.slice A0 l0.length c0,.int .i64 0,.int .u64 0]) (t:=81) ?hr ?_;(case hd=>rfl);(case hg=>rfl);(case hr=>first|(go_simp;done)|(go_simp;rfl));intro gb865 hg w12 hbox hb;have n0_:=Aside0.mk (Kd.R_below (zq4 HO864) hb);have n1_:=Aside0.mk (below_step (zb0 HB) hb);have n2_:=Aside0.mk ((by rw [hg];exact(below_size (zb0 HB)):w.heap.size≤gb865));have n3_:=Aside0.mk ((by rw [hg];exact(below_size (zb0 HB)):w.heap.size≤gb865));have n4_:=Aside0.mk ((show IsS81 w _ gb865 l0 0 0 from ⟨_,_,hbox,(by rw [hg];exact(below_size (zb0 HB)):w.heap.size≤gb865),HR0.out⟩));clear HO864;clear HB;have HO864:=n0_;have HB:=n1_;have GW865:=n2_;have GE865:=n3_;have HI865:=n4_;clear n0_ n1_ n2_ n3_ n4_;clear hb hbox hg;obtain⟨Ao13,co13,eo13⟩:=Kd.R_slice HO864.out;subst eo13)|((with_reducible refine gate_callee (f:=32) rfl ?_);refine goesL_ (some 28) rfl rfl Try.func32 (by kernel_rfl) rfl #[.int .i64 t859,.slice Ao13 t860.length co13,.int .i64 t861,.int .i64 t862] rfl zq2 ?_;(with_reducible refine(spec_WayTo.calls k t859 _ _ t860 t861 t862 t866 t867 true _ ?side1 ?side2 A3.out).mono ?_);(case side1=>repeat(first|exact(Kd.R_reads' HO864.out).2.2|(with_reducible refine Kd.C_alloc ?_ _)|(with_reducible refine Kd.C_drewN ?_ _)|(with_reducible refine Kd.C_drew ?_)));(case side2=>exact(Kd.R_reads' HO864.out).2.1);rintro e w14 ⟨v869,rfl,ho0,hb⟩;refine⟨_,rfl,?_⟩;have n0_:=Aside0.mk (Kd.R_below (zq4 HO864) hb);have n1_:=Aside0.mk (Kd.R_lower ho0 (below_size (by repeat(first|(with_reducible first|exact HB.out|apply below_alloc|apply pw_below_drewN|apply below_drew1|refine below_set ?_ (IsS81.ge HI865.out))|exact HB.out))));have n2_:=Aside0.mk (IsS81.below (by repeat(first|(with_reducible first|exact HI865.out|apply IsS81.alloc|apply IsS81.drewN|apply IsS81.drew|apply IsS81.set_1|apply IsS81.set_2)|exact HI865.out)) hb);have n3_:=Aside0.mk (below_step (by repeat(first|(with_reducible first|exact HB.out|apply below_alloc|apply pw_below_drewN|apply below_drew1|refine below_set ?_ (IsS81.ge HI865.out))|exact HB.out)) hb);clear HO864;clear HI865;clear HB;have HO864:=n0_;have HO870:=n1_;have HI865:=n2_;have HB:=n3_;clear n0_ n1_ n2_ n3_;(try clear hb);(try clear hb2);(try clear hk);(try clear hi);(try clear ho0);obtain⟨Ao15,co15,eo15⟩:=Kd.R_slice HO870.out;subst eo15)|(go_at_call 68;(with_reducible refine(spec_l1Cur_one.calls gb865 l0 0 0 4 true t872 t873 w _ ?side1 ?side2 A6.out).mono ?_);(case side1=>repeat(first|(with_reducible first|exact HI865.out|apply IsS81.alloc|apply IsS81.drewN|apply IsS81.drew|apply IsS81.set_1|apply IsS81.set_2)|exact HI865.out));(case side2=>repeat(first|(with_reducible first|exact HB.out|apply below_alloc|apply pw_below_drewN|apply below_drew1|refine below_set ?_ (IsS81.ge HI865.out))|exact HB.out));rintro e w16 ⟨rfl,hi,hb,hk⟩;have n0_:=Aside0.mk (Kd.R_mono (Kd.R_keep (IsS81.apart (show IsS81 w _ gb865 l0 0 0 from by repeat(first|(with_reducible first|exact HI865.out|apply IsS81.alloc|apply IsS81.drewN|apply IsS81.drew|apply IsS81.set_1|apply IsS81.set_2)|exact HI865.out)) (zq4 HO864) (by decide)) hk (fun _ h=>h.2)) (fun _ h=>h.1));have n1_:=Aside0.mk (Kd.R_mono (Kd.R_keep (IsS81.apart (show IsS81 w _ gb865 l0 0 0 from by repeat(first|(with_reducible first|exact HI865.out|apply IsS81.alloc|apply IsS81.drewN|apply IsS81.drew|apply IsS81.set_1|apply IsS81.set_2)|exact HI865.out)) (zq4 HO870) (by decide)) hk (fun _ h=>h.2)) (fun _ h=>h.1));have n2_:=Aside0.mk (hb);have n3_:=Aside0.mk (hi);clear HO864;clear HO870;clear HB;clear HI865;have HO864:=n0_;have HO870:=n1_;have HB:=n2_;have HI865:=n3_;clear n0_ n1_ n2_ n3_;(try clear hb);(try clear hb2);(try clear hk);(try clear hi))|((with_reducible refine gate_callee (f:=67) rfl ?_);refine goesL_ (some 44) rfl rfl Try.func67 (by kernel_rfl) rfl #[.pointer (some ⟨gb865,0,none⟩),.int .i64 9] rfl zq2 ?_;(with_reducible refine(spec_l1Cur_pick.calls gb865 l0 t872 t873 9 t874 t875 t876 w _ ?side1 ?side2 A8.out).mono ?_);(case side1=>repeat(first|(with_reducible first|exact HI865.out|apply IsS81.alloc|apply IsS81.drewN|apply IsS81.drew|apply IsS81.set_1|apply IsS81.set_2)|exact HI865.out));(case side2=>repeat(first|(with_reducible first|exact HB.out|apply below_alloc|apply pw_below_drewN|apply below_drew1|refine below_set ?_ (IsS81.ge HI865.out))|exact HB.out));rintro e w17 ⟨rfl,hi,hb,hk⟩;refine⟨_,rfl,?_⟩;have n0_:=Aside0.mk (Kd.R_mono (Kd.R_keep (IsS81.apart (show IsS81 w _ gb865 l0 t872 t873 from by repeat(first|(with_reducible first|exact HI865.out|apply IsS81.alloc|apply IsS81.drewN|apply IsS81.drew|apply IsS81.set_1|apply IsS81.set_2)|exact HI865.out)) (zq4 HO864) (by decide)) hk (fun _ h=>h.2)) (fun _ h=>h.1));have n1_:=Aside0.mk (Kd.R_mono (Kd.R_keep (IsS81.apart (show IsS81 w _ gb865 l0 t872 t873 from by repeat(first|(with_reducible first|exact HI865.out|apply IsS81.alloc|apply IsS81.drewN|apply IsS81.drew|apply IsS81.set_1|apply IsS81.set_2)|exact HI865.out)) (zq4 HO870) (by decide)) hk (fun _ h=>h.2)) (fun _ h=>h.1));have n2_:=Aside0.mk (hb);have n3_:=Aside0.mk (hi);clear HO864;clear HO870;clear HB;clear HI865;have HO864:=n0_;have HO870:=n1_;have HB:=n2_;have HI865:=n3_;clear n0_ n1_ n2_ n3_;(try clear hb);(try clear hb2);(try clear hk);(try clear hi);have p10: 0≤ (0:Int):=(by omega);have q10:(0:Int)< ((t866.length:Int):Int):=of_decide_eq_true zq1;have qi10:(0<t866.length)=True:=eq_true (by omega);obtain⟨go10,co10,eo10,gb10,gl10,cl10,HG10⟩:=Kd.R_form HO870.out (by omega);(first|cases eo10|(injection eo10 with ea_ en_ ec_;(first|subst ea_|(injection ea_ with ea_;subst ea_));subst ec_;clear en_));have GB10:=Aside0.mk gb10;have GG10:=Aside0.mk HG10;clear gb10 gl10 HG10;obtain⟨hx10_0,hf10_0⟩:=Kd.R_celln 0 HO870.out (0:Int) p10 q10;(try rw [show ((0:Int)).toNat=0 from rfl] at hx10_0);(try simp only [Nat.reduceMul,Nat.zero_mul,Nat.zero_add,Nat.reduceAdd] at hx10_0);(try rw [show ((0:Int)).toNat=0 from rfl] at hf10_0);(try simp only [Nat.reduceMul,Nat.zero_mul,Nat.zero_add,Nat.reduceAdd] at hf10_0);replace p10:=eq_true p10;replace q10:=eq_true q10;obtain⟨hy18_,hz18_⟩:=Kd.R_celln 0 HO870.out (0:Int) (by omega) (of_decide_eq_true zq1);(try simp only [Int.reduceToNat,Int.toNat_zero,Int.toNat_ofNat,Nat.reduceMul,Nat.zero_mul,Nat.zero_add] at hy18_ hz18_);(try rw [show ((0:Int)).toNat=0 from rfl] at hy18_);(try rw [show ((0:Int)).toNat=0 from rfl] at hz18_);have HP18:=Kd.R_putg HO870.out (0:Int) t874)|((with_reducible refine gate_store (t:=3) (p:=45) rfl ?_);refine store_event (t:=3) (p:=45) (v:=?vo_w19) (w1:=(w17.setCell ⟨go10,(0:Int).toNat,none⟩ (.int .i64 t874))) ?hg ?ho ?hn ?hr ?_;(case ho=>rfl);(case hg=>rfl);(case hn=>rfl);(case hr=>first|(go_simp;done)|(go_simp;rfl));intro w19 hw;have hg:w17.grownBy w19 (some go10):=(by rw [hw];exact HP18.2);have hp_:Kd.R (Kd.int .i64) 3 w19 w.heap.size (fun _=>True) (.slice (some ⟨go10,0,none⟩) t866.length co15) y877:=(by rw [hw,Ny877.out];exact HP18.1);clear HP18;have n0_:=Aside0.mk (Kd.R_over' (v:=(.slice (some ⟨go10,0,none⟩) t866.length co15)) (zq4 HO864) (Kd.R_typed HO870.out) (by decide) hg);have n1_:=Aside0.mk (IsS81.grown (by repeat(first|(with_reducible first|exact HI865.out|apply IsS81.alloc|apply IsS81.drewN|apply IsS81.drew|apply IsS81.set_1|apply IsS81.set_2)|exact HI865.out)) hg (IsS81.own_ne HI865.out HO870.out (by decide)));have n2_:=Aside0.mk (hp_);have n3_:=Aside0.mk ((by rw [hw];exact below_set (HB.out) GB10.out:Below w.heap.size w w19));clear HO864;clear HI865;clear HO870;clear HB;have HO864:=n0_;have HI865:=n1_;have HO870:=n2_;have HB:=n3_;clear n0_ n1_ n2_ n3_;clear hg hw hp_))
     go_ret3
     exact⟨_,_,by first|rfl|(simp [errW_none,errW_some]<;>rfl)|(simp [*,errW_none,errW_some]<;>rfl),by(with_reducible repeat(first|apply Kd.R_alloc|apply Kd.R_drewN|apply Kd.R_drew));exact HO864.out,by(with_reducible repeat(first|apply Kd.R_alloc|apply Kd.R_drewN|apply Kd.R_drew));exact HO870.out,by repeat(first|(with_reducible first|exact HB.out|apply below_alloc|apply pw_below_drewN|apply below_drew1|refine below_set ?_ (IsS81.ge HI865.out))|exact HB.out)⟩
    ·rw [if_neg c9] at H
     exact absurd H (by simp)
   ·replace c7:=Bool.eq_false_iff.mpr c7
    subst c7
    have H1:(some (t859,t860,t866))=some (r1,r2,r3):=by rw [if_neg (show ¬ (false=true) by decide)] at H;exact H
    clear H
    have H:=H1
    clear H1
    simp only [Option.some.injEq,Prod.mk.injEq] at H
    obtain⟨rfl,rfl,rfl⟩:=H
    go_enter Try.func42,Try.ntmps42
    go_wp2_with (first|((with_reducible refine gate_callee (f:=40) rfl ?_);refine goesL_ (some 15) rfl rfl Try.func40 (by kernel_rfl) rfl #[.slice A0 l0.length c0] rfl zq2 ?_;(with_reducible refine(spec_DrawFirstHops.calls k _ _ l0 t859 t860 t861 t862 _ ?side1 ?side2 A2.out).mono ?_);(case side1=>repeat(first|exact HR0.out|(with_reducible refine Kd.C_alloc ?_ _)|(with_reducible refine Kd.C_drewN ?_ _)|(with_reducible refine Kd.C_drew ?_)));(case side2=>exact HC0.out);rintro e w20 ⟨v863,rfl,ho0,hb⟩;refine⟨_,rfl,?_⟩;have n0_:=Aside0.mk (Kd.R_lower ho0 (below_size (zb0 HB)));have n1_:=Aside0.mk (below_step (zb0 HB) hb);clear HB;have HO864:=n0_;have HB:=n1_;clear n0_ n1_;(try clear hb);(try clear hb2);(try clear hk);(try clear hi);(try clear ho0))|((with_reducible refine gate_dst (N:=22) rfl ?_);(try(refine gate_guard (by rfl) ?_;dsimp only));refine box_event ?hg (N:=22) ?hd (cs:= #[.slice A0 l0.length c0,.int .i64 0,.int .u64 0]) (t:=81) ?hr ?_;(case hd=>rfl);(case hg=>rfl);(case hr=>first|(go_simp;done)|(go_simp;rfl));intro gb865 hg w21 hbox hb;have n0_:=Aside0.mk (Kd.R_below (zq4 HO864) hb);have n1_:=Aside0.mk (below_step (zb0 HB) hb);have n2_:=Aside0.mk ((by rw [hg];exact(below_size (zb0 HB)):w.heap.size≤gb865));have n3_:=Aside0.mk ((by rw [hg];exact(below_size (zb0 HB)):w.heap.size≤gb865));have n4_:=Aside0.mk ((show IsS81 w _ gb865 l0 0 0 from ⟨_,_,hbox,(by rw [hg];exact(below_size (zb0 HB)):w.heap.size≤gb865),HR0.out⟩));clear HO864;clear HB;have HO864:=n0_;have HB:=n1_;have GW865:=n2_;have GE865:=n3_;have HI865:=n4_;clear n0_ n1_ n2_ n3_ n4_;clear hb hbox hg;obtain⟨Ao22,co22,eo22⟩:=Kd.R_slice HO864.out;subst eo22)|((with_reducible refine gate_callee (f:=32) rfl ?_);refine goesL_ (some 28) rfl rfl Try.func32 (by kernel_rfl) rfl #[.int .i64 t859,.slice Ao22 t860.length co22,.int .i64 t861,.int .i64 t862] rfl zq2 ?_;(with_reducible refine(spec_WayTo.calls k t859 _ _ t860 t861 t862 t866 t867 true _ ?side1 ?side2 A3.out).mono ?_);(case side1=>repeat(first|exact(Kd.R_reads' HO864.out).2.2|(with_reducible refine Kd.C_alloc ?_ _)|(with_reducible refine Kd.C_drewN ?_ _)|(with_reducible refine Kd.C_drew ?_)));(case side2=>exact(Kd.R_reads' HO864.out).2.1);rintro e w23 ⟨v869,rfl,ho0,hb⟩;refine⟨_,rfl,?_⟩;have n0_:=Aside0.mk (Kd.R_below (zq4 HO864) hb);have n1_:=Aside0.mk (Kd.R_lower ho0 (below_size (by repeat(first|(with_reducible first|exact HB.out|apply below_alloc|apply pw_below_drewN|apply below_drew1|refine below_set ?_ (IsS81.ge HI865.out))|exact HB.out))));have n2_:=Aside0.mk (IsS81.below (by repeat(first|(with_reducible first|exact HI865.out|apply IsS81.alloc|apply IsS81.drewN|apply IsS81.drew|apply IsS81.set_1|apply IsS81.set_2)|exact HI865.out)) hb);have n3_:=Aside0.mk (below_step (by repeat(first|(with_reducible first|exact HB.out|apply below_alloc|apply pw_below_drewN|apply below_drew1|refine below_set ?_ (IsS81.ge HI865.out))|exact HB.out)) hb);clear HO864;clear HI865;clear HB;have HO864:=n0_;have HO870:=n1_;have HI865:=n2_;have HB:=n3_;clear n0_ n1_ n2_ n3_;(try clear hb);(try clear hb2);(try clear hk);(try clear hi);(try clear ho0);obtain⟨Ao24,co24,eo24⟩:=Kd.R_slice HO870.out;subst eo24)|(go_at_call 68;(with_reducible refine(spec_l1Cur_one.calls gb865 l0 0 0 4 false t872 t873 w _ ?side1 ?side2 A6.out).mono ?_);(case side1=>repeat(first|(with_reducible first|exact HI865.out|apply IsS81.alloc|apply IsS81.drewN|apply IsS81.drew|apply IsS81.set_1|apply IsS81.set_2)|exact HI865.out));(case side2=>repeat(first|(with_reducible first|exact HB.out|apply below_alloc|apply pw_below_drewN|apply below_drew1|refine below_set ?_ (IsS81.ge HI865.out))|exact HB.out));rintro e w25 ⟨rfl,hi,hb,hk⟩;have n0_:=Aside0.mk (Kd.R_mono (Kd.R_keep (IsS81.apart (show IsS81 w _ gb865 l0 0 0 from by repeat(first|(with_reducible first|exact HI865.out|apply IsS81.alloc|apply IsS81.drewN|apply IsS81.drew|apply IsS81.set_1|apply IsS81.set_2)|exact HI865.out)) (zq4 HO864) (by decide)) hk (fun _ h=>h.2)) (fun _ h=>h.1));have n1_:=Aside0.mk (Kd.R_mono (Kd.R_keep (IsS81.apart (show IsS81 w _ gb865 l0 0 0 from by repeat(first|(with_reducible first|exact HI865.out|apply IsS81.alloc|apply IsS81.drewN|apply IsS81.drew|apply IsS81.set_1|apply IsS81.set_2)|exact HI865.out)) (zq4 HO870) (by decide)) hk (fun _ h=>h.2)) (fun _ h=>h.1));have n2_:=Aside0.mk (hb);have n3_:=Aside0.mk (hi);clear HO864;clear HO870;clear HB;clear HI865;have HO864:=n0_;have HO870:=n1_;have HB:=n2_;have HI865:=n3_;clear n0_ n1_ n2_ n3_;(try clear hb);(try clear hb2);(try clear hk);(try clear hi)))
    go_ret3
    exact⟨_,_,by first|rfl|(simp [errW_none,errW_some]<;>rfl)|(simp [*,errW_none,errW_some]<;>rfl),by(with_reducible repeat(first|apply Kd.R_alloc|apply Kd.R_drewN|apply Kd.R_drew));exact HO864.out,by(with_reducible repeat(first|apply Kd.R_alloc|apply Kd.R_drewN|apply Kd.R_drew));exact HO870.out,by repeat(first|(with_reducible first|exact HB.out|apply below_alloc|apply pw_below_drewN|apply below_drew1|refine below_set ?_ (IsS81.ge HI865.out))|exact HB.out)⟩
  ·rw [if_neg c5] at H
   have c5b0:decide (1< (t866.length:Int))=false:=decide_eq_false c5
   have c5b1:decide (1<t866.length)=false:=decide_eq_false (by omega)
   clear c5
   simp only [Option.some.injEq,Prod.mk.injEq] at H
   obtain⟨rfl,rfl,rfl⟩:=H
   go_enter Try.func42,Try.ntmps42
   go_wp2_with (first|((with_reducible refine gate_callee (f:=40) rfl ?_);refine goesL_ (some 15) rfl rfl Try.func40 (by kernel_rfl) rfl #[.slice A0 l0.length c0] rfl zq2 ?_;(with_reducible refine(spec_DrawFirstHops.calls k _ _ l0 t859 t860 t861 t862 _ ?side1 ?side2 A2.out).mono ?_);(case side1=>repeat(first|exact HR0.out|(with_reducible refine Kd.C_alloc ?_ _)|(with_reducible refine Kd.C_drewN ?_ _)|(with_reducible refine Kd.C_drew ?_)));(case side2=>exact HC0.out);rintro e w26 ⟨v863,rfl,ho0,hb⟩;refine⟨_,rfl,?_⟩;have n0_:=Aside0.mk (Kd.R_lower ho0 (below_size (zb0 HB)));have n1_:=Aside0.mk (below_step (zb0 HB) hb);clear HB;have HO864:=n0_;have HB:=n1_;clear n0_ n1_;(try clear hb);(try clear hb2);(try clear hk);(try clear hi);(try clear ho0))|((with_reducible refine gate_dst (N:=22) rfl ?_);(try(refine gate_guard (by rfl) ?_;dsimp only));refine box_event ?hg (N:=22) ?hd (cs:= #[.slice A0 l0.length c0,.int .i64 0,.int .u64 0]) (t:=81) ?hr ?_;(case hd=>rfl);(case hg=>rfl);(case hr=>first|(go_simp;done)|(go_simp;rfl));intro gb865 hg w27 hbox hb;have n0_:=Aside0.mk (Kd.R_below (zq4 HO864) hb);have n1_:=Aside0.mk (below_step (zb0 HB) hb);have n2_:=Aside0.mk ((by rw [hg];exact(below_size (zb0 HB)):w.heap.size≤gb865));have n3_:=Aside0.mk ((by rw [hg];exact(below_size (zb0 HB)):w.heap.size≤gb865));have n4_:=Aside0.mk ((show IsS81 w _ gb865 l0 0 0 from ⟨_,_,hbox,(by rw [hg];exact(below_size (zb0 HB)):w.heap.size≤gb865),HR0.out⟩));clear HO864;clear HB;have HO864:=n0_;have HB:=n1_;have GW865:=n2_;have GE865:=n3_;have HI865:=n4_;clear n0_ n1_ n2_ n3_ n4_;clear hb hbox hg;obtain⟨Ao28,co28,eo28⟩:=Kd.R_slice HO864.out;subst eo28)|((with_reducible refine gate_callee (f:=32) rfl ?_);refine goesL_ (some 28) rfl rfl Try.func32 (by kernel_rfl) rfl #[.int .i64 t859,.slice Ao28 t860.length co28,.int .i64 t861,.int .i64 t862] rfl zq2 ?_;(with_reducible refine(spec_WayTo.calls k t859 _ _ t860 t861 t862 t866 t867 true _ ?side1 ?side2 A3.out).mono ?_);(case side1=>repeat(first|exact(Kd.R_reads' HO864.out).2.2|(with_reducible refine Kd.C_alloc ?_ _)|(with_reducible refine Kd.C_drewN ?_ _)|(with_reducible refine Kd.C_drew ?_)));(case side2=>exact(Kd.R_reads' HO864.out).2.1);rintro e w29 ⟨v869,rfl,ho0,hb⟩;refine⟨_,rfl,?_⟩;have n0_:=Aside0.mk (Kd.R_below (zq4 HO864) hb);have n1_:=Aside0.mk (Kd.R_lower ho0 (below_size (by repeat(first|(with_reducible first|exact HB.out|apply below_alloc|apply pw_below_drewN|apply below_drew1|refine below_set ?_ (IsS81.ge HI865.out))|exact HB.out))));have n2_:=Aside0.mk (IsS81.below (by repeat(first|(with_reducible first|exact HI865.out|apply IsS81.alloc|apply IsS81.drewN|apply IsS81.drew|apply IsS81.set_1|apply IsS81.set_2)|exact HI865.out)) hb);have n3_:=Aside0.mk (below_step (by repeat(first|(with_reducible first|exact HB.out|apply below_alloc|apply pw_below_drewN|apply below_drew1|refine below_set ?_ (IsS81.ge HI865.out))|exact HB.out)) hb);clear HO864;clear HI865;clear HB;have HO864:=n0_;have HO870:=n1_;have HI865:=n2_;have HB:=n3_;clear n0_ n1_ n2_ n3_;(try clear hb);(try clear hb2);(try clear hk);(try clear hi);(try clear ho0);obtain⟨Ao30,co30,eo30⟩:=Kd.R_slice HO870.out;subst eo30))
   go_ret3
   exact⟨_,_,by first|rfl|(simp [errW_none,errW_some]<;>rfl)|(simp [*,errW_none,errW_some]<;>rfl),by(with_reducible repeat(first|apply Kd.R_alloc|apply Kd.R_drewN|apply Kd.R_drew));exact HO864.out,by(with_reducible repeat(first|apply Kd.R_alloc|apply Kd.R_drewN|apply Kd.R_drew));exact HO870.out,by repeat(first|(with_reducible first|exact HB.out|apply below_alloc|apply pw_below_drewN|apply below_drew1|refine below_set ?_ (IsS81.ge HI865.out))|exact HB.out)⟩
 ·replace c4:=Bool.eq_false_iff.mpr c4
  subst c4
  have H1:(some (t859,t860,t866))=some (r1,r2,r3):=by rw [if_neg (show ¬ (false=true) by decide)] at H;exact H
  clear H
  have H:=H1
  clear H1
  simp only [Option.some.injEq,Prod.mk.injEq] at H
  obtain⟨rfl,rfl,rfl⟩:=H
  go_enter Try.func42,Try.ntmps42
  go_wp2_with (first|((with_reducible refine gate_callee (f:=40) rfl ?_);refine goesL_ (some 15) rfl rfl Try.func40 (by kernel_rfl) rfl #[.slice A0 l0.length c0] rfl zq2 ?_;(with_reducible refine(spec_DrawFirstHops.calls k _ _ l0 t859 t860 t861 t862 _ ?side1 ?side2 A2.out).mono ?_);(case side1=>repeat(first|exact HR0.out|(with_reducible refine Kd.C_alloc ?_ _)|(with_reducible refine Kd.C_drewN ?_ _)|(with_reducible refine Kd.C_drew ?_)));(case side2=>exact HC0.out);rintro e w31 ⟨v863,rfl,ho0,hb⟩;refine⟨_,rfl,?_⟩;have n0_:=Aside0.mk (Kd.R_lower ho0 (below_size (zb0 HB)));have n1_:=Aside0.mk (below_step (zb0 HB) hb);clear HB;have HO864:=n0_;have HB:=n1_;clear n0_ n1_;(try clear hb);(try clear hb2);(try clear hk);(try clear hi);(try clear ho0))|((with_reducible refine gate_dst (N:=22) rfl ?_);(try(refine gate_guard (by rfl) ?_;dsimp only));refine box_event ?hg (N:=22) ?hd (cs:= #[.slice A0 l0.length c0,.int .i64 0,.int .u64 0]) (t:=81) ?hr ?_;(case hd=>rfl);(case hg=>rfl);(case hr=>first|(go_simp;done)|(go_simp;rfl));intro gb865 hg w32 hbox hb;have n0_:=Aside0.mk (Kd.R_below (zq4 HO864) hb);have n1_:=Aside0.mk (below_step (zb0 HB) hb);have n2_:=Aside0.mk ((by rw [hg];exact(below_size (zb0 HB)):w.heap.size≤gb865));have n3_:=Aside0.mk ((by rw [hg];exact(below_size (zb0 HB)):w.heap.size≤gb865));have n4_:=Aside0.mk ((show IsS81 w _ gb865 l0 0 0 from ⟨_,_,hbox,(by rw [hg];exact(below_size (zb0 HB)):w.heap.size≤gb865),HR0.out⟩));clear HO864;clear HB;have HO864:=n0_;have HB:=n1_;have GW865:=n2_;have GE865:=n3_;have HI865:=n4_;clear n0_ n1_ n2_ n3_ n4_;clear hb hbox hg;obtain⟨Ao33,co33,eo33⟩:=Kd.R_slice HO864.out;subst eo33)|((with_reducible refine gate_callee (f:=32) rfl ?_);refine goesL_ (some 28) rfl rfl Try.func32 (by kernel_rfl) rfl #[.int .i64 t859,.slice Ao33 t860.length co33,.int .i64 t861,.int .i64 t862] rfl zq2 ?_;(with_reducible refine(spec_WayTo.calls k t859 _ _ t860 t861 t862 t866 t867 false _ ?side1 ?side2 A3.out).mono ?_);(case side1=>repeat(first|exact(Kd.R_reads' HO864.out).2.2|(with_reducible refine Kd.C_alloc ?_ _)|(with_reducible refine Kd.C_drewN ?_ _)|(with_reducible refine Kd.C_drew ?_)));(case side2=>exact(Kd.R_reads' HO864.out).2.1);rintro e w34 ⟨v869,rfl,ho0,hb⟩;refine⟨_,rfl,?_⟩;have n0_:=Aside0.mk (Kd.R_below (zq4 HO864) hb);have n1_:=Aside0.mk (Kd.R_lower ho0 (below_size (by repeat(first|(with_reducible first|exact HB.out|apply below_alloc|apply pw_below_drewN|apply below_drew1|refine below_set ?_ (IsS81.ge HI865.out))|exact HB.out))));have n2_:=Aside0.mk (IsS81.below (by repeat(first|(with_reducible first|exact HI865.out|apply IsS81.alloc|apply IsS81.drewN|apply IsS81.drew|apply IsS81.set_1|apply IsS81.set_2)|exact HI865.out)) hb);have n3_:=Aside0.mk (below_step (by repeat(first|(with_reducible first|exact HB.out|apply below_alloc|apply pw_below_drewN|apply below_drew1|refine below_set ?_ (IsS81.ge HI865.out))|exact HB.out)) hb);clear HO864;clear HI865;clear HB;have HO864:=n0_;have HO870:=n1_;have HI865:=n2_;have HB:=n3_;clear n0_ n1_ n2_ n3_;(try clear hb);(try clear hb2);(try clear hk);(try clear hi);(try clear ho0)))
  go_ret3
  exact⟨_,_,by first|rfl|(simp [errW_none,errW_some]<;>rfl)|(simp [*,errW_none,errW_some]<;>rfl),by(with_reducible repeat(first|apply Kd.R_alloc|apply Kd.R_drewN|apply Kd.R_drew));exact HO864.out,by(with_reducible repeat(first|apply Kd.R_alloc|apply Kd.R_drewN|apply Kd.R_drew));exact HO870.out,by repeat(first|(with_reducible first|exact HB.out|apply below_alloc|apply pw_below_drewN|apply below_drew1|refine below_set ?_ (IsS81.ge HI865.out))|exact HB.out)⟩
def laws_has.l0:Nat→Int→List Int→Int→Int→Option (Bool)
 | 0,_,_,_,_=>none
 |k+1,x1,x7,x8,x9=>if x9<x8 then(if 0≤x9 then(if x9< (x7.length:Int) then(if (rd x7 x9)=x1 then(some true) else(laws_has.l0 k x1 x7 x8 (wrap64 (x9+1)))) else(none)) else(none)) else(some false)
def laws_has.f (k:Nat) (l0:List Int) (a1:Int):Option (Bool):=laws_has.l0 k a1 l0 (l0.length:Int) 0
set_option maxHeartbeats 8000000 in
set_option maxRecDepth 100000 in
theorem laws_has.calls (k:Nat) (A0:Option Addr) (c0:Nat) (l0:List Int) (a1:Int) (r:Bool) (w:World) (hr0:Kd.C (Kd.int .i64) w A0 l0.length l0) (hc0:l0.length≤c0) (h:laws_has.f k l0 a1=some r):
  Calls Try.prog 43 #[.slice A0 l0.length c0,.int .i64 a1] w fun e w'=>e= .returned (.bool r)∧Drawn0 w w':=by
 have HR0:=Aside0.mk hr0
 have HC0:=Aside0.mk hc0
 clear hr0 hc0
 have H:(laws_has.l0 k a1 l0 (l0.length:Int) 0)=some r:=h
 clear h
 have H':=Aside0.mk H
 clear H
 go_enter Try.func43,Try.ntmps43
 go_wp2
 go_loopg [9] k (fun kq v9 w'=> ∃ (x9_1:Int),v9= .int .i64 x9_1∧Aside0 (laws_has.l0 kq a1 l0 (l0.length:Int) x9_1=some r)∧Aside0 (kq≤k)∧Drawn0 w w')
 case atStart=>exact⟨(0),(by first|rfl|(simp;done)|(simp [*];done)),H',⟨Nat.le_refl _⟩,by repeat(first|exact Drawn0.refl _|apply Drawn0.step)⟩
 case round=>
  clear H'
  try clear p2
  obtain⟨x9_1,rfl,HA,HK1,⟨m1,rfl⟩⟩:=hrel
  cases gk with
  |zero=>exact absurd HA.out (by simp [laws_has.l0])
  |succ k1=>
   have H:=HA.out
   clear HA
   simp only [laws_has.l0] at H
   by_cases c3:x9_1< (l0.length:Int)
   ·rw [if_pos c3] at H
    have c3b0:decide (x9_1< (l0.length:Int))=true:=decide_eq_true c3
    clear c3
    by_cases c4: 0≤x9_1
    ·rw [if_pos c4] at H
     have c4b0:decide (0≤x9_1)=true:=decide_eq_true c4
     clear c4
     by_cases c5:x9_1< (l0.length:Int)
     ·rw [if_pos c5] at H
      have c5b0:decide (x9_1< (l0.length:Int))=true:=decide_eq_true c5
      clear c5
      by_cases c6:(rd l0 x9_1)=a1
      ·rw [if_pos c6] at H
       have c6b0:((rd l0 x9_1)==a1)=true:=beq_iff_eq.mpr c6
       have c6b1:((rd l0 x9_1) !=a1)=false:=bne_eq_false_iff_eq.mpr c6
       clear c6
       obtain rfl:=Option.some.inj H
       have p878: 0≤ (x9_1:Int):=of_decide_eq_true zq1
       have q878:x9_1< (l0.length:Int):=of_decide_eq_true zq1
       obtain⟨ad878,e878,hx878_0⟩:=Kd.at_int HR0.out x9_1 p878 q878
       cases e878
       replace p878:=eq_true p878
       replace q878:=eq_true q878
       go_wp2
       go_ret
       exact⟨by first|rfl|(simp;done)|(simp [*];done),by repeat(first|exact Drawn0.refl _|apply Drawn0.step)⟩
      ·rw [if_neg c6] at H
       have c6b0:((rd l0 x9_1)==a1)=false:=beq_eq_false_iff_ne.mpr c6
       have c6b1:((rd l0 x9_1) !=a1)=true:=bne_iff_ne.mpr c6
       have H':=Aside0.mk H
       clear H
       have p878: 0≤ (x9_1:Int):=of_decide_eq_true zq1
       have q878:x9_1< (l0.length:Int):=of_decide_eq_true zq1
       obtain⟨ad878,e878,hx878_0⟩:=Kd.at_int HR0.out x9_1 p878 q878
       cases e878
       replace p878:=eq_true p878
       replace q878:=eq_true q878
       go_wp2
       go_roundg k1
       case measure=>have:=HK1.out;omega
       case rel=>exact⟨(wrap64 (x9_1+1)),(by first|rfl|(simp;done)|(simp [*];done)),H',⟨by have:=HK1.out;omega⟩,by repeat(first|exact Drawn0.refl _|apply Drawn0.step)⟩
     ·rw [if_neg c5] at H
      exact absurd H (by simp)
    ·rw [if_neg c4] at H
     exact absurd H (by simp)
   ·rw [if_neg c3] at H
    have c3b0:decide (x9_1< (l0.length:Int))=false:=decide_eq_false c3
    clear c3
    obtain rfl:=Option.some.inj H
    go_wp2
    go_ret
    exact⟨by first|rfl|(simp;done)|(simp [*];done),by repeat(first|exact Drawn0.refl _|apply Drawn0.step)⟩
end Go.Proofs.Ytklecgkjoofipaa.P
