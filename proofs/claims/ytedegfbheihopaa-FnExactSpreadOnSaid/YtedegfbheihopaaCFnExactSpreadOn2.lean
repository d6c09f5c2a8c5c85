/- Functions, walks and plain lemmas that the law FnExactSpreadOn reaches, part 2. -/
import Derived.Test.YtedegfbheihopaaCFnExactSpreadOn1
import Derived.Below
import Derived.Deep.Draws
import Derived.Deep.AppendLies
import Derived.Maps.AppendAt
import Derived.OwnWalk
import Derived.Laws.BytesArg
import Derived.Laws.MakeOwn
import Derived.Laws.OwnMore
import Derived.Deep.OwnRows
import Derived.Tactics
import Derived.Lib.ConvBytes
import Derived.Laws.Slices
import Derived.WalkKit
import Derived.KernelRfl
import Derived.RowKit3
import Derived.Deep.LoopGhost
import Derived.Deep.QuietTactic
import Derived.BigQuiet
import Derived.WideLaws
import Derived.Deep.DeepCutAuto
import Derived.Deep.CutBlock
import Derived.Deep.RegionHeld3
import Derived.Laws.Rows
import Derived.Lib.AppendStr
import Derived.ArgAppend
import Derived.Laws.IdiomCopy
import Derived.OrdersHeld
import Derived.Laws.BitsLemmas
import Derived.RowKit
import Derived.WalkSpells
import Derived.Lib.SliceRun
import Derived.Shelf.Abstract
import Derived.ProofKit
import Derived.OpenShut
import Derived.ShutString
import Derived.ChangeOld
import Derived.SizedLaws
namespace Go.Proofs.Ytedegfbheihopaa.P
open Go.RowKit Go.Proofs.YtedegfbheihopaaW.PrintWords Go.Proofs.YtedegfbheihopaaW.PrintLast Go.Proofs.YtedegfbheihopaaW.PrintMore
attribute [local go_sem] max2_int min2_int max_two min_two max_three min_three max_four min_four   -- for this text's walks alone
set_option linter.unusedVariables false
set_option linter.unusedSimpArgs false
def laws_markHopS.l0:Nat→List (S61)→Int→Int→Option (Int × (List (S61)))
 | 0,_,_,_=>none
 |k+1,x0,x1,x5=>if x5< (x0.length:Int) then(if 0≤x5 then((some (x0.set (x5:Int).toNat (⟨x1,(rd_T61 x0 x5).f1⟩ :S61):List (S61))).bind fun y385=>(laws_markHopS.l0 k (y385.set (x5:Int).toNat (⟨(rd_T61 y385 x5).f0,wrap64 (x1+1)⟩ :S61)) (wrap64 ((wrap64 (x1+1))+1)) (wrap64 (x5+1)))) else(none)) else(some (x1,x0))
def laws_markHopS.f (k:Nat) (l0:List (S61)) (a1:Int):Option (Int × (List (S61))):=laws_markHopS.l0 k l0 a1 0
set_option maxHeartbeats 8000000 in
set_option maxRecDepth 100000 in
theorem laws_markHopS.calls (k:Nat) (P0_:Nat→Prop) (u9000_:Value) (l0:List (S61)) (a1:Int) (r1:Int) (r2:List (S61)) (w0 w:World) (hB:Below w0.heap.size w0 w) (ho0:Kd.R k61 61 w w0.heap.size P0_ u9000_ l0) (h:laws_markHopS.f k l0 a1=some (r1,r2)):
  Calls Try.prog 31 #[u9000_,.int .i64 a1] w fun e w'=>e= .returned (.int .i64 r1)∧Kd.R k61 61 w' w0.heap.size (fun k_=>(P0_ k_∨w.heap.size≤k_)) u9000_ r2∧Below w0.heap.size w0 w'∧Kept w w' (fun k_=>P0_ k_):=by
 have HO0:=Aside0.mk (show Kd.R k61 61 w w0.heap.size (fun k_=>(P0_ k_∨w.heap.size≤k_)) u9000_ l0 from Kd.R_mono ho0 (fun k_ hk=>(.inl hk)))
 have HK:=Aside0.mk (Kept.refl w (fun k_=>P0_ k_))
 have HW0:=Aside0.mk hB.size
 have HB:=Aside0.mk hB
 clear hB
 have H:(laws_markHopS.l0 k l0 a1 0)=some (r1,r2):=h
 clear h
 have H':=Aside0.mk H
 clear H
 go_enter Try.func31,Try.ntmps31
 go_wp2
 go_loopg [1,5] k (fun kq v1 v5 w'=> ∃ (x0_1:List (S61)) (x1_1:Int) (x5_1:Int),v1= .int .i64 x1_1∧v5= .int .i64 x5_1∧Aside0 (laws_markHopS.l0 kq x0_1 x1_1 x5_1=some (r1,r2))∧Aside0 (kq≤k)∧Aside0 (Kd.R k61 61 w' w0.heap.size (fun k_=>(P0_ k_∨w.heap.size≤k_)) u9000_ x0_1)∧Aside0 (Kept w w' (fun k_=>P0_ k_))∧Aside0 (Below w0.heap.size w0 w'))
 case atStart=>exact⟨(l0),(a1),(0),(by first|rfl|(simp;done)|(simp [*];done)),(by first|rfl|(simp;done)|(simp [*];done)),H',⟨Nat.le_refl _⟩,⟨by(with_reducible repeat(first|apply Kd.R_alloc|apply Kd.R_drewN|apply Kd.R_drew));exact HO0.out⟩,⟨by repeat(first|(with_reducible first|exact HK.out|apply Kept.alloc|apply Kept.drewN|apply Kept.drew)|exact HK.out)⟩,⟨by repeat(first|(with_reducible first|exact HB.out|apply below_alloc|apply pw_below_drewN|apply below_drew1)|exact HB.out)⟩⟩
 case round=>
  clear H'
  try clear p2
  obtain⟨x0_1,x1_1,x5_1,rfl,rfl,HA,HK1,HO_0,HK,HB⟩:=hrel
  cases gk with
  |zero=>exact absurd HA.out (by simp [laws_markHopS.l0])
  |succ k1=>
   have H:=HA.out
   clear HA
   simp only [laws_markHopS.l0] at H
   by_cases c3:x5_1< (x0_1.length:Int)
   ·rw [if_pos c3] at H
    have c3b0:decide (x5_1< (x0_1.length:Int))=true:=decide_eq_true c3
    clear c3
    by_cases c4: 0≤x5_1
    ·rw [if_pos c4] at H
     have c4b0:decide (0≤x5_1)=true:=decide_eq_true c4
     clear c4
     obtain⟨y385,hy385⟩ :∃ y_:List (S61),y_= (x0_1.set (x5_1:Int).toNat (⟨x1_1,(rd_T61 x0_1 x5_1).f1⟩ :S61)):=⟨_,rfl⟩
     replace H:(laws_markHopS.l0 k1 (y385.set (x5_1:Int).toNat (⟨(rd_T61 y385 x5_1).f0,wrap64 (x1_1+1)⟩ :S61)) (wrap64 ((wrap64 (x1_1+1))+1)) (wrap64 (x5_1+1)))=some (r1,r2):=by first|(rw [hy385];with_reducible exact H)|(have H2_:=(Option.bind_some _ _).symm.trans H;rw [hy385];with_reducible exact H2_)|(have H2_:=(Option.bind_some _ _).symm.trans H;with_reducible exact H2_)|with_reducible exact H|(rw [hy385];exact H)|exact H
     have Ny385:=Aside0.mk hy385
     clear hy385
     obtain⟨y386,hy386⟩ :∃ y_:List (S61),y_= (y385.set (x5_1:Int).toNat (⟨(rd_T61 y385 x5_1).f0,wrap64 (x1_1+1)⟩ :S61)):=⟨_,rfl⟩
     replace H:(laws_markHopS.l0 k1 y386 (wrap64 ((wrap64 (x1_1+1))+1)) (wrap64 (x5_1+1)))=some (r1,r2):=by first|(rw [hy386];with_reducible exact H)|(have H2_:=(Option.bind_some _ _).symm.trans H;rw [hy386];with_reducible exact H2_)|(have H2_:=(Option.bind_some _ _).symm.trans H;with_reducible exact H2_)|with_reducible exact H|(rw [hy386];exact H)|exact H
     have Ny386:=Aside0.mk hy386
     clear hy386
     have H':=Aside0.mk H
     clear H
     obtain⟨Ao7,co7,eo7⟩:=Kd.R_slice HO_0.out
     subst eo7
     have p5: 0≤ (x5_1:Int):=of_decide_eq_true zq1
     have q5:(x5_1:Int)< ((x0_1.length:Int):Int):=of_decide_eq_true zq1
     obtain⟨go5,co5,eo5,gb5,gl5,cl5,HG5⟩:=Kd.R_form HO_0.out (by omega)
     (first|cases eo5|(injection eo5 with ea_ en_ ec_;(first|subst ea_|(injection ea_ with ea_;subst ea_));subst ec_;clear en_))
     have GB5:=Aside0.mk gb5
     have GG5:=Aside0.mk HG5
     clear gb5 gl5 HG5
     have HMgo5:=Aside0.mk (show (P0_ go5∨w.heap.size≤go5) from (HO_0.out.1 _ rfl))
     obtain⟨ce5,hcl5,hM5,hcc5,hfr5⟩:=Kd.R_elem HO_0.out z61 (x5_1:Int) p5 q5
     obtain rfl:=k61_openM hM5
     have hx5_0:wr.cell? ⟨go5,(x5_1:Int).toNat * 2,none⟩=some (.int .i64 ((rd_T61 x0_1 x5_1).f0)):=hcc5 0 _ rfl
     have hx5_1:wr.cell? ⟨go5,(x5_1:Int).toNat * 2+1,none⟩=some (.int .i64 ((rd_T61 x0_1 x5_1).f1)):=hcc5 1 _ rfl
     have hf5_0:wr.frozen? ⟨go5,(x5_1:Int).toNat * 2,none⟩=false:=hfr5 0
     have hf5_1:wr.frozen? ⟨go5,(x5_1:Int).toNat * 2+1,none⟩=false:=hfr5 1
     clear hcl5 hcc5 hfr5 hM5
     replace p5:=eq_true p5
     replace q5:=eq_true q5
     have HX8:=Aside0.mk (show Kd.R k61 61 wr w0.heap.size (fun k_=>(P0_ k_∨w.heap.size≤k_)) (.slice (some ⟨go5,0,none⟩) x0_1.length co7) x0_1 from (zq4 HO_0))
     obtain⟨ce8,hcl8,hM8,hcc8,hfr8⟩:=Kd.R_elem HX8.out z61 (x5_1:Int) (of_decide_eq_true zq1) (by have h_:(x5_1:Int)< ((x0_1.length:Int):Int):=of_decide_eq_true zq1;first|exact h_|(have e_:=(Kd.R_reads' HO_0.out).1;omega)|simpa using h_)
     obtain rfl:=k61_openM hM8
     have HP8:=Kd.R_seg HX8.out (x5_1:Int) (of_decide_eq_true zq1) (by have h_:(x5_1:Int)< ((x0_1.length:Int):Int):=of_decide_eq_true zq1;first|exact h_|(have e_:=(Kd.R_reads' HO_0.out).1;omega)|simpa using h_) (seg:= [.int .i64 x1_1]) (j:=0) hcl8 hcc8 (show 1≤2 from by decide) (x':=(⟨x1_1,(rd_T61 x0_1 x5_1).f1⟩ :S61)) (k61_mkM _ _ _ (⟨x1_1,(rd_T61 x0_1 x5_1).f1⟩ :S61) ) (fun _ hk=>hk)
     have hx8_0:=hcc8 0 _ rfl
     (try simp only [show (k61).sz=2 from rfl,Nat.mul_one,Nat.add_zero] at hx8_0)
     have hf8_0:=hfr8 0
     (try simp only [show (k61).sz=2 from rfl,Nat.mul_one,Nat.add_zero] at hf8_0)
     clear hcl8 hcc8 hfr8 hM8
     go_wp2_with (first|((with_reducible refine gate_store (t:=3) (p:=16) rfl ?_);refine store_event (t:=3) (p:=16) (v:=?vo_w9) (w1:=(wr.setCell ⟨go5,(x5_1:Int).toNat * 2,none⟩ (.int .i64 x1_1))) ?hg ?ho ?hn ?hr ?_;(case ho=>rfl);(case hg=>rfl);(case hn=>rfl);(case hr=>first|(go_simp;done)|(go_simp;rfl));intro w9 hw;have hg:wr.grownBy w9 (some go5):=(by rw [hw];exact HP8.2);have hp_:Kd.R k61 61 w9 w0.heap.size (fun k_=>(P0_ k_∨w.heap.size≤k_)) (.slice (some ⟨go5,0,none⟩) x0_1.length co7) y385:=(by rw [hw,Ny385.out];exact HP8.1);clear HP8;have n0_:=Aside0.mk (hp_);have n1_:=Aside0.mk ((by rw [hw];exact below_set (HB.out) GB5.out:Below w0.heap.size w0 w9));have n2_:=Aside0.mk (Kept.of_grown (S:=(fun k_=>P0_ k_)) hg (by repeat(first|(with_reducible first|exact HK.out|apply Kept.alloc|apply Kept.drewN|apply Kept.drew)|exact HK.out)) (fun k_ e_=>(HO_0.out.1 k_ e_)));clear HO_0;clear HB;clear HK;have HO_0:=n0_;have HB:=n1_;have HK:=n2_;clear n0_ n1_ n2_;clear hg hw hp_;have p6: 0≤ (x5_1:Int):=of_decide_eq_true zq1;have q6:(x5_1:Int)< ((x0_1.length:Int):Int):=of_decide_eq_true zq1;obtain⟨ce6,hcl6,hM6,hcc6,hfr6⟩:=Kd.R_elem HO_0.out z61 (x5_1:Int) p6 q6;obtain rfl:=k61_openM hM6;have hx6_0:w9.cell? ⟨go5,(x5_1:Int).toNat * 2,none⟩=some (.int .i64 ((rd_T61 y385 x5_1).f0)):=hcc6 0 _ rfl;have hx6_1:w9.cell? ⟨go5,(x5_1:Int).toNat * 2+1,none⟩=some (.int .i64 ((rd_T61 y385 x5_1).f1)):=hcc6 1 _ rfl;have hf6_0:w9.frozen? ⟨go5,(x5_1:Int).toNat * 2,none⟩=false:=hfr6 0;have hf6_1:w9.frozen? ⟨go5,(x5_1:Int).toNat * 2+1,none⟩=false:=hfr6 1;clear hcl6 hcc6 hfr6 hM6;replace p6:=eq_true p6;replace q6:=eq_true q6;have HX10:=Aside0.mk (show Kd.R k61 61 w9 w0.heap.size (fun k_=>(P0_ k_∨w.heap.size≤k_)) (.slice (some ⟨go5,0,none⟩) x0_1.length co7) y385 from (zq4 HO_0));obtain⟨ce10,hcl10,hM10,hcc10,hfr10⟩:=Kd.R_elem HX10.out z61 (x5_1:Int) (of_decide_eq_true zq1) (by have h_:(x5_1:Int)< ((x0_1.length:Int):Int):=of_decide_eq_true zq1;first|exact h_|(have e_:=(Kd.R_reads' HO_0.out).1;omega)|simpa using h_);obtain rfl:=k61_openM hM10;have HP10:=Kd.R_seg HX10.out (x5_1:Int) (of_decide_eq_true zq1) (by have h_:(x5_1:Int)< ((x0_1.length:Int):Int):=of_decide_eq_true zq1;first|exact h_|(have e_:=(Kd.R_reads' HO_0.out).1;omega)|simpa using h_) (seg:= [.int .i64 (wrap64 (x1_1+1))]) (j:=1) hcl10 hcc10 (show 2≤2 from by decide) (x':=(⟨(rd_T61 y385 x5_1).f0,wrap64 (x1_1+1)⟩ :S61)) (k61_mkM _ _ _ (⟨(rd_T61 y385 x5_1).f0,wrap64 (x1_1+1)⟩ :S61) ) (fun _ hk=>hk);have hx10_1:=hcc10 1 _ rfl;(try simp only [show (k61).sz=2 from rfl,Nat.mul_one,Nat.add_zero] at hx10_1);have hf10_1:=hfr10 1;(try simp only [show (k61).sz=2 from rfl,Nat.mul_one,Nat.add_zero] at hf10_1);clear hcl10 hcc10 hfr10 hM10)|((with_reducible refine gate_store (t:=3) (p:=23) rfl ?_);refine store_event (t:=3) (p:=23) (v:=?vo_w11) (w1:=(w9.setCell ⟨go5,(x5_1:Int).toNat * 2+1,none⟩ (.int .i64 (wrap64 (x1_1+1))))) ?hg ?ho ?hn ?hr ?_;(case ho=>rfl);(case hg=>rfl);(case hn=>rfl);(case hr=>first|(go_simp;done)|(go_simp;rfl));intro w11 hw;have hg:w9.grownBy w11 (some go5):=(by rw [hw];exact HP10.2);have hp_:Kd.R k61 61 w11 w0.heap.size (fun k_=>(P0_ k_∨w.heap.size≤k_)) (.slice (some ⟨go5,0,none⟩) x0_1.length co7) y386:=(by rw [hw,Ny386.out];exact HP10.1);clear HP10;have n0_:=Aside0.mk (hp_);have n1_:=Aside0.mk ((by rw [hw];exact below_set (HB.out) GB5.out:Below w0.heap.size w0 w11));have n2_:=Aside0.mk (Kept.of_grown (S:=(fun k_=>P0_ k_)) hg (by repeat(first|(with_reducible first|exact HK.out|apply Kept.alloc|apply Kept.drewN|apply Kept.drew)|exact HK.out)) (fun k_ e_=>(HO_0.out.1 k_ e_)));clear HO_0;clear HB;clear HK;have HO_0:=n0_;have HB:=n1_;have HK:=n2_;clear n0_ n1_ n2_;clear hg hw hp_))
     go_roundg k1
     case measure=>have:=HK1.out;omega
     case rel=>exact⟨(y386),(wrap64 ((wrap64 (x1_1+1))+1)),(wrap64 (x5_1+1)),(by first|rfl|(simp;done)|(simp [*];done)),(by first|rfl|(simp;done)|(simp [*];done)),H',⟨by have:=HK1.out;omega⟩,⟨by(with_reducible repeat(first|apply Kd.R_alloc|apply Kd.R_drewN|apply Kd.R_drew));exact HO_0.out⟩,⟨by repeat(first|(with_reducible first|exact HK.out|apply Kept.alloc|apply Kept.drewN|apply Kept.drew)|exact HK.out)⟩,⟨by repeat(first|(with_reducible first|exact HB.out|apply below_alloc|apply pw_below_drewN|apply below_drew1)|exact HB.out)⟩⟩
    ·rw [if_neg c4] at H
     exact absurd H (by simp)
   ·rw [if_neg c3] at H
    have c3b0:decide (x5_1< (x0_1.length:Int))=false:=decide_eq_false c3
    clear c3
    simp only [Option.some.injEq,Prod.mk.injEq] at H
    obtain⟨rfl,rfl⟩:=H
    obtain⟨Ao12,co12,eo12⟩:=Kd.R_slice HO_0.out
    subst eo12
    go_wp2
    go_ret
    exact⟨by first|rfl|(simp [errW_none,errW_some]<;>rfl)|(simp [*,errW_none,errW_some]<;>rfl),by(with_reducible repeat(first|apply Kd.R_alloc|apply Kd.R_drewN|apply Kd.R_drew));exact HO_0.out,by repeat(first|(with_reducible first|exact HB.out|apply below_alloc|apply pw_below_drewN|apply below_drew1)|exact HB.out),by repeat(first|(with_reducible first|exact HK.out|apply Kept.alloc|apply Kept.drewN|apply Kept.drew)|exact HK.out)⟩
def laws_heldHopS.l0:Nat→List (S61)→Int→Int→Option (Int)
 | 0,_,_,_=>none
 |k+1,x0,x1,x5=>if x5< (x0.length:Int) then(if 0≤x5 then(if ((rd_T61 x0 x5).f0)=x1 then(if ((rd_T61 x0 x5).f1)= (wrap64 (x1+1)) then(laws_heldHopS.l0 k x0 (wrap64 ((wrap64 (x1+1))+1)) (wrap64 (x5+1))) else(some (-1))) else(some (-1))) else(none)) else(some x1)
def laws_heldHopS.f (k:Nat) (l0:List (S61)) (a1:Int):Option (Int):=laws_heldHopS.l0 k l0 a1 0
set_option maxHeartbeats 8000000 in
set_option maxRecDepth 100000 in
theorem laws_heldHopS.calls (k:Nat) (A0:Option Addr) (c0:Nat) (l0:List (S61)) (a1:Int) (r:Int) (w:World) (hr0:Kd.C k61 w A0 l0.length l0) (hc0:l0.length≤c0) (h:laws_heldHopS.f k l0 a1=some r):
  Calls Try.prog 32 #[.slice A0 l0.length c0,.int .i64 a1] w fun e w'=>e= .returned (.int .i64 r)∧Drawn0 w w':=by
 have HR0:=Aside0.mk hr0
 have HC0:=Aside0.mk hc0
 clear hr0 hc0
 have H:(laws_heldHopS.l0 k l0 a1 0)=some r:=h
 clear h
 have H':=Aside0.mk H
 clear H
 go_enter Try.func32,Try.ntmps32
 go_wp2
 go_loopg [1,5] k (fun kq v1 v5 w'=> ∃ (x1_1:Int) (x5_1:Int),v1= .int .i64 x1_1∧v5= .int .i64 x5_1∧Aside0 (laws_heldHopS.l0 kq l0 x1_1 x5_1=some r)∧Aside0 (kq≤k)∧Drawn0 w w')
 case atStart=>exact⟨(a1),(0),(by first|rfl|(simp;done)|(simp [*];done)),(by first|rfl|(simp;done)|(simp [*];done)),H',⟨Nat.le_refl _⟩,by repeat(first|exact Drawn0.refl _|apply Drawn0.step)⟩
 case round=>
  clear H'
  try clear p2
  obtain⟨x1_1,x5_1,rfl,rfl,HA,HK1,⟨m1,rfl⟩⟩:=hrel
  cases gk with
  |zero=>exact absurd HA.out (by simp [laws_heldHopS.l0])
  |succ k1=>
   have H:=HA.out
   clear HA
   simp only [laws_heldHopS.l0] at H
   by_cases c3:x5_1< (l0.length:Int)
   ·rw [if_pos c3] at H
    have c3b0:decide (x5_1< (l0.length:Int))=true:=decide_eq_true c3
    clear c3
    by_cases c4: 0≤x5_1
    ·rw [if_pos c4] at H
     have c4b0:decide (0≤x5_1)=true:=decide_eq_true c4
     clear c4
     by_cases c5:((rd_T61 l0 x5_1).f0)=x1_1
     ·rw [if_pos c5] at H
      have c5b0:(((rd_T61 l0 x5_1).f0)==x1_1)=true:=beq_iff_eq.mpr c5
      have c5b1:(((rd_T61 l0 x5_1).f0) !=x1_1)=false:=bne_eq_false_iff_eq.mpr c5
      clear c5
      by_cases c6:((rd_T61 l0 x5_1).f1)= (wrap64 (x1_1+1))
      ·rw [if_pos c6] at H
       have c6b0:(((rd_T61 l0 x5_1).f1)== (wrap64 (x1_1+1)))=true:=beq_iff_eq.mpr c6
       have c6b1:(((rd_T61 l0 x5_1).f1) != (wrap64 (x1_1+1)))=false:=bne_eq_false_iff_eq.mpr c6
       clear c6
       have H':=Aside0.mk H
       clear H
       have p387: 0≤ (x5_1:Int):=of_decide_eq_true zq1
       have q387:x5_1< (l0.length:Int):=of_decide_eq_true zq1
       obtain⟨ad387,e387,hx387_0,hx387_1⟩:=at_T61 HR0.out x5_1 p387 q387
       cases e387
       replace p387:=eq_true p387
       replace q387:=eq_true q387
       have p388: 0≤ (x5_1:Int):=of_decide_eq_true zq1
       have q388:x5_1< (l0.length:Int):=of_decide_eq_true zq1
       obtain⟨ad388,e388,hx388_0,hx388_1⟩:=at_T61 HR0.out x5_1 p388 q388
       obtain rfl:ad387=ad388:=(by injection e388)
       replace p388:=eq_true p388
       replace q388:=eq_true q388
       go_wp2
       go_roundg k1
       case measure=>have:=HK1.out;omega
       case rel=>exact⟨(wrap64 ((wrap64 (x1_1+1))+1)),(wrap64 (x5_1+1)),(by first|rfl|(simp;done)|(simp [*];done)),(by first|rfl|(simp;done)|(simp [*];done)),H',⟨by have:=HK1.out;omega⟩,by repeat(first|exact Drawn0.refl _|apply Drawn0.step)⟩
      ·rw [if_neg c6] at H
       have c6b0:(((rd_T61 l0 x5_1).f1)== (wrap64 (x1_1+1)))=false:=beq_eq_false_iff_ne.mpr c6
       have c6b1:(((rd_T61 l0 x5_1).f1) != (wrap64 (x1_1+1)))=true:=bne_iff_ne.mpr c6
       obtain rfl:=Option.some.inj H
       have p387: 0≤ (x5_1:Int):=of_decide_eq_true zq1
       have q387:x5_1< (l0.length:Int):=of_decide_eq_true zq1
       obtain⟨ad387,e387,hx387_0,hx387_1⟩:=at_T61 HR0.out x5_1 p387 q387
       cases e387
       replace p387:=eq_true p387
       replace q387:=eq_true q387
       have p388: 0≤ (x5_1:Int):=of_decide_eq_true zq1
       have q388:x5_1< (l0.length:Int):=of_decide_eq_true zq1
       obtain⟨ad388,e388,hx388_0,hx388_1⟩:=at_T61 HR0.out x5_1 p388 q388
       obtain rfl:ad387=ad388:=(by injection e388)
       replace p388:=eq_true p388
       replace q388:=eq_true q388
       go_wp2
       go_ret
       exact⟨by first|rfl|(simp;done)|(simp [*];done),by repeat(first|exact Drawn0.refl _|apply Drawn0.step)⟩
     ·rw [if_neg c5] at H
      have c5b0:(((rd_T61 l0 x5_1).f0)==x1_1)=false:=beq_eq_false_iff_ne.mpr c5
      have c5b1:(((rd_T61 l0 x5_1).f0) !=x1_1)=true:=bne_iff_ne.mpr c5
      obtain rfl:=Option.some.inj H
      have p387: 0≤ (x5_1:Int):=of_decide_eq_true zq1
      have q387:x5_1< (l0.length:Int):=of_decide_eq_true zq1
      obtain⟨ad387,e387,hx387_0,hx387_1⟩:=at_T61 HR0.out x5_1 p387 q387
      cases e387
      replace p387:=eq_true p387
      replace q387:=eq_true q387
      go_wp2
      go_ret
      exact⟨by first|rfl|(simp;done)|(simp [*];done),by repeat(first|exact Drawn0.refl _|apply Drawn0.step)⟩
    ·rw [if_neg c4] at H
     exact absurd H (by simp)
   ·rw [if_neg c3] at H
    have c3b0:decide (x5_1< (l0.length:Int))=false:=decide_eq_false c3
    clear c3
    obtain rfl:=Option.some.inj H
    go_wp2
    go_ret
    exact⟨by first|rfl|(simp;done)|(simp [*];done),by repeat(first|exact Drawn0.refl _|apply Drawn0.step)⟩
end Go.Proofs.Ytedegfbheihopaa.P

namespace Go.Proofs.Ytedegfbheihopaa.P
open Go.RowKit Go.Proofs.YtedegfbheihopaaW.PrintWords Go.Proofs.YtedegfbheihopaaW.PrintLast Go.Proofs.YtedegfbheihopaaW.PrintMore
attribute [local go_sem] max2_int min2_int max_two min_two max_three min_three max_four min_four   -- for this text's walks alone
set_option linter.unusedVariables false
set_option linter.unusedSimpArgs false
mutual
def laws_FnExactSpreadOn.j0:Nat→List Int→Int→List (S61)→Bool→List Int→List (S61)→Bool→Bool→Option (Bool)
 | 0,_,_,_,_,_,_,_,_=>none
 |k+1,x0,x1,x5,x6,x7,x8,x9,x41=>if x41=true then(some false) else((laws_toIntS.f k x0).bind fun t404=>((laws_eqIntS.f k x7 t404).bind fun t407=>(if t407=true then((laws_markIntS.f k x7 1).bind fun bt408=>(if bt408.1< 0 then(laws_FnExactSpreadOn.j1 k x0 x1 x5 x6 x8 true) else((laws_eqHopS.f k x8 x5).bind fun t410=>(if t410=true then(laws_FnExactSpreadOn.j1 k x0 x1 x5 x6 x8 (x9 !=x6)) else(laws_FnExactSpreadOn.j1 k x0 x1 x5 x6 x8 true))))) else(some false))))
def laws_FnExactSpreadOn.j1:Nat→List Int→Int→List (S61)→Bool→List (S61)→Bool→Option (Bool)
 | 0,_,_,_,_,_,_=>none
 |k+1,x0,x1,x5,x6,x8,x62=>if x62=true then(some false) else((laws_markHopS.f k x8 1).bind fun bt411=>((laws_heldHopS.f k bt411.2 1).bind fun t413=>(if t413< 0 then(some false) else(if t413=bt411.1 then((laws_toIntS.f k x0).bind fun t414=>((impl_SpreadOn.f k t414 x1).bind fun bt417=>((laws_eqHopS.f k bt417.1 x5).bind fun t421=>(if t421=true then(laws_FnExactSpreadOn.j2 k bt411.2 bt411.1 (bt417.2 !=x6)) else(laws_FnExactSpreadOn.j2 k bt411.2 bt411.1 true))))) else(some false)))))
def laws_FnExactSpreadOn.j2:Nat→List (S61)→Int→Bool→Option (Bool)
 | 0,_,_,_=>none
 |k+1,x8,x11,x89=>if x89=true then(some false) else((laws_heldHopS.f k x8 1).bind fun t422=>(if t422< 0 then(some false) else(if t422=x11 then(some true) else(some false))))
end
def laws_FnExactSpreadOn.f (k:Nat) (l0:List Int) (a1:Int):Option (Bool):=if (l0.length:Int) > 1048576 then(some true) else((laws_toIntS.f k l0).bind fun t389=>((spec_SpreadOn.f k t389 a1).bind fun bt392=>((laws_toIntS.f k l0).bind fun t396=>((impl_SpreadOn.f k t396 a1).bind fun bt399=>((laws_eqHopS.f k bt399.1 bt392.1).bind fun t403=>(if t403=true then(laws_FnExactSpreadOn.j0 k l0 a1 bt392.1 bt392.2 t396 bt399.1 bt399.2 (bt399.2 !=bt392.2)) else(laws_FnExactSpreadOn.j0 k l0 a1 bt392.1 bt392.2 t396 bt399.1 bt399.2 true)))))))
set_option maxHeartbeats 8000000 in
set_option maxRecDepth 100000 in
theorem laws_FnExactSpreadOn.calls (k:Nat) (A0:Option Addr) (c0:Nat) (l0:List Int) (a1:Int) (r:Bool) (w:World) (hr0:Kd.C (Kd.int .i64) w A0 l0.length l0) (hc0:l0.length≤c0) (h:laws_FnExactSpreadOn.f k l0 a1=some r):
  Calls Try.prog 7 #[.slice A0 l0.length c0,.int .i64 a1] w fun e w'=>e= .returned (.bool r)∧Below w.heap.size w w':=by
 have HR0:=Aside0.mk hr0
 have HC0:=Aside0.mk hc0
 clear hr0 hc0
 have HB:=Aside0.mk (Below.refl w.heap.size w)
 have H:(if (l0.length:Int) > 1048576 then(some true) else((laws_toIntS.f k l0).bind fun t389=>((spec_SpreadOn.f k t389 a1).bind fun bt392=>((laws_toIntS.f k l0).bind fun t396=>((impl_SpreadOn.f k t396 a1).bind fun bt399=>((laws_eqHopS.f k bt399.1 bt392.1).bind fun t403=>(if t403=true then(laws_FnExactSpreadOn.j0 k l0 a1 bt392.1 bt392.2 t396 bt399.1 bt399.2 (bt399.2 !=bt392.2)) else(laws_FnExactSpreadOn.j0 k l0 a1 bt392.1 bt392.2 t396 bt399.1 bt399.2 true))))))))=some r:=h
 clear h
 by_cases c3:(l0.length:Int) > 1048576
 ·rw [if_pos c3] at H
  have c3b0:decide (1048576< (l0.length:Int))=true:=decide_eq_true c3
  have c3b1:decide (1048576<l0.length)=true:=decide_eq_true (by omega)
  clear c3
  obtain rfl:=Option.some.inj H
  go_enter Try.func7,Try.ntmps7
  go_wp2
  go_ret
  exact⟨by first|rfl|(simp [errW_none,errW_some]<;>rfl)|(simp [*,errW_none,errW_some]<;>rfl),by repeat(first|(with_reducible first|exact HB.out|apply below_alloc|apply pw_below_drewN|apply below_drew1)|exact HB.out)⟩
 ·rw [if_neg c3] at H
  have c3b0:decide (1048576< (l0.length:Int))=false:=decide_eq_false c3
  have c3b1:decide (1048576<l0.length)=false:=decide_eq_false (by omega)
  clear c3
  replace H:=Option.bind_eq_some_iff.mp H
  obtain⟨t389,A40,H⟩:=H
  replace H:((spec_SpreadOn.f k t389 a1).bind fun bt392=>((laws_toIntS.f k l0).bind fun t396=>((impl_SpreadOn.f k t396 a1).bind fun bt399=>((laws_eqHopS.f k bt399.1 bt392.1).bind fun t403=>(if t403=true then(laws_FnExactSpreadOn.j0 k l0 a1 bt392.1 bt392.2 t396 bt399.1 bt399.2 (bt399.2 !=bt392.2)) else(laws_FnExactSpreadOn.j0 k l0 a1 bt392.1 bt392.2 t396 bt399.1 bt399.2 true))))))=some r:=H
  have A4:=Aside0.mk A40
  clear A40
  replace H:=Option.bind_eq_some_iff.mp H
  obtain⟨⟨t392,t393⟩,A50,H⟩:=H
  replace H:((laws_toIntS.f k l0).bind fun t396=>((impl_SpreadOn.f k t396 a1).bind fun bt399=>((laws_eqHopS.f k bt399.1 t392).bind fun t403=>(if t403=true then(laws_FnExactSpreadOn.j0 k l0 a1 t392 t393 t396 bt399.1 bt399.2 (bt399.2 !=t393)) else(laws_FnExactSpreadOn.j0 k l0 a1 t392 t393 t396 bt399.1 bt399.2 true)))))=some r:=H
  have A5:=Aside0.mk A50
  clear A50
  replace H:=Option.bind_eq_some_iff.mp H
  obtain⟨t396,A60,H⟩:=H
  replace H:((impl_SpreadOn.f k t396 a1).bind fun bt399=>((laws_eqHopS.f k bt399.1 t392).bind fun t403=>(if t403=true then(laws_FnExactSpreadOn.j0 k l0 a1 t392 t393 t396 bt399.1 bt399.2 (bt399.2 !=t393)) else(laws_FnExactSpreadOn.j0 k l0 a1 t392 t393 t396 bt399.1 bt399.2 true))))=some r:=H
  have A6:=Aside0.mk A60
  clear A60
  replace H:=Option.bind_eq_some_iff.mp H
  obtain⟨⟨t399,t400⟩,A70,H⟩:=H
  replace H:((laws_eqHopS.f k t399 t392).bind fun t403=>(if t403=true then(laws_FnExactSpreadOn.j0 k l0 a1 t392 t393 t396 t399 t400 (t400 !=t393)) else(laws_FnExactSpreadOn.j0 k l0 a1 t392 t393 t396 t399 t400 true)))=some r:=H
  have A7:=Aside0.mk A70
  clear A70
  have HC8:=Aside0.mk H
  clear H
  go_enter Try.func7,Try.ntmps7
  go_upto_region 6 with (first|((with_reducible refine gate_callee (f:=14) rfl ?_);refine goesL_ (some 20) rfl rfl Try.func14 (by kernel_rfl) rfl #[.slice A0 l0.length c0] rfl zq2 ?_;(with_reducible refine(laws_toIntS.calls k _ _ l0 t389 _ ?side1 ?side2 A4.out).mono ?_);(case side1=>repeat(first|exact HR0.out|(with_reducible refine Kd.C_alloc ?_ _)|(with_reducible refine Kd.C_drewN ?_ _)|(with_reducible refine Kd.C_drew ?_)));(case side2=>exact HC0.out);rintro e w9 ⟨v390,rfl,ho0,hb⟩;refine⟨_,rfl,?_⟩;have n0_:=Aside0.mk (Kd.R_lower ho0 (below_size (zb0 HB)));have n1_:=Aside0.mk (below_step (zb0 HB) hb);clear HB;have HO391:=n0_;have HB:=n1_;clear n0_ n1_;(try clear hb);(try clear hb2);(try clear hk);(try clear hi);(try clear ho0);obtain⟨Ao10,co10,eo10⟩:=Kd.R_slice HO391.out;subst eo10)|((with_reducible refine gate_callee (f:=28) rfl ?_);refine goesL_ (some 22) rfl rfl Try.func28 (by kernel_rfl) rfl #[.slice Ao10 t389.length co10,.int .i64 a1] rfl zq2 ?_;(with_reducible refine(spec_SpreadOn.calls k _ _ t389 a1 t392 t393 _ ?side1 ?side2 A5.out).mono ?_);(case side1=>repeat(first|exact(Kd.R_reads' HO391.out).2.2|(with_reducible refine Kd.C_alloc ?_ _)|(with_reducible refine Kd.C_drewN ?_ _)|(with_reducible refine Kd.C_drew ?_)));(case side2=>exact(Kd.R_reads' HO391.out).2.1);rintro e w11 ⟨v394,rfl,ho0,hb⟩;refine⟨_,rfl,?_⟩;have n0_:=Aside0.mk (Kd.R_below (zq4 HO391) hb);have n1_:=Aside0.mk (Kd.R_lower ho0 (below_size (zb0 HB)));have n2_:=Aside0.mk (below_step (zb0 HB) hb);clear HO391;clear HB;have HO391:=n0_;have HO395:=n1_;have HB:=n2_;clear n0_ n1_ n2_;(try clear hb);(try clear hb2);(try clear hk);(try clear hi);(try clear ho0))|((with_reducible refine gate_callee (f:=14) rfl ?_);refine goesL_ (some 26) rfl rfl Try.func14 (by kernel_rfl) rfl #[.slice A0 l0.length c0] rfl zq2 ?_;(with_reducible refine(laws_toIntS.calls k _ _ l0 t396 _ ?side1 ?side2 A6.out).mono ?_);(case side1=>repeat(first|exact(Kd.C_below HR0.out HB.out)|(with_reducible refine Kd.C_alloc ?_ _)|(with_reducible refine Kd.C_drewN ?_ _)|(with_reducible refine Kd.C_drew ?_)));(case side2=>exact HC0.out);rintro e w12 ⟨v397,rfl,ho0,hb⟩;refine⟨_,rfl,?_⟩;have n0_:=Aside0.mk (Kd.R_elder' (zq4 HO391) (Kd.R_base ho0) hb);have n1_:=Aside0.mk (Kd.R_below (zq4 HO395) hb);have n2_:=Aside0.mk (Kd.R_lower (Kd.R_new' ho0 (Kd.R_lt (zq4 HO391))) (below_size (zb0 HB)));have n3_:=Aside0.mk (below_step (zb0 HB) hb);clear HO391;clear HO395;clear HB;have HO391:=n0_;have HO395:=n1_;have HO398:=n2_;have HB:=n3_;clear n0_ n1_ n2_ n3_;(try clear hb);(try clear hb2);(try clear hk);(try clear hi);(try clear ho0);obtain⟨Ao13,co13,eo13⟩:=Kd.R_slice HO398.out;subst eo13)|((with_reducible refine gate_callee (f:=29) rfl ?_);refine goesL_ (some 30) rfl rfl Try.func29 (by kernel_rfl) rfl #[.slice Ao13 t396.length co13,.int .i64 a1] rfl zq2 ?_;(with_reducible refine(impl_SpreadOn.calls k _ _ t396 a1 t399 t400 _ ?side1 ?side2 A7.out).mono ?_);(case side1=>repeat(first|exact(Kd.R_reads' HO398.out).2.2|(with_reducible refine Kd.C_alloc ?_ _)|(with_reducible refine Kd.C_drewN ?_ _)|(with_reducible refine Kd.C_drew ?_)));(case side2=>exact(Kd.R_reads' HO398.out).2.1);rintro e w14 ⟨v401,rfl,ho0,hb⟩;refine⟨_,rfl,?_⟩;have n0_:=Aside0.mk (Kd.R_below (zq4 HO391) hb);have n1_:=Aside0.mk (Kd.R_elder' (zq4 HO395) (Kd.R_base ho0) hb);have n2_:=Aside0.mk (Kd.R_below (zq4 HO398) hb);have n3_:=Aside0.mk (Kd.R_lower (Kd.R_new' ho0 (Kd.R_lt (zq4 HO395))) (below_size (zb0 HB)));have n4_:=Aside0.mk (below_step (zb0 HB) hb);clear HO391;clear HO395;clear HO398;clear HB;have HO391:=n0_;have HO395:=n1_;have HO398:=n2_;have HO402:=n3_;have HB:=n4_;clear n0_ n1_ n2_ n3_ n4_;(try clear hb);(try clear hb2);(try clear hk);(try clear hi);(try clear ho0)))
  (try simp only [Act.put,List.setIfInBounds_toArray,List.set_cons_zero,List.set_cons_succ])
  go_cut [41] (fun v41 wc=> ∃ (kq:Nat) (x41_7:Bool),v41= .bool x41_7∧Aside0 (laws_FnExactSpreadOn.j0 kq l0 a1 t392 t393 t396 t399 t400 x41_7=some r)∧Aside0 (kq≤k)∧Aside0 (Kd.R k61 61 wc w.heap.size (fun k_=>some k_≠ (v401:Value).ownBlock) v394 t392)∧Aside0 (Kd.R (Kd.int .i64) 3 wc w.heap.size (fun _=>True) (.slice Ao13 t396.length co13) t396)∧Aside0 (Kd.R k61 61 wc w.heap.size (fun k_=>some k_≠ (v394:Value).ownBlock) v401 t399)∧Aside0 (Below w.heap.size w wc))
  case first=>
   have H:=HC8.out
   clear HC8
   replace H:=Option.bind_eq_some_iff.mp H
   obtain⟨t403,A150,H⟩:=H
   replace H:(if t403=true then(laws_FnExactSpreadOn.j0 k l0 a1 t392 t393 t396 t399 t400 (t400 !=t393)) else(laws_FnExactSpreadOn.j0 k l0 a1 t392 t393 t396 t399 t400 true))=some r:=H
   have A15:=Aside0.mk A150
   clear A150
   by_cases c16:t403=true
   ·subst c16
    have H1:(laws_FnExactSpreadOn.j0 k l0 a1 t392 t393 t396 t399 t400 (t400 !=t393))=some r:=by rw [if_pos rfl] at H;exact H
    clear H
    have H:=H1
    clear H1
    have H':=Aside0.mk H
    clear H
    obtain⟨Ao17,co17,eo17⟩:=Kd.R_slice HO402.out
    subst eo17
    obtain⟨Ao18,co18,eo18⟩:=Kd.R_slice HO395.out
    subst eo18
    go_wp2_with (first|((with_reducible refine gate_callee (f:=30) rfl ?_);refine goesL_ (some 35) rfl rfl Try.func30 (by kernel_rfl) rfl #[.slice Ao17 t399.length co17,.slice Ao18 t392.length co18] rfl zq2 ?_;(with_reducible refine(laws_eqHopS.calls k _ _ t399 _ _ t392 true _ ?side1 ?side2 ?side3 ?side4 A15.out).mono ?_);(case side1=>repeat(first|exact(Kd.R_reads' HO402.out).2.2|(with_reducible refine Kd.C_alloc ?_ _)|(with_reducible refine Kd.C_drewN ?_ _)|(with_reducible refine Kd.C_drew ?_)));(case side2=>exact(Kd.R_reads' HO402.out).2.1);(case side3=>repeat(first|exact(Kd.R_reads' HO395.out).2.2|(with_reducible refine Kd.C_alloc ?_ _)|(with_reducible refine Kd.C_drewN ?_ _)|(with_reducible refine Kd.C_drew ?_)));(case side4=>exact(Kd.R_reads' HO395.out).2.1);rintro e w19 ⟨rfl,hb⟩;refine⟨_,rfl,?_⟩;have n0_:=Aside0.mk (Kd.R_below (zq4 HO391) hb);have n1_:=Aside0.mk (Kd.R_below (zq4 HO395) hb);have n2_:=Aside0.mk (Kd.R_below (zq4 HO398) hb);have n3_:=Aside0.mk (Kd.R_below (zq4 HO402) hb);have n4_:=Aside0.mk (below_step (zb0 HB) hb);clear HO391;clear HO395;clear HO398;clear HO402;clear HB;have HO391:=n0_;have HO395:=n1_;have HO398:=n2_;have HO402:=n3_;have HB:=n4_;clear n0_ n1_ n2_ n3_ n4_;(try clear hb);(try clear hb2);(try clear hk);(try clear hi)))
    go_meet
    case rel=>exact⟨_,((t400 !=t393)),(by first|rfl|(simp;done)|(simp [*];done)),H',⟨by first|omega|exact Nat.le_refl _⟩,⟨by(with_reducible repeat(first|apply Kd.R_alloc|apply Kd.R_drewN|apply Kd.R_drew));exact Kd.R_mono HO395.out (fun _ hk=>hk.2)⟩,⟨by(with_reducible repeat(first|apply Kd.R_alloc|apply Kd.R_drewN|apply Kd.R_drew));exact Kd.R_mono HO398.out (fun _ hk=>trivial)⟩,⟨by(with_reducible repeat(first|apply Kd.R_alloc|apply Kd.R_drewN|apply Kd.R_drew));exact Kd.R_mono HO402.out (fun _ hk=>hk.2)⟩,⟨by repeat(first|(with_reducible first|exact HB.out|apply below_alloc|apply pw_below_drewN|apply below_drew1)|exact HB.out)⟩⟩
   ·replace c16:=Bool.eq_false_iff.mpr c16
    subst c16
    have H1:(laws_FnExactSpreadOn.j0 k l0 a1 t392 t393 t396 t399 t400 true)=some r:=by rw [if_neg (show ¬ (false=true) by decide)] at H;exact H
    clear H
    have H:=H1
    clear H1
    have H':=Aside0.mk H
    clear H
    obtain⟨Ao20,co20,eo20⟩:=Kd.R_slice HO402.out
    subst eo20
    obtain⟨Ao21,co21,eo21⟩:=Kd.R_slice HO395.out
    subst eo21
    go_wp2_with (first|((with_reducible refine gate_callee (f:=30) rfl ?_);refine goesL_ (some 35) rfl rfl Try.func30 (by kernel_rfl) rfl #[.slice Ao20 t399.length co20,.slice Ao21 t392.length co21] rfl zq2 ?_;(with_reducible refine(laws_eqHopS.calls k _ _ t399 _ _ t392 false _ ?side1 ?side2 ?side3 ?side4 A15.out).mono ?_);(case side1=>repeat(first|exact(Kd.R_reads' HO402.out).2.2|(with_reducible refine Kd.C_alloc ?_ _)|(with_reducible refine Kd.C_drewN ?_ _)|(with_reducible refine Kd.C_drew ?_)));(case side2=>exact(Kd.R_reads' HO402.out).2.1);(case side3=>repeat(first|exact(Kd.R_reads' HO395.out).2.2|(with_reducible refine Kd.C_alloc ?_ _)|(with_reducible refine Kd.C_drewN ?_ _)|(with_reducible refine Kd.C_drew ?_)));(case side4=>exact(Kd.R_reads' HO395.out).2.1);rintro e w22 ⟨rfl,hb⟩;refine⟨_,rfl,?_⟩;have n0_:=Aside0.mk (Kd.R_below (zq4 HO391) hb);have n1_:=Aside0.mk (Kd.R_below (zq4 HO395) hb);have n2_:=Aside0.mk (Kd.R_below (zq4 HO398) hb);have n3_:=Aside0.mk (Kd.R_below (zq4 HO402) hb);have n4_:=Aside0.mk (below_step (zb0 HB) hb);clear HO391;clear HO395;clear HO398;clear HO402;clear HB;have HO391:=n0_;have HO395:=n1_;have HO398:=n2_;have HO402:=n3_;have HB:=n4_;clear n0_ n1_ n2_ n3_ n4_;(try clear hb);(try clear hb2);(try clear hk);(try clear hi)))
    go_meet
    case rel=>exact⟨_,(true),(by first|rfl|(simp;done)|(simp [*];done)),H',⟨by first|omega|exact Nat.le_refl _⟩,⟨by(with_reducible repeat(first|apply Kd.R_alloc|apply Kd.R_drewN|apply Kd.R_drew));exact Kd.R_mono HO395.out (fun _ hk=>hk.2)⟩,⟨by(with_reducible repeat(first|apply Kd.R_alloc|apply Kd.R_drewN|apply Kd.R_drew));exact Kd.R_mono HO398.out (fun _ hk=>trivial)⟩,⟨by(with_reducible repeat(first|apply Kd.R_alloc|apply Kd.R_drewN|apply Kd.R_drew));exact Kd.R_mono HO402.out (fun _ hk=>hk.2)⟩,⟨by repeat(first|(with_reducible first|exact HB.out|apply below_alloc|apply pw_below_drewN|apply below_drew1)|exact HB.out)⟩⟩
  case rest=>
   clear HC8
   try clear c1
   try clear c2
   try clear p2
   try clear c3
   try clear c3b0
   try clear c3b1
   try clear c7
   try clear c14
   try clear c16
   obtain⟨kq,x41_7,rfl,HA,HJ7,HO_5,HO_7,HO_8,HB⟩:=hcut
   cases kq with
   |zero=>exact absurd HA.out (by simp [laws_FnExactSpreadOn.j0])
   |succ kj7=>
    have H:=HA.out
    clear HA
    simp only [laws_FnExactSpreadOn.j0] at H
    by_cases c23:x41_7=true
    ·subst c23
     have H1:(some false)=some r:=by rw [if_pos rfl] at H;exact H
     clear H
     have H:=H1
     clear H1
     obtain rfl:=Option.some.inj H
     go_wp2
     go_ret
     exact⟨by first|rfl|(simp [errW_none,errW_some]<;>rfl)|(simp [*,errW_none,errW_some]<;>rfl),by repeat(first|(with_reducible first|exact HB.out|apply below_alloc|apply pw_below_drewN|apply below_drew1)|exact HB.out)⟩
    ·replace c23:=Bool.eq_false_iff.mpr c23
     subst c23
     have H1:((laws_toIntS.f kj7 l0).bind fun t404=>((laws_eqIntS.f kj7 t396 t404).bind fun t407=>(if t407=true then((laws_markIntS.f kj7 t396 1).bind fun bt408=>(if bt408.1< 0 then(laws_FnExactSpreadOn.j1 kj7 l0 a1 t392 t393 t399 true) else((laws_eqHopS.f kj7 t399 t392).bind fun t410=>(if t410=true then(laws_FnExactSpreadOn.j1 kj7 l0 a1 t392 t393 t399 (t400 !=t393)) else(laws_FnExactSpreadOn.j1 kj7 l0 a1 t392 t393 t399 true))))) else(some false))))=some r:=by rw [if_neg (show ¬ (false=true) by decide)] at H;exact H
     clear H
     have H:=H1
     clear H1
     replace H:=Option.bind_eq_some_iff.mp H
     obtain⟨t404,A240,H⟩:=H
     replace H:((laws_eqIntS.f kj7 t396 t404).bind fun t407=>(if t407=true then((laws_markIntS.f kj7 t396 1).bind fun bt408=>(if bt408.1< 0 then(laws_FnExactSpreadOn.j1 kj7 l0 a1 t392 t393 t399 true) else((laws_eqHopS.f kj7 t399 t392).bind fun t410=>(if t410=true then(laws_FnExactSpreadOn.j1 kj7 l0 a1 t392 t393 t399 (t400 !=t393)) else(laws_FnExactSpreadOn.j1 kj7 l0 a1 t392 t393 t399 true))))) else(some false)))=some r:=H
     have A24:=Aside0.mk A240
     clear A240
     replace H:=Option.bind_eq_some_iff.mp H
     obtain⟨t407,A250,H⟩:=H
     replace H:(if t407=true then((laws_markIntS.f kj7 t396 1).bind fun bt408=>(if bt408.1< 0 then(laws_FnExactSpreadOn.j1 kj7 l0 a1 t392 t393 t399 true) else((laws_eqHopS.f kj7 t399 t392).bind fun t410=>(if t410=true then(laws_FnExactSpreadOn.j1 kj7 l0 a1 t392 t393 t399 (t400 !=t393)) else(laws_FnExactSpreadOn.j1 kj7 l0 a1 t392 t393 t399 true))))) else(some false))=some r:=H
     have A25:=Aside0.mk A250
     clear A250
     by_cases c26:t407=true
     ·subst c26
      have H1:((laws_markIntS.f kj7 t396 1).bind fun bt408=>(if bt408.1< 0 then(laws_FnExactSpreadOn.j1 kj7 l0 a1 t392 t393 t399 true) else((laws_eqHopS.f kj7 t399 t392).bind fun t410=>(if t410=true then(laws_FnExactSpreadOn.j1 kj7 l0 a1 t392 t393 t399 (t400 !=t393)) else(laws_FnExactSpreadOn.j1 kj7 l0 a1 t392 t393 t399 true)))))=some r:=by rw [if_pos rfl] at H;exact H
      clear H
      have H:=H1
      clear H1
      replace H:=Option.bind_eq_some_iff.mp H
      obtain⟨⟨t408,t409⟩,A270,H⟩:=H
      replace H:(if t408< 0 then(laws_FnExactSpreadOn.j1 kj7 l0 a1 t392 t393 t399 true) else((laws_eqHopS.f kj7 t399 t392).bind fun t410=>(if t410=true then(laws_FnExactSpreadOn.j1 kj7 l0 a1 t392 t393 t399 (t400 !=t393)) else(laws_FnExactSpreadOn.j1 kj7 l0 a1 t392 t393 t399 true))))=some r:=H
      have A27:=Aside0.mk A270
      clear A270
      have HC28:=Aside0.mk H
      clear H
      go_upto_region 12 with (first|((with_reducible refine gate_callee (f:=14) rfl ?_);refine goesL_ (some 44) rfl rfl Try.func14 (by kernel_rfl) rfl #[.slice A0 l0.length c0] rfl zq2 ?_;(with_reducible refine(laws_toIntS.calls kj7 _ _ l0 t404 _ ?side1 ?side2 A24.out).mono ?_);(case side1=>repeat(first|exact(Kd.C_below HR0.out HB.out)|(with_reducible refine Kd.C_alloc ?_ _)|(with_reducible refine Kd.C_drewN ?_ _)|(with_reducible refine Kd.C_drew ?_)));(case side2=>exact HC0.out);rintro e w29 ⟨v405,rfl,ho0,hb⟩;refine⟨_,rfl,?_⟩;have n0_:=Aside0.mk (Kd.R_below (zq4 HO_5) hb);have n1_:=Aside0.mk (Kd.R_elder' (zq4 HO_7) (Kd.R_base ho0) hb);have n2_:=Aside0.mk (Kd.R_below (zq4 HO_8) hb);have n3_:=Aside0.mk (Kd.R_lower (Kd.R_new' ho0 (Kd.R_lt (zq4 HO_7))) (below_size (zb0 HB)));have n4_:=Aside0.mk (below_step (zb0 HB) hb);clear HO_5;clear HO_7;clear HO_8;clear HB;have HO_5:=n0_;have HO_7:=n1_;have HO_8:=n2_;have HO406:=n3_;have HB:=n4_;clear n0_ n1_ n2_ n3_ n4_;(try clear hb);(try clear hb2);(try clear hk);(try clear hi);(try clear ho0);obtain⟨Ao30,co30,eo30⟩:=Kd.R_slice HO406.out;subst eo30)|((with_reducible refine gate_callee (f:=16) rfl ?_);refine goesL_ (some 45) rfl rfl Try.func16 (by kernel_rfl) rfl #[.slice Ao13 t396.length co13,.slice Ao30 t404.length co30] rfl zq2 ?_;(with_reducible refine(laws_eqIntS.calls kj7 _ _ t396 _ _ t404 true _ ?side1 ?side2 ?side3 ?side4 A25.out).mono ?_);(case side1=>repeat(first|exact(Kd.R_reads' HO_7.out).2.2|(with_reducible refine Kd.C_alloc ?_ _)|(with_reducible refine Kd.C_drewN ?_ _)|(with_reducible refine Kd.C_drew ?_)));(case side2=>exact(Kd.R_reads' HO_7.out).2.1);(case side3=>repeat(first|exact(Kd.R_reads' HO406.out).2.2|(with_reducible refine Kd.C_alloc ?_ _)|(with_reducible refine Kd.C_drewN ?_ _)|(with_reducible refine Kd.C_drew ?_)));(case side4=>exact(Kd.R_reads' HO406.out).2.1);rintro e w' ⟨rfl,⟨nd,rfl⟩⟩;refine⟨_,rfl,?_⟩)|((with_reducible refine gate_callee (f:=21) rfl ?_);refine goesL_ (some 49) rfl rfl Try.func21 (by kernel_rfl) rfl #[.slice Ao13 t396.length co13,.int .i64 1] rfl zq2 ?_;(with_reducible refine(laws_markIntS.calls kj7 (fun k_=>some k_= (.slice Ao13 t396.length co13:Value).ownBlock) (.slice Ao13 t396.length co13) t396 1 t408 t409 w _ ?side1 ?side2 A27.out).mono ?_);(case side1=>repeat(first|(with_reducible first|exact HB.out|apply below_alloc|apply pw_below_drewN|apply below_drew1)|exact HB.out));(case side2=>exact Kd.R_tight rfl HO_7.out);rintro e w31 ⟨rfl,hy0,hb,hkp⟩;refine⟨_,rfl,?_⟩;have n0_:=Aside0.mk (Kd.R_mono (ok':=fun k_=>some k_≠ (v401:Value).ownBlock) (Kd.R_keptB ((Kd.R_apart' HO_5.out (Kd.R_typed HO_7.out) (by decide))) hkp (fun k_ hk_ hs_=>(hk_.2) hs_)) (fun k_ hk_=>hk_.1.1));have n1_:=Aside0.mk (Kd.R_reok rfl hy0 (fun k_ e_=>HO_7.out.1 k_ e_));have n2_:=Aside0.mk (Kd.R_mono (ok':=fun k_=>some k_≠ (v394:Value).ownBlock) (Kd.R_keptB ((Kd.R_apart' HO_8.out (Kd.R_typed HO_7.out) (by decide))) hkp (fun k_ hk_ hs_=>(hk_.2) hs_)) (fun k_ hk_=>hk_.1.1));have n3_:=Aside0.mk (Kd.R_mono (ok':=fun k_=>some k_≠ (.slice Ao13 t396.length co13:Value).ownBlock) (Kd.R_keptB (HO406.out) hkp (fun k_ hk_ hs_=>(hk_.2) hs_)) (fun k_ hk_=>hk_.1.2));have n4_:=Aside0.mk (hb);clear HO_5;clear HO_7;clear HO_8;clear HO406;clear HB;have HO_5:=n0_;have HO_7:=n1_;have HO_8:=n2_;have HO406:=n3_;have HB:=n4_;clear n0_ n1_ n2_ n3_ n4_;(try clear hb);(try clear hkp);(try clear hy0)))
      (try simp only [Act.put,List.setIfInBounds_toArray,List.set_cons_zero,List.set_cons_succ])
      go_cut [62] (fun v62 wc=> ∃ (kq:Nat) (x62_27:Bool),v62= .bool x62_27∧Aside0 (laws_FnExactSpreadOn.j1 kq l0 a1 t392 t393 t399 x62_27=some r)∧Aside0 (kq≤kj7)∧Aside0 (Kd.R k61 61 wc w.heap.size (fun k_=>some k_≠ (v401:Value).ownBlock) v394 t392)∧Aside0 (Kd.R k61 61 wc w.heap.size (fun k_=>some k_≠ (v394:Value).ownBlock) v401 t399)∧Aside0 (Below w.heap.size w wc))
      case first=>
       have H:=HC28.out
       clear HC28
       by_cases c32:t408< 0
       ·rw [if_pos c32] at H
        have c32b0:decide (t408< 0)=true:=decide_eq_true c32
        clear c32
        (first|rw [c32b0]|(simp only [i64_w,i32_w];rw [c32b0])|skip)
        have H':=Aside0.mk H
        clear H
        go_wp2
        go_meet
        case rel=>exact⟨_,(true),(by first|rfl|(simp;done)|(simp [*];done)),H',⟨by have:=HJ7.out;first|omega|exact Nat.le_refl _⟩,⟨by(with_reducible repeat(first|apply Kd.R_alloc|apply Kd.R_drewN|apply Kd.R_drew));exact HO_5.out⟩,⟨by(with_reducible repeat(first|apply Kd.R_alloc|apply Kd.R_drewN|apply Kd.R_drew));exact HO_8.out⟩,⟨by repeat(first|(with_reducible first|exact HB.out|apply below_alloc|apply pw_below_drewN|apply below_drew1)|exact HB.out)⟩⟩
       ·rw [if_neg c32] at H
        have c32b0:decide (t408< 0)=false:=decide_eq_false c32
        clear c32
        (first|rw [c32b0]|(simp only [i64_w,i32_w];rw [c32b0])|skip)
        replace H:=Option.bind_eq_some_iff.mp H
        obtain⟨t410,A330,H⟩:=H
        replace H:(if t410=true then(laws_FnExactSpreadOn.j1 kj7 l0 a1 t392 t393 t399 (t400 !=t393)) else(laws_FnExactSpreadOn.j1 kj7 l0 a1 t392 t393 t399 true))=some r:=H
        have A33:=Aside0.mk A330
        clear A330
        by_cases c34:t410=true
        ·subst c34
         have H1:(laws_FnExactSpreadOn.j1 kj7 l0 a1 t392 t393 t399 (t400 !=t393))=some r:=by rw [if_pos rfl] at H;exact H
         clear H
         have H:=H1
         clear H1
         have H':=Aside0.mk H
         clear H
         obtain⟨Ao35,co35,eo35⟩:=Kd.R_slice HO_8.out
         subst eo35
         obtain⟨Ao36,co36,eo36⟩:=Kd.R_slice HO_5.out
         subst eo36
         go_wp2_with (first|(go_at_call 30;(with_reducible refine(laws_eqHopS.calls kj7 _ _ t399 _ _ t392 true _ ?side1 ?side2 ?side3 ?side4 A33.out).mono ?_);(case side1=>repeat(first|exact(Kd.R_reads' HO_8.out).2.2|(with_reducible refine Kd.C_alloc ?_ _)|(with_reducible refine Kd.C_drewN ?_ _)|(with_reducible refine Kd.C_drew ?_)));(case side2=>exact(Kd.R_reads' HO_8.out).2.1);(case side3=>repeat(first|exact(Kd.R_reads' HO_5.out).2.2|(with_reducible refine Kd.C_alloc ?_ _)|(with_reducible refine Kd.C_drewN ?_ _)|(with_reducible refine Kd.C_drew ?_)));(case side4=>exact(Kd.R_reads' HO_5.out).2.1);rintro e w37 ⟨rfl,hb⟩;have n0_:=Aside0.mk (Kd.R_below (zq4 HO_5) hb);have n1_:=Aside0.mk (Kd.R_below (zq4 HO_7) hb);have n2_:=Aside0.mk (Kd.R_below (zq4 HO_8) hb);have n3_:=Aside0.mk (Kd.R_below (zq4 HO406) hb);have n4_:=Aside0.mk (below_step (zb0 HB) hb);clear HO_5;clear HO_7;clear HO_8;clear HO406;clear HB;have HO_5:=n0_;have HO_7:=n1_;have HO_8:=n2_;have HO406:=n3_;have HB:=n4_;clear n0_ n1_ n2_ n3_ n4_;(try clear hb);(try clear hb2);(try clear hk);(try clear hi)))
         go_meet
         case rel=>exact⟨_,((t400 !=t393)),(by first|rfl|(simp;done)|(simp [*];done)),H',⟨by have:=HJ7.out;first|omega|exact Nat.le_refl _⟩,⟨by(with_reducible repeat(first|apply Kd.R_alloc|apply Kd.R_drewN|apply Kd.R_drew));exact HO_5.out⟩,⟨by(with_reducible repeat(first|apply Kd.R_alloc|apply Kd.R_drewN|apply Kd.R_drew));exact HO_8.out⟩,⟨by repeat(first|(with_reducible first|exact HB.out|apply below_alloc|apply pw_below_drewN|apply below_drew1)|exact HB.out)⟩⟩
        ·replace c34:=Bool.eq_false_iff.mpr c34
         subst c34
         have H1:(laws_FnExactSpreadOn.j1 kj7 l0 a1 t392 t393 t399 true)=some r:=by rw [if_neg (show ¬ (false=true) by decide)] at H;exact H
         clear H
         have H:=H1
         clear H1
         have H':=Aside0.mk H
         clear H
         obtain⟨Ao38,co38,eo38⟩:=Kd.R_slice HO_8.out
         subst eo38
         obtain⟨Ao39,co39,eo39⟩:=Kd.R_slice HO_5.out
         subst eo39
         go_wp2_with (first|(go_at_call 30;(with_reducible refine(laws_eqHopS.calls kj7 _ _ t399 _ _ t392 false _ ?side1 ?side2 ?side3 ?side4 A33.out).mono ?_);(case side1=>repeat(first|exact(Kd.R_reads' HO_8.out).2.2|(with_reducible refine Kd.C_alloc ?_ _)|(with_reducible refine Kd.C_drewN ?_ _)|(with_reducible refine Kd.C_drew ?_)));(case side2=>exact(Kd.R_reads' HO_8.out).2.1);(case side3=>repeat(first|exact(Kd.R_reads' HO_5.out).2.2|(with_reducible refine Kd.C_alloc ?_ _)|(with_reducible refine Kd.C_drewN ?_ _)|(with_reducible refine Kd.C_drew ?_)));(case side4=>exact(Kd.R_reads' HO_5.out).2.1);rintro e w40 ⟨rfl,hb⟩;have n0_:=Aside0.mk (Kd.R_below (zq4 HO_5) hb);have n1_:=Aside0.mk (Kd.R_below (zq4 HO_7) hb);have n2_:=Aside0.mk (Kd.R_below (zq4 HO_8) hb);have n3_:=Aside0.mk (Kd.R_below (zq4 HO406) hb);have n4_:=Aside0.mk (below_step (zb0 HB) hb);clear HO_5;clear HO_7;clear HO_8;clear HO406;clear HB;have HO_5:=n0_;have HO_7:=n1_;have HO_8:=n2_;have HO406:=n3_;have HB:=n4_;clear n0_ n1_ n2_ n3_ n4_;(try clear hb);(try clear hb2);(try clear hk);(try clear hi)))
         go_meet
         case rel=>exact⟨_,(true),(by first|rfl|(simp;done)|(simp [*];done)),H',⟨by have:=HJ7.out;first|omega|exact Nat.le_refl _⟩,⟨by(with_reducible repeat(first|apply Kd.R_alloc|apply Kd.R_drewN|apply Kd.R_drew));exact HO_5.out⟩,⟨by(with_reducible repeat(first|apply Kd.R_alloc|apply Kd.R_drewN|apply Kd.R_drew));exact HO_8.out⟩,⟨by repeat(first|(with_reducible first|exact HB.out|apply below_alloc|apply pw_below_drewN|apply below_drew1)|exact HB.out)⟩⟩
      case rest=>
       clear HC28
       try clear c1
       try clear c2
       try clear p2
       try clear c3
       try clear c3b0
       try clear c3b1
       try clear c7
       try clear c14
       try clear c16
       try clear c21
       try clear c23
       try clear c26
       try clear c28
       try clear c29
       try clear c30
       try clear c32
       try clear c32b0
       try clear c34
       try clear p2
       obtain⟨kq,x62_27,rfl,HA,HJ27,HO_5,HO_8,HB⟩:=hcut
       cases kq with
       |zero=>exact absurd HA.out (by simp [laws_FnExactSpreadOn.j1])
       |succ kj27=>
        have H:=HA.out
        clear HA
        simp only [laws_FnExactSpreadOn.j1] at H
        by_cases c41:x62_27=true
        ·subst c41
         have H1:(some false)=some r:=by rw [if_pos rfl] at H;exact H
         clear H
         have H:=H1
         clear H1
         obtain rfl:=Option.some.inj H
         go_wp2
         go_ret
         exact⟨by first|rfl|(simp [errW_none,errW_some]<;>rfl)|(simp [*,errW_none,errW_some]<;>rfl),by repeat(first|(with_reducible first|exact HB.out|apply below_alloc|apply pw_below_drewN|apply below_drew1)|exact HB.out)⟩
        ·replace c41:=Bool.eq_false_iff.mpr c41
         subst c41
         have H1:((laws_markHopS.f kj27 t399 1).bind fun bt411=>((laws_heldHopS.f kj27 bt411.2 1).bind fun t413=>(if t413< 0 then(some false) else(if t413=bt411.1 then((laws_toIntS.f kj27 l0).bind fun t414=>((impl_SpreadOn.f kj27 t414 a1).bind fun bt417=>((laws_eqHopS.f kj27 bt417.1 t392).bind fun t421=>(if t421=true then(laws_FnExactSpreadOn.j2 kj27 bt411.2 bt411.1 (bt417.2 !=t393)) else(laws_FnExactSpreadOn.j2 kj27 bt411.2 bt411.1 true))))) else(some false)))))=some r:=by rw [if_neg (show ¬ (false=true) by decide)] at H;exact H
         clear H
         have H:=H1
         clear H1
         replace H:=Option.bind_eq_some_iff.mp H
         obtain⟨⟨t411,t412⟩,A420,H⟩:=H
         replace H:((laws_heldHopS.f kj27 t412 1).bind fun t413=>(if t413< 0 then(some false) else(if t413=t411 then((laws_toIntS.f kj27 l0).bind fun t414=>((impl_SpreadOn.f kj27 t414 a1).bind fun bt417=>((laws_eqHopS.f kj27 bt417.1 t392).bind fun t421=>(if t421=true then(laws_FnExactSpreadOn.j2 kj27 t412 t411 (bt417.2 !=t393)) else(laws_FnExactSpreadOn.j2 kj27 t412 t411 true))))) else(some false))))=some r:=H
         have A42:=Aside0.mk A420
         clear A420
         replace H:=Option.bind_eq_some_iff.mp H
         obtain⟨t413,A430,H⟩:=H
         replace H:(if t413< 0 then(some false) else(if t413=t411 then((laws_toIntS.f kj27 l0).bind fun t414=>((impl_SpreadOn.f kj27 t414 a1).bind fun bt417=>((laws_eqHopS.f kj27 bt417.1 t392).bind fun t421=>(if t421=true then(laws_FnExactSpreadOn.j2 kj27 t412 t411 (bt417.2 !=t393)) else(laws_FnExactSpreadOn.j2 kj27 t412 t411 true))))) else(some false)))=some r:=H
         have A43:=Aside0.mk A430
         clear A430
         by_cases c44:t413< 0
         ·rw [if_pos c44] at H
          have c44b0:decide (t413< 0)=true:=decide_eq_true c44
          clear c44
          obtain rfl:=Option.some.inj H
          obtain⟨Ao45,co45,eo45⟩:=Kd.R_slice HO_8.out
          subst eo45
          go_wp2_with (first|((with_reducible refine gate_callee (f:=31) rfl ?_);refine goesL_ (some 65) rfl rfl Try.func31 (by kernel_rfl) rfl #[.slice Ao45 t399.length co45,.int .i64 1] rfl zq2 ?_;(with_reducible refine(laws_markHopS.calls kj27 (fun k_=>some k_= (.slice Ao45 t399.length co45:Value).ownBlock) (.slice Ao45 t399.length co45) t399 1 t411 t412 w _ ?side1 ?side2 A42.out).mono ?_);(case side1=>repeat(first|(with_reducible first|exact HB.out|apply below_alloc|apply pw_below_drewN|apply below_drew1)|exact HB.out));(case side2=>exact Kd.R_tight rfl HO_8.out);rintro e w46 ⟨rfl,hy0,hb,hkp⟩;refine⟨_,rfl,?_⟩;have n0_:=Aside0.mk (Kd.R_mono (ok':=fun k_=>some k_≠ (.slice Ao45 t399.length co45:Value).ownBlock) (Kd.R_keptB (HO_5.out) hkp (fun k_ hk_ hs_=>(hk_) hs_)) (fun k_ hk_=>hk_.1));have n1_:=Aside0.mk (Kd.R_reok rfl hy0 (fun k_ e_=>HO_8.out.1 k_ e_));have n2_:=Aside0.mk (hb);clear HO_5;clear HO_8;clear HB;have HO_5:=n0_;have HO_8:=n1_;have HB:=n2_;clear n0_ n1_ n2_;(try clear hb);(try clear hkp);(try clear hy0))|((with_reducible refine gate_callee (f:=32) rfl ?_);refine goesL_ (some 68) rfl rfl Try.func32 (by kernel_rfl) rfl #[.slice Ao45 t412.length co45,.int .i64 1] rfl (by(try simp only [List.map_toArray,List.map_cons,List.map_nil]);first|done|(rw [show t412.length=t399.length from (Kd.R_reads' HO_8.out).1.symm]<;>rfl)|rfl|(simp only [List.length_drop,List.length_take];rfl)) ?_;(with_reducible refine(laws_heldHopS.calls kj27 _ _ t412 1 t413 _ ?side1 ?side2 A43.out).mono ?_);(case side1=>repeat(first|exact(Kd.R_reads' HO_8.out).2.2|(with_reducible refine Kd.C_alloc ?_ _)|(with_reducible refine Kd.C_drewN ?_ _)|(with_reducible refine Kd.C_drew ?_)));(case side2=>rw [show t412.length=t399.length from (Kd.R_reads' HO_8.out).1.symm];exact(Kd.R_reads' HO_8.out).2.1);rintro e w' ⟨rfl,⟨nd,rfl⟩⟩;refine⟨_,rfl,?_⟩))
          go_ret
          exact⟨by first|rfl|(simp [errW_none,errW_some]<;>rfl)|(simp [*,errW_none,errW_some]<;>rfl),by repeat(first|(with_reducible first|exact HB.out|apply below_alloc|apply pw_below_drewN|apply below_drew1)|exact HB.out)⟩
         ·rw [if_neg c44] at H
          have c44b0:decide (t413< 0)=false:=decide_eq_false c44
          clear c44
          by_cases c47:t413=t411
          ·rw [if_pos c47] at H
           have c47b0:(t413==t411)=true:=beq_iff_eq.mpr c47
           have c47b1:(t413 !=t411)=false:=bne_eq_false_iff_eq.mpr c47
           clear c47
           replace H:=Option.bind_eq_some_iff.mp H
           obtain⟨t414,A480,H⟩:=H
           replace H:((impl_SpreadOn.f kj27 t414 a1).bind fun bt417=>((laws_eqHopS.f kj27 bt417.1 t392).bind fun t421=>(if t421=true then(laws_FnExactSpreadOn.j2 kj27 t412 t411 (bt417.2 !=t393)) else(laws_FnExactSpreadOn.j2 kj27 t412 t411 true))))=some r:=H
           have A48:=Aside0.mk A480
           clear A480
           replace H:=Option.bind_eq_some_iff.mp H
           obtain⟨⟨t417,t418⟩,A490,H⟩:=H
           replace H:((laws_eqHopS.f kj27 t417 t392).bind fun t421=>(if t421=true then(laws_FnExactSpreadOn.j2 kj27 t412 t411 (t418 !=t393)) else(laws_FnExactSpreadOn.j2 kj27 t412 t411 true)))=some r:=H
           have A49:=Aside0.mk A490
           clear A490
           have HC50:=Aside0.mk H
           clear H
           obtain⟨Ao51,co51,eo51⟩:=Kd.R_slice HO_8.out
           subst eo51
           go_upto_region 23 with (first|((with_reducible refine gate_callee (f:=31) rfl ?_);refine goesL_ (some 65) rfl rfl Try.func31 (by kernel_rfl) rfl #[.slice Ao51 t399.length co51,.int .i64 1] rfl zq2 ?_;(with_reducible refine(laws_markHopS.calls kj27 (fun k_=>some k_= (.slice Ao51 t399.length co51:Value).ownBlock) (.slice Ao51 t399.length co51) t399 1 t411 t412 w _ ?side1 ?side2 A42.out).mono ?_);(case side1=>repeat(first|(with_reducible first|exact HB.out|apply below_alloc|apply pw_below_drewN|apply below_drew1)|exact HB.out));(case side2=>exact Kd.R_tight rfl HO_8.out);rintro e w52 ⟨rfl,hy0,hb,hkp⟩;refine⟨_,rfl,?_⟩;have n0_:=Aside0.mk (Kd.R_mono (ok':=fun k_=>some k_≠ (.slice Ao51 t399.length co51:Value).ownBlock) (Kd.R_keptB (HO_5.out) hkp (fun k_ hk_ hs_=>(hk_) hs_)) (fun k_ hk_=>hk_.1));have n1_:=Aside0.mk (Kd.R_reok rfl hy0 (fun k_ e_=>HO_8.out.1 k_ e_));have n2_:=Aside0.mk (hb);clear HO_5;clear HO_8;clear HB;have HO_5:=n0_;have HO_8:=n1_;have HB:=n2_;clear n0_ n1_ n2_;(try clear hb);(try clear hkp);(try clear hy0))|((with_reducible refine gate_callee (f:=32) rfl ?_);refine goesL_ (some 68) rfl rfl Try.func32 (by kernel_rfl) rfl #[.slice Ao51 t412.length co51,.int .i64 1] rfl (by(try simp only [List.map_toArray,List.map_cons,List.map_nil]);first|done|(rw [show t412.length=t399.length from (Kd.R_reads' HO_8.out).1.symm]<;>rfl)|rfl|(simp only [List.length_drop,List.length_take];rfl)) ?_;(with_reducible refine(laws_heldHopS.calls kj27 _ _ t412 1 t413 _ ?side1 ?side2 A43.out).mono ?_);(case side1=>repeat(first|exact(Kd.R_reads' HO_8.out).2.2|(with_reducible refine Kd.C_alloc ?_ _)|(with_reducible refine Kd.C_drewN ?_ _)|(with_reducible refine Kd.C_drew ?_)));(case side2=>rw [show t412.length=t399.length from (Kd.R_reads' HO_8.out).1.symm];exact(Kd.R_reads' HO_8.out).2.1);rintro e w' ⟨rfl,⟨nd,rfl⟩⟩;refine⟨_,rfl,?_⟩)|((with_reducible refine gate_callee (f:=14) rfl ?_);refine goesL_ (some 76) rfl rfl Try.func14 (by kernel_rfl) rfl #[.slice A0 l0.length c0] rfl zq2 ?_;(with_reducible refine(laws_toIntS.calls kj27 _ _ l0 t414 _ ?side1 ?side2 A48.out).mono ?_);(case side1=>repeat(first|exact(Kd.C_below HR0.out (zb0 HB))|(with_reducible refine Kd.C_alloc ?_ _)|(with_reducible refine Kd.C_drewN ?_ _)|(with_reducible refine Kd.C_drew ?_)));(case side2=>exact HC0.out);rintro e w53 ⟨v415,rfl,ho0,hb⟩;refine⟨_,rfl,?_⟩;have n0_:=Aside0.mk (Kd.R_below (zq4 HO_5) hb);have n1_:=Aside0.mk (Kd.R_below (zq4 HO_8) hb);have n2_:=Aside0.mk (Kd.R_lower ho0 (below_size (zb0 HB)));have n3_:=Aside0.mk (below_step (zb0 HB) hb);clear HO_5;clear HO_8;clear HB;have HO_5:=n0_;have HO_8:=n1_;have HO416:=n2_;have HB:=n3_;clear n0_ n1_ n2_ n3_;(try clear hb);(try clear hb2);(try clear hk);(try clear hi);(try clear ho0);obtain⟨Ao54,co54,eo54⟩:=Kd.R_slice HO416.out;subst eo54)|((with_reducible refine gate_callee (f:=29) rfl ?_);refine goesL_ (some 78) rfl rfl Try.func29 (by kernel_rfl) rfl #[.slice Ao54 t414.length co54,.int .i64 a1] rfl zq2 ?_;(with_reducible refine(impl_SpreadOn.calls kj27 _ _ t414 a1 t417 t418 _ ?side1 ?side2 A49.out).mono ?_);(case side1=>repeat(first|exact(Kd.R_reads' HO416.out).2.2|(with_reducible refine Kd.C_alloc ?_ _)|(with_reducible refine Kd.C_drewN ?_ _)|(with_reducible refine Kd.C_drew ?_)));(case side2=>exact(Kd.R_reads' HO416.out).2.1);rintro e w55 ⟨v419,rfl,ho0,hb⟩;refine⟨_,rfl,?_⟩;have n0_:=Aside0.mk (Kd.R_elder' (zq4 HO_5) (Kd.R_base ho0) hb);have n1_:=Aside0.mk (Kd.R_elder' (zq4 HO_8) (Kd.R_base ho0) hb);have n2_:=Aside0.mk (Kd.R_below (zq4 HO416) hb);have n3_:=Aside0.mk (Kd.R_lower (Kd.R_new' (Kd.R_new' ho0 (Kd.R_lt (zq4 HO_5))) (Kd.R_lt (zq4 HO_8))) (below_size (zb0 HB)));have n4_:=Aside0.mk (below_step (zb0 HB) hb);clear HO_5;clear HO_8;clear HO416;clear HB;have HO_5:=n0_;have HO_8:=n1_;have HO416:=n2_;have HO420:=n3_;have HB:=n4_;clear n0_ n1_ n2_ n3_ n4_;(try clear hb);(try clear hb2);(try clear hk);(try clear hi);(try clear ho0)))
           (try simp only [Act.put,List.setIfInBounds_toArray,List.set_cons_zero,List.set_cons_succ])
           go_cut [89] (fun v89 wc=> ∃ (kq:Nat) (x89_49:Bool),v89= .bool x89_49∧Aside0 (laws_FnExactSpreadOn.j2 kq t412 t411 x89_49=some r)∧Aside0 (kq≤kj27)∧Aside0 (Kd.R k61 61 wc w.heap.size (fun _=>True) (.slice Ao51 t399.length co51) t412)∧Aside0 (Below w.heap.size w wc))
           case first=>
            have H:=HC50.out
            clear HC50
            replace H:=Option.bind_eq_some_iff.mp H
            obtain⟨t421,A560,H⟩:=H
            replace H:(if t421=true then(laws_FnExactSpreadOn.j2 kj27 t412 t411 (t418 !=t393)) else(laws_FnExactSpreadOn.j2 kj27 t412 t411 true))=some r:=H
            have A56:=Aside0.mk A560
            clear A560
            by_cases c57:t421=true
            ·subst c57
             have H1:(laws_FnExactSpreadOn.j2 kj27 t412 t411 (t418 !=t393))=some r:=by rw [if_pos rfl] at H;exact H
             clear H
             have H:=H1
             clear H1
             have H':=Aside0.mk H
             clear H
             obtain⟨Ao58,co58,eo58⟩:=Kd.R_slice HO420.out
             subst eo58
             obtain⟨Ao59,co59,eo59⟩:=Kd.R_slice HO_5.out
             subst eo59
             go_wp2_with (first|((with_reducible refine gate_callee (f:=30) rfl ?_);refine goesL_ (some 83) rfl rfl Try.func30 (by kernel_rfl) rfl #[.slice Ao58 t417.length co58,.slice Ao59 t392.length co59] rfl zq2 ?_;(with_reducible refine(laws_eqHopS.calls kj27 _ _ t417 _ _ t392 true _ ?side1 ?side2 ?side3 ?side4 A56.out).mono ?_);(case side1=>repeat(first|exact(Kd.R_reads' HO420.out).2.2|(with_reducible refine Kd.C_alloc ?_ _)|(with_reducible refine Kd.C_drewN ?_ _)|(with_reducible refine Kd.C_drew ?_)));(case side2=>exact(Kd.R_reads' HO420.out).2.1);(case side3=>repeat(first|exact(Kd.R_reads' HO_5.out).2.2|(with_reducible refine Kd.C_alloc ?_ _)|(with_reducible refine Kd.C_drewN ?_ _)|(with_reducible refine Kd.C_drew ?_)));(case side4=>exact(Kd.R_reads' HO_5.out).2.1);rintro e w60 ⟨rfl,hb⟩;refine⟨_,rfl,?_⟩;have n0_:=Aside0.mk (Kd.R_below (zq4 HO_5) hb);have n1_:=Aside0.mk (Kd.R_below (zq4 HO_8) hb);have n2_:=Aside0.mk (Kd.R_below (zq4 HO416) hb);have n3_:=Aside0.mk (Kd.R_below (zq4 HO420) hb);have n4_:=Aside0.mk (below_step (zb0 HB) hb);clear HO_5;clear HO_8;clear HO416;clear HO420;clear HB;have HO_5:=n0_;have HO_8:=n1_;have HO416:=n2_;have HO420:=n3_;have HB:=n4_;clear n0_ n1_ n2_ n3_ n4_;(try clear hb);(try clear hb2);(try clear hk);(try clear hi)))
             go_meet
             case rel=>exact⟨_,((t418 !=t393)),(by first|rfl|(simp;done)|(simp [*];done)),H',⟨by have:=HJ7.out;have:=HJ27.out;first|omega|exact Nat.le_refl _⟩,⟨by(with_reducible repeat(first|apply Kd.R_alloc|apply Kd.R_drewN|apply Kd.R_drew));exact Kd.R_mono HO_8.out (fun _ hk=>trivial)⟩,⟨by repeat(first|(with_reducible first|exact HB.out|apply below_alloc|apply pw_below_drewN|apply below_drew1)|exact HB.out)⟩⟩
            ·replace c57:=Bool.eq_false_iff.mpr c57
             subst c57
             have H1:(laws_FnExactSpreadOn.j2 kj27 t412 t411 true)=some r:=by rw [if_neg (show ¬ (false=true) by decide)] at H;exact H
             clear H
             have H:=H1
             clear H1
             have H':=Aside0.mk H
             clear H
             obtain⟨Ao61,co61,eo61⟩:=Kd.R_slice HO420.out
             subst eo61
             obtain⟨Ao62,co62,eo62⟩:=Kd.R_slice HO_5.out
             subst eo62
             go_wp2_with (first|((with_reducible refine gate_callee (f:=30) rfl ?_);refine goesL_ (some 83) rfl rfl Try.func30 (by kernel_rfl) rfl #[.slice Ao61 t417.length co61,.slice Ao62 t392.length co62] rfl zq2 ?_;(with_reducible refine(laws_eqHopS.calls kj27 _ _ t417 _ _ t392 false _ ?side1 ?side2 ?side3 ?side4 A56.out).mono ?_);(case side1=>repeat(first|exact(Kd.R_reads' HO420.out).2.2|(with_reducible refine Kd.C_alloc ?_ _)|(with_reducible refine Kd.C_drewN ?_ _)|(with_reducible refine Kd.C_drew ?_)));(case side2=>exact(Kd.R_reads' HO420.out).2.1);(case side3=>repeat(first|exact(Kd.R_reads' HO_5.out).2.2|(with_reducible refine Kd.C_alloc ?_ _)|(with_reducible refine Kd.C_drewN ?_ _)|(with_reducible refine Kd.C_drew ?_)));(case side4=>exact(Kd.R_reads' HO_5.out).2.1);rintro e w63 ⟨rfl,hb⟩;refine⟨_,rfl,?_⟩;have n0_:=Aside0.mk (Kd.R_below (zq4 HO_5) hb);have n1_:=Aside0.mk (Kd.R_below (zq4 HO_8) hb);have n2_:=Aside0.mk (Kd.R_below (zq4 HO416) hb);have n3_:=Aside0.mk (Kd.R_below (zq4 HO420) hb);have n4_:=Aside0.mk (below_step (zb0 HB) hb);clear HO_5;clear HO_8;clear HO416;clear HO420;clear HB;have HO_5:=n0_;have HO_8:=n1_;have HO416:=n2_;have HO420:=n3_;have HB:=n4_;clear n0_ n1_ n2_ n3_ n4_;(try clear hb);(try clear hb2);(try clear hk);(try clear hi)))
             go_meet
             case rel=>exact⟨_,(true),(by first|rfl|(simp;done)|(simp [*];done)),H',⟨by have:=HJ7.out;have:=HJ27.out;first|omega|exact Nat.le_refl _⟩,⟨by(with_reducible repeat(first|apply Kd.R_alloc|apply Kd.R_drewN|apply Kd.R_drew));exact Kd.R_mono HO_8.out (fun _ hk=>trivial)⟩,⟨by repeat(first|(with_reducible first|exact HB.out|apply below_alloc|apply pw_below_drewN|apply below_drew1)|exact HB.out)⟩⟩
           case rest=>
            clear HC50
            try clear c1
            try clear c2
            try clear p2
            try clear c3
            try clear c3b0
            try clear c3b1
            try clear c4
            try clear c5
            try clear c7
            try clear c14
            try clear c16
            try clear c21
            try clear c23
            try clear c26
            try clear c28
            try clear c29
            try clear c30
            try clear c31
            try clear c32
            try clear c32b0
            try clear c34
            try clear c41
            try clear c44
            try clear c44b0
            try clear c47
            try clear c47b0
            try clear c47b1
            try clear c57
            try clear p2
            obtain⟨kq,x89_49,rfl,HA,HJ49,HO_8,HB⟩:=hcut
            have hl8_49:=(Kd.R_reads' HO_8.out).1
            rw [hl8_49] at HO_8
            (try simp only [hl8_49])
            cases kq with
            |zero=>exact absurd HA.out (by simp [laws_FnExactSpreadOn.j2])
            |succ kj49=>
             have H:=HA.out
             clear HA
             simp only [laws_FnExactSpreadOn.j2] at H
             by_cases c64:x89_49=true
             ·subst c64
              have H1:(some false)=some r:=by rw [if_pos rfl] at H;exact H
              clear H
              have H:=H1
              clear H1
              obtain rfl:=Option.some.inj H
              go_wp2
              go_ret
              exact⟨by first|rfl|(simp [errW_none,errW_some]<;>rfl)|(simp [*,errW_none,errW_some]<;>rfl),by repeat(first|(with_reducible first|exact HB.out|apply below_alloc|apply pw_below_drewN|apply below_drew1)|exact HB.out)⟩
             ·replace c64:=Bool.eq_false_iff.mpr c64
              subst c64
              have H1:((laws_heldHopS.f kj49 t412 1).bind fun t422=>(if t422< 0 then(some false) else(if t422=t411 then(some true) else(some false))))=some r:=by rw [if_neg (show ¬ (false=true) by decide)] at H;exact H
              clear H
              have H:=H1
              clear H1
              replace H:=Option.bind_eq_some_iff.mp H
              obtain⟨t422,A650,H⟩:=H
              replace H:(if t422< 0 then(some false) else(if t422=t411 then(some true) else(some false)))=some r:=H
              have A65:=Aside0.mk A650
              clear A650
              by_cases c66:t422< 0
              ·rw [if_pos c66] at H
               have c66b0:decide (t422< 0)=true:=decide_eq_true c66
               clear c66
               obtain rfl:=Option.some.inj H
               go_wp2_with (first|((with_reducible refine gate_callee (f:=32) rfl ?_);refine goesL_ (some 92) rfl rfl Try.func32 (by kernel_rfl) rfl #[.slice Ao51 t412.length co51,.int .i64 1] rfl zq2 ?_;(with_reducible refine(laws_heldHopS.calls kj49 _ _ t412 1 t422 _ ?side1 ?side2 A65.out).mono ?_);(case side1=>repeat(first|exact(Kd.R_reads' HO_8.out).2.2|(with_reducible refine Kd.C_alloc ?_ _)|(with_reducible refine Kd.C_drewN ?_ _)|(with_reducible refine Kd.C_drew ?_)));(case side2=>exact(Kd.R_reads' HO_8.out).2.1);rintro e w' ⟨rfl,⟨nd,rfl⟩⟩;refine⟨_,rfl,?_⟩))
               go_ret
               exact⟨by first|rfl|(simp [errW_none,errW_some]<;>rfl)|(simp [*,errW_none,errW_some]<;>rfl),by repeat(first|(with_reducible first|exact HB.out|apply below_alloc|apply pw_below_drewN|apply below_drew1)|exact HB.out)⟩
              ·rw [if_neg c66] at H
               have c66b0:decide (t422< 0)=false:=decide_eq_false c66
               clear c66
               by_cases c67:t422=t411
               ·rw [if_pos c67] at H
                have c67b0:(t422==t411)=true:=beq_iff_eq.mpr c67
                have c67b1:(t422 !=t411)=false:=bne_eq_false_iff_eq.mpr c67
                clear c67
                obtain rfl:=Option.some.inj H
                go_wp2_with (first|((with_reducible refine gate_callee (f:=32) rfl ?_);refine goesL_ (some 92) rfl rfl Try.func32 (by kernel_rfl) rfl #[.slice Ao51 t412.length co51,.int .i64 1] rfl zq2 ?_;(with_reducible refine(laws_heldHopS.calls kj49 _ _ t412 1 t422 _ ?side1 ?side2 A65.out).mono ?_);(case side1=>repeat(first|exact(Kd.R_reads' HO_8.out).2.2|(with_reducible refine Kd.C_alloc ?_ _)|(with_reducible refine Kd.C_drewN ?_ _)|(with_reducible refine Kd.C_drew ?_)));(case side2=>exact(Kd.R_reads' HO_8.out).2.1);rintro e w' ⟨rfl,⟨nd,rfl⟩⟩;refine⟨_,rfl,?_⟩))
                go_ret
                exact⟨by first|rfl|(simp [errW_none,errW_some]<;>rfl)|(simp [*,errW_none,errW_some]<;>rfl),by repeat(first|(with_reducible first|exact HB.out|apply below_alloc|apply pw_below_drewN|apply below_drew1)|exact HB.out)⟩
               ·rw [if_neg c67] at H
                have c67b0:(t422==t411)=false:=beq_eq_false_iff_ne.mpr c67
                have c67b1:(t422 !=t411)=true:=bne_iff_ne.mpr c67
                obtain rfl:=Option.some.inj H
                go_wp2_with (first|((with_reducible refine gate_callee (f:=32) rfl ?_);refine goesL_ (some 92) rfl rfl Try.func32 (by kernel_rfl) rfl #[.slice Ao51 t412.length co51,.int .i64 1] rfl zq2 ?_;(with_reducible refine(laws_heldHopS.calls kj49 _ _ t412 1 t422 _ ?side1 ?side2 A65.out).mono ?_);(case side1=>repeat(first|exact(Kd.R_reads' HO_8.out).2.2|(with_reducible refine Kd.C_alloc ?_ _)|(with_reducible refine Kd.C_drewN ?_ _)|(with_reducible refine Kd.C_drew ?_)));(case side2=>exact(Kd.R_reads' HO_8.out).2.1);rintro e w' ⟨rfl,⟨nd,rfl⟩⟩;refine⟨_,rfl,?_⟩))
                go_ret
                exact⟨by first|rfl|(simp [errW_none,errW_some]<;>rfl)|(simp [*,errW_none,errW_some]<;>rfl),by repeat(first|(with_reducible first|exact HB.out|apply below_alloc|apply pw_below_drewN|apply below_drew1)|exact HB.out)⟩
          ·rw [if_neg c47] at H
           have c47b0:(t413==t411)=false:=beq_eq_false_iff_ne.mpr c47
           have c47b1:(t413 !=t411)=true:=bne_iff_ne.mpr c47
           obtain rfl:=Option.some.inj H
           obtain⟨Ao68,co68,eo68⟩:=Kd.R_slice HO_8.out
           subst eo68
           go_wp2_with (first|((with_reducible refine gate_callee (f:=31) rfl ?_);refine goesL_ (some 65) rfl rfl Try.func31 (by kernel_rfl) rfl #[.slice Ao68 t399.length co68,.int .i64 1] rfl zq2 ?_;(with_reducible refine(laws_markHopS.calls kj27 (fun k_=>some k_= (.slice Ao68 t399.length co68:Value).ownBlock) (.slice Ao68 t399.length co68) t399 1 t411 t412 w _ ?side1 ?side2 A42.out).mono ?_);(case side1=>repeat(first|(with_reducible first|exact HB.out|apply below_alloc|apply pw_below_drewN|apply below_drew1)|exact HB.out));(case side2=>exact Kd.R_tight rfl HO_8.out);rintro e w69 ⟨rfl,hy0,hb,hkp⟩;refine⟨_,rfl,?_⟩;have n0_:=Aside0.mk (Kd.R_mono (ok':=fun k_=>some k_≠ (.slice Ao68 t399.length co68:Value).ownBlock) (Kd.R_keptB (HO_5.out) hkp (fun k_ hk_ hs_=>(hk_) hs_)) (fun k_ hk_=>hk_.1));have n1_:=Aside0.mk (Kd.R_reok rfl hy0 (fun k_ e_=>HO_8.out.1 k_ e_));have n2_:=Aside0.mk (hb);clear HO_5;clear HO_8;clear HB;have HO_5:=n0_;have HO_8:=n1_;have HB:=n2_;clear n0_ n1_ n2_;(try clear hb);(try clear hkp);(try clear hy0))|((with_reducible refine gate_callee (f:=32) rfl ?_);refine goesL_ (some 68) rfl rfl Try.func32 (by kernel_rfl) rfl #[.slice Ao68 t412.length co68,.int .i64 1] rfl (by(try simp only [List.map_toArray,List.map_cons,List.map_nil]);first|done|(rw [show t412.length=t399.length from (Kd.R_reads' HO_8.out).1.symm]<;>rfl)|rfl|(simp only [List.length_drop,List.length_take];rfl)) ?_;(with_reducible refine(laws_heldHopS.calls kj27 _ _ t412 1 t413 _ ?side1 ?side2 A43.out).mono ?_);(case side1=>repeat(first|exact(Kd.R_reads' HO_8.out).2.2|(with_reducible refine Kd.C_alloc ?_ _)|(with_reducible refine Kd.C_drewN ?_ _)|(with_reducible refine Kd.C_drew ?_)));(case side2=>rw [show t412.length=t399.length from (Kd.R_reads' HO_8.out).1.symm];exact(Kd.R_reads' HO_8.out).2.1);rintro e w' ⟨rfl,⟨nd,rfl⟩⟩;refine⟨_,rfl,?_⟩))
           go_ret
           exact⟨by first|rfl|(simp [errW_none,errW_some]<;>rfl)|(simp [*,errW_none,errW_some]<;>rfl),by repeat(first|(with_reducible first|exact HB.out|apply below_alloc|apply pw_below_drewN|apply below_drew1)|exact HB.out)⟩
     ·replace c26:=Bool.eq_false_iff.mpr c26
      subst c26
      have H1:(some false)=some r:=by rw [if_neg (show ¬ (false=true) by decide)] at H;exact H
      clear H
      have H:=H1
      clear H1
      obtain rfl:=Option.some.inj H
      go_wp2_with (first|((with_reducible refine gate_callee (f:=14) rfl ?_);refine goesL_ (some 44) rfl rfl Try.func14 (by kernel_rfl) rfl #[.slice A0 l0.length c0] rfl zq2 ?_;(with_reducible refine(laws_toIntS.calls kj7 _ _ l0 t404 _ ?side1 ?side2 A24.out).mono ?_);(case side1=>repeat(first|exact(Kd.C_below HR0.out HB.out)|(with_reducible refine Kd.C_alloc ?_ _)|(with_reducible refine Kd.C_drewN ?_ _)|(with_reducible refine Kd.C_drew ?_)));(case side2=>exact HC0.out);rintro e w70 ⟨v405,rfl,ho0,hb⟩;refine⟨_,rfl,?_⟩;have n0_:=Aside0.mk (Kd.R_below (zq4 HO_5) hb);have n1_:=Aside0.mk (Kd.R_elder' (zq4 HO_7) (Kd.R_base ho0) hb);have n2_:=Aside0.mk (Kd.R_below (zq4 HO_8) hb);have n3_:=Aside0.mk (Kd.R_lower (Kd.R_new' ho0 (Kd.R_lt (zq4 HO_7))) (below_size (zb0 HB)));have n4_:=Aside0.mk (below_step (zb0 HB) hb);clear HO_5;clear HO_7;clear HO_8;clear HB;have HO_5:=n0_;have HO_7:=n1_;have HO_8:=n2_;have HO406:=n3_;have HB:=n4_;clear n0_ n1_ n2_ n3_ n4_;(try clear hb);(try clear hb2);(try clear hk);(try clear hi);(try clear ho0);obtain⟨Ao71,co71,eo71⟩:=Kd.R_slice HO406.out;subst eo71)|((with_reducible refine gate_callee (f:=16) rfl ?_);refine goesL_ (some 45) rfl rfl Try.func16 (by kernel_rfl) rfl #[.slice Ao13 t396.length co13,.slice Ao71 t404.length co71] rfl zq2 ?_;(with_reducible refine(laws_eqIntS.calls kj7 _ _ t396 _ _ t404 false _ ?side1 ?side2 ?side3 ?side4 A25.out).mono ?_);(case side1=>repeat(first|exact(Kd.R_reads' HO_7.out).2.2|(with_reducible refine Kd.C_alloc ?_ _)|(with_reducible refine Kd.C_drewN ?_ _)|(with_reducible refine Kd.C_drew ?_)));(case side2=>exact(Kd.R_reads' HO_7.out).2.1);(case side3=>repeat(first|exact(Kd.R_reads' HO406.out).2.2|(with_reducible refine Kd.C_alloc ?_ _)|(with_reducible refine Kd.C_drewN ?_ _)|(with_reducible refine Kd.C_drew ?_)));(case side4=>exact(Kd.R_reads' HO406.out).2.1);rintro e w' ⟨rfl,⟨nd,rfl⟩⟩;refine⟨_,rfl,?_⟩))
      go_ret
      exact⟨by first|rfl|(simp [errW_none,errW_some]<;>rfl)|(simp [*,errW_none,errW_some]<;>rfl),by repeat(first|(with_reducible first|exact HB.out|apply below_alloc|apply pw_below_drewN|apply below_drew1)|exact HB.out)⟩
/-- THE ONE PURE STATEMENT of laws_FnExactSpreadOn: yours. -/
def laws_FnExactSpreadOn.Pure:Prop:= ∀ (l0:List Int) (a1:Int),l0.length≤maxLen→l0.length * 8≤140737488351232→ (∀ x ∈ l0,(Lit.int .i64 x).wf=true)→ (Lit.int .i64 a1).wf=true→ ∃ k,laws_FnExactSpreadOn.f k l0 a1=some true
theorem laws_FnExactSpreadOn.walk (P:laws_FnExactSpreadOn.Pure) (a0:Option Addr) (len0 cap0:Nat) (z0:List Int) (a1:Int) (w:World) (w0:(a0=none∧len0=0∧cap0=0∧z0= [])∨ ∃ x,a0=some x∧len0≤cap0∧cap0≤maxLen∧z0.length=cap0∧ (∀ i,i<z0.length→w.cell? (x.add i)=some (.int .i64 (z0.getD i 0)))∧ ∀ n ∈ z0,(Lit.int .i64 n).wf=true) (y0:len0 * 8≤140737488351232) (w1:(Lit.int .i64 a1).wf=true):
  Calls Try.prog 7 #[.slice a0 len0 cap0,.int .i64 a1] w fun e w'=>e= .returned (.bool true)∧Below w.heap.size w w':=by
 obtain⟨l0,rfl,hr0,hm0,hw0,hc0⟩:=ReadsInt.ofRowC w0
 obtain⟨k,h⟩:=P l0 a1 hm0 y0 hw0 w1
 refine(laws_FnExactSpreadOn.calls k _ _ l0 a1 true w (Kd.C_of_reads (d:=(0:Int)) (h1:=fun _=>rfl) hr0) hc0 h).mono ?_
 rintro e w' ⟨rfl,hd⟩
 exact⟨rfl,hd⟩
end Go.Proofs.Ytedegfbheihopaa.P

namespace Go.Proofs.Ytedegfbheihopaa.P
open Go.RowKit Go.Proofs.YtedegfbheihopaaW.PrintWords
set_option linter.unusedVariables false
set_option linter.unusedSimpArgs false
theorem wrap_id {x : Int} (h0 : -9223372036854775808 ≤ x) (h1 : x ≤ 9223372036854775807) : wrap64 x = x := by unfold wrap64; omega
theorem Ev.succ {α : Type} {g : Nat → Option α} {r : α} (h : Ev (fun k => g (k + 1)) r) : Ev g r := Ev.step (fun _ => rfl) h
theorem Ev.some_ {α : Type} {r s : α} (h : r = s) : Ev (fun _ => some r) s := h ▸ Ev.now r
theorem getD_mid {α : Type} (d : α) (pre : List α) (x : α) (suf : List α) : (pre ++ x :: suf).getD ((pre.length : Int)).toNat d = x := by simp
theorem set_mid {α : Type} (pre : List α) (x y : α) (suf : List α) : (pre ++ x :: suf).set ((pre.length : Int)).toNat y = pre ++ y :: suf := by simp
theorem app_one {α : Type} (pre : List α) (x : α) (suf : List α) : pre ++ x :: suf = (pre ++ [x]) ++ suf := by simp
theorem len_mid {α : Type} (pre : List α) (x : α) (suf : List α) : ((pre ++ x :: suf).length : Int) = pre.length + suf.length + 1 := by simp; omega
theorem len_one {α : Type} (pre : List α) (x : α) : ((pre ++ [x]).length : Int) = pre.length + 1 := by simp
end Go.Proofs.Ytedegfbheihopaa.P

namespace Go.Proofs.Ytedegfbheihopaa.P
open Go.RowKit Go.Proofs.YtedegfbheihopaaW.PrintWords Go.Proofs.YtedegfbheihopaaW.PrintLast
set_option linter.unusedVariables false
set_option linter.unusedSimpArgs false
theorem rd_mid (pre : List Int) (x : Int) (suf : List Int) : rd (pre ++ x :: suf) (pre.length : Int) = x := getD_mid _ pre x suf
theorem eqIntS_l (s : List Int) : ∀ (t pre qre : List Int) (k : Nat), s.length < k → pre.length = qre.length → s.length = t.length → (pre.length : Int) + s.length ≤ 1099511627776 →
  laws_eqIntS.l0 k (pre ++ s) (qre ++ t) (pre.length : Int) = some (decide (s = t)) := by
 induction s with
 | nil =>
  intro t pre qre k hk hq hl hb
  obtain ⟨k, rfl⟩ : ∃ m, k = m + 1 := ⟨k - 1, by omega⟩
  obtain rfl : t = [] := List.eq_nil_of_length_eq_zero (by simpa using hl.symm)
  simp only [laws_eqIntS.l0]
  rw [if_neg (by simp)]
  simp
 | cons x s ih =>
  intro t pre qre k hk hq hl hb
  cases t with
  | nil => simp at hl
  | cons y t =>
   simp only [List.length_cons] at hk hl hb
   obtain ⟨k, rfl⟩ : ∃ m, k = m + 1 := ⟨k - 1, by omega⟩
   have h := ih t (pre ++ [x]) (qre ++ [y]) k (by omega) (by simp; omega) (by omega) (by simp; omega)
   have hy : rd (qre ++ y :: t) (pre.length : Int) = y := by rw [hq]; exact rd_mid qre y t
   simp only [laws_eqIntS.l0]
   rw [if_pos (by simp <;> omega), if_pos (by omega), if_pos (by simp <;> omega), rd_mid, hy, wrap_id (by omega) (by omega)]
   by_cases e : x = y
   ·subst e
    rw [if_pos rfl]
    simpa using h
   ·rw [if_neg e]
    simp [e]
theorem eqIntS_ev (s t : List Int) (hs : s.length ≤ 1099511627776) : Ev (fun k => laws_eqIntS.f k s t) (decide (s = t)) := by
 refine ⟨s.length + 1, fun k hk => ?_⟩
 show laws_eqIntS.f k s t = _
 unfold laws_eqIntS.f
 by_cases hl : s.length = t.length
 ·rw [if_pos (by omega)]
  exact eqIntS_l s t [] [] k (by omega) rfl hl (by simp; omega)
 ·rw [if_neg (by omega)]
  have : s ≠ t := fun e => hl (by rw [e])
  simp [this]
end Go.Proofs.Ytedegfbheihopaa.P

namespace Go.Proofs.Ytedegfbheihopaa.P
open Go.RowKit Go.Proofs.YtedegfbheihopaaW.PrintWords Go.Proofs.YtedegfbheihopaaW.PrintLast
set_option linter.unusedVariables false
set_option linter.unusedSimpArgs false
-- sweeps over a list of numbers, and a list taken over, both sides
theorem specIn (a b c : Int) : spec_l1In.f a b c = some (decide (b ≤ a ∧ a ≤ c)) := by
 unfold spec_l1In.f
 by_cases h : a ≥ b
 ·rw [if_pos h]
  congr 1
  by_cases h2 : a ≤ c
  ·rw [decide_eq_true h2, decide_eq_true ⟨h, h2⟩]
  ·rw [decide_eq_false h2, decide_eq_false (fun hc => h2 hc.2)]
 ·rw [if_neg h, decide_eq_false (fun hc => h hc.1)]
theorem implIn (a b c : Int) : impl_in.f a b c = some (decide (b ≤ a ∧ a ≤ c)) := specIn a b c
def allIn (a b : Int) (l : List Int) : Bool := l.all fun x => decide (a ≤ x ∧ x ≤ b)
theorem implAll_l (a b : Int) (suf : List Int) : ∀ (pre : List Int), ((pre ++ suf).length : Int) ≤ 1099511627776 → Ev (fun k => impl_allIn.l0 k a b (pre ++ suf) ((pre ++ suf).length : Int) pre.length) (allIn a b suf) := by
 induction suf with
 | nil =>
  intro pre h
  refine Ev.succ ?_
  simp only [impl_allIn.l0, List.append_nil, Int.lt_irrefl, if_false]
  exact Ev.now _
 | cons x suf ih =>
  intro pre h
  refine Ev.succ ?_
  rw [len_mid] at h ⊢
  simp only [impl_allIn.l0]
  simp only [if_pos (show ((pre.length : Int) < pre.length + suf.length + 1) by omega), if_pos (show (0 : Int) ≤ pre.length by omega), len_mid, rd_mid, implIn, Option.bind_some, wrap_id (show (-9223372036854775808 : Int) ≤ pre.length + 1 by omega) (show ((pre.length : Int) + 1 ≤ 9223372036854775807) by omega)]
  by_cases hx : a ≤ x ∧ x ≤ b
  ·have := ih (pre ++ [x]) (by rw [← app_one, len_mid]; exact h)
   rw [← app_one, len_mid, len_one] at this
   simp only [hx, and_self, decide_true, if_true]
   rw [show allIn a b (x :: suf) = allIn a b suf by simp [allIn, hx]]
   exact this
  ·simp only [decide_eq_true_eq, if_neg hx]
   rw [show allIn a b (x :: suf) = false by simp [allIn]; intro h1 h2; exact absurd ⟨h1, h2⟩ hx]
   exact Ev.now _
theorem implAll_ev (a b : Int) (l : List Int) (h : (l.length : Int) ≤ 1099511627776) : Ev (fun k => impl_allIn.f k l a b) (allIn a b l) := by
 have := implAll_l a b l [] h
 exact this
end Go.Proofs.Ytedegfbheihopaa.P

namespace Go.Proofs.Ytedegfbheihopaa.P
open Go.RowKit Go.Proofs.YtedegfbheihopaaW.PrintWords Go.Proofs.YtedegfbheihopaaW.PrintLast
set_option linter.unusedVariables false
set_option linter.unusedSimpArgs false
/-- The spots' own numbers. -/
def own0 (n : Nat) : List Int := (List.range n).map fun (i : Nat) => (i : Int)
end Go.Proofs.Ytedegfbheihopaa.P

namespace Go.Proofs.Ytedegfbheihopaa.P
open Go.RowKit Go.Proofs.YtedegfbheihopaaW.PrintWords Go.Proofs.YtedegfbheihopaaW.PrintLast
set_option linter.unusedVariables false
set_option linter.unusedSimpArgs false
-- sweeps over a list of numbers; the least of two
theorem own0_succ (n : Nat) : own0 (n + 1) = own0 n ++ [(n : Int)] := by
 unfold own0
 rw [List.range_succ, List.map_append]
 rfl
theorem own0_mem (n : Nat) (x : Int) : x ∈ own0 n ↔ 0 ≤ x ∧ x < n := by
 unfold own0
 rw [List.mem_map]
 constructor
 ·rintro ⟨i, hi, rfl⟩
  have := List.mem_range.1 hi
  omega
 ·intro ⟨h0, h1⟩
  exact ⟨x.toNat, List.mem_range.2 (by omega), by omega⟩
theorem own0_sorted : ∀ (n : Nat), (own0 n).Pairwise (· < ·)
 | 0 => by simp [own0]
 | n + 1 => by
  rw [own0_succ]
  refine List.pairwise_append.2 ⟨own0_sorted n, by simp, fun a ha b hb => ?_⟩
  have := (own0_mem n a).1 ha
  simp only [List.mem_singleton] at hb
  omega
end Go.Proofs.Ytedegfbheihopaa.P

namespace Go.Proofs.Ytedegfbheihopaa.P
open Go.RowKit Go.Proofs.YtedegfbheihopaaW.PrintWords Go.Proofs.YtedegfbheihopaaW.PrintLast
set_option linter.unusedVariables false
set_option linter.unusedSimpArgs false
-- the neighbours of a node: the sorted puts and the sweep over costs give one list
def putI : List Int → Int → List Int
 | [], x => [x]
 | y :: r, x => if y < x then y :: putI r x else if y = x then y :: r else x :: y :: r
theorem put_l (x : Int) (suf : List Int) : ∀ (pre : List Int), ((pre ++ suf).length : Int) ≤ 4398046511104 → Ev (fun k => spec_l1Put.l0 k (pre ++ suf) x pre.length) (pre ++ putI suf x) := by
 induction suf with
 | nil =>
  intro pre h
  refine Ev.succ ?_
  simp only [List.append_nil] at h ⊢
  have h0 : pre.length < 17592186044416 := by omega
  simp only [spec_l1Put.l0, Int.lt_irrefl, if_false, Option.bind_some, if_pos (show (0 : Int) ≤ pre.length by omega), if_pos (Int.le_refl (pre.length : Int)), Int.toNat_natCast, List.take_length, List.drop_length, List.nil_append, List.length_nil, Nat.zero_add, if_pos h0, List.length_append, List.length_cons, Nat.add_zero, List.append_nil, if_pos (show pre.length + (0 + 1) < 17592186044416 by omega), if_pos (show pre.length + 1 < 17592186044416 by omega), putI]
  exact Ev.now _
 | cons y suf ih =>
  intro pre h
  refine Ev.succ ?_
  have hl := len_mid pre y suf
  rw [hl] at h
  simp only [spec_l1Put.l0, hl, rd_mid, if_pos (show ((pre.length : Int) < pre.length + suf.length + 1) by omega), if_pos (show (0 : Int) ≤ pre.length by omega), wrap_id (show (-9223372036854775808 : Int) ≤ pre.length + 1 by omega) (show ((pre.length : Int) + 1 ≤ 9223372036854775807) by omega)]
  by_cases h1 : y < x
  ·have := ih (pre ++ [y]) (by rw [← app_one, hl]; exact h)
   rw [← app_one, len_one] at this
   simp only [if_pos h1, putI]
   rw [app_one] at this
   rw [app_one pre y (putI suf x)]
   rw [← app_one] at this
   exact this
  ·by_cases h2 : y = x
   ·simp only [if_neg h1, if_pos h2, putI]
    exact Ev.now _
   ·have h0 : pre.length < 17592186044416 := by omega
    simp only [if_neg h1, if_neg h2, putI, Option.bind_some, if_pos (show (pre.length : Int) ≤ pre.length + suf.length + 1 by omega), Int.toNat_natCast, List.take_left, List.drop_left, List.nil_append, List.length_nil, Nat.zero_add, if_pos h0, List.length_append, List.length_cons, if_pos (show pre.length + 1 + (suf.length + 1) < 17592186044416 by omega), if_pos (show pre.length + (0 + 1) + (suf.length + 1) < 17592186044416 by omega), List.append_assoc, List.cons_append]
    exact Ev.now _
theorem put_ev (l : List Int) (x : Int) (h : (l.length : Int) ≤ 4398046511104) : Ev (fun k => spec_l1Put.f k l x) (putI l x) := by
 have := put_l x l [] h
 exact this
end Go.Proofs.Ytedegfbheihopaa.P

namespace Go.Proofs.Ytedegfbheihopaa.P
open Go.RowKit Go.Proofs.YtedegfbheihopaaW.PrintWords Go.Proofs.YtedegfbheihopaaW.PrintLast
set_option linter.unusedVariables false
set_option linter.unusedSimpArgs false
-- a list taken over
theorem toIntS_l (suf : List Int) : ∀ (pre : List Int), ((pre ++ suf).length : Int) ≤ 1099511627776 → Ev (fun k => laws_toIntS.l0 k (pre ++ suf) (pre ++ List.replicate suf.length 0) pre.length) (pre ++ suf) := by
 induction suf with
 | nil =>
  intro pre h
  refine Ev.succ ?_
  simp only [laws_toIntS.l0, List.append_nil, Int.lt_irrefl, if_false, List.length_nil, List.replicate_zero]
  exact Ev.now _
 | cons x suf ih =>
  intro pre h
  refine Ev.succ ?_
  rw [len_mid] at h
  have := ih (pre ++ [x]) (by rw [← app_one, len_mid]; exact h)
  rw [← app_one, len_one] at this
  have hr : ((pre ++ List.replicate (x :: suf).length (0 : Int)).length : Int) = pre.length + suf.length + 1 := by simp; omega
  simp only [laws_toIntS.l0]
  simp only [len_mid, hr, if_pos (show ((pre.length : Int) < pre.length + suf.length + 1) by omega), if_pos (show (0 : Int) ≤ pre.length by omega), rd_mid, wrap_id (show (-9223372036854775808 : Int) ≤ pre.length + 1 by omega) (show ((pre.length : Int) + 1 ≤ 9223372036854775807) by omega)]
  rw [List.length_cons, List.replicate_succ, set_mid, app_one pre x (List.replicate suf.length 0)]
  exact this
theorem toIntS_ev (l : List Int) (hl : l.length ≤ 1048576) : Ev (fun k => laws_toIntS.f k l) l := by
 unfold laws_toIntS.f
 simp only [if_pos (show (0 : Int) ≤ (l.length : Int) by omega), Int.toNat_natCast, if_pos (show l.length ≤ 35184372088832 by omega)]
 have := toIntS_l l [] (by simp only [List.nil_append]; omega)
 exact this
end Go.Proofs.Ytedegfbheihopaa.P

namespace Go.Proofs.Ytedegfbheihopaa.P
open Go.RowKit Go.Proofs.YtedegfbheihopaaW.PrintWords Go.Proofs.YtedegfbheihopaaW.PrintLast
set_option linter.unusedVariables false
set_option linter.unusedSimpArgs false
-- a tree by its parents: the climb from every node ends
def inr (n x : Int) : Bool := decide (-1 ≤ x ∧ x ≤ wrap64 (n - 1))
def inn (n : Int) : Bool := decide (1 ≤ n ∧ n ≤ 12)
def upOk (l : List Int) : Nat → Int → Bool
 | 0, u => decide (u < 0)
 | d + 1, u => if u ≥ 0 then inr (l.length : Int) (rd l u) && upOk l d (rd l u) else true
def climb (l : List Int) : Nat → Int → Int
 | 0, u => u
 | d + 1, u => if u ≥ 0 then climb l d (rd l u) else climb l d u
def chkS (l : List Int) : List Int → Nat → Bool
 | [], _ => inn (l.length : Int)
 | x :: suf, i => inr (l.length : Int) x && (upOk l l.length i && chkS l suf (i + 1))
def chkI (l : List Int) : Nat → Nat → Bool
 | 0, _ => true
 | d + 1, i => decide (climb l l.length i < 0) && chkI l d (i + 1)
theorem topLen {l : List Int} (hl : l.length ≤ 1048576) : wrap64 ((l.length : Int) - 1) = (l.length : Int) - 1 := wrap_id (by omega) (by omega)
theorem specPar_l1 (l : List Int) (hl : l.length ≤ 1048576) (X : List Int) (m i : Int) (R : Bool) (d : Nat) : ∀ (h : Nat) (u : Int), h + d = l.length → -1 ≤ u → u < l.length →
  (upOk l d u = true → Ev (fun k => spec_GoodParents.l0 k l l.length X m (wrap64 (i + 1))) R) → (upOk l d u = false → R = false) →
  Ev (fun k => spec_GoodParents.l1 k l l.length h u X m i) R := by
 induction d with
 | zero =>
  intro h u hd h0 h1 hT hF
  refine Ev.succ ?_
  by_cases hu : u ≥ 0
  ·simp only [spec_GoodParents.l1, if_pos hu, wrap_id (show (-9223372036854775808 : Int) ≤ h + 1 by omega) (show ((h : Int) + 1 ≤ 9223372036854775807) by omega), if_pos (show (h : Int) + 1 > l.length by omega)]
   exact Ev.some_ (hF (by rw [upOk]; exact decide_eq_false (by omega))).symm
  ·simp only [spec_GoodParents.l1, if_neg hu]
   exact hT (by rw [upOk]; exact decide_eq_true (by omega))
 | succ d ih =>
  intro h u hd h0 h1 hT hF
  refine Ev.succ ?_
  by_cases hu : u ≥ 0
  ·simp only [spec_GoodParents.l1, if_pos hu, wrap_id (show (-9223372036854775808 : Int) ≤ h + 1 by omega) (show ((h : Int) + 1 ≤ 9223372036854775807) by omega), if_neg (show ¬ (h : Int) + 1 > l.length by omega), if_pos (show 0 ≤ u from hu), if_pos h1, specIn, Option.bind_some, decide_eq_true_eq]
   rw [upOk, if_pos hu] at hT hF
   by_cases hr : -1 ≤ rd l u ∧ rd l u ≤ wrap64 ((l.length : Int) - 1)
   ·simp only [if_pos hr]
    rw [inr, decide_eq_true hr, Bool.true_and] at hT hF
    rw [topLen hl] at hr
    have := ih (h + 1) (rd l u) (by omega) hr.1 (by omega) hT hF
    exact this
   ·simp only [if_neg hr]
    rw [inr, decide_eq_false hr, Bool.false_and] at hF
    exact Ev.some_ (hF rfl).symm
  ·simp only [spec_GoodParents.l1, if_neg hu]
   exact hT (by rw [upOk, if_neg hu])
theorem specPar_l0 (l : List Int) (hl : l.length ≤ 1048576) (suf : List Int) : ∀ (pre : List Int), pre ++ suf = l →
  Ev (fun k => spec_GoodParents.l0 k l l.length l l.length pre.length) (chkS l suf pre.length) := by
 induction suf with
 | nil =>
  intro pre h
  refine Ev.succ ?_
  rw [List.append_nil] at h
  subst h
  simp only [spec_GoodParents.l0, Int.lt_irrefl, if_false, specIn, Option.bind_some]
  exact Ev.now _
 | cons x suf ih =>
  intro pre h
  refine Ev.succ ?_
  have hn : (l.length : Int) = pre.length + suf.length + 1 := by rw [← h, len_mid]
  have hx : rd l (pre.length : Int) = x := by rw [← h, rd_mid]
  simp only [spec_GoodParents.l0, if_pos (show (pre.length : Int) < l.length by omega), if_pos (show (0 : Int) ≤ pre.length by omega), hx, specIn, Option.bind_some, decide_eq_true_eq]
  rw [chkS]
  by_cases hr : -1 ≤ x ∧ x ≤ wrap64 ((l.length : Int) - 1)
  ·simp only [if_pos hr]
   rw [inr, decide_eq_true hr, Bool.true_and]
   refine specPar_l1 l hl l l.length pre.length _ l.length 0 pre.length (by omega) (by omega) (by omega) ?_ ?_
   ·intro ho
    rw [ho, Bool.true_and, wrap_id (show (-9223372036854775808 : Int) ≤ pre.length + 1 by omega) (show ((pre.length : Int) + 1 ≤ 9223372036854775807) by omega)]
    have := ih (pre ++ [x]) (by rw [← app_one]; exact h)
    rw [len_one, List.length_append, List.length_singleton] at this
    exact this
   ·intro ho
    rw [ho, Bool.false_and]
  ·simp only [if_neg hr]
   rw [inr, decide_eq_false hr, Bool.false_and]
   exact Ev.now _
theorem implPar_l1 (l : List Int) (hl : l.length ≤ 1048576) (ha : allIn (-1) ((l.length : Int) - 1) l = true) (m i : Int) (R : Bool) (d : Nat) : ∀ (c : Nat) (u : Int), c + d = l.length → -1 ≤ u → u < l.length →
  Ev (fun k => if climb l d u ≥ 0 then some false else impl_GoodParents.l0 k l m (wrap64 (i + 1))) R →
  Ev (fun k => impl_GoodParents.l1 k l u m i l.length c) R := by
 induction d with
 | zero =>
  intro c u hd h0 h1 hR
  refine Ev.succ ?_
  simp only [impl_GoodParents.l1, if_neg (show ¬ (c : Int) < l.length by omega)]
  exact hR
 | succ d ih =>
  intro c u hd h0 h1 hR
  refine Ev.succ ?_
  rw [climb] at hR
  simp only [impl_GoodParents.l1, if_pos (show (c : Int) < l.length by omega), wrap_id (show (-9223372036854775808 : Int) ≤ c + 1 by omega) (show ((c : Int) + 1 ≤ 9223372036854775807) by omega)]
  by_cases hu : u ≥ 0
  ·simp only [if_pos hu, if_pos (show 0 ≤ u from hu), if_pos h1] at hR ⊢
   have hm : rd l u ∈ l := by
    unfold rd
    rw [List.getD_eq_getElem?_getD, List.getElem?_eq_getElem (show u.toNat < l.length by omega)]
    exact List.getElem_mem _
   have := List.all_eq_true.1 ha _ hm
   rw [decide_eq_true_eq] at this
   exact ih (c + 1) _ (by omega) this.1 (by omega) hR
  ·simp only [if_neg hu] at hR ⊢
   exact ih (c + 1) _ (by omega) h0 h1 hR
theorem implPar_l0 (l : List Int) (hl : l.length ≤ 1048576) (ha : allIn (-1) ((l.length : Int) - 1) l = true) (d : Nat) : ∀ (c : Nat), c + d = l.length →
  Ev (fun k => impl_GoodParents.l0 k l l.length c) (chkI l d c) := by
 induction d with
 | zero =>
  intro c h
  refine Ev.succ ?_
  simp only [impl_GoodParents.l0, if_neg (show ¬ (c : Int) < l.length by omega)]
  exact Ev.now _
 | succ d ih =>
  intro c h
  refine Ev.succ ?_
  simp only [impl_GoodParents.l0, if_pos (show (c : Int) < l.length by omega)]
  refine implPar_l1 l hl ha l.length c _ l.length 0 c (by omega) (by omega) (by omega) ?_
  rw [chkI]
  by_cases hc : climb l l.length c ≥ 0
  ·simp only [if_pos hc]
   rw [decide_eq_false (by omega), Bool.false_and]
   exact Ev.now _
  ·simp only [if_neg hc]
   rw [decide_eq_true (by omega), Bool.true_and, wrap_id (show (-9223372036854775808 : Int) ≤ c + 1 by omega) (show ((c : Int) + 1 ≤ 9223372036854775807) by omega)]
   exact ih (c + 1) (by omega)
theorem climb_neg (l : List Int) : ∀ (d : Nat) (u : Int), u < 0 → climb l d u = u
 | 0, _, _ => rfl
 | d + 1, u, h => by rw [climb, if_neg (by omega)]; exact climb_neg l d u h
theorem upOk_climb (l : List Int) (hl : l.length ≤ 1048576) (ha : allIn (-1) ((l.length : Int) - 1) l = true) : ∀ (d : Nat) (u : Int), -1 ≤ u → u < l.length → upOk l d u = decide (climb l d u < 0)
 | 0, _, _, _ => rfl
 | d + 1, u, h0, h1 => by
  rw [upOk, climb]
  by_cases hu : u ≥ 0
  ·have hm : rd l u ∈ l := by
    unfold rd
    rw [List.getD_eq_getElem?_getD, List.getElem?_eq_getElem (show u.toNat < l.length by omega)]
    exact List.getElem_mem _
   have := List.all_eq_true.1 ha _ hm
   rw [decide_eq_true_eq] at this
   rw [if_pos hu, if_pos hu, inr, topLen hl, decide_eq_true this, Bool.true_and]
   exact upOk_climb l hl ha d _ this.1 (by omega)
  ·rw [if_neg hu, if_neg hu, climb_neg l d u (by omega)]
   exact (decide_eq_true (by omega)).symm
theorem chk_same (l : List Int) (hl : l.length ≤ 1048576) (ha : allIn (-1) ((l.length : Int) - 1) l = true) : ∀ (suf : List Int) (c : Nat), (∀ x ∈ suf, x ∈ l) → c + suf.length = l.length → chkS l suf c = (chkI l suf.length c && inn (l.length : Int))
 | [], c, _, _ => by rw [chkS, List.length_nil, chkI, Bool.true_and]
 | x :: suf, c, hm, hc => by
  have hx := List.all_eq_true.1 ha x (hm x (List.mem_cons_self ..))
  rw [decide_eq_true_eq] at hx
  rw [List.length_cons] at hc
  rw [chkS, List.length_cons, chkI, inr, topLen hl, decide_eq_true hx, Bool.true_and, upOk_climb l hl ha l.length c (by omega) (by omega), chk_same l hl ha suf (c + 1) (fun y hy => hm y (List.mem_cons_of_mem _ hy)) (by omega), Bool.and_assoc]
theorem chk_all (l : List Int) (hl : l.length ≤ 1048576) : ∀ (suf : List Int) (c : Nat), chkS l suf c = true → allIn (-1) ((l.length : Int) - 1) suf = true
 | [], _, _ => rfl
 | x :: suf, c, h => by
  rw [chkS, Bool.and_eq_true, Bool.and_eq_true, inr, topLen hl] at h
  rw [allIn, List.all_cons, h.1, Bool.true_and]
  exact chk_all l hl suf (c + 1) h.2.2
def goodP (l : List Int) : Bool := chkS l l 0
theorem specGoodP_ev (l : List Int) (hl : l.length ≤ 1048576) : Ev (fun k => spec_GoodParents.f k l) (goodP l) := by
 have := specPar_l0 l hl l [] rfl
 exact this
theorem implGoodP_ev (l : List Int) (hl : l.length ≤ 1048576) : Ev (fun k => impl_GoodParents.f k l) (goodP l) := by
 unfold impl_GoodParents.f impl_isSpots.f goodP
 simp only [implIn, Option.bind_some, decide_eq_true_eq]
 have bad : Ev (fun k => impl_GoodParents.j0 k l true) false := by
  refine Ev.succ ?_
  simp only [impl_GoodParents.j0, if_true]
  exact Ev.now _
 by_cases hn : 1 ≤ (l.length : Int) ∧ (l.length : Int) ≤ 12
 ·simp only [if_pos hn]
  refine Ev.bind (implAll_ev _ _ l (by omega)) ?_
  rw [topLen hl]
  by_cases ha : allIn (-1) ((l.length : Int) - 1) l = true
  ·rw [ha, chk_same l hl ha l 0 (fun x h => h) (by omega), inn, decide_eq_true hn, Bool.and_true]
   refine Ev.succ ?_
   simp only [impl_GoodParents.j0, Bool.not_true, Bool.false_eq_true, if_false]
   exact implPar_l0 l hl ha l.length 0 (by omega)
  ·rw [show chkS l l 0 = false from Bool.eq_false_iff.2 fun hc => ha (chk_all l hl l 0 hc), Bool.eq_false_iff.2 ha]
   exact bad
 ·simp only [if_neg hn]
  rw [show chkS l l 0 = false from ?_]
  ·exact bad
  ·refine Bool.eq_false_iff.2 fun hc => ?_
   have ha := chk_all l hl l 0 hc
   rw [chk_same l hl ha l 0 (fun x h => h) (by omega), inn, decide_eq_false hn, Bool.and_false] at hc
   exact Bool.false_ne_true hc
end Go.Proofs.Ytedegfbheihopaa.P

namespace Go.Proofs.Ytedegfbheihopaa.P
open Go.RowKit Go.Proofs.YtedegfbheihopaaW.PrintWords Go.Proofs.YtedegfbheihopaaW.PrintLast
set_option linter.unusedVariables false
set_option linter.unusedSimpArgs false
theorem erase_len_le {α : Type} [DecidableEq α] {x : α} : ∀ {M : List α}, x ∈ M → (M.erase x).length + 1 = M.length := by
 intro M h
 have := List.length_erase_of_mem h
 have h2 : 0 < M.length := List.length_pos_of_mem h
 omega
theorem nodup_le {α : Type} [DecidableEq α] : ∀ (L M : List α), L.Nodup → (∀ x ∈ L, x ∈ M) → L.length ≤ M.length
 | [], _, _, _ => Nat.zero_le _
 | x :: L, M, hn, hs => by
  have hx : x ∈ M := hs x (by simp)
  rw [List.nodup_cons] at hn
  have h := nodup_le L (M.erase x) hn.2 (fun y hy => by
   have : y ≠ x := fun e => hn.1 (e ▸ hy)
   exact (List.mem_erase_of_ne this).2 (hs y (by simp [hy])))
  have := erase_len_le hx
  simp only [List.length_cons]
  omega
end Go.Proofs.Ytedegfbheihopaa.P

namespace Go.Proofs.Ytedegfbheihopaa.P
open Go.RowKit Go.Proofs.YtedegfbheihopaaW.PrintWords Go.Proofs.YtedegfbheihopaaW.PrintLast
set_option linter.unusedVariables false
set_option linter.unusedSimpArgs false
theorem rdHop_mid (pre : List S61) (x : S61) (suf : List S61) : rd_T61 (pre ++ x :: suf) (pre.length : Int) = x := getD_mid _ pre x suf
instance decHop : DecidableEq S61 := fun a b => decidable_of_iff (a.f0 = b.f0 ∧ a.f1 = b.f1) (by cases a; cases b; simp)
theorem eqHop_is (a b : S61) : laws_eqHop.f a.f0 a.f1 b.f0 b.f1 = some (decide (a = b)) := by
 cases a; cases b
 unfold laws_eqHop.f
 simp only [S61.mk.injEq]
 split
 ·split
  ·rename_i h1 h2; simp [h1, h2]
  ·rename_i h1 h2; simp [h2]
 ·rename_i h1; simp [h1]
theorem eqHopS_l (s : List S61) : ∀ (t pre qre : List S61) (k : Nat), s.length < k → pre.length = qre.length → s.length = t.length → (pre.length : Int) + s.length ≤ 1099511627776 →
  laws_eqHopS.l0 k (pre ++ s) (qre ++ t) (pre.length : Int) = some (decide (s = t)) := by
 induction s with
 | nil =>
  intro t pre qre k hk hq hl hb
  obtain ⟨k, rfl⟩ : ∃ m, k = m + 1 := ⟨k - 1, by omega⟩
  obtain rfl : t = [] := List.eq_nil_of_length_eq_zero (by simpa using hl.symm)
  simp only [laws_eqHopS.l0]
  rw [if_neg (by simp)]
  simp
 | cons x s ih =>
  intro t pre qre k hk hq hl hb
  cases t with
  | nil => simp at hl
  | cons y t =>
   simp only [List.length_cons] at hk hl hb
   obtain ⟨k, rfl⟩ : ∃ m, k = m + 1 := ⟨k - 1, by omega⟩
   have h := ih t (pre ++ [x]) (qre ++ [y]) k (by omega) (by simp; omega) (by omega) (by simp; omega)
   have hy : rd_T61 (qre ++ y :: t) (pre.length : Int) = y := by rw [hq]; exact rdHop_mid qre y t
   simp only [laws_eqHopS.l0]
   rw [if_pos (by simp; omega), if_pos (by omega), if_pos (by simp; omega), rdHop_mid, hy, eqHop_is, wrap_id (by omega) (by omega)]
   simp only [Option.bind_some]
   by_cases e : x = y
   ·subst e
    rw [if_pos (by simp)]
    simpa using h
   ·rw [if_neg (by simpa using e)]
    simp [e]
theorem eqHopS_ev (s t : List S61) (hs : s.length ≤ 1099511627776) : Ev (fun k => laws_eqHopS.f k s t) (decide (s = t)) := by
 refine ⟨s.length + 1, fun k hk => ?_⟩
 show laws_eqHopS.f k s t = _
 unfold laws_eqHopS.f
 by_cases hl : s.length = t.length
 ·rw [if_pos (by omega)]
  exact eqHopS_l s t [] [] k (by omega) rfl hl (by simp; omega)
 ·rw [if_neg (by omega)]
  have : s ≠ t := fun e => hl (by rw [e])
  simp [this]
def marksHop : Nat → Int → List S61
 | 0, _ => []
 | n + 1, q => ⟨q, q + 1⟩ :: marksHop n (q + 2)
theorem markHopS_l (suf : List S61) : ∀ (pre : List S61) (k : Nat) (q : Int), suf.length < k → (pre.length : Int) + suf.length ≤ 1099511627776 → 0 ≤ q → q + 2 * suf.length ≤ 4611686018427387904 →
  laws_markHopS.l0 k (pre ++ suf) q (pre.length : Int) = some (q + 2 * suf.length, pre ++ marksHop suf.length q) := by
 induction suf with
 | nil =>
  intro pre k q hk hb h0 h1
  obtain ⟨k, rfl⟩ : ∃ m, k = m + 1 := ⟨k - 1, by omega⟩
  simp only [laws_markHopS.l0]
  rw [if_neg (by simp)]
  simp [marksHop]
 | cons x suf ih =>
  intro pre k q hk hb h0 h1
  simp only [List.length_cons] at hk hb h1
  obtain ⟨k, rfl⟩ : ∃ m, k = m + 1 := ⟨k - 1, by omega⟩
  have h := ih (pre ++ [⟨q, q + 1⟩]) k (q + 2) (by omega) (by simp <;> omega) (by omega) (by omega)
  simp only [laws_markHopS.l0]
  rw [if_pos (by simp <;> omega), if_pos (by omega)]
  simp only [Option.bind_some, set_mid, rdHop_mid]
  rw [wrap_id (x := q + 1) (by omega) (by omega), wrap_id (x := q + 1 + 1) (by omega) (by omega), wrap_id (x := (pre.length : Int) + 1) (by omega) (by omega)]
  rw [show q + 1 + 1 = q + 2 from by omega]
  rw [show ((pre ++ [(⟨q, q + 1⟩ : S61)]).length : Int) = (pre.length : Int) + 1 from by simp] at h
  rw [app_one, h]
  simp only [marksHop, List.length_cons, List.append_assoc, List.cons_append, List.nil_append, Option.some.injEq, Prod.mk.injEq, and_true]
  omega
theorem markHopS_ev (l : List S61) (q : Int) (hl : l.length ≤ 1099511627776) (h0 : 0 ≤ q) (h1 : q ≤ 1099511627776) : Ev (fun k => laws_markHopS.f k l q) (q + 2 * l.length, marksHop l.length q) := by
 refine ⟨l.length + 1, fun k hk => ?_⟩
 show laws_markHopS.f k l q = _
 unfold laws_markHopS.f
 simpa using markHopS_l l [] k q (by omega) (by simp <;> omega) h0 (by omega)
theorem heldHopS_l (n : Nat) : ∀ (pre : List S61) (k : Nat) (q : Int), n < k → (pre.length : Int) + n ≤ 1099511627776 → 0 ≤ q → q + 2 * n ≤ 4611686018427387904 →
  laws_heldHopS.l0 k (pre ++ marksHop n q) q (pre.length : Int) = some (q + 2 * n) := by
 induction n with
 | zero =>
  intro pre k q hk hb h0 h1
  obtain ⟨k, rfl⟩ : ∃ m, k = m + 1 := ⟨k - 1, by omega⟩
  simp only [laws_heldHopS.l0]
  rw [show marksHop 0 q = [] from rfl, if_neg (by simp)]
  simp
 | succ n ih =>
  intro pre k q hk hb h0 h1
  obtain ⟨k, rfl⟩ : ∃ m, k = m + 1 := ⟨k - 1, by omega⟩
  have h := ih (pre ++ [⟨q, q + 1⟩]) k (q + 2) (by omega) (by simp <;> omega) (by omega) (by omega)
  simp only [laws_heldHopS.l0]
  rw [show marksHop (n + 1) q = ⟨q, q + 1⟩ :: marksHop n (q + 2) from rfl]
  rw [if_pos (by simp <;> omega), if_pos (by omega)]
  simp only [rdHop_mid]
  rw [wrap_id (x := q + 1) (by omega) (by omega), wrap_id (x := q + 1 + 1) (by omega) (by omega), wrap_id (x := (pre.length : Int) + 1) (by omega) (by omega)]
  rw [show q + 1 + 1 = q + 2 from by omega, if_pos rfl, if_pos trivial]
  rw [show ((pre ++ [(⟨q, q + 1⟩ : S61)]).length : Int) = (pre.length : Int) + 1 from by simp] at h
  rw [app_one, h]
  simp only [Option.some.injEq]
  omega
theorem heldHopS_ev (n : Nat) (q : Int) (hl : n ≤ 1099511627776) (h0 : 0 ≤ q) (h1 : q ≤ 1099511627776) : Ev (fun k => laws_heldHopS.f k (marksHop n q) q) (q + 2 * n) := by
 refine ⟨n + 1, fun k hk => ?_⟩
 show laws_heldHopS.f k (marksHop n q) q = _
 unfold laws_heldHopS.f
 exact heldHopS_l n [] k q (by omega) (by simp <;> omega) h0 (by omega)
end Go.Proofs.Ytedegfbheihopaa.P

namespace Go.Proofs.Ytedegfbheihopaa.P
open Go.RowKit Go.Proofs.YtedegfbheihopaaW.PrintWords Go.Proofs.YtedegfbheihopaaW.PrintLast
set_option linter.unusedVariables false
set_option linter.unusedSimpArgs false
def joinC (l : List Int) (v : Int) (c : Nat) : List Int := (own0 c).filter fun u => decide (rd l u = v ∨ rd l v = u)
theorem joinC_succ (l : List Int) (v : Int) (c : Nat) : joinC l v (c + 1) = if rd l c = v ∨ rd l v = c then joinC l v c ++ [(c : Int)] else joinC l v c := by
 unfold joinC
 rw [own0_succ, List.filter_append]
 split
 ·rename_i h; simp [List.filter_cons, h]
 ·rename_i h; simp [List.filter_cons, h]
theorem joinC_len (l : List Int) (v : Int) (c : Nat) : (joinC l v c).length ≤ c := by
 unfold joinC
 exact Nat.le_trans (List.length_filter_le _ _) (by unfold own0; simp)
theorem joinC_mem (l : List Int) (v : Int) (c : Nat) (x : Int) : x ∈ joinC l v c ↔ (0 ≤ x ∧ x < c) ∧ (rd l x = v ∨ rd l v = x) := by
 unfold joinC
 rw [List.mem_filter, own0_mem, decide_eq_true_eq]
theorem putI_last : ∀ (l : List Int) (x : Int), (∀ y ∈ l, y < x) → putI l x = l ++ [x]
 | [], _, _ => rfl
 | y :: r, x, h => by
  rw [putI, if_pos (h y (by simp)), putI_last r x (fun z hz => h z (by simp [hz]))]
  rfl
theorem putJoin (l : List Int) (v : Int) (c : Nat) : putI (joinC l v c) c = joinC l v c ++ [(c : Int)] := putI_last _ _ (fun y hy => ((joinC_mem l v c y).1 hy).1.2)
theorem implBr_l (l : List Int) (v : Int) (h0 : 0 ≤ v) (h1 : v < l.length) (hl : l.length ≤ 1000) (d : Nat) : ∀ (c : Nat), c + d = l.length →
  Ev (fun k => impl_branches.l0 k l v (joinC l v c) l l.length c) (joinC l v l.length) := by
 induction d with
 | zero =>
  intro c hc
  refine Ev.succ ?_
  simp only [impl_branches.l0, if_neg (show ¬ (c : Int) < (l.length : Int) by omega)]
  exact Ev.some_ (by rw [show c = l.length by omega])
 | succ d ih =>
  intro c hc
  refine Ev.succ ?_
  have hlen := joinC_len l v c
  have hn := ih (c + 1) (by omega)
  rw [joinC_succ] at hn
  simp only [impl_branches.l0, if_pos (show (c : Int) < (l.length : Int) by omega), if_pos (show (0 : Int) ≤ c by omega), if_pos h0, if_pos h1, wrap_id (show (-9223372036854775808 : Int) ≤ c + 1 by omega) (show ((c : Int) + 1 ≤ 9223372036854775807) by omega), if_pos (show (joinC l v c).length < 17592186044416 by omega)]
  by_cases e1 : rd l c = v
  ·rw [if_pos (Or.inl e1)] at hn
   simp only [if_pos e1]
   exact hn
  ·simp only [if_neg e1]
   by_cases e2 : rd l v = c
   ·rw [if_pos (Or.inr e2)] at hn
    simp only [if_pos e2]
    exact hn
   ·rw [if_neg (fun hc => hc.elim e1 e2)] at hn
    simp only [if_neg e2]
    exact hn
theorem implBr_ev (l : List Int) (v : Int) (h0 : 0 ≤ v) (h1 : v < l.length) (hl : l.length ≤ 1000) : Ev (fun k => impl_branches.f k l v) (joinC l v l.length) := implBr_l l v h0 h1 hl l.length 0 (by omega)
theorem specJo_l (l : List Int) (v : Int) (h0 : 0 ≤ v) (h1 : v < l.length) (hl : l.length ≤ 1000) (d : Nat) : ∀ (c : Nat), c + d = l.length →
  Ev (fun k => spec_l10Joined.l0 k l v (joinC l v c) l l.length c) (joinC l v l.length) := by
 induction d with
 | zero =>
  intro c hc
  refine Ev.succ ?_
  simp only [spec_l10Joined.l0, if_neg (show ¬ (c : Int) < (l.length : Int) by omega)]
  exact Ev.some_ (by rw [show c = l.length by omega])
 | succ d ih =>
  intro c hc
  refine Ev.succ ?_
  have hlen := joinC_len l v c
  have hn := ih (c + 1) (by omega)
  have hp := put_ev (joinC l v c) c (by omega)
  rw [putJoin] at hp
  rw [joinC_succ] at hn
  simp only [spec_l10Joined.l0, if_pos (show (c : Int) < (l.length : Int) by omega), if_pos (show (0 : Int) ≤ c by omega), if_pos h0, if_pos h1, wrap_id (show (-9223372036854775808 : Int) ≤ c + 1 by omega) (show ((c : Int) + 1 ≤ 9223372036854775807) by omega)]
  by_cases e1 : rd l c = v
  ·rw [if_pos (Or.inl e1)] at hn
   simp only [if_pos e1]
   exact Ev.bind hp hn
  ·simp only [if_neg e1]
   by_cases e2 : rd l v = c
   ·rw [if_pos (Or.inr e2)] at hn
    simp only [if_pos e2]
    exact Ev.bind hp hn
   ·rw [if_neg (fun hc => hc.elim e1 e2)] at hn
    simp only [if_neg e2]
    exact hn
theorem specJo_ev (l : List Int) (v : Int) (h0 : 0 ≤ v) (h1 : v < l.length) (hl : l.length ≤ 1000) : Ev (fun k => spec_l10Joined.f k l v) (joinC l v l.length) := specJo_l l v h0 h1 hl l.length 0 (by omega)
def kidsM (l : List Int) (f a : Int) (J : List Int) : List Int := J.filter fun u => decide (u ≠ f)
def qS (q : List (Int × Int)) : List S61 := q.map fun x => ⟨x.1, x.2⟩
def qI (q : List (Int × Int)) : List S101 := q.map fun x => ⟨x.2, x.1⟩
def fan (a : Int) (K : List Int) : List (Int × Int) := K.map fun u => (a, u)
theorem qS_app (p q : List (Int × Int)) : qS (p ++ q) = qS p ++ qS q := List.map_append ..
theorem qI_app (p q : List (Int × Int)) : qI (p ++ q) = qI p ++ qI q := List.map_append ..
theorem qS_len (p : List (Int × Int)) : (qS p).length = p.length := List.length_map ..
theorem qI_len (p : List (Int × Int)) : (qI p).length = p.length := List.length_map ..
theorem specSp_l1 (l : List Int) (f a : Int) (R : List S61) (suf : List Int) : ∀ (pre : List Int) (out q : List (Int × Int)), ((pre ++ suf).length : Int) ≤ 1099511627776 → out.length + suf.length ≤ 1000000 → q.length + suf.length ≤ 1000000 →
  Ev (fun k => spec_l10Spread.l0 k l (qS (out ++ fan a (kidsM l f a suf))) (qS (q ++ fan a (kidsM l f a suf)))) R →
  Ev (fun k => spec_l10Spread.l1 k l (qS out) (qS q) (pre ++ suf) ((pre ++ suf).length : Int) pre.length f a) R := by
 induction suf with
 | nil =>
  intro pre out q h _ _ hR
  refine Ev.succ ?_
  simp only [spec_l10Spread.l1, List.append_nil, Int.lt_irrefl, if_false]
  simpa [kidsM, fan] using hR
 | cons x suf ih =>
  intro pre out q h ho hq hR
  refine Ev.succ ?_
  rw [List.length_cons] at ho hq
  have h' := h
  rw [len_mid] at h
  simp only [spec_l10Spread.l1, if_pos (show ((pre.length : Int) < ((pre ++ x :: suf).length : Int)) by rw [len_mid]; omega), if_pos (show (0 : Int) ≤ pre.length by omega), rd_mid, wrap_id (show (-9223372036854775808 : Int) ≤ pre.length + 1 by omega) (show ((pre.length : Int) + 1 ≤ 9223372036854775807) by omega)]
  by_cases e : x = f
  ·simp only [if_pos e]
   have := ih (pre ++ [x]) out q (by rw [← app_one]; exact h') (by omega) (by omega) (by
    rw [kidsM, List.filter_cons, if_neg (by simpa using e)] at hR; exact hR)
   rw [← app_one, len_one] at this
   exact this
  ·simp only [if_neg e, qS_len, if_pos (show out.length < 8796093022208 by omega), if_pos (show q.length < 8796093022208 by omega)]
   have := ih (pre ++ [x]) (out ++ [(a, x)]) (q ++ [(a, x)]) (by rw [← app_one]; exact h') (by simp; omega) (by simp; omega) (by
    rw [kidsM, List.filter_cons, if_pos (by simpa using e)] at hR
    simpa [fan, kidsM] using hR)
   rw [← app_one, len_one, qS_app, qS_app] at this
   exact this
theorem implSp_l1 (l : List Int) (f a : Int) (R : List S61) (suf : List Int) : ∀ (pre : List Int) (out q : List (Int × Int)), ((pre ++ suf).length : Int) ≤ 1099511627776 → out.length + suf.length ≤ 1000000 → q.length + suf.length ≤ 1000000 → 1 ≤ q.length →
  Ev (fun k => impl_spread.l0 k l (qS (out ++ fan a (kidsM l f a suf))) ((qI (q ++ fan a (kidsM l f a suf))).drop 1)) R →
  Ev (fun k => impl_spread.l1 k l (qS out) (qI q) (pre ++ suf) ((pre ++ suf).length : Int) pre.length a f) R := by
 induction suf with
 | nil =>
  intro pre out q h _ _ h1 hR
  refine Ev.succ ?_
  simp only [impl_spread.l1, List.append_nil, Int.lt_irrefl, if_false, qI_len, if_pos (show (1 : Int) ≤ (q.length : Int) by omega)]
  simpa [kidsM, fan] using hR
 | cons x suf ih =>
  intro pre out q h ho hq h1 hR
  refine Ev.succ ?_
  rw [List.length_cons] at ho hq
  have h' := h
  rw [len_mid] at h
  simp only [impl_spread.l1, if_pos (show ((pre.length : Int) < ((pre ++ x :: suf).length : Int)) by rw [len_mid]; omega), if_pos (show (0 : Int) ≤ pre.length by omega), rd_mid, wrap_id (show (-9223372036854775808 : Int) ≤ pre.length + 1 by omega) (show ((pre.length : Int) + 1 ≤ 9223372036854775807) by omega)]
  by_cases e : x = f
  ·simp only [if_pos e]
   have := ih (pre ++ [x]) out q (by rw [← app_one]; exact h') (by omega) (by omega) h1 (by
    rw [kidsM, List.filter_cons, if_neg (by simpa using e)] at hR; exact hR)
   rw [← app_one, len_one] at this
   exact this
  ·simp only [if_neg e, qS_len, qI_len, if_pos (show out.length < 8796093022208 by omega), if_pos (show q.length < 8796093022208 by omega)]
   have := ih (pre ++ [x]) (out ++ [(a, x)]) (q ++ [(a, x)]) (by rw [← app_one]; exact h') (by simp; omega) (by simp; omega) (by simp) (by
    rw [kidsM, List.filter_cons, if_pos (by simpa using e)] at hR
    simpa [fan, kidsM] using hR)
   rw [← app_one, len_one, qS_app, qI_app] at this
   exact this
-- how deep each place lies, where all climbs end
def depF (l : List Int) : Nat → Int → Nat
 | 0, _ => 0
 | d + 1, u => if u ≥ 0 then depF l d (rd l u) + 1 else 0
theorem depF_up (l : List Int) : ∀ (d : Nat) (u : Int), upOk l d u = true → depF l d u = depF l (d + 1) u
 | 0, u, h => by
  rw [upOk, decide_eq_true_eq] at h
  rw [depF, depF, if_neg (by omega)]
 | d + 1, u, h => by
  rw [upOk] at h
  rw [depF, depF]
  split
  ·rename_i hu
   rw [if_pos hu, Bool.and_eq_true] at h
   rw [depF_up l d _ h.2]
  ·rfl
theorem chkS_at (l : List Int) : ∀ (suf : List Int) (c : Nat), chkS l suf c = true → (∀ x ∈ suf, inr (l.length : Int) x = true) ∧ (∀ i : Nat, i < suf.length → upOk l l.length ((c + i : Nat) : Int) = true) ∧ inn (l.length : Int) = true
 | [], c, h => ⟨fun _ hx => by simp at hx, fun i hi => by simp at hi, h⟩
 | x :: suf, c, h => by
  rw [chkS, Bool.and_eq_true, Bool.and_eq_true] at h
  obtain ⟨h1, h2, h3⟩ := chkS_at l suf (c + 1) h.2.2
  refine ⟨fun y hy => ?_, fun i hi => ?_, h3⟩
  ·rcases List.mem_cons.1 hy with rfl | hy
   ·exact h.1
   ·exact h1 y hy
  ·cases i with
   | zero => exact h.2.1
   | succ i =>
    have := h2 i (by simp at hi; omega)
    rw [show c + (i + 1) = c + 1 + i by omega]
    exact this
theorem good_deep {l : List Int} (hg : goodP l = true) : 1 ≤ l.length ∧ l.length ≤ 12 ∧ (∀ u : Int, 0 ≤ u → u < l.length → -1 ≤ rd l u ∧ rd l u < l.length) ∧ ∃ D : Int → Nat, ∀ u : Int, 0 ≤ u → u < l.length → D u = D (rd l u) + 1 := by
 obtain ⟨h1, h2, h3⟩ := chkS_at l l 0 hg
 rw [inn, decide_eq_true_eq] at h3
 have hb : ∀ u : Int, 0 ≤ u → u < l.length → -1 ≤ rd l u ∧ rd l u < l.length := by
  intro u h0 hu
  have hm : rd l u ∈ l := by
   unfold rd
   rw [List.getD_eq_getElem?_getD, List.getElem?_eq_getElem (show u.toNat < l.length by omega)]
   exact List.getElem_mem _
  have := h1 _ hm
  rw [inr, decide_eq_true_eq, wrap_id (by omega) (by omega)] at this
  omega
 refine ⟨by omega, by omega, hb, depF l (l.length + 1), fun u h0 hu => ?_⟩
 rw [depF, if_pos (show u ≥ 0 by omega)]
 congr 1
 by_cases hr : rd l u ≥ 0
 ·have := h2 (rd l u).toNat (by have := hb u h0 hu; omega)
  rw [show ((0 + (rd l u).toNat : Nat) : Int) = rd l u by omega] at this
  exact depF_up l _ _ this
 ·obtain ⟨m, hm⟩ : ∃ m, l.length = m + 1 := ⟨l.length - 1, by omega⟩
  rw [hm, depF, depF, if_neg hr, if_neg hr]
-- whom each place is come to from
def Up (l : List Int) (s : Int) : Nat → Int → Prop
 | 0, v => v = s
 | i + 1, v => ∃ u, Up l s i u ∧ rd l u = v ∧ 0 ≤ v
def Came (l : List Int) (s f v : Int) : Prop := (v = s ∧ f = -1) ∨ (∃ i, Up l s i f ∧ rd l f = v ∧ 0 ≤ v) ∨ ((∀ i, ¬ Up l s i v) ∧ f = rd l v)
theorem Up_dep {l : List Int} {s : Int} {D : Int → Nat} (h0 : 0 ≤ s) (hs : s < l.length) (hb : ∀ u : Int, 0 ≤ u → u < l.length → -1 ≤ rd l u ∧ rd l u < l.length) (hD : ∀ u : Int, 0 ≤ u → u < l.length → D u = D (rd l u) + 1) : ∀ (i : Nat) (v : Int), Up l s i v → (0 ≤ v ∧ v < l.length) ∧ D v + i = D s
 | 0, v, h => by
  have : v = s := h
  subst this
  exact ⟨⟨h0, hs⟩, rfl⟩
 | i + 1, v, h => by
  obtain ⟨u, hu, e, hv⟩ := h
  obtain ⟨⟨a, b⟩, c⟩ := Up_dep h0 hs hb hD i u hu
  have h1 := hb u a b
  have h2 := hD u a b
  rw [e] at h1 h2
  exact ⟨⟨hv, h1.2⟩, by omega⟩
theorem Up_one {l : List Int} {s : Int} : ∀ (i : Nat) (v w : Int), Up l s i v → Up l s i w → v = w
 | 0, _, _, h, g => (show _ = s from h).trans (show _ = s from g).symm
 | i + 1, v, w, h, g => by
  obtain ⟨u, hu, e, _⟩ := h
  obtain ⟨u', hu', e', _⟩ := g
  rw [← e, ← e', Up_one i u u' hu hu']
theorem Came_one {l : List Int} {s : Int} {D : Int → Nat} (h0 : 0 ≤ s) (hs : s < l.length) (hb : ∀ u : Int, 0 ≤ u → u < l.length → -1 ≤ rd l u ∧ rd l u < l.length) (hD : ∀ u : Int, 0 ≤ u → u < l.length → D u = D (rd l u) + 1) {f g v : Int} (hf : Came l s f v) (hg : Came l s g v) : f = g := by
 have no : ∀ i f, Up l s i f → rd l f = v → 0 ≤ v → v ≠ s := by
  intro i f hi e hv es
  have := (Up_dep h0 hs hb hD (i + 1) v ⟨f, hi, e, hv⟩).2
  rw [es] at this
  omega
 rcases hf with ⟨e, rfl⟩ | ⟨i, hi, e, hv⟩ | ⟨hn, rfl⟩
 ·rcases hg with ⟨_, rfl⟩ | ⟨j, hj, e', hv'⟩ | ⟨hn', _⟩
  ·rfl
  ·exact absurd e (no j g hj e' hv')
  ·exact absurd (show Up l s 0 v from e) (hn' 0)
 ·rcases hg with ⟨e', _⟩ | ⟨j, hj, e', hv'⟩ | ⟨hn', _⟩
  ·exact absurd e' (no i f hi e hv)
  ·have a := (Up_dep h0 hs hb hD (i + 1) v ⟨f, hi, e, hv⟩).2
   have b := (Up_dep h0 hs hb hD (j + 1) v ⟨g, hj, e', hv'⟩).2
   obtain rfl : i = j := by omega
   exact Up_one i f g hi hj
  ·exact absurd (show Up l s (i + 1) v from ⟨f, hi, e, hv⟩) (hn' (i + 1))
 ·rcases hg with ⟨e', _⟩ | ⟨j, hj, e', hv'⟩ | ⟨_, rfl⟩
  ·exact absurd (show Up l s 0 v from e') (hn 0)
  ·exact absurd (show Up l s (j + 1) v from ⟨g, hj, e', hv'⟩) (hn (j + 1))
  ·rfl
theorem Came_next {l : List Int} {s : Int} {D : Int → Nat} (h0 : 0 ≤ s) (hs : s < l.length) (hb : ∀ u : Int, 0 ≤ u → u < l.length → -1 ≤ rd l u ∧ rd l u < l.length) (hD : ∀ u : Int, 0 ≤ u → u < l.length → D u = D (rd l u) + 1) {f a u : Int} (hf : Came l s f a) (ha : 0 ≤ a) (hu : 0 ≤ u) (hj : rd l u = a ∨ rd l a = u) (hne : u ≠ f) : Came l s a u := by
 by_cases hx : ∃ i, Up l s i a
 ·obtain ⟨i, hi⟩ := hx
  rcases hj with e | e
  ·by_cases hy : ∃ j, Up l s j u
   ·obtain ⟨j, hj⟩ := hy
    exact absurd (Came_one h0 hs hb hD (Or.inr (Or.inl ⟨j, hj, e, ha⟩)) hf) hne
   ·exact Or.inr (Or.inr ⟨fun j hj => hy ⟨j, hj⟩, e.symm⟩)
  ·exact Or.inr (Or.inl ⟨i, hi, e, hu⟩)
 ·rcases hj with e | e
  ·by_cases hy : ∃ j, Up l s j u
   ·obtain ⟨j, hj⟩ := hy
    exact absurd ⟨j + 1, u, hj, e, ha⟩ hx
   ·exact Or.inr (Or.inr ⟨fun j hj => hy ⟨j, hj⟩, e.symm⟩)
  ·rcases hf with ⟨e', _⟩ | ⟨i, hi, e', hv⟩ | ⟨_, e'⟩
   ·exact absurd ⟨0, e'⟩ hx
   ·exact absurd ⟨i + 1, f, hi, e', hv⟩ hx
   ·exact absurd (e.symm.trans e'.symm) hne
def sprd (l : List Int) : Nat → List (Int × Int) → List (Int × Int) → List (Int × Int)
 | _, out, [] => out
 | 0, out, _ :: _ => out
 | d + 1, out, x :: q => sprd l d (out ++ fan x.2 (kidsM l x.1 x.2 (joinC l x.2 l.length))) (q ++ fan x.2 (kidsM l x.1 x.2 (joinC l x.2 l.length)))
def tos (q : List (Int × Int)) : List Int := q.map fun x => x.2
theorem tos_app (p q : List (Int × Int)) : tos (p ++ q) = tos p ++ tos q := List.map_append ..
theorem tos_fan (a : Int) (K : List Int) : tos (fan a K) = K := by
 rw [tos, fan, List.map_map]
 exact List.map_id _
structure SInv (l : List Int) (s : Int) (P : List Int) (q : List (Int × Int)) : Prop where
 nd : (P ++ tos q).Nodup
 inb : ∀ x ∈ P ++ tos q, 0 ≤ x ∧ x < l.length
 came : ∀ x ∈ q, Came l s x.1 x.2
 from_ : ∀ v ∈ P ++ tos q, v = s ∨ ∃ g ∈ P, Came l s g v
theorem SInv.step {l : List Int} {s : Int} {D : Int → Nat} (h0 : 0 ≤ s) (hs : s < l.length) (hb : ∀ u : Int, 0 ≤ u → u < l.length → -1 ≤ rd l u ∧ rd l u < l.length) (hD : ∀ u : Int, 0 ≤ u → u < l.length → D u = D (rd l u) + 1) {P : List Int} {x : Int × Int} {q : List (Int × Int)} (h : SInv l s P (x :: q)) : SInv l s (P ++ [x.2]) (q ++ fan x.2 (kidsM l x.1 x.2 (joinC l x.2 l.length))) := by
 have hx := h.inb x.2 (by simp [tos])
 have hc := h.came x (by simp)
 have hk : ∀ u, u ∈ kidsM l x.1 x.2 (joinC l x.2 l.length) → (0 ≤ u ∧ u < l.length) ∧ Came l s x.2 u := by
  intro u hu
  rw [kidsM, List.mem_filter, joinC_mem, decide_eq_true_eq] at hu
  exact ⟨hu.1.1, Came_next h0 hs hb hD hc hx.1 hu.1.1.1 hu.1.2 hu.2⟩
 have hnd := h.nd
 rw [show P ++ tos (x :: q) = P ++ [x.2] ++ tos q by simp [tos]] at hnd
 have hxP : x.2 ∉ P := by
  intro hm
  rw [List.append_assoc, List.nodup_append] at hnd
  exact hnd.2.2 _ hm x.2 (by simp) rfl
 have old : ∀ v, v ∈ P ++ [x.2] ++ tos q → v = s ∨ ∃ g ∈ P, Came l s g v := fun v hv => h.from_ v (by simpa [tos] using hv)
 constructor
 ·rw [tos_app, tos_fan, ← List.append_assoc, List.nodup_append]
  refine ⟨hnd, ?_, ?_⟩
  ·unfold kidsM joinC
   exact ((((own0_sorted l.length).imp (fun h => Int.ne_of_lt h)).filter _).filter _ : List.Pairwise (· ≠ ·) _)
  ·intro v hv u hu e
   subst e
   have hcu := (hk v hu).2
   rcases old v hv with rfl | ⟨g, hg, hgv⟩
   ·have := Came_one h0 hs hb hD hcu (Or.inl ⟨rfl, rfl⟩)
    omega
   ·have := Came_one h0 hs hb hD hcu hgv
    exact hxP (this ▸ hg)
 ·intro v hv
  rw [tos_app, tos_fan, ← List.append_assoc, List.mem_append] at hv
  rcases hv with hv | hv
  ·exact h.inb v (by simpa [tos] using hv)
  ·exact (hk v hv).1
 ·intro y hy
  rw [List.mem_append] at hy
  rcases hy with hy | hy
  ·exact h.came y (by simp [hy])
  ·obtain ⟨u, hu, rfl⟩ := List.mem_map.1 hy
   exact (hk u hu).2
 ·intro v hv
  rw [tos_app, tos_fan, ← List.append_assoc, List.mem_append] at hv
  rcases hv with hv | hv
  ·rcases old v hv with e | ⟨g, hg, hgv⟩
   ·exact Or.inl e
   ·exact Or.inr ⟨g, by simp [hg], hgv⟩
  ·exact Or.inr ⟨x.2, by simp, (hk v hv).2⟩
theorem SInv.len {l : List Int} {s : Int} {P : List Int} {q : List (Int × Int)} (h : SInv l s P q) : P.length + q.length ≤ l.length := by
 have := nodup_le (P ++ tos q) (own0 l.length) h.nd (fun x hx => (own0_mem _ _).2 (h.inb x hx))
 rw [List.length_append, show (tos q).length = q.length from List.length_map .., show (own0 l.length).length = l.length by unfold own0; simp] at this
 exact this
theorem spread_go {l : List Int} {s : Int} {D : Int → Nat} (hl : l.length ≤ 12) (h0 : 0 ≤ s) (hs : s < l.length) (hb : ∀ u : Int, 0 ≤ u → u < l.length → -1 ≤ rd l u ∧ rd l u < l.length) (hD : ∀ u : Int, 0 ≤ u → u < l.length → D u = D (rd l u) + 1) : ∀ (d : Nat) (P : List Int) (out q : List (Int × Int)), SInv l s P q → P.length + d = l.length → out.length + 1 = P.length + q.length →
  Ev (fun k => spec_l10Spread.l0 k l (qS out) (qS q)) (qS (sprd l d out q)) ∧ Ev (fun k => impl_spread.l0 k l (qS out) (qI q)) (qS (sprd l d out q)) ∧ (sprd l d out q).length ≤ 12 := by
 intro d
 induction d with
 | zero =>
  intro P out q h hd ho
  have := h.len
  obtain rfl : q = [] := List.eq_nil_of_length_eq_zero (by omega)
  refine ⟨Ev.succ ?_, Ev.succ ?_, ?_⟩
  ·simp only [spec_l10Spread.l0, qS_len, if_neg (show ¬ (([] : List (Int × Int)).length : Int) > 0 by simp)]
   exact Ev.now _
  ·simp only [impl_spread.l0, qI_len, if_neg (show ¬ (([] : List (Int × Int)).length : Int) > 0 by simp)]
   exact Ev.now _
  ·simp only [sprd]
   simp at ho
   omega
 | succ d ih =>
  intro P out q h hd ho
  have hln := h.len
  cases q with
  | nil =>
   refine ⟨Ev.succ ?_, Ev.succ ?_, ?_⟩
   ·simp only [spec_l10Spread.l0, qS_len, if_neg (show ¬ (([] : List (Int × Int)).length : Int) > 0 by simp)]
    exact Ev.now _
   ·simp only [impl_spread.l0, qI_len, if_neg (show ¬ (([] : List (Int × Int)).length : Int) > 0 by simp)]
    exact Ev.now _
   ·simp only [sprd]
    simp at ho
    omega
  | cons x q =>
   have hx := h.inb x.2 (by simp [tos])
   rw [List.length_cons] at ho hln
   have hJ := joinC_len l x.2 l.length
   have hst := h.step h0 hs hb hD
   have hl2 := hst.len
   rw [List.length_append, List.length_append, List.length_singleton, show (fan x.2 (kidsM l x.1 x.2 (joinC l x.2 l.length))).length = (kidsM l x.1 x.2 (joinC l x.2 l.length)).length from List.length_map ..] at hl2
   obtain ⟨g1, g2, g3⟩ := ih (P ++ [x.2]) (out ++ fan x.2 (kidsM l x.1 x.2 (joinC l x.2 l.length))) _ hst (by simp; omega) (by
    simp only [List.length_append, List.length_singleton]
    omega)
   refine ⟨Ev.succ ?_, Ev.succ ?_, g3⟩
   ·have := specSp_l1 l x.1 x.2 (qS (sprd l (d + 1) out (x :: q))) (joinC l x.2 l.length) [] out q (by rw [List.nil_append]; omega) (by omega) (by omega) g1
    simp only [spec_l10Spread.l0, qS_len, List.length_cons, if_pos (show ((q.length + 1 : Nat) : Int) > 0 by omega), if_pos (show (0 : Int) < ((q.length + 1 : Nat) : Int) by omega), if_pos (show (1 : Int) ≤ ((q.length + 1 : Nat) : Int) by omega)]
    exact Ev.bind (specJo_ev l x.2 hx.1 hx.2 (by omega)) this
   ·have := implSp_l1 l x.1 x.2 (qS (sprd l (d + 1) out (x :: q))) (joinC l x.2 l.length) [] out (x :: q) (by rw [List.nil_append]; omega) (by omega) (by simp; omega) (by simp) g2
    simp only [impl_spread.l0, qI_len, List.length_cons, if_pos (show ((q.length + 1 : Nat) : Int) > 0 by omega), if_pos (show (0 : Int) < ((q.length + 1 : Nat) : Int) by omega)]
    exact Ev.bind (implBr_ev l x.2 hx.1 hx.2 (by omega)) this
def spreadM (l : List Int) (s : Int) : List (Int × Int) := sprd l l.length [] [(-1, s)]
theorem spread_ev {l : List Int} {s : Int} (hg : goodP l = true) (h0 : 0 ≤ s) (hs : s < l.length) :
  Ev (fun k => spec_l10Spread.f k l s) (qS (spreadM l s)) ∧ Ev (fun k => impl_spread.f k l s) (qS (spreadM l s)) ∧ (spreadM l s).length ≤ 12 := by
 obtain ⟨_, h12, hb, D, hD⟩ := good_deep hg
 exact spread_go h12 h0 hs hb hD l.length [] [] [(-1, s)] ⟨by simp [tos], by simp [tos]; exact ⟨h0, hs⟩, by simp; exact Or.inl ⟨rfl, rfl⟩, by simp [tos]⟩ (by simp) (by simp)
def spreadOn (l : List Int) (s : Int) : List S61 × Bool := if goodP l = true ∧ 0 ≤ s ∧ s < l.length then (qS (spreadM l s), true) else ([], false)
theorem spreadOn_len (l : List Int) (s : Int) : (spreadOn l s).1.length ≤ 12 := by
 unfold spreadOn
 split
 ·rename_i h
  rw [qS_len]
  exact (spread_ev h.1 h.2.1 h.2.2).2.2
 ·simp
theorem specTwo_ev (l : List Int) (a b : Int) (hl : l.length ≤ 1048576) : Ev (fun k => spec_l10Two.f k l a b) (goodP l && (decide (0 ≤ a ∧ a < l.length) && decide (0 ≤ b ∧ b < l.length))) := by
 unfold spec_l10Two.f
 refine Ev.bind (specGoodP_ev l hl) ?_
 simp only [specIn, Option.bind_some, topLen hl, decide_eq_true_eq]
 cases goodP l
 ·exact Ev.now _
 ·simp only [if_true, Bool.true_and, show (a ≤ (l.length : Int) - 1) = (a < l.length) from propext ⟨fun h => by omega, fun h => by omega⟩, show (b ≤ (l.length : Int) - 1) = (b < l.length) from propext ⟨fun h => by omega, fun h => by omega⟩]
  by_cases ha : 0 ≤ a ∧ a < l.length
  ·simp only [if_pos ha, decide_eq_true ha, Bool.true_and]
   exact Ev.now _
  ·simp only [if_neg ha, decide_eq_false ha, Bool.false_and]
   exact Ev.now _
theorem implTree_ev (l q : List Int) (hl : l.length ≤ 1048576) (hq : (q.length : Int) ≤ 1099511627776) : Ev (fun k => impl_goodTree.f k l q) (goodP l && q.all fun x => decide (0 ≤ x ∧ x < l.length)) := by
 unfold impl_goodTree.f
 refine Ev.bind (implGoodP_ev l hl) ?_
 cases goodP l
 ·exact Ev.now _
 ·simp only [if_true, Bool.true_and]
  refine Ev.bind (implAll_ev _ _ q hq) ?_
  rw [topLen hl, allIn]
  simp only [show ∀ x : Int, (x ≤ (l.length : Int) - 1) = (x < l.length) from fun x => propext ⟨fun h => by omega, fun h => by omega⟩]
  exact Ev.now _
theorem specSpreadOn_ev (l : List Int) (s : Int) (hl : l.length ≤ 1048576) : Ev (fun k => spec_SpreadOn.f k l s) (spreadOn l s) := by
 unfold spec_SpreadOn.f spreadOn
 refine Ev.bind (specTwo_ev l s s hl) ?_
 by_cases h : goodP l = true ∧ 0 ≤ s ∧ s < l.length
 ·rw [if_pos h, h.1, decide_eq_true h.2]
  simp only [Bool.and_self, if_true]
  exact Ev.bind (spread_ev h.1 h.2.1 h.2.2).1 (Ev.now _)
 ·rw [if_neg h]
  simp only [Bool.and_eq_true, decide_eq_true_eq, and_self, if_neg h]
  exact Ev.now _
theorem implSpreadOn_ev (l : List Int) (s : Int) (hl : l.length ≤ 1048576) : Ev (fun k => impl_SpreadOn.f k l s) (spreadOn l s) := by
 unfold impl_SpreadOn.f spreadOn
 refine Ev.bind (implTree_ev l [s] hl (by simp)) ?_
 by_cases h : goodP l = true ∧ 0 ≤ s ∧ s < l.length
 ·rw [if_pos h, h.1]
  simp only [List.all_cons, List.all_nil, decide_eq_true h.2, Bool.and_self, if_true]
  exact Ev.bind (spread_ev h.1 h.2.1 h.2.2).2.1 (Ev.now _)
 ·rw [if_neg h]
  simp only [List.all_cons, List.all_nil, Bool.and_true, Bool.and_eq_true, decide_eq_true_eq, if_neg h]
  exact Ev.now _
end Go.Proofs.Ytedegfbheihopaa.P

namespace Go.Proofs.Ytedegfbheihopaa.P
open Go.RowKit Go.Proofs.YtedegfbheihopaaW.PrintWords Go.Proofs.YtedegfbheihopaaW.PrintLast
set_option linter.unusedVariables false
set_option linter.unusedSimpArgs false
def marksI : Nat → Int → List Int
 | 0, _ => []
 | n + 1, q => q :: marksI n (q + 1)
theorem markIntS_l (suf : List Int) : ∀ (pre : List Int) (k : Nat) (q : Int), suf.length < k → (pre.length : Int) + suf.length ≤ 1099511627776 → 0 ≤ q → q + suf.length ≤ 4611686018427387904 →
  laws_markIntS.l0 k (pre ++ suf) q (pre.length : Int) = some (q + suf.length, pre ++ marksI suf.length q) := by
 induction suf with
 | nil =>
  intro pre k q hk hb h0 h1
  obtain ⟨k, rfl⟩ : ∃ m, k = m + 1 := ⟨k - 1, by omega⟩
  simp only [laws_markIntS.l0]
  rw [if_neg (by simp)]
  simp [marksI]
 | cons x suf ih =>
  intro pre k q hk hb h0 h1
  simp only [List.length_cons] at hk hb h1
  obtain ⟨k, rfl⟩ : ∃ m, k = m + 1 := ⟨k - 1, by omega⟩
  have h := ih (pre ++ [q]) k (q + 1) (by omega) (by simp <;> omega) (by omega) (by omega)
  simp only [laws_markIntS.l0]
  rw [if_pos (by simp <;> omega), if_pos (by omega), set_mid, wrap_id (x := q + 1) (by omega) (by omega), wrap_id (x := (pre.length : Int) + 1) (by omega) (by omega)]
  rw [len_one] at h
  rw [app_one, h]
  simp only [marksI, List.length_cons, List.append_assoc, List.cons_append, List.nil_append, Option.some.injEq, Prod.mk.injEq, and_true]
  omega
theorem markIntS_ev (l : List Int) (q : Int) (hl : l.length ≤ 1099511627776) (h0 : 0 ≤ q) (h1 : q ≤ 1099511627776) : Ev (fun k => laws_markIntS.f k l q) (q + l.length, marksI l.length q) := by
 refine ⟨l.length + 1, fun k hk => ?_⟩
 show laws_markIntS.f k l q = _
 unfold laws_markIntS.f
 simpa using markIntS_l l [] k q (by omega) (by simp <;> omega) h0 (by omega)
end Go.Proofs.Ytedegfbheihopaa.P

namespace Go.Proofs.Ytedegfbheihopaa.Pure
open Go.RowKit Go.Proofs.Ytedegfbheihopaa.P Go.Proofs.YtedegfbheihopaaW.PrintWords Go.Proofs.YtedegfbheihopaaW.PrintLast
set_option linter.unusedVariables false
set_option linter.unusedSimpArgs false
theorem FnExactSpreadOn : laws_FnExactSpreadOn.Pure := by
 intro l s _ _ _ _
 refine Ev.rounds ?_
 unfold laws_FnExactSpreadOn.f
 by_cases hq : (l.length : Int) > 1048576
 ·simp only [if_pos hq]
  exact Ev.now _
 simp only [if_neg hq]
 have hl : l.length ≤ 1048576 := by omega
 have hk := spreadOn_len l s
 refine Ev.bind (toIntS_ev l hl) ?_
 refine Ev.bind (specSpreadOn_ev l s hl) ?_
 refine Ev.bind (toIntS_ev l hl) ?_
 refine Ev.bind (implSpreadOn_ev l s hl) ?_
 refine Ev.bind (eqHopS_ev _ _ (by omega)) ?_
 simp only [decide_true, if_true, bne_self_eq_false]
 refine Ev.succ ?_
 simp only [laws_FnExactSpreadOn.j0, Bool.false_eq_true, if_false]
 refine Ev.bind (toIntS_ev l hl) ?_
 refine Ev.bind (eqIntS_ev _ _ (by omega)) ?_
 simp only [decide_true, if_true]
 refine Ev.bind (markIntS_ev l 1 (by omega) (by omega) (by omega)) ?_
 simp only [if_neg (show ¬ ((1 : Int) + (l.length : Int) < 0) by omega)]
 refine Ev.bind (eqHopS_ev _ _ (by omega)) ?_
 simp only [decide_true, if_true, bne_self_eq_false]
 refine Ev.succ ?_
 simp only [laws_FnExactSpreadOn.j1, Bool.false_eq_true, if_false]
 refine Ev.bind (markHopS_ev _ 1 (by omega) (by omega) (by omega)) ?_
 refine Ev.bind (heldHopS_ev _ 1 (by omega) (by omega) (by omega)) ?_
 simp only [if_neg (show ¬ (1 + 2 * ((spreadOn l s).1.length : Int) < 0) by omega), if_true]
 refine Ev.bind (toIntS_ev l hl) ?_
 refine Ev.bind (implSpreadOn_ev l s hl) ?_
 refine Ev.bind (eqHopS_ev _ _ (by omega)) ?_
 simp only [decide_true, if_true, bne_self_eq_false]
 refine Ev.succ ?_
 simp only [laws_FnExactSpreadOn.j2, Bool.false_eq_true, if_false]
 refine Ev.bind (heldHopS_ev _ 1 (by omega) (by omega) (by omega)) ?_
 simp only [if_neg (show ¬ (1 + 2 * ((spreadOn l s).1.length : Int) < 0) by omega), if_true]
 exact Ev.now _
end Go.Proofs.Ytedegfbheihopaa.Pure
