/- Functions, walks and plain lemmas that the law FnLeastTree reaches, part 9. -/
import Derived.Test.YtedegfbheihopaaCFnLeastTree8
import Derived.Below
import Derived.Deep.Draws
import Derived.Deep.AppendLies
import Derived.Maps.AppendAt
import Derived.OwnWalk
import Derived.Laws.BytesArg
import Derived.Laws.MakeOwn
import Derived.Laws.OwnMore
import Derived.Deep.OwnRows
import Derived.Tactics
import Derived.Lib.ConvBytes
import Derived.Laws.Slices
import Derived.WalkKit
import Derived.KernelRfl
import Derived.RowKit3
import Derived.Deep.LoopGhost
import Derived.Deep.QuietTactic
import Derived.BigQuiet
import Derived.WideLaws
import Derived.Deep.DeepCutAuto
import Derived.Deep.CutBlock
import Derived.Deep.RegionHeld3
import Derived.Laws.Rows
import Derived.Lib.AppendStr
import Derived.ArgAppend
import Derived.Laws.IdiomCopy
import Derived.OrdersHeld
import Derived.Laws.BitsLemmas
import Derived.RowKit
import Derived.WalkSpells
import Derived.Lib.SliceRun
import Derived.Shelf.Abstract
import Derived.Maps.OwnSet
import Derived.Maps.OwnOps
import Derived.ProofKit
import Derived.OpenShut
import Derived.ShutString
import Derived.ChangeOld
import Derived.SizedLaws
namespace Go.Proofs.Ytedegfbheihopaa.P
open Go.RowKit Go.Proofs.YtedegfbheihopaaW.PrintWords Go.Proofs.YtedegfbheihopaaW.PrintLast Go.Proofs.YtedegfbheihopaaW.PrintMore
attribute [local go_sem] max2_int min2_int max_two min_two max_three min_three max_four min_four   -- for this text's walks alone
set_option linter.unusedVariables false
set_option linter.unusedSimpArgs false
mutual
def spec_l1Cur_edges.j0:Nat→Int→List Int→Int→Int→Option (Int × (List (S79)) × Int × Int)
 | 0,_,_,_,_=>none
 |k+1,x4,x1000,x1001,x1002=>(spec_l1Cur_pick.f x1000 x1001 x1002 3).bind fun bt858=>(spec_l1Cur_edges.l0 k x4 ([] :List (S79)) (wrap64 (1+bt858.1)) 0 x1000 bt858.2.1 bt858.2.2)
def spec_l1Cur_edges.l0:Nat→Int→List (S79)→Int→Int→List Int→Int→Int→Option (Int × (List (S79)) × Int × Int)
 | 0,_,_,_,_,_,_,_=>none
 |k+1,x4,x5,x6,x7,x1000,x1001,x1002=>if x7<x4 then(spec_l1Cur_edges.l1 k x4 x5 x6 x7 (wrap64 (x7+1)) x1000 x1001 x1002) else(if (x5.length:Int) > 0 then((spec_l1Cur_one.f x1000 x1001 x1002 30).bind fun bt870=>(if bt870.1=true then((spec_l1Cur_among.f x1000 bt870.2.1 bt870.2.2 (([0,100,101] :List Int))).bind fun bt876=>(if 0< (x5.length:Int) then(some (x4,(x5.set (0:Int).toNat (⟨(rd_T79 x5 0).f0,(rd_T79 x5 0).f1,bt876.1⟩ :S79)),bt876.2.1,bt876.2.2)) else(none))) else(some (x4,x5,bt870.2.1,bt870.2.2)))) else(some (x4,x5,x1001,x1002)))
def spec_l1Cur_edges.l1:Nat→Int→List (S79)→Int→Int→Int→List Int→Int→Int→Option (Int × (List (S79)) × Int × Int)
 | 0,_,_,_,_,_,_,_,_=>none
 |k+1,x4,x5,x6,x7,x8,x1000,x1001,x1002=>if x8<x4 then((spec_l1Cur_one.f x1000 x1001 x1002 (wrap64 (1+x6))).bind fun bt861=>(if bt861.1=true then(if (x5.length:Int)< 40 then((spec_l1Cur_pick.f x1000 bt861.2.1 bt861.2.2 5).bind fun bt864=>(if x5.length< 5864062014805 then(spec_l1Cur_edges.l1 k x4 (x5++ [(⟨x7,x8,wrap64 (1+bt864.1)⟩ :S79)]) x6 x7 (wrap64 (x8+1)) x1000 bt864.2.1 bt864.2.2) else(none))) else(spec_l1Cur_edges.l1 k x4 x5 x6 x7 (wrap64 (x8+1)) x1000 bt861.2.1 bt861.2.2)) else(spec_l1Cur_edges.l1 k x4 x5 x6 x7 (wrap64 (x8+1)) x1000 bt861.2.1 bt861.2.2))) else(spec_l1Cur_edges.l0 k x4 x5 x6 (wrap64 (x7+1)) x1000 x1001 x1002)
end
def spec_l1Cur_edges.f (k:Nat) (s0_0:List Int) (s0_1:Int) (s0_2:Int):Option (Int × (List (S79)) × Int × Int):=(spec_l1Cur_pick.f s0_0 s0_1 s0_2 8).bind fun bt846=>((spec_l1Cur_one.f s0_0 bt846.2.1 bt846.2.2 30).bind fun bt849=>(if bt849.1=true then((spec_l1Cur_among.f s0_0 bt849.2.1 bt849.2.2 (([0,12,13] :List Int))).bind fun bt855=>(spec_l1Cur_edges.j0 k bt855.1 s0_0 bt855.2.1 bt855.2.2)) else(spec_l1Cur_edges.j0 k (wrap64 (1+bt846.1)) s0_0 bt849.2.1 bt849.2.2)))
set_option maxHeartbeats 8000000 in
set_option maxRecDepth 100000 in
theorem spec_l1Cur_edges.calls (k:Nat) (g:Nat) (s0_0:List Int) (s0_1:Int) (s0_2:Int) (r1:Int) (r2:List (S79)) (r3:Int) (r4:Int) (w0 w:World) (hI:IsS94 w0 w g s0_0 s0_1 s0_2) (hB:Below w0.heap.size w0 w) (h:spec_l1Cur_edges.f k s0_0 s0_1 s0_2=some (r1,r2,r3,r4)):
  Calls Try.prog 90 #[.pointer (some ⟨g,0,none⟩)] w fun e w'=> ∃ v1_:Value,e= .returned (.tuple #[.int .i64 r1,v1_])∧Kd.R k79 79 w' w.heap.size (fun _=>True) v1_ r2∧IsS94 w0 w' g s0_0 r3 r4∧Below w0.heap.size w0 w'∧KeepBut w w' g none:=by
 have hu79:=Try.underlying79
 have HI0:=Aside0.mk hI
 have HK:=Aside0.mk (KeepBut.refl w g none)
 have HL:=Aside0.mk hB.size
 clear hI
 have HW0:=Aside0.mk hB.size
 have HB:=Aside0.mk hB
 clear hB
 have H:((spec_l1Cur_pick.f s0_0 s0_1 s0_2 8).bind fun bt846=>((spec_l1Cur_one.f s0_0 bt846.2.1 bt846.2.2 30).bind fun bt849=>(if bt849.1=true then((spec_l1Cur_among.f s0_0 bt849.2.1 bt849.2.2 (([0,12,13] :List Int))).bind fun bt855=>(spec_l1Cur_edges.j0 k bt855.1 s0_0 bt855.2.1 bt855.2.2)) else(spec_l1Cur_edges.j0 k (wrap64 (1+bt846.1)) s0_0 bt849.2.1 bt849.2.2))))=some (r1,r2,r3,r4):=h
 clear h
 replace H:=Option.bind_eq_some_iff.mp H
 obtain⟨⟨t846,t847,t848⟩,A20,H⟩:=H
 replace H:((spec_l1Cur_one.f s0_0 t847 t848 30).bind fun bt849=>(if bt849.1=true then((spec_l1Cur_among.f s0_0 bt849.2.1 bt849.2.2 (([0,12,13] :List Int))).bind fun bt855=>(spec_l1Cur_edges.j0 k bt855.1 s0_0 bt855.2.1 bt855.2.2)) else(spec_l1Cur_edges.j0 k (wrap64 (1+t846)) s0_0 bt849.2.1 bt849.2.2)))=some (r1,r2,r3,r4):=H
 have A2:=Aside0.mk A20
 clear A20
 replace H:=Option.bind_eq_some_iff.mp H
 obtain⟨⟨t849,t850,t851⟩,A30,H⟩:=H
 replace H:(if t849=true then((spec_l1Cur_among.f s0_0 t850 t851 (([0,12,13] :List Int))).bind fun bt855=>(spec_l1Cur_edges.j0 k bt855.1 s0_0 bt855.2.1 bt855.2.2)) else(spec_l1Cur_edges.j0 k (wrap64 (1+t846)) s0_0 t850 t851))=some (r1,r2,r3,r4):=H
 have A3:=Aside0.mk A30
 clear A30
 have HC4:=Aside0.mk H
 clear H
 go_enter Try.func90,Try.ntmps90
 go_upto_if 13 with (first|((with_reducible refine gate_callee (f:=87) rfl ?_);refine goesL_ (some 10) rfl rfl Try.func87 (by kernel_rfl) rfl #[.pointer (some ⟨g,0,none⟩),.int .i64 8] rfl zq2 ?_;(with_reducible refine(spec_l1Cur_pick.calls g s0_0 s0_1 s0_2 8 t846 t847 t848 w0 _ ?side1 ?side2 A2.out).mono ?_);(case side1=>exact zk6 HI0);(case side2=>exact zk2 HB (IsS94.ge HI0.out));rintro e w5 ⟨rfl,hi,hb,hk⟩;refine⟨_,rfl,?_⟩;replace HK:=Aside0.mk (KeepBut.trans (by exact zk7 HK) hk (.inl rfl));replace HB:=Aside0.mk (hb);replace HI0:=Aside0.mk (hi);(try clear hb);(try clear hb2);(try clear hk);(try clear hi))|((with_reducible refine gate_callee (f:=91) rfl ?_);refine goesL_ (some 13) rfl rfl Try.func91 (by kernel_rfl) rfl #[.pointer (some ⟨g,0,none⟩),.int .i64 30] rfl zq2 ?_;(with_reducible refine(spec_l1Cur_one.calls g s0_0 t847 t848 30 t849 t850 t851 w0 _ ?side1 ?side2 A3.out).mono ?_);(case side1=>exact zk6 HI0);(case side2=>exact zk2 HB (IsS94.ge HI0.out));rintro e w6 ⟨rfl,hi,hb,hk⟩;refine⟨_,rfl,?_⟩;replace HK:=Aside0.mk (KeepBut.trans (by exact zk7 HK) hk (.inl rfl));replace HB:=Aside0.mk (hb);replace HI0:=Aside0.mk (hi);(try clear hb);(try clear hb2);(try clear hk);(try clear hi)))
 (try simp only [Act.put,List.setIfInBounds_toArray,List.set_cons_zero,List.set_cons_succ])
 go_cut [4] (fun v4 wc=> ∃ (kq:Nat) (x4_3:Int) (x1001_3:Int) (x1002_3:Int),v4= .int .i64 x4_3∧Aside0 (spec_l1Cur_edges.j0 kq x4_3 s0_0 x1001_3 x1002_3=some (r1,r2,r3,r4))∧Aside0 (kq≤k)∧Aside0 (IsS94 w0 wc g s0_0 x1001_3 x1002_3)∧Aside0 (KeepBut w wc g none)∧Aside0 (Below w0.heap.size w0 wc))
 case first=>
  have H:=HC4.out
  clear HC4
  by_cases c7:t849=true
  ·subst c7
   have H1:((spec_l1Cur_among.f s0_0 t850 t851 (([0,12,13] :List Int))).bind fun bt855=>(spec_l1Cur_edges.j0 k bt855.1 s0_0 bt855.2.1 bt855.2.2))=some (r1,r2,r3,r4):=by rw [if_pos rfl] at H;exact H
   clear H
   have H:=H1
   clear H1
   obtain⟨y852,hy852⟩ :∃ y_:List Int,y_= (([0,12,13] :List Int)):=⟨_,rfl⟩
   replace H:((spec_l1Cur_among.f s0_0 t850 t851 y852).bind fun bt855=>(spec_l1Cur_edges.j0 k bt855.1 s0_0 bt855.2.1 bt855.2.2))=some (r1,r2,r3,r4):=zfh hy852 H
   have Ny852:=Aside0.mk hy852
   clear hy852
   replace H:=Option.bind_eq_some_iff.mp H
   obtain⟨⟨t855,t856,t857⟩,A80,H⟩:=H
   replace H:(spec_l1Cur_edges.j0 k t855 s0_0 t856 t857)=some (r1,r2,r3,r4):=H
   have A8:=Aside0.mk A80
   clear A80
   have H':=Aside0.mk H
   clear H
   go_wp2_with (first|((with_reducible refine gate_dst (N:=15) rfl ?_);(try(refine gate_guard (by rfl) ?_;dsimp only));refine Kd.R_lit (Kd.int .i64) _ 3 ?hg (N:=15) ?hd (xs:=([0,12,13] :List Int)) (inner:= [.int .i64 0,.int .i64 12,.int .i64 13]) (ok:=fun _=>True) (okp:=fun _=>True) ?hr ?hp (fun _ hk=>hk) trivial (Below.refl _ _) (Nat.le_refl _) (by simp) ?_;(case hd=>rfl);(case hg=>rfl);(case hr=>first|(go_simp;done)|(go_simp;rfl));(case hp=>exact(Reps.one (show Kd.M (Kd.int .i64) _ _ _ 0 [.int .i64 0] from rfl) (Reps.one (show Kd.M (Kd.int .i64) _ _ _ 12 [.int .i64 12] from rfl) (Reps.one (show Kd.M (Kd.int .i64) _ _ _ 13 [.int .i64 13] from rfl) (Reps.none _ _)))));intro v853 w9 ho10 hb hg_ hnew_;clear hg_ hnew_;(first|rw [← Ny852.out] at ho10|(simp only [Int.reduceToNat] at ho10;rw [← Ny852.out] at ho10));have HO854:=Aside0.mk (Kd.R_lower ho10 (keep_size (w:=w) (g:=g) (row:=none) (by exact zk7 HK)));replace HK:=Aside0.mk (KeepBut.trans (by exact zk7 HK) (KeepBut.of_below hb g none) (.inl rfl));replace HB:=Aside0.mk (below_step (by exact zk2 HB (IsS94.ge HI0.out)) hb);replace HI0:=Aside0.mk (IsS94.below (by exact zk6 HI0) hb);clear hb ho10;obtain⟨Ao11,co11,eo11⟩:=Kd.R_slice HO854.out;subst eo11)|((with_reducible refine gate_callee (f:=104) rfl ?_);refine goesL_ (some 16) rfl rfl Try.func104 (by kernel_rfl) rfl #[.pointer (some ⟨g,0,none⟩),.slice Ao11 y852.length co11] rfl zq2 ?_;(with_reducible refine(spec_l1Cur_among.calls g s0_0 t850 t851 _ _ y852 t855 t856 t857 w0 _ ?side1 ?side2 ?side3 ?side4 ?side5 A8.out).mono ?_);(case side1=>exact zk6 HI0);(case side2=>exact zk2 HB (IsS94.ge HI0.out));(case side3=>exact zcc ((Kd.R_reads' HO854.out).2.2));(case side4=>exact(Kd.R_reads' HO854.out).2.1);(case side5=>exact far_slice (IsS94.own_ne HI0.out HO854.out (by decide)));rintro e w12 ⟨rfl,hi,hb,hk⟩;refine⟨_,rfl,?_⟩;replace HO854:=Aside0.mk (Kd.R_mono (Kd.R_keep (IsS94.apart (show IsS94 w0 _ g s0_0 t850 t851 from by exact zk6 HI0) (zq4 HO854) (by decide)) hk (fun _ h=>h.2)) (fun _ h=>h.1));replace HK:=Aside0.mk (KeepBut.trans (by exact zk7 HK) hk (.inl rfl));replace HB:=Aside0.mk (hb);replace HI0:=Aside0.mk (hi);(try clear hb);(try clear hb2);(try clear hk);(try clear hi)))
   go_meet
   case rel=>exact⟨_,(t855),(t856),(t857),zrs,H',⟨by first|omega|exact Nat.le_refl _⟩,⟨by exact zk6 HI0⟩,⟨by exact zk7 HK⟩,⟨by exact zk2 HB (IsS94.ge HI0.out)⟩⟩
  ·replace c7:=Bool.eq_false_iff.mpr c7
   subst c7
   have H1:(spec_l1Cur_edges.j0 k (wrap64 (1+t846)) s0_0 t850 t851)=some (r1,r2,r3,r4):=by rw [if_neg (show ¬ (false=true) by decide)] at H;exact H
   clear H
   have H:=H1
   clear H1
   have H':=Aside0.mk H
   clear H
   go_wp2
   go_meet
   case rel=>exact⟨_,(wrap64 (1+t846)),(t850),(t851),zrs,H',⟨by first|omega|exact Nat.le_refl _⟩,⟨by exact zk6 HI0⟩,⟨by exact zk7 HK⟩,⟨by exact zk2 HB (IsS94.ge HI0.out)⟩⟩
 case rest=>
  clear HC4
  try clear c1
  try clear p2
  try clear p6
  try clear c7
  try clear c8
  try clear c9
  try clear c10
  obtain⟨kq,x4_3,x1001_3,x1002_3,rfl,HA,HJ3,HI0,HK,HB⟩:=hcut
  cases kq with
  |zero=>exact absurd HA.out (by simp [spec_l1Cur_edges.j0])
  |succ kj3=>
   have H:=HA.out
   clear HA
   simp only [spec_l1Cur_edges.j0] at H
   replace H:=Option.bind_eq_some_iff.mp H
   obtain⟨⟨t858,t859,t860⟩,A130,H⟩:=H
   replace H:(spec_l1Cur_edges.l0 kj3 x4_3 ([] :List (S79)) (wrap64 (1+t858)) 0 s0_0 t859 t860)=some (r1,r2,r3,r4):=H
   have A13:=Aside0.mk A130
   clear A130
   have H':=Aside0.mk H
   clear H
   go_wp2_with (first|((with_reducible refine gate_callee (f:=87) rfl ?_);refine goesL_ (some 18) rfl rfl Try.func87 (by kernel_rfl) rfl #[.pointer (some ⟨g,0,none⟩),.int .i64 3] rfl zq2 ?_;(with_reducible refine(spec_l1Cur_pick.calls g s0_0 x1001_3 x1002_3 3 t858 t859 t860 w0 _ ?side1 ?side2 A13.out).mono ?_);(case side1=>exact zk6 HI0);(case side2=>exact zk2 HB (IsS94.ge HI0.out));rintro e w14 ⟨rfl,hi,hb,hk⟩;refine⟨_,rfl,?_⟩;replace HK:=Aside0.mk (KeepBut.trans (by exact zk7 HK) hk (.inl rfl));replace HB:=Aside0.mk (hb);replace HI0:=Aside0.mk (hi);(try clear hb);(try clear hb2);(try clear hk);(try clear hi)))
   go_loopg [5,7] kj3 (fun kq v5 v7 w'=> ∃ (x5_2:List (S79)) (x7_2:Int) (x1001_2:Int) (x1002_2:Int),v7= .int .i64 x7_2∧Aside0 (spec_l1Cur_edges.l0 kq x4_3 x5_2 (wrap64 (1+t858)) x7_2 s0_0 x1001_2 x1002_2=some (r1,r2,r3,r4))∧Aside0 (kq≤kj3)∧Aside0 (Kd.R k79 79 w' w.heap.size (fun _=>True) v5 x5_2)∧Aside0 (IsS94 w0 w' g s0_0 x1001_2 x1002_2)∧Aside0 (KeepBut w w' g none)∧Aside0 (Below w0.heap.size w0 w'))
   case atStart=>exact⟨(([] :List (S79))),(0),(t859),(t860),zrs,H',⟨Nat.le_refl _⟩,⟨by first|exact Kd.R_nil _ _ _ _ _|exact Kd.N_nil _ _ _ _ _|exact Kd.V_nil _ _ _ _ _|exact Kd.Q_nil _ _ _ _ _|exact Kd.S_nil _ _ _ _ _⟩,⟨by exact zk6 HI0⟩,⟨by exact zk7 HK⟩,⟨by exact zk2 HB (IsS94.ge HI0.out)⟩⟩
   case round=>
    clear H'
    try clear c1
    try clear p2
    try clear p6
    try clear c7
    try clear c8
    try clear c9
    try clear c10
    try clear p2
    try clear p6
    obtain⟨x5_2,x7_2,x1001_2,x1002_2,rfl,HA,HK2,HO_5,HI0,HK,HB⟩:=hrel
    cases gk with
    |zero=>exact absurd HA.out (by simp [spec_l1Cur_edges.l0])
    |succ k2=>
     have H:=HA.out
     clear HA
     simp only [spec_l1Cur_edges.l0] at H
     by_cases c15:x7_2<x4_3
     ·rw [if_pos c15] at H
      have c15b0:decide (x7_2<x4_3)=true:=decide_eq_true c15
      clear c15
      have H':=Aside0.mk H
      clear H
      go_wp2
      go_loopg [5,8] k2 (fun kq v5 v8 w'=> ∃ (x5_3:List (S79)) (x8_3:Int) (x1001_3:Int) (x1002_3:Int),v8= .int .i64 x8_3∧Aside0 (spec_l1Cur_edges.l1 kq x4_3 x5_3 (wrap64 (1+t858)) x7_2 x8_3 s0_0 x1001_3 x1002_3=some (r1,r2,r3,r4))∧Aside0 (kq≤k2)∧Aside0 (Kd.R k79 79 w' w.heap.size (fun _=>True) v5 x5_3)∧Aside0 (IsS94 w0 w' g s0_0 x1001_3 x1002_3)∧Aside0 (KeepBut w w' g none)∧Aside0 (Below w0.heap.size w0 w'))
      case atStart=>exact⟨(x5_2),(wrap64 (x7_2+1)),(x1001_2),(x1002_2),zrs,H',⟨Nat.le_refl _⟩,⟨zdr HO_5⟩,⟨by exact zk6 HI0⟩,⟨by exact zk7 HK⟩,⟨by exact zk2 HB (IsS94.ge HI0.out)⟩⟩
      case round=>
       clear H'
       try clear c1
       try clear p2
       try clear p6
       try clear c7
       try clear c8
       try clear c9
       try clear c10
       try clear c15
       try clear c15b0
       try clear p2
       try clear p6
       obtain⟨x5_3,x8_3,x1001_3,x1002_3,rfl,HA,HK3,HO_5,HI0,HK,HB⟩:=hrel
       cases gk with
       |zero=>exact absurd HA.out (by simp [spec_l1Cur_edges.l1])
       |succ k3=>
        have H:=HA.out
        clear HA
        simp only [spec_l1Cur_edges.l1] at H
        by_cases c16:x8_3<x4_3
        ·rw [if_pos c16] at H
         have c16b0:decide (x8_3<x4_3)=true:=decide_eq_true c16
         clear c16
         replace H:=Option.bind_eq_some_iff.mp H
         obtain⟨⟨t861,t862,t863⟩,A170,H⟩:=H
         replace H:(if t861=true then(if (x5_3.length:Int)< 40 then((spec_l1Cur_pick.f s0_0 t862 t863 5).bind fun bt864=>(if x5_3.length< 5864062014805 then(spec_l1Cur_edges.l1 k3 x4_3 (x5_3++ [(⟨x7_2,x8_3,wrap64 (1+bt864.1)⟩ :S79)]) (wrap64 (1+t858)) x7_2 (wrap64 (x8_3+1)) s0_0 bt864.2.1 bt864.2.2) else(none))) else(spec_l1Cur_edges.l1 k3 x4_3 x5_3 (wrap64 (1+t858)) x7_2 (wrap64 (x8_3+1)) s0_0 t862 t863)) else(spec_l1Cur_edges.l1 k3 x4_3 x5_3 (wrap64 (1+t858)) x7_2 (wrap64 (x8_3+1)) s0_0 t862 t863))=some (r1,r2,r3,r4):=H
         have A17:=Aside0.mk A170
         clear A170
         by_cases c18:t861=true
         ·subst c18
          have H1:(if (x5_3.length:Int)< 40 then((spec_l1Cur_pick.f s0_0 t862 t863 5).bind fun bt864=>(if x5_3.length< 5864062014805 then(spec_l1Cur_edges.l1 k3 x4_3 (x5_3++ [(⟨x7_2,x8_3,wrap64 (1+bt864.1)⟩ :S79)]) (wrap64 (1+t858)) x7_2 (wrap64 (x8_3+1)) s0_0 bt864.2.1 bt864.2.2) else(none))) else(spec_l1Cur_edges.l1 k3 x4_3 x5_3 (wrap64 (1+t858)) x7_2 (wrap64 (x8_3+1)) s0_0 t862 t863))=some (r1,r2,r3,r4):=by rw [if_pos rfl] at H;exact H
          clear H
          have H:=H1
          clear H1
          by_cases c19:(x5_3.length:Int)< 40
          ·rw [if_pos c19] at H
           have c19b0:decide ((x5_3.length:Int)< 40)=true:=decide_eq_true c19
           have c19b1:decide (x5_3.length< 40)=true:=decide_eq_true (by omega)
           clear c19
           replace H:=Option.bind_eq_some_iff.mp H
           obtain⟨⟨t864,t865,t866⟩,A200,H⟩:=H
           replace H:(if x5_3.length< 5864062014805 then(spec_l1Cur_edges.l1 k3 x4_3 (x5_3++ [(⟨x7_2,x8_3,wrap64 (1+t864)⟩ :S79)]) (wrap64 (1+t858)) x7_2 (wrap64 (x8_3+1)) s0_0 t865 t866) else(none))=some (r1,r2,r3,r4):=H
           have A20:=Aside0.mk A200
           clear A200
           by_cases c21:x5_3.length< 5864062014805
           case neg=>exact znn c21 H
           rw [if_pos c21] at H
           have LMc21:=Aside0.mk c21
           clear c21
           obtain⟨y867,hy867⟩ :∃ y_:List (S79),y_= (x5_3++ [(⟨x7_2,x8_3,wrap64 (1+t864)⟩ :S79)]):=⟨_,rfl⟩
           replace H:(spec_l1Cur_edges.l1 k3 x4_3 y867 (wrap64 (1+t858)) x7_2 (wrap64 (x8_3+1)) s0_0 t865 t866)=some (r1,r2,r3,r4):=zfh hy867 H
           have Ny867:=Aside0.mk hy867
           clear hy867
           have H':=Aside0.mk H
           clear H
           go_wp2_with (first|((with_reducible refine gate_callee (f:=91) rfl ?_);refine goesL_ (some 35) rfl rfl Try.func91 (by kernel_rfl) rfl #[.pointer (some ⟨g,0,none⟩),.int .i64 (wrap64 (1+ (wrap64 (1+t858))))] rfl zq2 ?_;(with_reducible refine(spec_l1Cur_one.calls g s0_0 x1001_3 x1002_3 (wrap64 (1+ (wrap64 (1+t858)))) true t862 t863 w0 _ ?side1 ?side2 A17.out).mono ?_);(case side1=>exact zk6 HI0);(case side2=>exact zk2 HB (IsS94.ge HI0.out));rintro e w22 ⟨rfl,hi,hb,hk⟩;refine⟨_,rfl,?_⟩;replace HO_5:=Aside0.mk (Kd.R_mono (Kd.R_keep (IsS94.apart (show IsS94 w0 _ g s0_0 x1001_3 x1002_3 from by exact zk6 HI0) (zq4 HO_5) (by decide)) hk (fun _ h=>h.2)) (fun _ h=>h.1));replace HK:=Aside0.mk (KeepBut.trans (by exact zk7 HK) hk (.inl rfl));replace HB:=Aside0.mk (hb);replace HI0:=Aside0.mk (hi);(try clear hb);(try clear hb2);(try clear hk);(try clear hi);obtain⟨Ao23,co23,eo23⟩:=Kd.R_slice HO_5.out;subst eo23)|((with_reducible refine gate_callee (f:=87) rfl ?_);refine goesL_ (some 45) rfl rfl Try.func87 (by kernel_rfl) rfl #[.pointer (some ⟨g,0,none⟩),.int .i64 5] rfl zq2 ?_;(with_reducible refine(spec_l1Cur_pick.calls g s0_0 t862 t863 5 t864 t865 t866 w0 _ ?side1 ?side2 A20.out).mono ?_);(case side1=>exact zk6 HI0);(case side2=>exact zk2 HB (IsS94.ge HI0.out));rintro e w24 ⟨rfl,hi,hb,hk⟩;refine⟨_,rfl,?_⟩;replace HO_5:=Aside0.mk (Kd.R_mono (Kd.R_keep (IsS94.apart (show IsS94 w0 _ g s0_0 t862 t863 from by exact zk6 HI0) (zq4 HO_5) (by decide)) hk (fun _ h=>h.2)) (fun _ h=>h.1));replace HK:=Aside0.mk (KeepBut.trans (by exact zk7 HK) hk (.inl rfl));replace HB:=Aside0.mk (hb);replace HI0:=Aside0.mk (hi);(try clear hb);(try clear hb2);(try clear hk);(try clear hi))|((with_reducible refine gate_builtin (b:= .append) (xs:= #[.tmp 41,.tmp 48]) rfl ?_);(try(refine gate_guard (by rfl) ?_;dsimp only));at_builtin;refine Kd.R_append k79 w.heap.size rfl (.tmp 41) (.tmp 48) 35 79 (.agg #[(.int .i64 0),(.int .i64 0),(.int .i64 0)]) 24 rfl Try.underlying35 info79 rfl (by decide) (by omega) (.slice Ao23 x5_3.length co23) x5_3 (⟨x7_2,x8_3,wrap64 (1+t864)⟩ :S79) [.int .i64 x7_2,.int .i64 x8_3,.int .i64 (wrap64 (1+t864))] (fun _=>True) (fun _=>False) rfl rfl ?aP (fun _ hk=>hk.elim) ?aF ?aO (Below.refl _ _) ?aS ?aL ?_;(case aP=>exact k79_mkM _ _ _ (⟨x7_2,x8_3,wrap64 (1+t864)⟩ :S79));(case aF=>exact(fun _ _=>trivial));(case aO=>exact(zq4 HO_5));(case aS=>exact(keep_size (w:=w) (g:=g) (row:=none) (by exact zk7 HK)));(case aL=>have:=LMc21.out;omega);intro v868 w25 ho hb hg hat;rw [← Ny867.out] at ho;have HO869:=Aside0.mk (ho);replace HB:=Aside0.mk (below_weaken (by exact zk2 HB (IsS94.ge HI0.out)) HL.out hb);replace HI0:=Aside0.mk (IsS94.grown (by exact zk6 HI0) hg (IsS94.own_ne HI0.out HO_5.out (by decide)));replace HK:=Aside0.mk (KeepBut.trans (by exact zk7 HK) (KeepBut.of_grown hg g) (Kd.R_base2 HO_5.out));clear HO_5;clear ho hb hg hat))
           go_roundg k3
           case measure=>have:=HJ3.out;have:=HK2.out;have:=HK3.out;omega
           case rel=>exact⟨(y867),(wrap64 (x8_3+1)),(t865),(t866),zrs,H',⟨by have:=HJ3.out;have:=HK2.out;have:=HK3.out;omega⟩,⟨zdr HO869⟩,⟨by exact zk6 HI0⟩,⟨by exact zk7 HK⟩,⟨by exact zk2 HB (IsS94.ge HI0.out)⟩⟩
          ·rw [if_neg c19] at H
           have c19b0:decide ((x5_3.length:Int)< 40)=false:=decide_eq_false c19
           have c19b1:decide (x5_3.length< 40)=false:=decide_eq_false (by omega)
           clear c19
           have H':=Aside0.mk H
           clear H
           go_wp2_with (first|((with_reducible refine gate_callee (f:=91) rfl ?_);refine goesL_ (some 35) rfl rfl Try.func91 (by kernel_rfl) rfl #[.pointer (some ⟨g,0,none⟩),.int .i64 (wrap64 (1+ (wrap64 (1+t858))))] rfl zq2 ?_;(with_reducible refine(spec_l1Cur_one.calls g s0_0 x1001_3 x1002_3 (wrap64 (1+ (wrap64 (1+t858)))) true t862 t863 w0 _ ?side1 ?side2 A17.out).mono ?_);(case side1=>exact zk6 HI0);(case side2=>exact zk2 HB (IsS94.ge HI0.out));rintro e w26 ⟨rfl,hi,hb,hk⟩;refine⟨_,rfl,?_⟩;replace HO_5:=Aside0.mk (Kd.R_mono (Kd.R_keep (IsS94.apart (show IsS94 w0 _ g s0_0 x1001_3 x1002_3 from by exact zk6 HI0) (zq4 HO_5) (by decide)) hk (fun _ h=>h.2)) (fun _ h=>h.1));replace HK:=Aside0.mk (KeepBut.trans (by exact zk7 HK) hk (.inl rfl));replace HB:=Aside0.mk (hb);replace HI0:=Aside0.mk (hi);(try clear hb);(try clear hb2);(try clear hk);(try clear hi);obtain⟨Ao27,co27,eo27⟩:=Kd.R_slice HO_5.out;subst eo27))
           go_roundg k3
           case measure=>have:=HJ3.out;have:=HK2.out;have:=HK3.out;omega
           case rel=>exact⟨(x5_3),(wrap64 (x8_3+1)),(t862),(t863),zrs,H',⟨by have:=HJ3.out;have:=HK2.out;have:=HK3.out;omega⟩,⟨zdr HO_5⟩,⟨by exact zk6 HI0⟩,⟨by exact zk7 HK⟩,⟨by exact zk2 HB (IsS94.ge HI0.out)⟩⟩
         ·replace c18:=Bool.eq_false_iff.mpr c18
          subst c18
          have H1:(spec_l1Cur_edges.l1 k3 x4_3 x5_3 (wrap64 (1+t858)) x7_2 (wrap64 (x8_3+1)) s0_0 t862 t863)=some (r1,r2,r3,r4):=by rw [if_neg (show ¬ (false=true) by decide)] at H;exact H
          clear H
          have H:=H1
          clear H1
          have H':=Aside0.mk H
          clear H
          go_wp2_with (first|((with_reducible refine gate_callee (f:=91) rfl ?_);refine goesL_ (some 35) rfl rfl Try.func91 (by kernel_rfl) rfl #[.pointer (some ⟨g,0,none⟩),.int .i64 (wrap64 (1+ (wrap64 (1+t858))))] rfl zq2 ?_;(with_reducible refine(spec_l1Cur_one.calls g s0_0 x1001_3 x1002_3 (wrap64 (1+ (wrap64 (1+t858)))) false t862 t863 w0 _ ?side1 ?side2 A17.out).mono ?_);(case side1=>exact zk6 HI0);(case side2=>exact zk2 HB (IsS94.ge HI0.out));rintro e w28 ⟨rfl,hi,hb,hk⟩;refine⟨_,rfl,?_⟩;replace HO_5:=Aside0.mk (Kd.R_mono (Kd.R_keep (IsS94.apart (show IsS94 w0 _ g s0_0 x1001_3 x1002_3 from by exact zk6 HI0) (zq4 HO_5) (by decide)) hk (fun _ h=>h.2)) (fun _ h=>h.1));replace HK:=Aside0.mk (KeepBut.trans (by exact zk7 HK) hk (.inl rfl));replace HB:=Aside0.mk (hb);replace HI0:=Aside0.mk (hi);(try clear hb);(try clear hb2);(try clear hk);(try clear hi)))
          go_roundg k3
          case measure=>have:=HJ3.out;have:=HK2.out;have:=HK3.out;omega
          case rel=>exact⟨(x5_3),(wrap64 (x8_3+1)),(t862),(t863),zrs,H',⟨by have:=HJ3.out;have:=HK2.out;have:=HK3.out;omega⟩,⟨zdr HO_5⟩,⟨by exact zk6 HI0⟩,⟨by exact zk7 HK⟩,⟨by exact zk2 HB (IsS94.ge HI0.out)⟩⟩
        ·rw [if_neg c16] at H
         have c16b0:decide (x8_3<x4_3)=false:=decide_eq_false c16
         clear c16
         have H':=Aside0.mk H
         clear H
         go_wp2
         go_roundg k3
         case measure=>have:=HJ3.out;have:=HK2.out;have:=HK3.out;omega
         case rel=>exact⟨(x5_3),(wrap64 (x7_2+1)),(x1001_3),(x1002_3),zrs,H',⟨by have:=HJ3.out;have:=HK2.out;have:=HK3.out;omega⟩,⟨zdr HO_5⟩,⟨by exact zk6 HI0⟩,⟨by exact zk7 HK⟩,⟨by exact zk2 HB (IsS94.ge HI0.out)⟩⟩
     ·rw [if_neg c15] at H
      have c15b0:decide (x7_2<x4_3)=false:=decide_eq_false c15
      clear c15
      by_cases c29:(x5_2.length:Int) > 0
      ·rw [if_pos c29] at H
       have c29b0:decide (0< (x5_2.length:Int))=true:=decide_eq_true c29
       have c29b1:decide (0<x5_2.length)=true:=decide_eq_true (by omega)
       clear c29
       replace H:=Option.bind_eq_some_iff.mp H
       obtain⟨⟨t870,t871,t872⟩,A300,H⟩:=H
       replace H:(if t870=true then((spec_l1Cur_among.f s0_0 t871 t872 (([0,100,101] :List Int))).bind fun bt876=>(if 0< (x5_2.length:Int) then(some (x4_3,(x5_2.set (0:Int).toNat (⟨(rd_T79 x5_2 0).f0,(rd_T79 x5_2 0).f1,bt876.1⟩ :S79)),bt876.2.1,bt876.2.2)) else(none))) else(some (x4_3,x5_2,t871,t872)))=some (r1,r2,r3,r4):=H
       have A30:=Aside0.mk A300
       clear A300
       by_cases c31:t870=true
       ·subst c31
        have H1:((spec_l1Cur_among.f s0_0 t871 t872 (([0,100,101] :List Int))).bind fun bt876=>(if 0< (x5_2.length:Int) then(some (x4_3,(x5_2.set (0:Int).toNat (⟨(rd_T79 x5_2 0).f0,(rd_T79 x5_2 0).f1,bt876.1⟩ :S79)),bt876.2.1,bt876.2.2)) else(none)))=some (r1,r2,r3,r4):=by rw [if_pos rfl] at H;exact H
        clear H
        have H:=H1
        clear H1
        obtain⟨y873,hy873⟩ :∃ y_:List Int,y_= (([0,100,101] :List Int)):=⟨_,rfl⟩
        replace H:((spec_l1Cur_among.f s0_0 t871 t872 y873).bind fun bt876=>(if 0< (x5_2.length:Int) then(some (x4_3,(x5_2.set (0:Int).toNat (⟨(rd_T79 x5_2 0).f0,(rd_T79 x5_2 0).f1,bt876.1⟩ :S79)),bt876.2.1,bt876.2.2)) else(none)))=some (r1,r2,r3,r4):=zfh hy873 H
        have Ny873:=Aside0.mk hy873
        clear hy873
        replace H:=Option.bind_eq_some_iff.mp H
        obtain⟨⟨t876,t877,t878⟩,A320,H⟩:=H
        replace H:(if 0< (x5_2.length:Int) then(some (x4_3,(x5_2.set (0:Int).toNat (⟨(rd_T79 x5_2 0).f0,(rd_T79 x5_2 0).f1,t876⟩ :S79)),t877,t878)) else(none))=some (r1,r2,r3,r4):=H
        have A32:=Aside0.mk A320
        clear A320
        by_cases c33: 0< (x5_2.length:Int)
        case neg=>exact znn c33 H
        rw [if_pos c33] at H
        have c33b0:decide (0< (x5_2.length:Int))=true:=decide_eq_true c33
        have c33b1:decide (0<x5_2.length)=true:=decide_eq_true (by omega)
        clear c33
        obtain⟨y879,hy879⟩ :∃ y_:List (S79),y_= (x5_2.set (0:Int).toNat (⟨(rd_T79 x5_2 0).f0,(rd_T79 x5_2 0).f1,t876⟩ :S79)):=⟨_,rfl⟩
        replace H:(some (x4_3,y879,t877,t878))=some (r1,r2,r3,r4):=zfh hy879 H
        have Ny879:=Aside0.mk hy879
        clear hy879
        simp only [Option.some.injEq,Prod.mk.injEq] at H
        obtain⟨rfl,rfl,rfl,rfl⟩:=H
        obtain⟨Ao35,co35,eo35⟩:=Kd.R_slice HO_5.out
        subst eo35
        go_wp2_with (first|(go_at_call 91;(with_reducible refine(spec_l1Cur_one.calls g s0_0 x1001_2 x1002_2 30 true t871 t872 w0 _ ?side1 ?side2 A30.out).mono ?_);(case side1=>exact zk6 HI0);(case side2=>exact zk2 HB (IsS94.ge HI0.out));rintro e w36 ⟨rfl,hi,hb,hk⟩;replace HO_5:=Aside0.mk (Kd.R_mono (Kd.R_keep (IsS94.apart (show IsS94 w0 _ g s0_0 x1001_2 x1002_2 from by exact zk6 HI0) (zq4 HO_5) (by decide)) hk (fun _ h=>h.2)) (fun _ h=>h.1));replace HK:=Aside0.mk (KeepBut.trans (by exact zk7 HK) hk (.inl rfl));replace HB:=Aside0.mk (hb);replace HI0:=Aside0.mk (hi);(try clear hb);(try clear hb2);(try clear hk);(try clear hi))|((with_reducible refine gate_dst (N:=59) rfl ?_);(try(refine gate_guard (by rfl) ?_;dsimp only));refine Kd.R_lit (Kd.int .i64) _ 3 ?hg (N:=59) ?hd (xs:=([0,100,101] :List Int)) (inner:= [.int .i64 0,.int .i64 100,.int .i64 101]) (ok:=fun _=>True) (okp:=fun _=>True) ?hr ?hp (fun _ hk=>hk) trivial (Below.refl _ _) (Nat.le_refl _) (by simp) ?_;(case hd=>rfl);(case hg=>rfl);(case hr=>first|(go_simp;done)|(go_simp;rfl));(case hp=>exact(Reps.one (show Kd.M (Kd.int .i64) _ _ _ 0 [.int .i64 0] from rfl) (Reps.one (show Kd.M (Kd.int .i64) _ _ _ 100 [.int .i64 100] from rfl) (Reps.one (show Kd.M (Kd.int .i64) _ _ _ 101 [.int .i64 101] from rfl) (Reps.none _ _)))));intro v874 w37 ho38 hb hg_ hnew_;clear hg_ hnew_;(first|rw [← Ny873.out] at ho38|(simp only [Int.reduceToNat] at ho38;rw [← Ny873.out] at ho38));have HO875:=Aside0.mk (Kd.R_lower ho38 (keep_size (w:=w) (g:=g) (row:=none) (by exact zk7 HK)));replace HO_5:=Aside0.mk (Kd.R_below (zq4 HO_5) hb);replace HK:=Aside0.mk (KeepBut.trans (by exact zk7 HK) (KeepBut.of_below hb g none) (.inl rfl));replace HB:=Aside0.mk (below_step (by exact zk2 HB (IsS94.ge HI0.out)) hb);replace HI0:=Aside0.mk (IsS94.below (by exact zk6 HI0) hb);clear hb ho38;obtain⟨Ao39,co39,eo39⟩:=Kd.R_slice HO875.out;subst eo39)|((with_reducible refine gate_callee (f:=104) rfl ?_);refine goesL_ (some 60) rfl rfl Try.func104 (by kernel_rfl) rfl #[.pointer (some ⟨g,0,none⟩),.slice Ao39 y873.length co39] rfl zq2 ?_;(with_reducible refine(spec_l1Cur_among.calls g s0_0 t871 t872 _ _ y873 t876 t877 t878 w0 _ ?side1 ?side2 ?side3 ?side4 ?side5 A32.out).mono ?_);(case side1=>exact zk6 HI0);(case side2=>exact zk2 HB (IsS94.ge HI0.out));(case side3=>exact zcc ((Kd.R_reads' HO875.out).2.2));(case side4=>exact(Kd.R_reads' HO875.out).2.1);(case side5=>exact far_slice (IsS94.own_ne HI0.out HO875.out (by decide)));rintro e w40 ⟨rfl,hi,hb,hk⟩;refine⟨_,rfl,?_⟩;replace HO_5:=Aside0.mk (Kd.R_mono (Kd.R_keep (IsS94.apart (show IsS94 w0 _ g s0_0 t871 t872 from by exact zk6 HI0) (zq4 HO_5) (by decide)) hk (fun _ h=>h.2)) (fun _ h=>h.1));replace HO875:=Aside0.mk (Kd.R_mono (Kd.R_keep (IsS94.apart (show IsS94 w0 _ g s0_0 t871 t872 from by exact zk6 HI0) (zq4 HO875) (by decide)) hk (fun _ h=>h.2)) (fun _ h=>h.1));replace HK:=Aside0.mk (KeepBut.trans (by exact zk7 HK) hk (.inl rfl));replace HB:=Aside0.mk (hb);replace HI0:=Aside0.mk (hi);(try clear hb);(try clear hb2);(try clear hk);(try clear hi);have p34: 0≤ (0:Int):=(by omega);have q34:(0:Int)< ((x5_2.length:Int):Int):=of_decide_eq_true zq1;have qi34:(0<x5_2.length)=True:=eq_true (by omega);obtain⟨go34,co34,eo34,gb34,gl34,cl34,HG34⟩:=Kd.R_form HO_5.out (by omega);(first|cases eo34|(injection eo34 with ea_ en_ ec_;(first|subst ea_|(injection ea_ with ea_;subst ea_));subst ec_;clear en_));have GB34:=Aside0.mk gb34;have GG34:=Aside0.mk HG34;clear gb34 gl34 HG34;obtain⟨ce34,hcl34,hM34,hcc34,hfr34⟩:=Kd.R_elem HO_5.out z79 (0:Int) p34 q34;obtain rfl:=k79_openM hM34;have hx34_0:w40.cell? ⟨go34,(0:Int).toNat * 3,none⟩=some (.int .i64 ((rd_T79 x5_2 0).f0)):=hcc34 0 _ rfl;have hx34_1:w40.cell? ⟨go34,(0:Int).toNat * 3+1,none⟩=some (.int .i64 ((rd_T79 x5_2 0).f1)):=hcc34 1 _ rfl;have hx34_2:w40.cell? ⟨go34,(0:Int).toNat * 3+2,none⟩=some (.int .i64 ((rd_T79 x5_2 0).f2)):=hcc34 2 _ rfl;have hf34_0:w40.frozen? ⟨go34,(0:Int).toNat * 3,none⟩=false:=hfr34 0;have hf34_1:w40.frozen? ⟨go34,(0:Int).toNat * 3+1,none⟩=false:=hfr34 1;have hf34_2:w40.frozen? ⟨go34,(0:Int).toNat * 3+2,none⟩=false:=hfr34 2;clear hcl34 hcc34 hfr34 hM34;(try rw [show ((0:Int)).toNat=0 from rfl] at hx34_0);(try simp only [Nat.reduceMul,Nat.zero_mul,Nat.zero_add,Nat.reduceAdd] at hx34_0);(try rw [show ((0:Int)).toNat=0 from rfl] at hf34_0);(try simp only [Nat.reduceMul,Nat.zero_mul,Nat.zero_add,Nat.reduceAdd] at hf34_0);(try rw [show ((0:Int)).toNat=0 from rfl] at hx34_1);(try simp only [Nat.reduceMul,Nat.zero_mul,Nat.zero_add,Nat.reduceAdd] at hx34_1);(try rw [show ((0:Int)).toNat=0 from rfl] at hf34_1);(try simp only [Nat.reduceMul,Nat.zero_mul,Nat.zero_add,Nat.reduceAdd] at hf34_1);(try rw [show ((0:Int)).toNat=0 from rfl] at hx34_2);(try simp only [Nat.reduceMul,Nat.zero_mul,Nat.zero_add,Nat.reduceAdd] at hx34_2);(try rw [show ((0:Int)).toNat=0 from rfl] at hf34_2);(try simp only [Nat.reduceMul,Nat.zero_mul,Nat.zero_add,Nat.reduceAdd] at hf34_2);replace p34:=eq_true p34;replace q34:=eq_true q34;have HX41:=Aside0.mk (show Kd.R k79 79 w40 w.heap.size (fun _=>True) (.slice (some ⟨go34,0,none⟩) x5_2.length co35) x5_2 from (zq4 HO_5));obtain⟨ce41,hcl41,hM41,hcc41,hfr41⟩:=Kd.R_elem HX41.out z79 (0:Int) (by omega) (by have h_:(0:Int)< ((x5_2.length:Int):Int):=of_decide_eq_true zq1;first|exact h_|(have e_:=(Kd.R_reads' HO_5.out).1;omega)|simpa using h_);obtain rfl:=k79_openM hM41;have HP41:=Kd.R_seg HX41.out (0:Int) (by omega) (by have h_:(0:Int)< ((x5_2.length:Int):Int):=of_decide_eq_true zq1;first|exact h_|(have e_:=(Kd.R_reads' HO_5.out).1;omega)|simpa using h_) (seg:= [.int .i64 t876]) (j:=2) hcl41 hcc41 (show 3≤3 from by decide) (x':=(⟨(rd_T79 x5_2 0).f0,(rd_T79 x5_2 0).f1,t876⟩ :S79)) (k79_mkM _ _ _ (⟨(rd_T79 x5_2 0).f0,(rd_T79 x5_2 0).f1,t876⟩ :S79) ) (fun _ hk=>hk);have hx41_2:=hcc41 2 _ rfl;(try simp only [show (k79).sz=3 from rfl,Nat.mul_one,Nat.add_zero] at hx41_2);(try rw [show ((0:Int)).toNat=0 from rfl] at hx41_2);(try simp only [Nat.reduceMul,Nat.zero_mul,Nat.zero_add,Nat.reduceAdd] at hx41_2);have hf41_2:=hfr41 2;(try simp only [show (k79).sz=3 from rfl,Nat.mul_one,Nat.add_zero] at hf41_2);(try rw [show ((0:Int)).toNat=0 from rfl] at hf41_2);(try simp only [Nat.reduceMul,Nat.zero_mul,Nat.zero_add,Nat.reduceAdd] at hf41_2);clear hcl41 hcc41 hfr41 hM41)|((with_reducible refine gate_store (t:=3) (p:=62) rfl ?_);refine store_event (t:=3) (p:=62) (v:=?vo_w42) (w1:=(w40.setCell ⟨go34,2,none⟩ (.int .i64 t876))) ?hg ?ho ?hn ?hr ?_;(case ho=>rfl);(case hg=>rfl);(case hn=>rfl);(case hr=>first|(go_simp;done)|(go_simp;rfl));intro w42 hw;have hg:w40.grownBy w42 (some go34):=(by rw [hw];exact HP41.2);have hp_:Kd.R k79 79 w42 w.heap.size (fun _=>True) (.slice (some ⟨go34,0,none⟩) x5_2.length co35) y879:=(by rw [hw,Ny879.out];exact HP41.1);clear HP41;replace HI0:=Aside0.mk (IsS94.grown (by exact zk6 HI0) hg (IsS94.own_ne HI0.out HO_5.out (by decide)));replace HO875:=Aside0.mk (Kd.R_over' (v:=(.slice (some ⟨go34,0,none⟩) x5_2.length co35)) (zq4 HO875) (Kd.R_typed HO_5.out) (by decide) hg);replace HB:=Aside0.mk ((by rw [hw];exact below_set (HB.out) (Nat.le_trans HL.out GB34.out):Below w0.heap.size w0 w42));replace HK:=Aside0.mk (KeepBut.trans (by exact zk7 HK) (KeepBut.of_grown hg g) (Kd.R_base2 HO_5.out));replace HO_5:=Aside0.mk (hp_);clear hg hw hp_))
        go_ret2
        exact⟨_,zer,zdr HO_5,by exact zk6 HI0,by exact zk2 HB (IsS94.ge HI0.out),by exact zk7 HK⟩
       ·replace c31:=Bool.eq_false_iff.mpr c31
        subst c31
        have H1:(some (x4_3,x5_2,t871,t872))=some (r1,r2,r3,r4):=by rw [if_neg (show ¬ (false=true) by decide)] at H;exact H
        clear H
        have H:=H1
        clear H1
        simp only [Option.some.injEq,Prod.mk.injEq] at H
        obtain⟨rfl,rfl,rfl,rfl⟩:=H
        obtain⟨Ao43,co43,eo43⟩:=Kd.R_slice HO_5.out
        subst eo43
        go_wp2_with (first|(go_at_call 91;(with_reducible refine(spec_l1Cur_one.calls g s0_0 x1001_2 x1002_2 30 false t871 t872 w0 _ ?side1 ?side2 A30.out).mono ?_);(case side1=>exact zk6 HI0);(case side2=>exact zk2 HB (IsS94.ge HI0.out));rintro e w44 ⟨rfl,hi,hb,hk⟩;replace HO_5:=Aside0.mk (Kd.R_mono (Kd.R_keep (IsS94.apart (show IsS94 w0 _ g s0_0 x1001_2 x1002_2 from by exact zk6 HI0) (zq4 HO_5) (by decide)) hk (fun _ h=>h.2)) (fun _ h=>h.1));replace HK:=Aside0.mk (KeepBut.trans (by exact zk7 HK) hk (.inl rfl));replace HB:=Aside0.mk (hb);replace HI0:=Aside0.mk (hi);(try clear hb);(try clear hb2);(try clear hk);(try clear hi)))
        go_ret2
        exact⟨_,zer,zdr HO_5,by exact zk6 HI0,by exact zk2 HB (IsS94.ge HI0.out),by exact zk7 HK⟩
      ·rw [if_neg c29] at H
       have c29b0:decide (0< (x5_2.length:Int))=false:=decide_eq_false c29
       have c29b1:decide (0<x5_2.length)=false:=decide_eq_false (by omega)
       clear c29
       simp only [Option.some.injEq,Prod.mk.injEq] at H
       obtain⟨rfl,rfl,rfl,rfl⟩:=H
       obtain⟨Ao45,co45,eo45⟩:=Kd.R_slice HO_5.out
       subst eo45
       go_wp2
       go_ret2
       exact⟨_,zer,zdr HO_5,by exact zk6 HI0,by exact zk2 HB (IsS94.ge HI0.out),by exact zk7 HK⟩
def spec_DrawNearOf.f (k:Nat) (l0:List Int):Option (Int × (List (S79)) × Int):=(spec_l1Cur_edges.f k l0 0 0).bind fun bt881=>((spec_l1Cur_pick.f l0 bt881.2.2.1 bt881.2.2.2 (wrap64 (bt881.1+2))).bind fun bt887=>(some (bt881.1,bt881.2.1,wrap64 (bt887.1 - 1))))
set_option maxHeartbeats 8000000 in
set_option maxRecDepth 100000 in
theorem spec_DrawNearOf.calls (k:Nat) (A0:Option Addr) (c0:Nat) (l0:List Int) (r1:Int) (r2:List (S79)) (r3:Int) (w:World) (hr0:Kd.C (Kd.int .u8) w A0 l0.length l0) (hc0:l0.length≤c0) (h:spec_DrawNearOf.f k l0=some (r1,r2,r3)):
  Calls Try.prog 84 #[.slice A0 l0.length c0] w fun e w'=> ∃ v1_:Value,e= .returned (.tuple #[.int .i64 r1,v1_,.int .i64 r3])∧Kd.R k79 79 w' w.heap.size (fun _=>True) v1_ r2∧Below w.heap.size w w':=by
 have hu94:=Try.underlying94
 have HR0:=Aside0.mk hr0
 have HC0:=Aside0.mk hc0
 clear hr0 hc0
 have HB:=Aside0.mk (Below.refl w.heap.size w)
 have H:((spec_l1Cur_edges.f k l0 0 0).bind fun bt881=>((spec_l1Cur_pick.f l0 bt881.2.2.1 bt881.2.2.2 (wrap64 (bt881.1+2))).bind fun bt887=>(some (bt881.1,bt881.2.1,wrap64 (bt887.1 - 1)))))=some (r1,r2,r3):=h
 clear h
 replace H:=Option.bind_eq_some_iff.mp H
 obtain⟨⟨t881,t882,t885,t886⟩,A20,H⟩:=H
 replace H:((spec_l1Cur_pick.f l0 t885 t886 (wrap64 (t881+2))).bind fun bt887=>(some (t881,t882,wrap64 (bt887.1 - 1))))=some (r1,r2,r3):=H
 have A2:=Aside0.mk A20
 clear A20
 replace H:=Option.bind_eq_some_iff.mp H
 obtain⟨⟨t887,t888,t889⟩,A30,H⟩:=H
 replace H:(some (t881,t882,wrap64 (t887 - 1)))=some (r1,r2,r3):=H
 have A3:=Aside0.mk A30
 clear A30
 simp only [Option.some.injEq,Prod.mk.injEq] at H
 obtain⟨rfl,rfl,rfl⟩:=H
 go_enter Try.func84,Try.ntmps84
 go_wp2_with (first|((with_reducible refine gate_dst (N:=10) rfl ?_);refine box_event ?hg (N:=10) ?hd (cs:= #[.slice A0 l0.length c0,.int .i64 0,.int .u64 0]) (t:=94) ?hr ?_;(case hd=>rfl);(case hg=>rfl);(case hr=>first|(go_simp;done)|(go_simp;rfl));intro gb880 hg w4 hbox hb;have GW880:=Aside0.mk ((by rw [hg];exact(below_size (by exact zk1 HB)):w.heap.size≤gb880));have GE880:=GW880;have HI880:=Aside0.mk ((show IsS94 w _ gb880 l0 0 0 from ⟨_,_,hbox,(by rw [hg];exact(below_size (by exact zk1 HB)):w.heap.size≤gb880),HR0.out⟩));replace HB:=Aside0.mk (below_step (by exact zk1 HB) hb);clear hb hbox hg)|((with_reducible refine gate_callee (f:=90) rfl ?_);refine goesL_ (some 13) rfl rfl Try.func90 (by kernel_rfl) rfl #[.pointer (some ⟨gb880,0,none⟩)] rfl zq2 ?_;(with_reducible refine(spec_l1Cur_edges.calls k gb880 l0 0 0 t881 t882 t885 t886 w _ ?side1 ?side2 A2.out).mono ?_);(case side1=>exact zk6 HI880);(case side2=>exact zk2 HB (IsS94.ge HI880.out));rintro e w5 ⟨v883,rfl,ho0,hi,hb,hk⟩;refine⟨_,rfl,?_⟩;have HO884:=Aside0.mk (Kd.R_lower ho0 (below_size (by exact zk2 HB (IsS94.ge HI880.out))));replace HB:=Aside0.mk (hb);replace HI880:=Aside0.mk (hi);(try clear hb);(try clear hb2);(try clear hk);(try clear hi);(try clear ho0))|((with_reducible refine gate_callee (f:=87) rfl ?_);refine goesL_ (some 21) rfl rfl Try.func87 (by kernel_rfl) rfl #[.pointer (some ⟨gb880,0,none⟩),.int .i64 (wrap64 (t881+2))] rfl zq2 ?_;(with_reducible refine(spec_l1Cur_pick.calls gb880 l0 t885 t886 (wrap64 (t881+2)) t887 t888 t889 w _ ?side1 ?side2 A3.out).mono ?_);(case side1=>exact zk6 HI880);(case side2=>exact zk2 HB (IsS94.ge HI880.out));rintro e w6 ⟨rfl,hi,hb,hk⟩;refine⟨_,rfl,?_⟩;replace HO884:=Aside0.mk (Kd.R_mono (Kd.R_keep (IsS94.apart (show IsS94 w _ gb880 l0 t885 t886 from by exact zk6 HI880) (zq4 HO884) (by decide)) hk (fun _ h=>h.2)) (fun _ h=>h.1));replace HB:=Aside0.mk (hb);replace HI880:=Aside0.mk (hi);(try clear hb);(try clear hb2);(try clear hk);(try clear hi)))
 go_ret3
 exact⟨_,zer,zdr HO884,by exact zk2 HB (IsS94.ge HI880.out)⟩
attribute [local go_sem high] eqA79
def spec_DrawGoodEdges.f (k:Nat) (l0:List Int):Option (Int × (List (S79))):=(spec_l1Cur_edges.f k l0 0 0).bind fun bt1053=>(some (bt1053.1,bt1053.2.1))
set_option maxHeartbeats 8000000 in
set_option maxRecDepth 100000 in
theorem spec_DrawGoodEdges.calls (k:Nat) (A0:Option Addr) (c0:Nat) (l0:List Int) (r1:Int) (r2:List (S79)) (w:World) (hr0:Kd.C (Kd.int .u8) w A0 l0.length l0) (hc0:l0.length≤c0) (h:spec_DrawGoodEdges.f k l0=some (r1,r2)):
  Calls Try.prog 88 #[.slice A0 l0.length c0] w fun e w'=> ∃ v1_:Value,e= .returned (.tuple #[.int .i64 r1,v1_])∧Kd.R k79 79 w' w.heap.size (fun _=>True) v1_ r2∧Below w.heap.size w w':=by
 have hu94:=Try.underlying94
 have HR0:=Aside0.mk hr0
 have HC0:=Aside0.mk hc0
 clear hr0 hc0
 have HB:=Aside0.mk (Below.refl w.heap.size w)
 have H:((spec_l1Cur_edges.f k l0 0 0).bind fun bt1053=>(some (bt1053.1,bt1053.2.1)))=some (r1,r2):=h
 clear h
 replace H:=Option.bind_eq_some_iff.mp H
 obtain⟨⟨t1053,t1054,t1057,t1058⟩,A20,H⟩:=H
 replace H:(some (t1053,t1054))=some (r1,r2):=H
 have A2:=Aside0.mk A20
 clear A20
 simp only [Option.some.injEq,Prod.mk.injEq] at H
 obtain⟨rfl,rfl⟩:=H
 go_enter Try.func88,Try.ntmps88
 go_wp2_with (first|((with_reducible refine gate_dst (N:=7) rfl ?_);refine box_event ?hg (N:=7) ?hd (cs:= #[.slice A0 l0.length c0,.int .i64 0,.int .u64 0]) (t:=94) ?hr ?_;(case hd=>rfl);(case hg=>rfl);(case hr=>first|(go_simp;done)|(go_simp;rfl));intro gb1052 hg w3 hbox hb;have GW1052:=Aside0.mk ((by rw [hg];exact(below_size (by exact zk1 HB)):w.heap.size≤gb1052));have GE1052:=GW1052;have HI1052:=Aside0.mk ((show IsS94 w _ gb1052 l0 0 0 from ⟨_,_,hbox,(by rw [hg];exact(below_size (by exact zk1 HB)):w.heap.size≤gb1052),HR0.out⟩));replace HB:=Aside0.mk (below_step (by exact zk1 HB) hb);clear hb hbox hg)|((with_reducible refine gate_callee (f:=90) rfl ?_);refine goesL_ (some 9) rfl rfl Try.func90 (by kernel_rfl) rfl #[.pointer (some ⟨gb1052,0,none⟩)] rfl zq2 ?_;(with_reducible refine(spec_l1Cur_edges.calls k gb1052 l0 0 0 t1053 t1054 t1057 t1058 w _ ?side1 ?side2 A2.out).mono ?_);(case side1=>exact zk6 HI1052);(case side2=>exact zk2 HB (IsS94.ge HI1052.out));rintro e w4 ⟨v1055,rfl,ho0,hi,hb,hk⟩;refine⟨_,rfl,?_⟩;have HO1056:=Aside0.mk (Kd.R_lower ho0 (below_size (by exact zk2 HB (IsS94.ge HI1052.out))));replace HB:=Aside0.mk (hb);replace HI1052:=Aside0.mk (hi);(try clear hb);(try clear hb2);(try clear hk);(try clear hi);(try clear ho0)))
 go_ret2
 exact⟨_,zer,zdr HO1056,by exact zk2 HB (IsS94.ge HI1052.out)⟩
def spec_DrawLeastTree.f (k:Nat) (l0:List Int):Option (Int × (List (S79))):=(spec_DrawGoodEdges.f k l0).bind fun bt1059=>(some (bt1059.1,bt1059.2))
set_option maxHeartbeats 8000000 in
set_option maxRecDepth 100000 in
theorem spec_DrawLeastTree.calls (k:Nat) (A0:Option Addr) (c0:Nat) (l0:List Int) (r1:Int) (r2:List (S79)) (w:World) (hr0:Kd.C (Kd.int .u8) w A0 l0.length l0) (hc0:l0.length≤c0) (h:spec_DrawLeastTree.f k l0=some (r1,r2)):
  Calls Try.prog 53 #[.slice A0 l0.length c0] w fun e w'=> ∃ v1_:Value,e= .returned (.tuple #[.int .i64 r1,v1_])∧Kd.R k79 79 w' w.heap.size (fun _=>True) v1_ r2∧Below w.heap.size w w':=by
 have HR0:=Aside0.mk hr0
 have HC0:=Aside0.mk hc0
 clear hr0 hc0
 have HB:=Aside0.mk (Below.refl w.heap.size w)
 have H:((spec_DrawGoodEdges.f k l0).bind fun bt1059=>(some (bt1059.1,bt1059.2)))=some (r1,r2):=h
 clear h
 replace H:=Option.bind_eq_some_iff.mp H
 obtain⟨⟨t1059,t1060⟩,A20,H⟩:=H
 replace H:(some (t1059,t1060))=some (r1,r2):=H
 have A2:=Aside0.mk A20
 clear A20
 simp only [Option.some.injEq,Prod.mk.injEq] at H
 obtain⟨rfl,rfl⟩:=H
 go_enter Try.func53,Try.ntmps53
 go_wp2_with (first|((with_reducible refine gate_callee (f:=88) rfl ?_);refine goesL_ (some 5) rfl rfl Try.func88 (by kernel_rfl) rfl #[.slice A0 l0.length c0] rfl zq2 ?_;(with_reducible refine(spec_DrawGoodEdges.calls k _ _ l0 t1059 t1060 _ ?side1 ?side2 A2.out).mono ?_);(case side1=>exact zcc (HR0.out));(case side2=>exact HC0.out);rintro e w3 ⟨v1061,rfl,ho0,hb⟩;refine⟨_,rfl,?_⟩;have HO1062:=Aside0.mk (Kd.R_lower ho0 (below_size (by exact zk1 HB)));replace HB:=Aside0.mk (below_step (by exact zk1 HB) hb);(try clear hb);(try clear hb2);(try clear hk);(try clear hi);(try clear ho0)))
 go_ret2
 exact⟨_,zer,zdr HO1062,by exact zk1 HB⟩
def laws_sameEdges.l0:Nat→List (S79)→List (S79)→Int→Int→Option (Bool)
 | 0,_,_,_,_=>none
 |k+1,x0,x1,x12,x13=>if x13<x12 then(if 0≤x13 then(if x13< (x0.length:Int) then(if x13< (x1.length:Int) then(if (!(((rd_T79 x0 x13).f0)== ((rd_T79 x1 x13).f0)) || (!(((rd_T79 x0 x13).f1)== ((rd_T79 x1 x13).f1)) || (!(((rd_T79 x0 x13).f2)== ((rd_T79 x1 x13).f2)))))=true then(some false) else(laws_sameEdges.l0 k x0 x1 x12 (wrap64 (x13+1)))) else(none)) else(none)) else(none)) else(some true)
def laws_sameEdges.f (k:Nat) (l0:List (S79)) (l1:List (S79)):Option (Bool):=if (l0.length:Int)= (l1.length:Int) then(laws_sameEdges.l0 k l0 l1 (l0.length:Int) 0) else(some false)
set_option maxHeartbeats 8000000 in
set_option maxRecDepth 100000 in
theorem laws_sameEdges.calls (k:Nat) (A0:Option Addr) (c0:Nat) (l0:List (S79)) (A1:Option Addr) (c1:Nat) (l1:List (S79)) (r:Bool) (w:World) (hr0:Kd.C k79 w A0 l0.length l0) (hc0:l0.length≤c0) (hr1:Kd.C k79 w A1 l1.length l1) (hc1:l1.length≤c1) (h:laws_sameEdges.f k l0 l1=some r):
  Calls Try.prog 54 #[.slice A0 l0.length c0,.slice A1 l1.length c1] w fun e w'=>e= .returned (.bool r)∧Drawn0 w w':=by
 have hu79:=Try.underlying79
 have HR0:=Aside0.mk hr0
 have HC0:=Aside0.mk hc0
 clear hr0 hc0
 have HR1:=Aside0.mk hr1
 have HC1:=Aside0.mk hc1
 clear hr1 hc1
 have H:(if (l0.length:Int)= (l1.length:Int) then(laws_sameEdges.l0 k l0 l1 (l0.length:Int) 0) else(some false))=some r:=h
 clear h
 by_cases c3:(l0.length:Int)= (l1.length:Int)
 ·rw [if_pos c3] at H
  have c3b0:((l0.length:Int)== (l1.length:Int))=true:=beq_iff_eq.mpr c3
  have c3b1:((l0.length:Int) != (l1.length:Int))=false:=bne_eq_false_iff_eq.mpr c3
  have c3b2:(l0.length==l1.length)=true:=by first|simpa using c3|(simp at c3 ⊢;omega)
  clear c3
  have H':=Aside0.mk H
  clear H
  go_enter Try.func54,Try.ntmps54
  go_wp2
  repeat(go_quiet (fail);try go_wp2)
  go_loopg [13] k (fun kq v13 w'=> ∃ (x13_1:Int),v13= .int .i64 x13_1∧Aside0 (laws_sameEdges.l0 kq l0 l1 (l0.length:Int) x13_1=some r)∧Aside0 (kq≤k)∧Drawn0 w w')
  case atStart=>exact⟨(0),zrs,H',⟨Nat.le_refl _⟩,by repeat(first|exact Drawn0.refl _|apply Drawn0.step)⟩
  case round=>
   clear H'
   try clear c1
   try clear p2
   try clear c3
   try clear c3b0
   try clear c3b1
   try clear c3b2
   obtain⟨x13_1,rfl,HA,HK1,⟨m1,rfl⟩⟩:=hrel
   cases gk with
   |zero=>exact absurd HA.out (by simp [laws_sameEdges.l0])
   |succ k1=>
    have H:=HA.out
    clear HA
    simp only [laws_sameEdges.l0] at H
    by_cases c4:x13_1< (l0.length:Int)
    ·rw [if_pos c4] at H
     have c4b0:decide (x13_1< (l0.length:Int))=true:=decide_eq_true c4
     clear c4
     by_cases c5: 0≤x13_1
     case neg=>exact znn c5 H
     rw [if_pos c5] at H
     have c5b0:decide (0≤x13_1)=true:=decide_eq_true c5
     clear c5
     by_cases c6:x13_1< (l0.length:Int)
     case neg=>exact znn c6 H
     rw [if_pos c6] at H
     have c6b0:decide (x13_1< (l0.length:Int))=true:=decide_eq_true c6
     clear c6
     by_cases c7:x13_1< (l1.length:Int)
     case neg=>exact znn c7 H
     rw [if_pos c7] at H
     have c7b0:decide (x13_1< (l1.length:Int))=true:=decide_eq_true c7
     clear c7
     by_cases c8:(!(((rd_T79 l0 x13_1).f0)== ((rd_T79 l1 x13_1).f0)) || (!(((rd_T79 l0 x13_1).f1)== ((rd_T79 l1 x13_1).f1)) || (!(((rd_T79 l0 x13_1).f2)== ((rd_T79 l1 x13_1).f2)))))=true
     ·rw [if_pos c8] at H
      have c8b0:(!(((rd_T79 l0 x13_1).f0)== ((rd_T79 l1 x13_1).f0)) || (!(((rd_T79 l0 x13_1).f1)== ((rd_T79 l1 x13_1).f1)) || (!(((rd_T79 l0 x13_1).f2)== ((rd_T79 l1 x13_1).f2)))))=true:=c8
      clear c8
      obtain rfl:=Option.some.inj H
      have p1063: 0≤ (x13_1:Int):=of_decide_eq_true zq1
      have q1063:x13_1< (l0.length:Int):=of_decide_eq_true zq1
      obtain⟨ad1063,e1063,hx1063_0,hx1063_1,hx1063_2⟩:=at_T79 HR0.out x13_1 p1063 q1063
      cases e1063
      replace p1063:=eq_true p1063
      replace q1063:=eq_true q1063
      have p1064: 0≤ (x13_1:Int):=of_decide_eq_true zq1
      have q1064:x13_1< (l1.length:Int):=of_decide_eq_true zq1
      obtain⟨ad1064,e1064,hx1064_0,hx1064_1,hx1064_2⟩:=at_T79 HR1.out x13_1 p1064 q1064
      cases e1064
      replace p1064:=eq_true p1064
      replace q1064:=eq_true q1064
      go_wp2
      repeat(go_quiet (fail);try go_wp2)
      go_ret
      exact⟨by first|rfl|(simp;done)|(simp [*];done),by repeat(first|exact Drawn0.refl _|apply Drawn0.step)⟩
     ·rw [if_neg c8] at H
      have c8b0:(!(((rd_T79 l0 x13_1).f0)== ((rd_T79 l1 x13_1).f0)) || (!(((rd_T79 l0 x13_1).f1)== ((rd_T79 l1 x13_1).f1)) || (!(((rd_T79 l0 x13_1).f2)== ((rd_T79 l1 x13_1).f2)))))=false:=by simpa using c8
      clear c8
      have H':=Aside0.mk H
      clear H
      have p1063: 0≤ (x13_1:Int):=of_decide_eq_true zq1
      have q1063:x13_1< (l0.length:Int):=of_decide_eq_true zq1
      obtain⟨ad1063,e1063,hx1063_0,hx1063_1,hx1063_2⟩:=at_T79 HR0.out x13_1 p1063 q1063
      cases e1063
      replace p1063:=eq_true p1063
      replace q1063:=eq_true q1063
      have p1064: 0≤ (x13_1:Int):=of_decide_eq_true zq1
      have q1064:x13_1< (l1.length:Int):=of_decide_eq_true zq1
      obtain⟨ad1064,e1064,hx1064_0,hx1064_1,hx1064_2⟩:=at_T79 HR1.out x13_1 p1064 q1064
      cases e1064
      replace p1064:=eq_true p1064
      replace q1064:=eq_true q1064
      go_wp2
      repeat(go_quiet (fail);try go_wp2)
      go_roundg k1
      case measure=>have:=HK1.out;omega
      case rel=>exact⟨(wrap64 (x13_1+1)),zrs,H',⟨by have:=HK1.out;omega⟩,by repeat(first|exact Drawn0.refl _|apply Drawn0.step)⟩
    ·rw [if_neg c4] at H
     have c4b0:decide (x13_1< (l0.length:Int))=false:=decide_eq_false c4
     clear c4
     obtain rfl:=Option.some.inj H
     go_wp2
     repeat(go_quiet (fail);try go_wp2)
     go_ret
     exact⟨by first|rfl|(simp;done)|(simp [*];done),by repeat(first|exact Drawn0.refl _|apply Drawn0.step)⟩
 ·rw [if_neg c3] at H
  have c3b0:((l0.length:Int)== (l1.length:Int))=false:=beq_eq_false_iff_ne.mpr c3
  have c3b1:((l0.length:Int) != (l1.length:Int))=true:=bne_iff_ne.mpr c3
  have c3b2:(l0.length==l1.length)=false:=by first|simpa using c3|(simp at c3 ⊢;omega)
  obtain rfl:=Option.some.inj H
  go_enter Try.func54,Try.ntmps54
  go_wp2
  repeat(go_quiet (fail);try go_wp2)
  go_ret
  exact⟨by first|rfl|(simp;done)|(simp [*];done),by repeat(first|exact Drawn0.refl _|apply Drawn0.step)⟩
def impl_isOneGroup.f (k:Nat) (a0:Int) (l1:List (S79)):Option (Bool):=(impl_groupsOf.f k a0 l1).bind fun t1065=>((impl_allIn.f k t1065 0 0).bind fun t1068=>(some t1068))
set_option maxHeartbeats 8000000 in
set_option maxRecDepth 100000 in
theorem impl_isOneGroup.calls (k:Nat) (a0:Int) (A1:Option Addr) (c1:Nat) (l1:List (S79)) (r:Bool) (w:World) (hr1:Kd.C k79 w A1 l1.length l1) (hc1:l1.length≤c1) (h:impl_isOneGroup.f k a0 l1=some r):
  Calls Try.prog 89 #[.int .i64 a0,.slice A1 l1.length c1] w fun e w'=>e= .returned (.bool r)∧Below w.heap.size w w':=by
 have HR1:=Aside0.mk hr1
 have HC1:=Aside0.mk hc1
 clear hr1 hc1
 have HB:=Aside0.mk (Below.refl w.heap.size w)
 have H:((impl_groupsOf.f k a0 l1).bind fun t1065=>((impl_allIn.f k t1065 0 0).bind fun t1068=>(some t1068)))=some r:=h
 clear h
 replace H:=Option.bind_eq_some_iff.mp H
 obtain⟨t1065,A30,H⟩:=H
 replace H:((impl_allIn.f k t1065 0 0).bind fun t1068=>(some t1068))=some r:=H
 have A3:=Aside0.mk A30
 clear A30
 replace H:=Option.bind_eq_some_iff.mp H
 obtain⟨t1068,A40,H⟩:=H
 replace H:(some t1068)=some r:=H
 have A4:=Aside0.mk A40
 clear A40
 obtain rfl:=Option.some.inj H
 go_enter Try.func89,Try.ntmps89
 go_wp2_with (first|((with_reducible refine gate_callee (f:=83) rfl ?_);refine goesL_ (some 7) rfl rfl Try.func83 (by kernel_rfl) rfl #[.int .i64 a0,.slice A1 l1.length c1] rfl zq2 ?_;(with_reducible refine(impl_groupsOf.calls k a0 _ _ l1 t1065 _ ?side1 ?side2 A3.out).mono ?_);(case side1=>exact zcc (HR1.out));(case side2=>exact HC1.out);rintro e w5 ⟨v1066,rfl,ho0,hb⟩;refine⟨_,rfl,?_⟩;have HO1067:=Aside0.mk (Kd.R_lower ho0 (below_size (by exact zk1 HB)));replace HB:=Aside0.mk (below_step (by exact zk1 HB) hb);(try clear hb);(try clear hb2);(try clear hk);(try clear hi);(try clear ho0);obtain⟨Ao6,co6,eo6⟩:=Kd.R_slice HO1067.out;subst eo6)|((with_reducible refine gate_callee (f:=61) rfl ?_);refine goesL_ (some 8) rfl rfl Try.func61 (by kernel_rfl) rfl #[.slice Ao6 t1065.length co6,.int .i64 0,.int .i64 0] rfl zq2 ?_;(with_reducible refine(impl_allIn.calls k _ _ t1065 0 0 t1068 _ ?side1 ?side2 A4.out).mono ?_);(case side1=>exact zcc ((Kd.R_reads' HO1067.out).2.2));(case side2=>exact(Kd.R_reads' HO1067.out).2.1);rintro e w' ⟨rfl,⟨nd,rfl⟩⟩;refine⟨_,rfl,?_⟩))
 go_ret
 exact⟨zer,by exact zk1 HB⟩
def impl_IsOneGroup.f (k:Nat) (a0:Int) (l1:List (S79)):Option (Bool × Bool):=(impl_GoodEdges.f k a0 l1).bind fun t1069=>(if t1069=true then((impl_isOneGroup.f k a0 l1).bind fun t1070=>(some (t1070,true))) else(some (false,false)))
set_option maxHeartbeats 8000000 in
set_option maxRecDepth 100000 in
theorem impl_IsOneGroup.calls (k:Nat) (a0:Int) (A1:Option Addr) (c1:Nat) (l1:List (S79)) (r1:Bool) (r2:Bool) (w:World) (hr1:Kd.C k79 w A1 l1.length l1) (hc1:l1.length≤c1) (h:impl_IsOneGroup.f k a0 l1=some (r1,r2)):
  Calls Try.prog 55 #[.int .i64 a0,.slice A1 l1.length c1] w fun e w'=>e= .returned (.tuple #[.bool r1,.bool r2])∧Below w.heap.size w w':=by
 have HR1:=Aside0.mk hr1
 have HC1:=Aside0.mk hc1
 clear hr1 hc1
 have HB:=Aside0.mk (Below.refl w.heap.size w)
 have H:((impl_GoodEdges.f k a0 l1).bind fun t1069=>(if t1069=true then((impl_isOneGroup.f k a0 l1).bind fun t1070=>(some (t1070,true))) else(some (false,false))))=some (r1,r2):=h
 clear h
 replace H:=Option.bind_eq_some_iff.mp H
 obtain⟨t1069,A30,H⟩:=H
 replace H:(if t1069=true then((impl_isOneGroup.f k a0 l1).bind fun t1070=>(some (t1070,true))) else(some (false,false)))=some (r1,r2):=H
 have A3:=Aside0.mk A30
 clear A30
 by_cases c4:t1069=true
 ·subst c4
  have H1:((impl_isOneGroup.f k a0 l1).bind fun t1070=>(some (t1070,true)))=some (r1,r2):=by rw [if_pos rfl] at H;exact H
  clear H
  have H:=H1
  clear H1
  replace H:=Option.bind_eq_some_iff.mp H
  obtain⟨t1070,A50,H⟩:=H
  replace H:(some (t1070,true))=some (r1,r2):=H
  have A5:=Aside0.mk A50
  clear A50
  simp only [Option.some.injEq,Prod.mk.injEq] at H
  obtain⟨rfl,rfl⟩:=H
  go_enter Try.func55,Try.ntmps55
  go_wp2_with (first|((with_reducible refine gate_callee (f:=69) rfl ?_);refine goesL_ (some 8) rfl rfl Try.func69 (by kernel_rfl) rfl #[.int .i64 a0,.slice A1 l1.length c1] rfl zq2 ?_;(with_reducible refine(impl_GoodEdges.calls k a0 _ _ l1 true _ ?side1 ?side2 A3.out).mono ?_);(case side1=>exact zcc (HR1.out));(case side2=>exact HC1.out);rintro e w6 ⟨rfl,hb⟩;refine⟨_,rfl,?_⟩;replace HB:=Aside0.mk (below_step (by exact zk1 HB) hb);(try clear hb);(try clear hb2);(try clear hk);(try clear hi))|((with_reducible refine gate_callee (f:=89) rfl ?_);refine goesL_ (some 12) rfl rfl Try.func89 (by kernel_rfl) rfl #[.int .i64 a0,.slice A1 l1.length c1] rfl zq2 ?_;(with_reducible refine(impl_isOneGroup.calls k a0 _ _ l1 t1070 _ ?side1 ?side2 A5.out).mono ?_);(case side1=>exact zcc ((Kd.C_below HR1.out HB.out)));(case side2=>exact HC1.out);rintro e w7 ⟨rfl,hb⟩;refine⟨_,rfl,?_⟩;replace HB:=Aside0.mk (below_step (by exact zk1 HB) hb);(try clear hb);(try clear hb2);(try clear hk);(try clear hi)))
  go_ret2
  exact⟨zer,by exact zk1 HB⟩
 ·replace c4:=Bool.eq_false_iff.mpr c4
  subst c4
  have H1:(some (false,false))=some (r1,r2):=by rw [if_neg (show ¬ (false=true) by decide)] at H;exact H
  clear H
  have H:=H1
  clear H1
  simp only [Option.some.injEq,Prod.mk.injEq] at H
  obtain⟨rfl,rfl⟩:=H
  go_enter Try.func55,Try.ntmps55
  go_wp2_with (first|((with_reducible refine gate_callee (f:=69) rfl ?_);refine goesL_ (some 8) rfl rfl Try.func69 (by kernel_rfl) rfl #[.int .i64 a0,.slice A1 l1.length c1] rfl zq2 ?_;(with_reducible refine(impl_GoodEdges.calls k a0 _ _ l1 false _ ?side1 ?side2 A3.out).mono ?_);(case side1=>exact zcc (HR1.out));(case side2=>exact HC1.out);rintro e w8 ⟨rfl,hb⟩;refine⟨_,rfl,?_⟩;replace HB:=Aside0.mk (below_step (by exact zk1 HB) hb);(try clear hb);(try clear hb2);(try clear hk);(try clear hi)))
  go_ret2
  exact⟨zer,by exact zk1 HB⟩
def spec_DrawTreesFor.f (k:Nat) (l0:List Int):Option (Int × (List (S79)) × Int):=(spec_DrawNearOf.f k l0).bind fun bt1071=>(some (bt1071.1,bt1071.2.1,bt1071.2.2))
set_option maxHeartbeats 8000000 in
set_option maxRecDepth 100000 in
theorem spec_DrawTreesFor.calls (k:Nat) (A0:Option Addr) (c0:Nat) (l0:List Int) (r1:Int) (r2:List (S79)) (r3:Int) (w:World) (hr0:Kd.C (Kd.int .u8) w A0 l0.length l0) (hc0:l0.length≤c0) (h:spec_DrawTreesFor.f k l0=some (r1,r2,r3)):
  Calls Try.prog 56 #[.slice A0 l0.length c0] w fun e w'=> ∃ v1_:Value,e= .returned (.tuple #[.int .i64 r1,v1_,.int .i64 r3])∧Kd.R k79 79 w' w.heap.size (fun _=>True) v1_ r2∧Below w.heap.size w w':=by
 have HR0:=Aside0.mk hr0
 have HC0:=Aside0.mk hc0
 clear hr0 hc0
 have HB:=Aside0.mk (Below.refl w.heap.size w)
 have H:((spec_DrawNearOf.f k l0).bind fun bt1071=>(some (bt1071.1,bt1071.2.1,bt1071.2.2)))=some (r1,r2,r3):=h
 clear h
 replace H:=Option.bind_eq_some_iff.mp H
 obtain⟨⟨t1071,t1072,t1073⟩,A20,H⟩:=H
 replace H:(some (t1071,t1072,t1073))=some (r1,r2,r3):=H
 have A2:=Aside0.mk A20
 clear A20
 simp only [Option.some.injEq,Prod.mk.injEq] at H
 obtain⟨rfl,rfl,rfl⟩:=H
 go_enter Try.func56,Try.ntmps56
 go_wp2_with (first|((with_reducible refine gate_callee (f:=84) rfl ?_);refine goesL_ (some 6) rfl rfl Try.func84 (by kernel_rfl) rfl #[.slice A0 l0.length c0] rfl zq2 ?_;(with_reducible refine(spec_DrawNearOf.calls k _ _ l0 t1071 t1072 t1073 _ ?side1 ?side2 A2.out).mono ?_);(case side1=>exact zcc (HR0.out));(case side2=>exact HC0.out);rintro e w3 ⟨v1074,rfl,ho0,hb⟩;refine⟨_,rfl,?_⟩;have HO1075:=Aside0.mk (Kd.R_lower ho0 (below_size (by exact zk1 HB)));replace HB:=Aside0.mk (below_step (by exact zk1 HB) hb);(try clear hb);(try clear hb2);(try clear hk);(try clear hi);(try clear ho0)))
 go_ret3
 exact⟨_,zer,zdr HO1075,by exact zk1 HB⟩
def laws_sameInts.l0:Nat→List Int→List Int→Int→Int→Option (Bool)
 | 0,_,_,_,_=>none
 |k+1,x0,x1,x12,x13=>if x13<x12 then(if 0≤x13 then(if x13< (x0.length:Int) then(if x13< (x1.length:Int) then(if (rd x0 x13)= (rd x1 x13) then(laws_sameInts.l0 k x0 x1 x12 (wrap64 (x13+1))) else(some false)) else(none)) else(none)) else(none)) else(some true)
def laws_sameInts.f (k:Nat) (l0:List Int) (l1:List Int):Option (Bool):=if (l0.length:Int)= (l1.length:Int) then(laws_sameInts.l0 k l0 l1 (l0.length:Int) 0) else(some false)
set_option maxHeartbeats 8000000 in
set_option maxRecDepth 100000 in
theorem laws_sameInts.calls (k:Nat) (A0:Option Addr) (c0:Nat) (l0:List Int) (A1:Option Addr) (c1:Nat) (l1:List Int) (r:Bool) (w:World) (hr0:Kd.C (Kd.int .i64) w A0 l0.length l0) (hc0:l0.length≤c0) (hr1:Kd.C (Kd.int .i64) w A1 l1.length l1) (hc1:l1.length≤c1) (h:laws_sameInts.f k l0 l1=some r):
  Calls Try.prog 45 #[.slice A0 l0.length c0,.slice A1 l1.length c1] w fun e w'=>e= .returned (.bool r)∧Drawn0 w w':=by
 have HR0:=Aside0.mk hr0
 have HC0:=Aside0.mk hc0
 clear hr0 hc0
 have HR1:=Aside0.mk hr1
 have HC1:=Aside0.mk hc1
 clear hr1 hc1
 have H:(if (l0.length:Int)= (l1.length:Int) then(laws_sameInts.l0 k l0 l1 (l0.length:Int) 0) else(some false))=some r:=h
 clear h
 by_cases c3:(l0.length:Int)= (l1.length:Int)
 ·rw [if_pos c3] at H
  have c3b0:((l0.length:Int)== (l1.length:Int))=true:=beq_iff_eq.mpr c3
  have c3b1:((l0.length:Int) != (l1.length:Int))=false:=bne_eq_false_iff_eq.mpr c3
  have c3b2:(l0.length==l1.length)=true:=by first|simpa using c3|(simp at c3 ⊢;omega)
  clear c3
  have H':=Aside0.mk H
  clear H
  go_enter Try.func45,Try.ntmps45
  go_wp2
  repeat(go_quiet (fail);try go_wp2)
  go_loopg [13] k (fun kq v13 w'=> ∃ (x13_1:Int),v13= .int .i64 x13_1∧Aside0 (laws_sameInts.l0 kq l0 l1 (l0.length:Int) x13_1=some r)∧Aside0 (kq≤k)∧Drawn0 w w')
  case atStart=>exact⟨(0),zrs,H',⟨Nat.le_refl _⟩,by repeat(first|exact Drawn0.refl _|apply Drawn0.step)⟩
  case round=>
   clear H'
   try clear c1
   try clear p2
   try clear c3
   try clear c3b0
   try clear c3b1
   try clear c3b2
   obtain⟨x13_1,rfl,HA,HK1,⟨m1,rfl⟩⟩:=hrel
   cases gk with
   |zero=>exact absurd HA.out (by simp [laws_sameInts.l0])
   |succ k1=>
    have H:=HA.out
    clear HA
    simp only [laws_sameInts.l0] at H
    by_cases c4:x13_1< (l0.length:Int)
    ·rw [if_pos c4] at H
     have c4b0:decide (x13_1< (l0.length:Int))=true:=decide_eq_true c4
     clear c4
     by_cases c5: 0≤x13_1
     case neg=>exact znn c5 H
     rw [if_pos c5] at H
     have c5b0:decide (0≤x13_1)=true:=decide_eq_true c5
     clear c5
     by_cases c6:x13_1< (l0.length:Int)
     case neg=>exact znn c6 H
     rw [if_pos c6] at H
     have c6b0:decide (x13_1< (l0.length:Int))=true:=decide_eq_true c6
     clear c6
     by_cases c7:x13_1< (l1.length:Int)
     case neg=>exact znn c7 H
     rw [if_pos c7] at H
     have c7b0:decide (x13_1< (l1.length:Int))=true:=decide_eq_true c7
     clear c7
     by_cases c8:(rd l0 x13_1)= (rd l1 x13_1)
     ·rw [if_pos c8] at H
      have c8b0:((rd l0 x13_1)== (rd l1 x13_1))=true:=beq_iff_eq.mpr c8
      have c8b1:((rd l0 x13_1) != (rd l1 x13_1))=false:=bne_eq_false_iff_eq.mpr c8
      clear c8
      have H':=Aside0.mk H
      clear H
      have p895: 0≤ (x13_1:Int):=of_decide_eq_true zq1
      have q895:x13_1< (l0.length:Int):=of_decide_eq_true zq1
      obtain⟨ad895,e895,hx895_0⟩:=Kd.at_int HR0.out x13_1 p895 q895
      cases e895
      replace p895:=eq_true p895
      replace q895:=eq_true q895
      have p896: 0≤ (x13_1:Int):=of_decide_eq_true zq1
      have q896:x13_1< (l1.length:Int):=of_decide_eq_true zq1
      obtain⟨ad896,e896,hx896_0⟩:=Kd.at_int HR1.out x13_1 p896 q896
      cases e896
      replace p896:=eq_true p896
      replace q896:=eq_true q896
      go_wp2
      repeat(go_quiet (fail);try go_wp2)
      go_roundg k1
      case measure=>have:=HK1.out;omega
      case rel=>exact⟨(wrap64 (x13_1+1)),zrs,H',⟨by have:=HK1.out;omega⟩,by repeat(first|exact Drawn0.refl _|apply Drawn0.step)⟩
     ·rw [if_neg c8] at H
      have c8b0:((rd l0 x13_1)== (rd l1 x13_1))=false:=beq_eq_false_iff_ne.mpr c8
      have c8b1:((rd l0 x13_1) != (rd l1 x13_1))=true:=bne_iff_ne.mpr c8
      obtain rfl:=Option.some.inj H
      have p895: 0≤ (x13_1:Int):=of_decide_eq_true zq1
      have q895:x13_1< (l0.length:Int):=of_decide_eq_true zq1
      obtain⟨ad895,e895,hx895_0⟩:=Kd.at_int HR0.out x13_1 p895 q895
      cases e895
      replace p895:=eq_true p895
      replace q895:=eq_true q895
      have p896: 0≤ (x13_1:Int):=of_decide_eq_true zq1
      have q896:x13_1< (l1.length:Int):=of_decide_eq_true zq1
      obtain⟨ad896,e896,hx896_0⟩:=Kd.at_int HR1.out x13_1 p896 q896
      cases e896
      replace p896:=eq_true p896
      replace q896:=eq_true q896
      go_wp2
      repeat(go_quiet (fail);try go_wp2)
      go_ret
      exact⟨by first|rfl|(simp;done)|(simp [*];done),by repeat(first|exact Drawn0.refl _|apply Drawn0.step)⟩
    ·rw [if_neg c4] at H
     have c4b0:decide (x13_1< (l0.length:Int))=false:=decide_eq_false c4
     clear c4
     obtain rfl:=Option.some.inj H
     go_wp2
     repeat(go_quiet (fail);try go_wp2)
     go_ret
     exact⟨by first|rfl|(simp;done)|(simp [*];done),by repeat(first|exact Drawn0.refl _|apply Drawn0.step)⟩
 ·rw [if_neg c3] at H
  have c3b0:((l0.length:Int)== (l1.length:Int))=false:=beq_eq_false_iff_ne.mpr c3
  have c3b1:((l0.length:Int) != (l1.length:Int))=true:=bne_iff_ne.mpr c3
  have c3b2:(l0.length==l1.length)=false:=by first|simpa using c3|(simp at c3 ⊢;omega)
  obtain rfl:=Option.some.inj H
  go_enter Try.func45,Try.ntmps45
  go_wp2
  repeat(go_quiet (fail);try go_wp2)
  go_ret
  exact⟨by first|rfl|(simp;done)|(simp [*];done),by repeat(first|exact Drawn0.refl _|apply Drawn0.step)⟩
def spec_DrawTreeCost.j0:Nat→Int→List (S79)→List Int→Bool→List Int→Int→Int→Option (Int × (List (S79)) × List Int)
 | 0,_,_,_,_,_,_,_=>none
 |k+1,x6,x7,x8,x31,x1077000,x1077001,x1077002=>if x31=true then((spec_l1Cur_pick.f x1077000 x1077001 x1077002 (x8.length:Int)).bind fun bt1093=>((spec_l1Cur_pick.f x1077000 bt1093.2.1 bt1093.2.2 9).bind fun bt1096=>(if 0≤bt1093.1 then(if bt1093.1< (x8.length:Int) then(some (x6,x7,(x8.set (bt1093.1:Int).toNat (wrap64 (bt1096.1 - 2))))) else(none)) else(none)))) else(some (x6,x7,x8))
def spec_DrawTreeCost.f (k:Nat) (l0:List Int):Option (Int × (List (S79)) × List Int):=(spec_l1Cur_edges.f k l0 0 0).bind fun bt1077=>((spec_l1Cur_pick.f l0 bt1077.2.2.1 bt1077.2.2.2 bt1077.1).bind fun bt1083=>((spec_TreeAt.f k bt1077.1 bt1077.2.1 bt1083.1).bind fun bt1086=>(if bt1086.2=true then((spec_l1Cur_one.f l0 bt1083.2.1 bt1083.2.2 8).bind fun bt1090=>(spec_DrawTreeCost.j0 k bt1077.1 bt1077.2.1 bt1086.1 bt1090.1 l0 bt1090.2.1 bt1090.2.2)) else(spec_DrawTreeCost.j0 k bt1077.1 bt1077.2.1 bt1086.1 false l0 bt1083.2.1 bt1083.2.2))))
set_option maxHeartbeats 8000000 in
set_option maxRecDepth 100000 in
theorem spec_DrawTreeCost.calls (k:Nat) (A0:Option Addr) (c0:Nat) (l0:List Int) (r1:Int) (r2:List (S79)) (r3:List Int) (w:World) (hr0:Kd.C (Kd.int .u8) w A0 l0.length l0) (hc0:l0.length≤c0) (h:spec_DrawTreeCost.f k l0=some (r1,r2,r3)):
  Calls Try.prog 57 #[.slice A0 l0.length c0] w fun e w'=> ∃ v1_ v2_:Value,e= .returned (.tuple #[.int .i64 r1,v1_,v2_])∧Kd.R k79 79 w' w.heap.size (fun _=>True) v1_ r2∧Kd.R (Kd.int .i64) 3 w' w.heap.size (fun _=>True) v2_ r3∧Below w.heap.size w w':=by
 have hu94:=Try.underlying94
 have HR0:=Aside0.mk hr0
 have HC0:=Aside0.mk hc0
 clear hr0 hc0
 have HB:=Aside0.mk (Below.refl w.heap.size w)
 have H:((spec_l1Cur_edges.f k l0 0 0).bind fun bt1077=>((spec_l1Cur_pick.f l0 bt1077.2.2.1 bt1077.2.2.2 bt1077.1).bind fun bt1083=>((spec_TreeAt.f k bt1077.1 bt1077.2.1 bt1083.1).bind fun bt1086=>(if bt1086.2=true then((spec_l1Cur_one.f l0 bt1083.2.1 bt1083.2.2 8).bind fun bt1090=>(spec_DrawTreeCost.j0 k bt1077.1 bt1077.2.1 bt1086.1 bt1090.1 l0 bt1090.2.1 bt1090.2.2)) else(spec_DrawTreeCost.j0 k bt1077.1 bt1077.2.1 bt1086.1 false l0 bt1083.2.1 bt1083.2.2)))))=some (r1,r2,r3):=h
 clear h
 replace H:=Option.bind_eq_some_iff.mp H
 obtain⟨⟨t1077,t1078,t1081,t1082⟩,A20,H⟩:=H
 replace H:((spec_l1Cur_pick.f l0 t1081 t1082 t1077).bind fun bt1083=>((spec_TreeAt.f k t1077 t1078 bt1083.1).bind fun bt1086=>(if bt1086.2=true then((spec_l1Cur_one.f l0 bt1083.2.1 bt1083.2.2 8).bind fun bt1090=>(spec_DrawTreeCost.j0 k t1077 t1078 bt1086.1 bt1090.1 l0 bt1090.2.1 bt1090.2.2)) else(spec_DrawTreeCost.j0 k t1077 t1078 bt1086.1 false l0 bt1083.2.1 bt1083.2.2))))=some (r1,r2,r3):=H
 have A2:=Aside0.mk A20
 clear A20
 replace H:=Option.bind_eq_some_iff.mp H
 obtain⟨⟨t1083,t1084,t1085⟩,A30,H⟩:=H
 replace H:((spec_TreeAt.f k t1077 t1078 t1083).bind fun bt1086=>(if bt1086.2=true then((spec_l1Cur_one.f l0 t1084 t1085 8).bind fun bt1090=>(spec_DrawTreeCost.j0 k t1077 t1078 bt1086.1 bt1090.1 l0 bt1090.2.1 bt1090.2.2)) else(spec_DrawTreeCost.j0 k t1077 t1078 bt1086.1 false l0 t1084 t1085)))=some (r1,r2,r3):=H
 have A3:=Aside0.mk A30
 clear A30
 replace H:=Option.bind_eq_some_iff.mp H
 obtain⟨⟨t1086,t1087⟩,A40,H⟩:=H
 replace H:(if t1087=true then((spec_l1Cur_one.f l0 t1084 t1085 8).bind fun bt1090=>(spec_DrawTreeCost.j0 k t1077 t1078 t1086 bt1090.1 l0 bt1090.2.1 bt1090.2.2)) else(spec_DrawTreeCost.j0 k t1077 t1078 t1086 false l0 t1084 t1085))=some (r1,r2,r3):=H
 have A4:=Aside0.mk A40
 clear A40
 have HC5:=Aside0.mk H
 clear H
 go_enter Try.func57,Try.ntmps57
 go_upto_region 4 with (first|((with_reducible refine gate_dst (N:=12) rfl ?_);refine box_event ?hg (N:=12) ?hd (cs:= #[.slice A0 l0.length c0,.int .i64 0,.int .u64 0]) (t:=94) ?hr ?_;(case hd=>rfl);(case hg=>rfl);(case hr=>first|(go_simp;done)|(go_simp;rfl));intro gb1076 hg w6 hbox hb;have GW1076:=Aside0.mk ((by rw [hg];exact(below_size (by exact zk1 HB)):w.heap.size≤gb1076));have GE1076:=GW1076;have HI1076:=Aside0.mk ((show IsS94 w _ gb1076 l0 0 0 from ⟨_,_,hbox,(by rw [hg];exact(below_size (by exact zk1 HB)):w.heap.size≤gb1076),HR0.out⟩));replace HB:=Aside0.mk (below_step (by exact zk1 HB) hb);clear hb hbox hg)|((with_reducible refine gate_callee (f:=90) rfl ?_);refine goesL_ (some 15) rfl rfl Try.func90 (by kernel_rfl) rfl #[.pointer (some ⟨gb1076,0,none⟩)] rfl zq2 ?_;(with_reducible refine(spec_l1Cur_edges.calls k gb1076 l0 0 0 t1077 t1078 t1081 t1082 w _ ?side1 ?side2 A2.out).mono ?_);(case side1=>exact zk6 HI1076);(case side2=>exact zk2 HB (IsS94.ge HI1076.out));rintro e w7 ⟨v1079,rfl,ho0,hi,hb,hk⟩;refine⟨_,rfl,?_⟩;have HO1080:=Aside0.mk (Kd.R_lower ho0 (below_size (by exact zk2 HB (IsS94.ge HI1076.out))));replace HB:=Aside0.mk (hb);replace HI1076:=Aside0.mk (hi);(try clear hb);(try clear hb2);(try clear hk);(try clear hi);(try clear ho0))|((with_reducible refine gate_callee (f:=87) rfl ?_);refine goesL_ (some 23) rfl rfl Try.func87 (by kernel_rfl) rfl #[.pointer (some ⟨gb1076,0,none⟩),.int .i64 t1077] rfl zq2 ?_;(with_reducible refine(spec_l1Cur_pick.calls gb1076 l0 t1081 t1082 t1077 t1083 t1084 t1085 w _ ?side1 ?side2 A3.out).mono ?_);(case side1=>exact zk6 HI1076);(case side2=>exact zk2 HB (IsS94.ge HI1076.out));rintro e w8 ⟨rfl,hi,hb,hk⟩;refine⟨_,rfl,?_⟩;replace HO1080:=Aside0.mk (Kd.R_mono (Kd.R_keep (IsS94.apart (show IsS94 w _ gb1076 l0 t1081 t1082 from by exact zk6 HI1076) (zq4 HO1080) (by decide)) hk (fun _ h=>h.2)) (fun _ h=>h.1));replace HB:=Aside0.mk (hb);replace HI1076:=Aside0.mk (hi);(try clear hb);(try clear hb2);(try clear hk);(try clear hi);obtain⟨Ao9,co9,eo9⟩:=Kd.R_slice HO1080.out;subst eo9)|((with_reducible refine gate_callee (f:=33) rfl ?_);refine goesL_ (some 24) rfl rfl Try.func33 (by kernel_rfl) rfl #[.int .i64 t1077,.slice Ao9 t1078.length co9,.int .i64 t1083] rfl zq2 ?_;(with_reducible refine(spec_TreeAt.calls k t1077 _ _ t1078 t1083 t1086 t1087 _ ?side1 ?side2 A4.out).mono ?_);(case side1=>exact zcc ((Kd.R_reads' HO1080.out).2.2));(case side2=>exact(Kd.R_reads' HO1080.out).2.1);rintro e w10 ⟨v1088,rfl,ho0,hb⟩;refine⟨_,rfl,?_⟩;have HO1089:=Aside0.mk (Kd.R_lower ho0 (below_size (by exact zk2 HB (IsS94.ge HI1076.out))));replace HO1080:=Aside0.mk (Kd.R_below (zq4 HO1080) hb);replace HB:=Aside0.mk (below_step (by exact zk2 HB (IsS94.ge HI1076.out)) hb);replace HI1076:=Aside0.mk (IsS94.below (by exact zk6 HI1076) hb);(try clear hb);(try clear hb2);(try clear hk);(try clear hi);(try clear ho0)))
 (try simp only [Act.put,List.setIfInBounds_toArray,List.set_cons_zero,List.set_cons_succ])
 go_cut [31] (fun v31 wc=> ∃ (kq:Nat) (x31_4:Bool) (x1077001_4:Int) (x1077002_4:Int),v31= .bool x31_4∧Aside0 (spec_DrawTreeCost.j0 kq t1077 t1078 t1086 x31_4 l0 x1077001_4 x1077002_4=some (r1,r2,r3))∧Aside0 (kq≤k)∧Aside0 (Kd.R k79 79 wc w.heap.size (fun _=>True) (.slice Ao9 t1078.length co9) t1078)∧Aside0 (Kd.R (Kd.int .i64) 3 wc w.heap.size (fun _=>True) v1088 t1086)∧Aside0 (IsS94 w wc gb1076 l0 x1077001_4 x1077002_4)∧Aside0 (Below w.heap.size w wc))
 case first=>
  have H:=HC5.out
  clear HC5
  by_cases c11:t1087=true
  ·subst c11
   have H1:((spec_l1Cur_one.f l0 t1084 t1085 8).bind fun bt1090=>(spec_DrawTreeCost.j0 k t1077 t1078 t1086 bt1090.1 l0 bt1090.2.1 bt1090.2.2))=some (r1,r2,r3):=by rw [if_pos rfl] at H;exact H
   clear H
   have H:=H1
   clear H1
   replace H:=Option.bind_eq_some_iff.mp H
   obtain⟨⟨t1090,t1091,t1092⟩,A120,H⟩:=H
   replace H:(spec_DrawTreeCost.j0 k t1077 t1078 t1086 t1090 l0 t1091 t1092)=some (r1,r2,r3):=H
   have A12:=Aside0.mk A120
   clear A120
   have H':=Aside0.mk H
   clear H
   go_wp2_with (first|(go_at_call 91;(with_reducible refine(spec_l1Cur_one.calls gb1076 l0 t1084 t1085 8 t1090 t1091 t1092 w _ ?side1 ?side2 A12.out).mono ?_);(case side1=>exact zk6 HI1076);(case side2=>exact zk2 HB (IsS94.ge HI1076.out));rintro e w13 ⟨rfl,hi,hb,hk⟩;replace HO1080:=Aside0.mk (Kd.R_mono (Kd.R_keep (IsS94.apart (show IsS94 w _ gb1076 l0 t1084 t1085 from by exact zk6 HI1076) (zq4 HO1080) (by decide)) hk (fun _ h=>h.2)) (fun _ h=>h.1));replace HO1089:=Aside0.mk (Kd.R_mono (Kd.R_keep (IsS94.apart (show IsS94 w _ gb1076 l0 t1084 t1085 from by exact zk6 HI1076) (zq4 HO1089) (by decide)) hk (fun _ h=>h.2)) (fun _ h=>h.1));replace HB:=Aside0.mk (hb);replace HI1076:=Aside0.mk (hi);(try clear hb);(try clear hb2);(try clear hk);(try clear hi)))
   go_meet
   case rel=>exact⟨_,(t1090),(t1091),(t1092),zrs,H',⟨by first|omega|exact Nat.le_refl _⟩,⟨zdr HO1080⟩,⟨zdr HO1089⟩,⟨by exact zk6 HI1076⟩,⟨by exact zk2 HB (IsS94.ge HI1076.out)⟩⟩
  ·replace c11:=Bool.eq_false_iff.mpr c11
   subst c11
   have H1:(spec_DrawTreeCost.j0 k t1077 t1078 t1086 false l0 t1084 t1085)=some (r1,r2,r3):=by rw [if_neg (show ¬ (false=true) by decide)] at H;exact H
   clear H
   have H:=H1
   clear H1
   have H':=Aside0.mk H
   clear H
   go_wp2
   go_meet
   case rel=>exact⟨_,(false),(t1084),(t1085),zrs,H',⟨by first|omega|exact Nat.le_refl _⟩,⟨zdr HO1080⟩,⟨zdr HO1089⟩,⟨by exact zk6 HI1076⟩,⟨by exact zk2 HB (IsS94.ge HI1076.out)⟩⟩
 case rest=>
  clear HC5
  try clear c1
  try clear p2
  try clear c3
  try clear c5
  try clear c8
  try clear c9
  try clear c11
  obtain⟨kq,x31_4,x1077001_4,x1077002_4,rfl,HA,HJ4,HO_7,HO_8,HI1076,HB⟩:=hcut
  cases kq with
  |zero=>exact absurd HA.out (by simp [spec_DrawTreeCost.j0])
  |succ kj4=>
   have H:=HA.out
   clear HA
   simp only [spec_DrawTreeCost.j0] at H
   by_cases c14:x31_4=true
   ·subst c14
    have H1:((spec_l1Cur_pick.f l0 x1077001_4 x1077002_4 (t1086.length:Int)).bind fun bt1093=>((spec_l1Cur_pick.f l0 bt1093.2.1 bt1093.2.2 9).bind fun bt1096=>(if 0≤bt1093.1 then(if bt1093.1< (t1086.length:Int) then(some (t1077,t1078,(t1086.set (bt1093.1:Int).toNat (wrap64 (bt1096.1 - 2))))) else(none)) else(none))))=some (r1,r2,r3):=by rw [if_pos rfl] at H;exact H
    clear H
    have H:=H1
    clear H1
    replace H:=Option.bind_eq_some_iff.mp H
    obtain⟨⟨t1093,t1094,t1095⟩,A150,H⟩:=H
    replace H:((spec_l1Cur_pick.f l0 t1094 t1095 9).bind fun bt1096=>(if 0≤t1093 then(if t1093< (t1086.length:Int) then(some (t1077,t1078,(t1086.set (t1093:Int).toNat (wrap64 (bt1096.1 - 2))))) else(none)) else(none)))=some (r1,r2,r3):=H
    have A15:=Aside0.mk A150
    clear A150
    replace H:=Option.bind_eq_some_iff.mp H
    obtain⟨⟨t1096,t1097,t1098⟩,A160,H⟩:=H
    replace H:(if 0≤t1093 then(if t1093< (t1086.length:Int) then(some (t1077,t1078,(t1086.set (t1093:Int).toNat (wrap64 (t1096 - 2))))) else(none)) else(none))=some (r1,r2,r3):=H
    have A16:=Aside0.mk A160
    clear A160
    by_cases c17: 0≤t1093
    case neg=>exact znn c17 H
    rw [if_pos c17] at H
    have c17b0:decide (0≤t1093)=true:=decide_eq_true c17
    clear c17
    by_cases c18:t1093< (t1086.length:Int)
    case neg=>exact znn c18 H
    rw [if_pos c18] at H
    have c18b0:decide (t1093< (t1086.length:Int))=true:=decide_eq_true c18
    clear c18
    obtain⟨y1099,hy1099⟩ :∃ y_:List Int,y_= (t1086.set (t1093:Int).toNat (wrap64 (t1096 - 2))):=⟨_,rfl⟩
    replace H:(some (t1077,t1078,y1099))=some (r1,r2,r3):=zfh hy1099 H
    have Ny1099:=Aside0.mk hy1099
    clear hy1099
    simp only [Option.some.injEq,Prod.mk.injEq] at H
    obtain⟨rfl,rfl,rfl⟩:=H
    obtain⟨Ao20,co20,eo20⟩:=Kd.R_slice HO_8.out
    subst eo20
    go_wp2_with (first|((with_reducible refine gate_callee (f:=87) rfl ?_);refine goesL_ (some 36) rfl rfl Try.func87 (by kernel_rfl) rfl #[.pointer (some ⟨gb1076,0,none⟩),.int .i64 (t1086.length:Int)] rfl zq2 ?_;(with_reducible refine(spec_l1Cur_pick.calls gb1076 l0 x1077001_4 x1077002_4 (t1086.length:Int) t1093 t1094 t1095 w _ ?side1 ?side2 A15.out).mono ?_);(case side1=>exact zk6 HI1076);(case side2=>exact zk2 HB (IsS94.ge HI1076.out));rintro e w21 ⟨rfl,hi,hb,hk⟩;refine⟨_,rfl,?_⟩;replace HO_7:=Aside0.mk (Kd.R_mono (Kd.R_keep (IsS94.apart (show IsS94 w _ gb1076 l0 x1077001_4 x1077002_4 from by exact zk6 HI1076) (zq4 HO_7) (by decide)) hk (fun _ h=>h.2)) (fun _ h=>h.1));replace HO_8:=Aside0.mk (Kd.R_mono (Kd.R_keep (IsS94.apart (show IsS94 w _ gb1076 l0 x1077001_4 x1077002_4 from by exact zk6 HI1076) (zq4 HO_8) (by decide)) hk (fun _ h=>h.2)) (fun _ h=>h.1));replace HB:=Aside0.mk (hb);replace HI1076:=Aside0.mk (hi);(try clear hb);(try clear hb2);(try clear hk);(try clear hi))|((with_reducible refine gate_callee (f:=87) rfl ?_);refine goesL_ (some 38) rfl rfl Try.func87 (by kernel_rfl) rfl #[.pointer (some ⟨gb1076,0,none⟩),.int .i64 9] rfl zq2 ?_;(with_reducible refine(spec_l1Cur_pick.calls gb1076 l0 t1094 t1095 9 t1096 t1097 t1098 w _ ?side1 ?side2 A16.out).mono ?_);(case side1=>exact zk6 HI1076);(case side2=>exact zk2 HB (IsS94.ge HI1076.out));rintro e w22 ⟨rfl,hi,hb,hk⟩;refine⟨_,rfl,?_⟩;replace HO_7:=Aside0.mk (Kd.R_mono (Kd.R_keep (IsS94.apart (show IsS94 w _ gb1076 l0 t1094 t1095 from by exact zk6 HI1076) (zq4 HO_7) (by decide)) hk (fun _ h=>h.2)) (fun _ h=>h.1));replace HO_8:=Aside0.mk (Kd.R_mono (Kd.R_keep (IsS94.apart (show IsS94 w _ gb1076 l0 t1094 t1095 from by exact zk6 HI1076) (zq4 HO_8) (by decide)) hk (fun _ h=>h.2)) (fun _ h=>h.1));replace HB:=Aside0.mk (hb);replace HI1076:=Aside0.mk (hi);(try clear hb);(try clear hb2);(try clear hk);(try clear hi);have p19: 0≤ (t1093:Int):=of_decide_eq_true zq1;have q19:(t1093:Int)< ((t1086.length:Int):Int):=of_decide_eq_true zq1;obtain⟨go19,co19,eo19,gb19,gl19,cl19,HG19⟩:=Kd.R_form HO_8.out (by omega);(first|cases eo19|(injection eo19 with ea_ en_ ec_;(first|subst ea_|(injection ea_ with ea_;subst ea_));subst ec_;clear en_));have GB19:=Aside0.mk gb19;have GG19:=Aside0.mk HG19;clear gb19 gl19 HG19;obtain⟨hx19_0,hf19_0⟩:=Kd.R_celln 0 HO_8.out (t1093:Int) p19 q19;replace p19:=eq_true p19;replace q19:=eq_true q19;obtain⟨hy23_,hz23_⟩:=Kd.R_celln 0 HO_8.out (t1093:Int) (of_decide_eq_true zq1) (of_decide_eq_true zq1);have HP23:=Kd.R_putg HO_8.out (t1093:Int) (wrap64 (t1096 - 2)))|((with_reducible refine gate_store (t:=3) (p:=40) rfl ?_);refine store_event (t:=3) (p:=40) (v:=?vo_w24) (w1:=(w22.setCell ⟨go19,(t1093:Int).toNat,none⟩ (.int .i64 (wrap64 (t1096 - 2))))) ?hg ?ho ?hn ?hr ?_;(case ho=>rfl);(case hg=>rfl);(case hn=>rfl);(case hr=>first|(go_simp;done)|(go_simp;rfl));intro w24 hw;have hg:w22.grownBy w24 (some go19):=(by rw [hw];exact HP23.2);have hp_:Kd.R (Kd.int .i64) 3 w24 w.heap.size (fun _=>True) (.slice (some ⟨go19,0,none⟩) t1086.length co20) y1099:=(by rw [hw,Ny1099.out];exact HP23.1);clear HP23;replace HO_7:=Aside0.mk (Kd.R_over' (v:=(.slice (some ⟨go19,0,none⟩) t1086.length co20)) (zq4 HO_7) (Kd.R_typed HO_8.out) (by decide) hg);replace HI1076:=Aside0.mk (IsS94.grown (by exact zk6 HI1076) hg (IsS94.own_ne HI1076.out HO_8.out (by decide)));replace HO_8:=Aside0.mk (hp_);replace HB:=Aside0.mk ((by rw [hw];exact below_set (HB.out) GB19.out:Below w.heap.size w w24));clear hg hw hp_))
    go_ret3
    exact⟨_,_,zer,zdr HO_7,zdr HO_8,by exact zk2 HB (IsS94.ge HI1076.out)⟩
   ·replace c14:=Bool.eq_false_iff.mpr c14
    subst c14
    have H1:(some (t1077,t1078,t1086))=some (r1,r2,r3):=by rw [if_neg (show ¬ (false=true) by decide)] at H;exact H
    clear H
    have H:=H1
    clear H1
    simp only [Option.some.injEq,Prod.mk.injEq] at H
    obtain⟨rfl,rfl,rfl⟩:=H
    go_wp2
    go_ret3
    exact⟨_,_,zer,zdr HO_7,zdr HO_8,by exact zk2 HB (IsS94.ge HI1076.out)⟩
def laws_sameRows.l0:Nat→List (List Int)→List (List Int)→Int→Int→Option (Bool)
 | 0,_,_,_,_=>none
 |k+1,x0,x1,x12,x13=>if x13<x12 then(if 0≤x13 then(if x13< (x0.length:Int) then(if x13< (x1.length:Int) then((laws_sameInts.f k (rd_L6 x0 x13) (rd_L6 x1 x13)).bind fun t1102=>(if t1102=true then(laws_sameRows.l0 k x0 x1 x12 (wrap64 (x13+1))) else(some false))) else(none)) else(none)) else(none)) else(some true)
def laws_sameRows.f (k:Nat) (l0:List (List Int)) (l1:List (List Int)):Option (Bool):=if (l0.length:Int)= (l1.length:Int) then(laws_sameRows.l0 k l0 l1 (l0.length:Int) 0) else(some false)
set_option maxHeartbeats 8000000 in
set_option maxRecDepth 100000 in
theorem laws_sameRows.calls (k:Nat) (A0:Option Addr) (c0:Nat) (l0:List (List Int)) (A1:Option Addr) (c1:Nat) (l1:List (List Int)) (r:Bool) (w:World) (hr0:Kd.C (Kd.slice 3 (Kd.int .i64)) w A0 l0.length l0) (hc0:l0.length≤c0) (hr1:Kd.C (Kd.slice 3 (Kd.int .i64)) w A1 l1.length l1) (hc1:l1.length≤c1) (h:laws_sameRows.f k l0 l1=some r):
  Calls Try.prog 58 #[.slice A0 l0.length c0,.slice A1 l1.length c1] w fun e w'=>e= .returned (.bool r)∧Drawn0 w w':=by
 have HR0:=Aside0.mk hr0
 have HC0:=Aside0.mk hc0
 clear hr0 hc0
 have HR1:=Aside0.mk hr1
 have HC1:=Aside0.mk hc1
 clear hr1 hc1
 have H:(if (l0.length:Int)= (l1.length:Int) then(laws_sameRows.l0 k l0 l1 (l0.length:Int) 0) else(some false))=some r:=h
 clear h
 by_cases c3:(l0.length:Int)= (l1.length:Int)
 ·rw [if_pos c3] at H
  have c3b0:((l0.length:Int)== (l1.length:Int))=true:=beq_iff_eq.mpr c3
  have c3b1:((l0.length:Int) != (l1.length:Int))=false:=bne_eq_false_iff_eq.mpr c3
  have c3b2:(l0.length==l1.length)=true:=by first|simpa using c3|(simp at c3 ⊢;omega)
  clear c3
  have H':=Aside0.mk H
  clear H
  go_enter Try.func58,Try.ntmps58
  go_wp2
  repeat(go_quiet (fail);try go_wp2)
  go_loopg [13] k (fun kq v13 w'=> ∃ (x13_1:Int),v13= .int .i64 x13_1∧Aside0 (laws_sameRows.l0 kq l0 l1 (l0.length:Int) x13_1=some r)∧Aside0 (kq≤k)∧Drawn0 w w')
  case atStart=>exact⟨(0),zrs,H',⟨Nat.le_refl _⟩,by repeat(first|exact Drawn0.refl _|apply Drawn0.step)⟩
  case round=>
   clear H'
   try clear c1
   try clear p2
   try clear c3
   try clear c3b0
   try clear c3b1
   try clear c3b2
   obtain⟨x13_1,rfl,HA,HK1,⟨m1,rfl⟩⟩:=hrel
   cases gk with
   |zero=>exact absurd HA.out (by simp [laws_sameRows.l0])
   |succ k1=>
    have H:=HA.out
    clear HA
    simp only [laws_sameRows.l0] at H
    by_cases c4:x13_1< (l0.length:Int)
    ·rw [if_pos c4] at H
     have c4b0:decide (x13_1< (l0.length:Int))=true:=decide_eq_true c4
     clear c4
     by_cases c5: 0≤x13_1
     case neg=>exact znn c5 H
     rw [if_pos c5] at H
     have c5b0:decide (0≤x13_1)=true:=decide_eq_true c5
     clear c5
     by_cases c6:x13_1< (l0.length:Int)
     case neg=>exact znn c6 H
     rw [if_pos c6] at H
     have c6b0:decide (x13_1< (l0.length:Int))=true:=decide_eq_true c6
     clear c6
     by_cases c7:x13_1< (l1.length:Int)
     case neg=>exact znn c7 H
     rw [if_pos c7] at H
     have c7b0:decide (x13_1< (l1.length:Int))=true:=decide_eq_true c7
     clear c7
     replace H:=Option.bind_eq_some_iff.mp H
     obtain⟨t1102,A80,H⟩:=H
     replace H:(if t1102=true then(laws_sameRows.l0 k1 l0 l1 (l0.length:Int) (wrap64 (x13_1+1))) else(some false))=some r:=H
     have A8:=Aside0.mk A80
     clear A80
     by_cases c9:t1102=true
     ·subst c9
      have H1:(laws_sameRows.l0 k1 l0 l1 (l0.length:Int) (wrap64 (x13_1+1)))=some r:=by rw [if_pos rfl] at H;exact H
      clear H
      have H:=H1
      clear H1
      have H':=Aside0.mk H
      clear H
      have p1100: 0≤ (x13_1:Int):=of_decide_eq_true zq1
      have q1100:x13_1< (l0.length:Int):=of_decide_eq_true zq1
      obtain⟨ad1100,A1100_0,c1100_0,e1100,hx1100_0,hl1100_0,hi1100_0⟩:=at_L6 HR0.out x13_1 p1100 q1100
      cases e1100
      have HR1100_0:=Aside0.mk hi1100_0
      have HC1100_0:=Aside0.mk hl1100_0
      clear hi1100_0 hl1100_0
      replace p1100:=eq_true p1100
      replace q1100:=eq_true q1100
      have p1101: 0≤ (x13_1:Int):=of_decide_eq_true zq1
      have q1101:x13_1< (l1.length:Int):=of_decide_eq_true zq1
      obtain⟨ad1101,A1101_0,c1101_0,e1101,hx1101_0,hl1101_0,hi1101_0⟩:=at_L6 HR1.out x13_1 p1101 q1101
      cases e1101
      have HR1101_0:=Aside0.mk hi1101_0
      have HC1101_0:=Aside0.mk hl1101_0
      clear hi1101_0 hl1101_0
      replace p1101:=eq_true p1101
      replace q1101:=eq_true q1101
      go_wp2_with (first|(go_at_call 45;(with_reducible refine(laws_sameInts.calls k1 _ _ (rd_L6 l0 x13_1) _ _ (rd_L6 l1 x13_1) true _ ?side1 ?side2 ?side3 ?side4 A8.out).mono ?_);(case side1=>exact zcc (HR1100_0.out));(case side2=>exact HC1100_0.out);(case side3=>exact zcc (HR1101_0.out));(case side4=>exact HC1101_0.out);rintro e w' ⟨rfl,⟨nd,rfl⟩⟩;(try first|exact⟨rfl,_,World.drewN_drewN _ _ _⟩|exact⟨rfl,_,Eq.trans (World.drewN_drewN _ _ _) (congrArg (World.drewN _) (Nat.add_assoc _ _ _))⟩)))
      repeat(go_quiet (first|(go_at_call 45;(with_reducible refine(laws_sameInts.calls k1 _ _ (rd_L6 l0 x13_1) _ _ (rd_L6 l1 x13_1) true _ ?side1 ?side2 ?side3 ?side4 A8.out).mono ?_);(case side1=>exact zcc (HR1100_0.out));(case side2=>exact HC1100_0.out);(case side3=>exact zcc (HR1101_0.out));(case side4=>exact HC1101_0.out);rintro e w' ⟨rfl,⟨nd,rfl⟩⟩;(try first|exact⟨rfl,_,World.drewN_drewN _ _ _⟩|exact⟨rfl,_,Eq.trans (World.drewN_drewN _ _ _) (congrArg (World.drewN _) (Nat.add_assoc _ _ _))⟩)));try go_wp2_with (first|(go_at_call 45;(with_reducible refine(laws_sameInts.calls k1 _ _ (rd_L6 l0 x13_1) _ _ (rd_L6 l1 x13_1) true _ ?side1 ?side2 ?side3 ?side4 A8.out).mono ?_);(case side1=>exact zcc (HR1100_0.out));(case side2=>exact HC1100_0.out);(case side3=>exact zcc (HR1101_0.out));(case side4=>exact HC1101_0.out);rintro e w' ⟨rfl,⟨nd,rfl⟩⟩;(try first|exact⟨rfl,_,World.drewN_drewN _ _ _⟩|exact⟨rfl,_,Eq.trans (World.drewN_drewN _ _ _) (congrArg (World.drewN _) (Nat.add_assoc _ _ _))⟩))))
      go_roundg k1
      case measure=>have:=HK1.out;omega
      case rel=>exact⟨(wrap64 (x13_1+1)),zrs,H',⟨by have:=HK1.out;omega⟩,by repeat(first|exact Drawn0.refl _|apply Drawn0.step)⟩
     ·replace c9:=Bool.eq_false_iff.mpr c9
      subst c9
      have H1:(some false)=some r:=by rw [if_neg (show ¬ (false=true) by decide)] at H;exact H
      clear H
      have H:=H1
      clear H1
      obtain rfl:=Option.some.inj H
      have p1100: 0≤ (x13_1:Int):=of_decide_eq_true zq1
      have q1100:x13_1< (l0.length:Int):=of_decide_eq_true zq1
      obtain⟨ad1100,A1100_0,c1100_0,e1100,hx1100_0,hl1100_0,hi1100_0⟩:=at_L6 HR0.out x13_1 p1100 q1100
      cases e1100
      have HR1100_0:=Aside0.mk hi1100_0
      have HC1100_0:=Aside0.mk hl1100_0
      clear hi1100_0 hl1100_0
      replace p1100:=eq_true p1100
      replace q1100:=eq_true q1100
      have p1101: 0≤ (x13_1:Int):=of_decide_eq_true zq1
      have q1101:x13_1< (l1.length:Int):=of_decide_eq_true zq1
      obtain⟨ad1101,A1101_0,c1101_0,e1101,hx1101_0,hl1101_0,hi1101_0⟩:=at_L6 HR1.out x13_1 p1101 q1101
      cases e1101
      have HR1101_0:=Aside0.mk hi1101_0
      have HC1101_0:=Aside0.mk hl1101_0
      clear hi1101_0 hl1101_0
      replace p1101:=eq_true p1101
      replace q1101:=eq_true q1101
      go_wp2_with (first|(go_at_call 45;(with_reducible refine(laws_sameInts.calls k1 _ _ (rd_L6 l0 x13_1) _ _ (rd_L6 l1 x13_1) false _ ?side1 ?side2 ?side3 ?side4 A8.out).mono ?_);(case side1=>exact zcc (HR1100_0.out));(case side2=>exact HC1100_0.out);(case side3=>exact zcc (HR1101_0.out));(case side4=>exact HC1101_0.out);rintro e w' ⟨rfl,⟨nd,rfl⟩⟩;(try first|exact⟨rfl,_,World.drewN_drewN _ _ _⟩|exact⟨rfl,_,Eq.trans (World.drewN_drewN _ _ _) (congrArg (World.drewN _) (Nat.add_assoc _ _ _))⟩)))
      repeat(go_quiet (first|(go_at_call 45;(with_reducible refine(laws_sameInts.calls k1 _ _ (rd_L6 l0 x13_1) _ _ (rd_L6 l1 x13_1) false _ ?side1 ?side2 ?side3 ?side4 A8.out).mono ?_);(case side1=>exact zcc (HR1100_0.out));(case side2=>exact HC1100_0.out);(case side3=>exact zcc (HR1101_0.out));(case side4=>exact HC1101_0.out);rintro e w' ⟨rfl,⟨nd,rfl⟩⟩;(try first|exact⟨rfl,_,World.drewN_drewN _ _ _⟩|exact⟨rfl,_,Eq.trans (World.drewN_drewN _ _ _) (congrArg (World.drewN _) (Nat.add_assoc _ _ _))⟩)));try go_wp2_with (first|(go_at_call 45;(with_reducible refine(laws_sameInts.calls k1 _ _ (rd_L6 l0 x13_1) _ _ (rd_L6 l1 x13_1) false _ ?side1 ?side2 ?side3 ?side4 A8.out).mono ?_);(case side1=>exact zcc (HR1100_0.out));(case side2=>exact HC1100_0.out);(case side3=>exact zcc (HR1101_0.out));(case side4=>exact HC1101_0.out);rintro e w' ⟨rfl,⟨nd,rfl⟩⟩;(try first|exact⟨rfl,_,World.drewN_drewN _ _ _⟩|exact⟨rfl,_,Eq.trans (World.drewN_drewN _ _ _) (congrArg (World.drewN _) (Nat.add_assoc _ _ _))⟩))))
      go_ret
      exact⟨by first|rfl|(simp;done)|(simp [*];done),by repeat(first|exact Drawn0.refl _|apply Drawn0.step)⟩
    ·rw [if_neg c4] at H
     have c4b0:decide (x13_1< (l0.length:Int))=false:=decide_eq_false c4
     clear c4
     obtain rfl:=Option.some.inj H
     go_wp2
     repeat(go_quiet (fail);try go_wp2)
     go_ret
     exact⟨by first|rfl|(simp;done)|(simp [*];done),by repeat(first|exact Drawn0.refl _|apply Drawn0.step)⟩
 ·rw [if_neg c3] at H
  have c3b0:((l0.length:Int)== (l1.length:Int))=false:=beq_eq_false_iff_ne.mpr c3
  have c3b1:((l0.length:Int) != (l1.length:Int))=true:=bne_iff_ne.mpr c3
  have c3b2:(l0.length==l1.length)=false:=by first|simpa using c3|(simp at c3 ⊢;omega)
  obtain rfl:=Option.some.inj H
  go_enter Try.func58,Try.ntmps58
  go_wp2
  repeat(go_quiet (fail);try go_wp2)
  go_ret
  exact⟨by first|rfl|(simp;done)|(simp [*];done),by repeat(first|exact Drawn0.refl _|apply Drawn0.step)⟩
mutual
def laws_FnLeastTree.j0:Nat→List Int→Int→List (S79)→List (S79)→Int→Bool→Bool→Option (Bool)
 | 0,_,_,_,_,_,_,_=>none
 |k+1,x1,x5,x6,x7,x8,x9,x73=>if x73=true then(some false) else(if x9=true then((impl_IsOneGroup.f k x5 x6).bind fun bt1118=>(if bt1118.2=true then(if bt1118.1=true then((impl_TreesFor.f k x5 x6 x5).bind fun bt1120=>(if bt1120.2=true then(laws_FnLeastTree.j1 k x1 x5 x6 x8 bt1120.1 ((x7.length:Int) != (wrap64 (x5 - 1)))) else(laws_FnLeastTree.j1 k x1 x5 x6 x8 bt1120.1 true))) else(laws_FnLeastTree.j3 k x1)) else(some false))) else(laws_FnLeastTree.j3 k x1))
def laws_FnLeastTree.j3:Nat→List Int→Option (Bool)
 | 0,_=>none
 |k+1,x1=>(spec_DrawTreesFor.f k x1).bind fun bt1127=>((impl_TreesFor.f k bt1127.1 bt1127.2.1 bt1127.2.2).bind fun bt1132=>((spec_TreesFor.f k bt1127.1 bt1127.2.1 bt1127.2.2).bind fun bt1136=>((spec_DrawTreeCost.f k x1).bind fun bt1140=>((impl_TreeCost.f k bt1140.1 bt1140.2.1 bt1140.2.2).bind fun bt1147=>((spec_TreeCost.f k bt1140.1 bt1140.2.1 bt1140.2.2).bind fun bt1149=>(if (bt1132.2==bt1136.2)=true then((laws_sameRows.f k bt1132.1 bt1136.1).bind fun t1151=>(if t1151=true then(if (bt1147.2==bt1149.2)=true then(some (bt1147.1==bt1149.1)) else(some false)) else(some false))) else(some false)))))))
def laws_FnLeastTree.j1:Nat→List Int→Int→List (S79)→Int→List (List Int)→Bool→Option (Bool)
 | 0,_,_,_,_,_,_=>none
 |k+1,x1,x5,x6,x8,x15,x99=>if x99=true then(some false) else(laws_FnLeastTree.l0 k x1 x5 x6 x8 x15 (x15.length:Int) 0)
def laws_FnLeastTree.l0:Nat→List Int→Int→List (S79)→Int→List (List Int)→Int→Int→Option (Bool)
 | 0,_,_,_,_,_,_,_=>none
 |k+1,x1,x5,x6,x8,x100,x101,x102=>if x102<x101 then(if 0≤x102 then(if x102< (x100.length:Int) then((impl_TreeCost.f k x5 x6 (rd_L6 x100 x102)).bind fun bt1125=>(if bt1125.2=true then(if bt1125.1<x8 then(some false) else(laws_FnLeastTree.l0 k x1 x5 x6 x8 x100 x101 (wrap64 (x102+1)))) else(some false))) else(none)) else(none)) else(laws_FnLeastTree.j3 k x1)
end
def laws_FnLeastTree.f (k:Nat) (l0:List Int) (l1:List Int):Option (Bool):=if (wrap64 ((l0.length:Int)+ (l1.length:Int))) > 1048576 then(some true) else((spec_DrawLeastTree.f k l0).bind fun bt1103=>((impl_LeastTree.f k bt1103.1 bt1103.2).bind fun bt1107=>((spec_LeastTree.f k bt1103.1 bt1103.2).bind fun bt1112=>(if (bt1107.2.2 !=bt1112.2.2)=true then(laws_FnLeastTree.j0 k l1 bt1103.1 bt1103.2 bt1107.1 bt1107.2.1 bt1107.2.2 true) else(if bt1107.2.1=bt1112.2.1 then((laws_sameEdges.f k bt1107.1 bt1112.1).bind fun t1117=>(laws_FnLeastTree.j0 k l1 bt1103.1 bt1103.2 bt1107.1 bt1107.2.1 bt1107.2.2 (!t1117))) else(laws_FnLeastTree.j0 k l1 bt1103.1 bt1103.2 bt1107.1 bt1107.2.1 bt1107.2.2 true))))))
set_option maxHeartbeats 8000000 in
set_option maxRecDepth 100000 in
theorem laws_FnLeastTree.calls (k:Nat) (A0:Option Addr) (c0:Nat) (l0:List Int) (A1:Option Addr) (c1:Nat) (l1:List Int) (r:Bool) (w:World) (hr0:Kd.C (Kd.int .u8) w A0 l0.length l0) (hc0:l0.length≤c0) (hr1:Kd.C (Kd.int .u8) w A1 l1.length l1) (hc1:l1.length≤c1) (h:laws_FnLeastTree.f k l0 l1=some r) (hrt:r=true:=by rfl):
  Calls Try.prog 12 #[.slice A0 l0.length c0,.slice A1 l1.length c1] w fun e w'=>e= .returned (.bool r)∧Below w.heap.size w w':=by
 have HRT:=Aside0.mk hrt
 clear hrt
 have HR0:=Aside0.mk hr0
 have HC0:=Aside0.mk hc0
 clear hr0 hc0
 have HR1:=Aside0.mk hr1
 have HC1:=Aside0.mk hc1
 clear hr1 hc1
 have HB:=Aside0.mk (Below.refl w.heap.size w)
 have H:(if (wrap64 ((l0.length:Int)+ (l1.length:Int))) > 1048576 then(some true) else((spec_DrawLeastTree.f k l0).bind fun bt1103=>((impl_LeastTree.f k bt1103.1 bt1103.2).bind fun bt1107=>((spec_LeastTree.f k bt1103.1 bt1103.2).bind fun bt1112=>(if (bt1107.2.2 !=bt1112.2.2)=true then(laws_FnLeastTree.j0 k l1 bt1103.1 bt1103.2 bt1107.1 bt1107.2.1 bt1107.2.2 true) else(if bt1107.2.1=bt1112.2.1 then((laws_sameEdges.f k bt1107.1 bt1112.1).bind fun t1117=>(laws_FnLeastTree.j0 k l1 bt1103.1 bt1103.2 bt1107.1 bt1107.2.1 bt1107.2.2 (!t1117))) else(laws_FnLeastTree.j0 k l1 bt1103.1 bt1103.2 bt1107.1 bt1107.2.1 bt1107.2.2 true)))))))=some r:=h
 clear h
 by_cases c3:(wrap64 ((l0.length:Int)+ (l1.length:Int))) > 1048576
 ·rw [if_pos c3] at H
  have c3b0:decide (1048576< (wrap64 ((l0.length:Int)+ (l1.length:Int))))=true:=decide_eq_true c3
  clear c3
  as_aux_lemma=>
   obtain rfl:=Option.some.inj H
   go_enter Try.func12,Try.ntmps12
   go_wp2
   go_ret
   exact⟨zer,by exact zk1 HB⟩
 ·rw [if_neg c3] at H
  have c3b0:decide (1048576< (wrap64 ((l0.length:Int)+ (l1.length:Int))))=false:=decide_eq_false c3
  clear c3
  replace H:=Option.bind_eq_some_iff.mp H
  obtain⟨⟨t1103,t1104⟩,A40,H⟩:=H
  replace H:((impl_LeastTree.f k t1103 t1104).bind fun bt1107=>((spec_LeastTree.f k t1103 t1104).bind fun bt1112=>(if (bt1107.2.2 !=bt1112.2.2)=true then(laws_FnLeastTree.j0 k l1 t1103 t1104 bt1107.1 bt1107.2.1 bt1107.2.2 true) else(if bt1107.2.1=bt1112.2.1 then((laws_sameEdges.f k bt1107.1 bt1112.1).bind fun t1117=>(laws_FnLeastTree.j0 k l1 t1103 t1104 bt1107.1 bt1107.2.1 bt1107.2.2 (!t1117))) else(laws_FnLeastTree.j0 k l1 t1103 t1104 bt1107.1 bt1107.2.1 bt1107.2.2 true)))))=some r:=H
  have A4:=Aside0.mk A40
  clear A40
  replace H:=Option.bind_eq_some_iff.mp H
  obtain⟨⟨t1107,t1108,t1109⟩,A50,H⟩:=H
  replace H:((spec_LeastTree.f k t1103 t1104).bind fun bt1112=>(if (t1109 !=bt1112.2.2)=true then(laws_FnLeastTree.j0 k l1 t1103 t1104 t1107 t1108 t1109 true) else(if t1108=bt1112.2.1 then((laws_sameEdges.f k t1107 bt1112.1).bind fun t1117=>(laws_FnLeastTree.j0 k l1 t1103 t1104 t1107 t1108 t1109 (!t1117))) else(laws_FnLeastTree.j0 k l1 t1103 t1104 t1107 t1108 t1109 true))))=some r:=H
  have A5:=Aside0.mk A50
  clear A50
  replace H:=Option.bind_eq_some_iff.mp H
  obtain⟨⟨t1112,t1113,t1114⟩,A60,H⟩:=H
  replace H:(if (t1109 !=t1114)=true then(laws_FnLeastTree.j0 k l1 t1103 t1104 t1107 t1108 t1109 true) else(if t1108=t1113 then((laws_sameEdges.f k t1107 t1112).bind fun t1117=>(laws_FnLeastTree.j0 k l1 t1103 t1104 t1107 t1108 t1109 (!t1117))) else(laws_FnLeastTree.j0 k l1 t1103 t1104 t1107 t1108 t1109 true)))=some r:=H
  have A6:=Aside0.mk A60
  clear A60
  have HC7:=Aside0.mk H
  clear H
  go_enter Try.func12,Try.ntmps12
  go_upto_region 6 with (first|((with_reducible refine gate_callee (f:=53) rfl ?_);refine goesL_ (some 43) rfl rfl Try.func53 (by kernel_rfl) rfl #[.slice A0 l0.length c0] rfl zq2 ?_;(with_reducible refine(spec_DrawLeastTree.calls k _ _ l0 t1103 t1104 _ ?side1 ?side2 A4.out).mono ?_);(case side1=>exact zcc (HR0.out));(case side2=>exact HC0.out);rintro e w8 ⟨v1105,rfl,ho0,hb⟩;refine⟨_,rfl,?_⟩;have HO1106:=Aside0.mk (Kd.R_lower ho0 (below_size (by exact zk1 HB)));replace HB:=Aside0.mk (below_step (by exact zk1 HB) hb);(try clear hb);(try clear hb2);(try clear hk);(try clear hi);(try clear ho0);obtain⟨Ao9,co9,eo9⟩:=Kd.R_slice HO1106.out;subst eo9)|((with_reducible refine gate_callee (f:=42) rfl ?_);refine goesL_ (some 49) rfl rfl Try.func42 (by kernel_rfl) rfl #[.int .i64 t1103,.slice Ao9 t1104.length co9] rfl zq2 ?_;(with_reducible refine(impl_LeastTree.calls k t1103 _ _ t1104 t1107 t1108 t1109 _ ?side1 ?side2 A5.out).mono ?_);(case side1=>exact zcc ((Kd.R_reads' HO1106.out).2.2));(case side2=>exact(Kd.R_reads' HO1106.out).2.1);rintro e w10 ⟨v1110,rfl,ho0,hb⟩;refine⟨_,rfl,?_⟩;have HO1111:=Aside0.mk (Kd.R_lower (Kd.R_new' ho0 (Kd.R_lt (zq4 HO1106))) (below_size (by exact zk1 HB)));replace HO1106:=Aside0.mk (Kd.R_elder' (zq4 HO1106) (Kd.R_base ho0) hb);replace HB:=Aside0.mk (below_step (by exact zk1 HB) hb);(try clear hb);(try clear hb2);(try clear hk);(try clear hi);(try clear ho0))|((with_reducible refine gate_callee (f:=41) rfl ?_);refine goesL_ (some 56) rfl rfl Try.func41 (by kernel_rfl) rfl #[.int .i64 t1103,.slice Ao9 t1104.length co9] rfl zq2 ?_;(with_reducible refine(spec_LeastTree.calls k t1103 _ _ t1104 t1112 t1113 t1114 _ ?side1 ?side2 A6.out).mono ?_);(case side1=>exact zcc ((Kd.R_reads' HO1106.out).2.2));(case side2=>exact(Kd.R_reads' HO1106.out).2.1);rintro e w11 ⟨v1115,rfl,ho0,hb⟩;refine⟨_,rfl,?_⟩;have HO1116:=Aside0.mk (Kd.R_lower (Kd.R_new' (Kd.R_new' ho0 (Kd.R_lt (zq4 HO1106))) (Kd.R_lt (zq4 HO1111))) (below_size (by exact zk1 HB)));replace HO1106:=Aside0.mk (Kd.R_elder' (zq4 HO1106) (Kd.R_base ho0) hb);replace HO1111:=Aside0.mk (Kd.R_elder' (zq4 HO1111) (Kd.R_base ho0) hb);replace HB:=Aside0.mk (below_step (by exact zk1 HB) hb);(try clear hb);(try clear hb2);(try clear hk);(try clear hi);(try clear ho0)))
  (try simp only [Act.put,List.setIfInBounds_toArray,List.set_cons_zero,List.set_cons_succ])
  go_cut [73] (fun v73 wc=> ∃ (kq:Nat) (x73_6:Bool),v73= .bool x73_6∧Aside0 (laws_FnLeastTree.j0 kq l1 t1103 t1104 t1107 t1108 t1109 x73_6=some r)∧Aside0 (kq≤k)∧Aside0 (Kd.R k79 79 wc w.heap.size (fun k_=>some k_≠ (v1110:Value).ownBlock) (.slice Ao9 t1104.length co9) t1104)∧Aside0 (Kd.R k79 79 wc w.heap.size (fun k_=>some k_≠ ((.slice Ao9 t1104.length co9):Value).ownBlock) v1110 t1107)∧Aside0 (Below w.heap.size w wc))
  case first=>
   have H:=HC7.out
   clear HC7
   by_cases c12:(t1109 !=t1114)=true
   ·rw [if_pos c12] at H
    have c12b0:(t1109 !=t1114)=true:=c12
    (try(have c12b1:decide (t1109=t1114)=false:=by simpa using c12))
    (try(have c12b2:(t1109==t1114)=false:=by simpa using c12))
    (try(have c12b3:¬ (t1109=t1114):=by simpa using c12))
    clear c12
    (first|rw [c12b0]|(simp only [i64_w,i32_w];rw [c12b0])|skip)
    exact absurd (H.trans (congrArg some HRT.out)) (by cases k<;>simp [laws_FnLeastTree.j0])
   ·rw [if_neg c12] at H
    have c12b0:(t1109 !=t1114)=false:=by simpa using c12
    (try(have c12b1:decide (t1109=t1114)=true:=by simpa using c12))
    (try(have c12b2:(t1109==t1114)=true:=by simpa using c12))
    clear c12
    (first|rw [c12b0]|(simp only [i64_w,i32_w];rw [c12b0])|skip)
    by_cases c13:t1108=t1113
    ·rw [if_pos c13] at H
     have c13b0:(t1108==t1113)=true:=beq_iff_eq.mpr c13
     have c13b1:(t1108 !=t1113)=false:=bne_eq_false_iff_eq.mpr c13
     clear c13
     replace H:=Option.bind_eq_some_iff.mp H
     obtain⟨t1117,A140,H⟩:=H
     replace H:(laws_FnLeastTree.j0 k l1 t1103 t1104 t1107 t1108 t1109 (!t1117))=some r:=H
     have A14:=Aside0.mk A140
     clear A140
     as_aux_lemma=>
      have H':=Aside0.mk H
      clear H
      obtain⟨Ao15,co15,eo15⟩:=Kd.R_slice HO1111.out
      subst eo15
      obtain⟨Ao16,co16,eo16⟩:=Kd.R_slice HO1116.out
      subst eo16
      go_wp2_with (first|(go_at_call 54;(with_reducible refine(laws_sameEdges.calls k _ _ t1107 _ _ t1112 t1117 _ ?side1 ?side2 ?side3 ?side4 A14.out).mono ?_);(case side1=>exact zcc ((Kd.R_reads' HO1111.out).2.2));(case side2=>exact(Kd.R_reads' HO1111.out).2.1);(case side3=>exact zcc ((Kd.R_reads' HO1116.out).2.2));(case side4=>exact(Kd.R_reads' HO1116.out).2.1);rintro e w' ⟨rfl,⟨nd,rfl⟩⟩))
      go_meet
      case rel=>exact⟨_,(!t1117),zrs,H',⟨by first|omega|exact Nat.le_refl _⟩,⟨by(with_reducible repeat(first|apply Kd.R_alloc|apply Kd.R_drewN|apply Kd.R_drew));exact Kd.R_mono HO1106.out (fun _ hk=>hk.1.2)⟩,⟨by(with_reducible repeat(first|apply Kd.R_alloc|apply Kd.R_drewN|apply Kd.R_drew));exact Kd.R_mono HO1111.out (fun _ hk=>hk.1.2)⟩,⟨by exact zk1 HB⟩⟩
    ·rw [if_neg c13] at H
     have c13b0:(t1108==t1113)=false:=beq_eq_false_iff_ne.mpr c13
     have c13b1:(t1108 !=t1113)=true:=bne_iff_ne.mpr c13
     exact absurd (H.trans (congrArg some HRT.out)) (by cases k<;>simp [laws_FnLeastTree.j0])
  case rest=>
   clear HC7
   try clear c1
   try clear p2
   try clear c3
   try clear c3b0
   try clear c4
   try clear c5
   try clear p6
   try clear c12
   try clear c12b0
   try clear c12b1
   try clear c12b2
   try clear c13
   try clear c13b0
   try clear c13b1
   obtain⟨kq,x73_6,rfl,HA,HJ6,HO_6,HO_7,HB⟩:=hcut
   cases kq with
   |zero=>exact absurd HA.out (by simp [laws_FnLeastTree.j0])
   |succ kj6=>
    have H:=HA.out
    clear HA
    simp only [laws_FnLeastTree.j0] at H
    by_cases c17:x73_6=true
    ·subst c17
     have H1:(some false)=some r:=by rw [if_pos rfl] at H;exact H
     clear H
     have H:=H1
     clear H1
     exact absurd ((Option.some.inj H).trans HRT.out) (by decide)
    ·replace c17:=Bool.eq_false_iff.mpr c17
     subst c17
     have H1:(if t1109=true then((impl_IsOneGroup.f kj6 t1103 t1104).bind fun bt1118=>(if bt1118.2=true then(if bt1118.1=true then((impl_TreesFor.f kj6 t1103 t1104 t1103).bind fun bt1120=>(if bt1120.2=true then(laws_FnLeastTree.j1 kj6 l1 t1103 t1104 t1108 bt1120.1 ((t1107.length:Int) != (wrap64 (t1103 - 1)))) else(laws_FnLeastTree.j1 kj6 l1 t1103 t1104 t1108 bt1120.1 true))) else(laws_FnLeastTree.j3 kj6 l1)) else(some false))) else(laws_FnLeastTree.j3 kj6 l1))=some r:=by rw [if_neg (show ¬ (false=true) by decide)] at H;exact H
     clear H
     have H:=H1
     clear H1
     have HC18:=Aside0.mk H
     clear H
     go_upto_if 74 with (fail)
     go_cut [] (fun wc=> ∃ (kq:Nat),Aside0 (laws_FnLeastTree.j3 kq l1=some r)∧Aside0 (kq≤kj6)∧Aside0 (Below w.heap.size w wc))
     case first=>
      have H:=HC18.out
      clear HC18
      by_cases c19:t1109=true
      ·subst c19
       have H1:((impl_IsOneGroup.f kj6 t1103 t1104).bind fun bt1118=>(if bt1118.2=true then(if bt1118.1=true then((impl_TreesFor.f kj6 t1103 t1104 t1103).bind fun bt1120=>(if bt1120.2=true then(laws_FnLeastTree.j1 kj6 l1 t1103 t1104 t1108 bt1120.1 ((t1107.length:Int) != (wrap64 (t1103 - 1)))) else(laws_FnLeastTree.j1 kj6 l1 t1103 t1104 t1108 bt1120.1 true))) else(laws_FnLeastTree.j3 kj6 l1)) else(some false)))=some r:=by rw [if_pos rfl] at H;exact H
       clear H
       have H:=H1
       clear H1
       replace H:=Option.bind_eq_some_iff.mp H
       obtain⟨⟨t1118,t1119⟩,A200,H⟩:=H
       replace H:(if t1119=true then(if t1118=true then((impl_TreesFor.f kj6 t1103 t1104 t1103).bind fun bt1120=>(if bt1120.2=true then(laws_FnLeastTree.j1 kj6 l1 t1103 t1104 t1108 bt1120.1 ((t1107.length:Int) != (wrap64 (t1103 - 1)))) else(laws_FnLeastTree.j1 kj6 l1 t1103 t1104 t1108 bt1120.1 true))) else(laws_FnLeastTree.j3 kj6 l1)) else(some false))=some r:=H
       have A20:=Aside0.mk A200
       clear A200
       by_cases c21:t1119=true
       ·subst c21
        have H1:(if t1118=true then((impl_TreesFor.f kj6 t1103 t1104 t1103).bind fun bt1120=>(if bt1120.2=true then(laws_FnLeastTree.j1 kj6 l1 t1103 t1104 t1108 bt1120.1 ((t1107.length:Int) != (wrap64 (t1103 - 1)))) else(laws_FnLeastTree.j1 kj6 l1 t1103 t1104 t1108 bt1120.1 true))) else(laws_FnLeastTree.j3 kj6 l1))=some r:=by rw [if_pos rfl] at H;exact H
        clear H
        have H:=H1
        clear H1
        by_cases c22:t1118=true
        ·subst c22
         have H1:((impl_TreesFor.f kj6 t1103 t1104 t1103).bind fun bt1120=>(if bt1120.2=true then(laws_FnLeastTree.j1 kj6 l1 t1103 t1104 t1108 bt1120.1 ((t1107.length:Int) != (wrap64 (t1103 - 1)))) else(laws_FnLeastTree.j1 kj6 l1 t1103 t1104 t1108 bt1120.1 true)))=some r:=by rw [if_pos rfl] at H;exact H
         clear H
         have H:=H1
         clear H1
         replace H:=Option.bind_eq_some_iff.mp H
         obtain⟨⟨t1120,t1121⟩,A230,H⟩:=H
         replace H:(if t1121=true then(laws_FnLeastTree.j1 kj6 l1 t1103 t1104 t1108 t1120 ((t1107.length:Int) != (wrap64 (t1103 - 1)))) else(laws_FnLeastTree.j1 kj6 l1 t1103 t1104 t1108 t1120 true))=some r:=H
         have A23:=Aside0.mk A230
         clear A230
         have HC24:=Aside0.mk H
         clear H
         go_upto_region 14 with (first|((with_reducible refine gate_callee (f:=55) rfl ?_);refine goesL_ (some 78) rfl rfl Try.func55 (by kernel_rfl) rfl #[.int .i64 t1103,.slice Ao9 t1104.length co9] rfl zq2 ?_;(with_reducible refine(impl_IsOneGroup.calls kj6 t1103 _ _ t1104 true true _ ?side1 ?side2 A20.out).mono ?_);(case side1=>exact zcc ((Kd.R_reads' HO_6.out).2.2));(case side2=>exact(Kd.R_reads' HO_6.out).2.1);rintro e w25 ⟨rfl,hb⟩;refine⟨_,rfl,?_⟩;replace HO_6:=Aside0.mk (Kd.R_below (zq4 HO_6) hb);replace HO_7:=Aside0.mk (Kd.R_below (zq4 HO_7) hb);replace HB:=Aside0.mk (below_step (by exact zk1 HB) hb);(try clear hb);(try clear hb2);(try clear hk);(try clear hi))|((with_reducible refine gate_callee (f:=37) rfl ?_);refine goesL_ (some 88) rfl rfl Try.func37 (by kernel_rfl) rfl #[.int .i64 t1103,.slice Ao9 t1104.length co9,.int .i64 t1103] rfl zq2 ?_;(with_reducible refine(impl_TreesFor.calls kj6 t1103 _ _ t1104 t1103 t1120 t1121 _ ?side1 ?side2 A23.out).mono ?_);(case side1=>exact zcc ((Kd.R_reads' HO_6.out).2.2));(case side2=>exact(Kd.R_reads' HO_6.out).2.1);rintro e w26 ⟨v1122,rfl,ho0,hb⟩;refine⟨_,rfl,?_⟩;have HO1123:=Aside0.mk (Kd.S_lower ho0 (below_size (by exact zk1 HB)));replace HO_6:=Aside0.mk (Kd.R_below (zq4 HO_6) hb);replace HO_7:=Aside0.mk (Kd.R_below (zq4 HO_7) hb);replace HB:=Aside0.mk (below_step (by exact zk1 HB) hb);(try clear hb);(try clear hb2);(try clear hk);(try clear hi);(try clear ho0)))
         (try simp only [Act.put,List.setIfInBounds_toArray,List.set_cons_zero,List.set_cons_succ])
         go_cut [99] (fun v99 wc=> ∃ (kq:Nat) (x99_23:Bool),v99= .bool x99_23∧Aside0 (laws_FnLeastTree.j1 kq l1 t1103 t1104 t1108 t1120 x99_23=some r)∧Aside0 (kq≤kj6)∧Aside0 (Kd.R k79 79 wc w.heap.size (fun _=>True) (.slice Ao9 t1104.length co9) t1104)∧Aside0 (Kd.S (Kd.slice 3 (Kd.int .i64)) 22 wc w.heap.size (fun _=>True) v1122 t1120)∧Aside0 (Below w.heap.size w wc))
         case first=>
          have H:=HC24.out
          clear HC24
          by_cases c27:t1121=true
          ·subst c27
           have H1:(laws_FnLeastTree.j1 kj6 l1 t1103 t1104 t1108 t1120 ((t1107.length:Int) != (wrap64 (t1103 - 1))))=some r:=by rw [if_pos rfl] at H;exact H
           clear H
           have H:=H1
           clear H1
           as_aux_lemma=>
            have H':=Aside0.mk H
            clear H
            obtain⟨Ao28,co28,eo28⟩:=Kd.R_slice HO_7.out
            subst eo28
            go_wp2
            go_meet
            case rel=>exact⟨_,(((t1107.length:Int) != (wrap64 (t1103 - 1)))),zrs,H',⟨by have:=HJ6.out;first|omega|exact Nat.le_refl _⟩,⟨by(with_reducible repeat(first|apply Kd.R_alloc|apply Kd.R_drewN|apply Kd.R_drew));exact Kd.R_mono HO_6.out (fun _ hk=>trivial)⟩,⟨by(with_reducible repeat(first|apply Kd.S_alloc|apply Kd.S_drewN|apply Kd.S_drew));exact HO1123.out⟩,⟨by exact zk1 HB⟩⟩
          ·replace c27:=Bool.eq_false_iff.mpr c27
           subst c27
           have H1:(laws_FnLeastTree.j1 kj6 l1 t1103 t1104 t1108 t1120 true)=some r:=by rw [if_neg (show ¬ (false=true) by decide)] at H;exact H
           clear H
           have H:=H1
           clear H1
           exact absurd (H.trans (congrArg some HRT.out)) (by cases kj6<;>simp [laws_FnLeastTree.j1])
         case rest=>
          clear HC24
          try clear c1
          try clear c2
          try clear p2
          try clear c3
          try clear c3b0
          try clear c4
          try clear c5
          try clear p6
          try clear c12
          try clear c12b0
          try clear c12b1
          try clear c12b2
          try clear c13
          try clear c13b0
          try clear c13b1
          try clear c17
          try clear c19
          try clear c21
          try clear c22
          try clear c27
          try clear p2
          try clear p6
          obtain⟨kq,x99_23,rfl,HA,HJ23,HO_6,HO_15,HB⟩:=hcut
          cases kq with
          |zero=>exact absurd HA.out (by simp [laws_FnLeastTree.j1])
          |succ kj23=>
           have H:=HA.out
           clear HA
           simp only [laws_FnLeastTree.j1] at H
           by_cases c29:x99_23=true
           ·subst c29
            have H1:(some false)=some r:=by rw [if_pos rfl] at H;exact H
            clear H
            have H:=H1
            clear H1
            exact absurd ((Option.some.inj H).trans HRT.out) (by decide)
           ·replace c29:=Bool.eq_false_iff.mpr c29
            subst c29
            have H1:(laws_FnLeastTree.l0 kj23 l1 t1103 t1104 t1108 t1120 (t1120.length:Int) 0)=some r:=by rw [if_neg (show ¬ (false=true) by decide)] at H;exact H
            clear H
            have H:=H1
            clear H1
            have H':=Aside0.mk H
            clear H
            obtain⟨Ao30,co30,eo30⟩:=Kd.S_slice HO_15.out
            subst eo30
            go_wp2
            go_loopg [102] kj23 (fun kq v102 w'=> ∃ (x102_3:Int),v102= .int .i64 x102_3∧Aside0 (laws_FnLeastTree.l0 kq l1 t1103 t1104 t1108 t1120 (t1120.length:Int) x102_3=some r)∧Aside0 (kq≤kj23)∧Aside0 (Kd.R k79 79 w' w.heap.size (fun _=>True) (.slice Ao9 t1104.length co9) t1104)∧Aside0 (Kd.S (Kd.slice 3 (Kd.int .i64)) 22 w' w.heap.size (fun _=>True) (.slice Ao30 t1120.length co30) t1120)∧Aside0 (Below w.heap.size w w'))
            case atStart=>exact⟨(0),zrs,H',⟨Nat.le_refl _⟩,⟨zdr HO_6⟩,⟨by(with_reducible repeat(first|apply Kd.S_alloc|apply Kd.S_drewN|apply Kd.S_drew));exact HO_15.out⟩,⟨by exact zk1 HB⟩⟩
            case round=>
             clear H'
             try clear c1
             try clear c2
             try clear p2
             try clear c3
             try clear c3b0
             try clear c4
             try clear c5
             try clear p6
             try clear c12
             try clear c12b0
             try clear c12b1
             try clear c12b2
             try clear c13
             try clear c13b0
             try clear c13b1
             try clear c17
             try clear c19
             try clear c21
             try clear c22
             try clear c27
             try clear c29
             try clear p2
             try clear p6
             obtain⟨x102_3,rfl,HA,HK3,HO_6,HO_100,HB⟩:=hrel
             cases gk with
             |zero=>exact absurd HA.out (by simp [laws_FnLeastTree.l0])
             |succ k3=>
              have H:=HA.out
              clear HA
              simp only [laws_FnLeastTree.l0] at H
              by_cases c31:x102_3< (t1120.length:Int)
              ·rw [if_pos c31] at H
               have c31b0:decide (x102_3< (t1120.length:Int))=true:=decide_eq_true c31
               clear c31
               by_cases c32: 0≤x102_3
               case neg=>exact znn c32 H
               rw [if_pos c32] at H
               have c32b0:decide (0≤x102_3)=true:=decide_eq_true c32
               clear c32
               by_cases c33:x102_3< (t1120.length:Int)
               case neg=>exact znn c33 H
               rw [if_pos c33] at H
               have c33b0:decide (x102_3< (t1120.length:Int))=true:=decide_eq_true c33
               clear c33
               replace H:=Option.bind_eq_some_iff.mp H
               obtain⟨⟨t1125,t1126⟩,A340,H⟩:=H
               replace H:(if t1126=true then(if t1125<t1108 then(some false) else(laws_FnLeastTree.l0 k3 l1 t1103 t1104 t1108 t1120 (t1120.length:Int) (wrap64 (x102_3+1)))) else(some false))=some r:=H
               have A34:=Aside0.mk A340
               clear A340
               by_cases c35:t1126=true
               ·subst c35
                have H1:(if t1125<t1108 then(some false) else(laws_FnLeastTree.l0 k3 l1 t1103 t1104 t1108 t1120 (t1120.length:Int) (wrap64 (x102_3+1))))=some r:=by rw [if_pos rfl] at H;exact H
                clear H
                have H:=H1
                clear H1
                by_cases c36:t1125<t1108
                ·rw [if_pos c36] at H
                 have c36b0:decide (t1125<t1108)=true:=decide_eq_true c36
                 clear c36
                 exact absurd ((Option.some.inj H).trans HRT.out) (by decide)
                ·rw [if_neg c36] at H
                 have c36b0:decide (t1125<t1108)=false:=decide_eq_false c36
                 clear c36
                 as_aux_lemma=>
                  have H':=Aside0.mk H
                  clear H
                  have p1124: 0≤ (x102_3:Int):=of_decide_eq_true zq1
                  have q1124:x102_3< (t1120.length:Int):=of_decide_eq_true zq1
                  obtain⟨ad1124,A1124_0,c1124_0,e1124,hx1124_0,hl1124_0,hi1124_0⟩:=at_L6 (Kd.S_reads' HO_100.out).2.2 x102_3 p1124 q1124
                  cases e1124
                  obtain⟨ce1124,hce1124,hMe1124,hcc1124⟩:=Kd.S_get HO_100.out [] x102_3 p1124 (by first|exact q1124|exact of_decide_eq_true zq1|(have e_:=(Kd.S_reads' HO_100.out).1;omega))
                  obtain⟨ve1124_0,rfl,ge1124_0⟩:=hMe1124
                  have hv1124_0:=hcc1124 0 _ rfl
                  rw [Nat.add_zero,show ((Kd.slice 3 (Kd.int .i64))).sz=1 from rfl,Nat.mul_one] at hv1124_0
                  replace hv1124_0:=Option.some.inj (hv1124_0.symm.trans hx1124_0)
                  rw [hv1124_0] at ge1124_0
                  have HL1124_0:=Aside0.mk (show Kd.R (Kd.int .i64) 3 _ _ _ _ (rd_L6 t1120 x102_3) from ge1124_0)
                  clear hv1124_0 ge1124_0
                  clear hcc1124 hce1124
                  have HR1124_0:=Aside0.mk hi1124_0
                  have HC1124_0:=Aside0.mk hl1124_0
                  clear hi1124_0 hl1124_0
                  replace p1124:=eq_true p1124
                  replace q1124:=eq_true q1124
                  go_wp2_with (first|((with_reducible refine gate_callee (f:=26) rfl ?_);refine goesL_ (some 110) rfl rfl Try.func26 (by kernel_rfl) rfl #[.int .i64 t1103,.slice Ao9 t1104.length co9,.slice A1124_0 (rd_L6 t1120 x102_3).length c1124_0] rfl zq2 ?_;(with_reducible refine(impl_TreeCost.calls k3 t1103 _ _ t1104 _ _ (rd_L6 t1120 x102_3) t1125 true _ ?side1 ?side2 ?side3 ?side4 A34.out).mono ?_);(case side1=>exact zcc ((Kd.R_reads' HO_6.out).2.2));(case side2=>exact(Kd.R_reads' HO_6.out).2.1);(case side3=>repeat(first|exact(by repeat(first|(with_reducible exact HR1124_0.out)|(with_reducible refine Kd.C_alloc ?_ _)|(with_reducible refine Kd.C_drewN ?_ _)|(with_reducible refine Kd.C_drew ?_)|exact HR1124_0.out))|(with_reducible refine Kd.C_alloc ?_ _)|(with_reducible refine Kd.C_drewN ?_ _)|(with_reducible refine Kd.C_drew ?_)));(case side4=>exact HC1124_0.out);rintro e w37 ⟨rfl,hb⟩;refine⟨_,rfl,?_⟩;replace HO_6:=Aside0.mk (Kd.R_below (zq4 HO_6) hb);replace HO_100:=Aside0.mk (Kd.S_below (by(with_reducible repeat(first|apply Kd.S_alloc|apply Kd.S_drewN|apply Kd.S_drew));exact HO_100.out) hb);replace HL1124_0:=Aside0.mk (Kd.R_below (zq4 HL1124_0) hb);replace HR1124_0:=Aside0.mk (Kd.C_below (by repeat(first|(with_reducible exact HR1124_0.out)|(with_reducible refine Kd.C_alloc ?_ _)|(with_reducible refine Kd.C_drewN ?_ _)|(with_reducible refine Kd.C_drew ?_)|exact HR1124_0.out)) hb);replace HB:=Aside0.mk (below_step (by exact zk1 HB) hb);(try clear hb);(try clear hb2);(try clear hk);(try clear hi)))
                  go_roundg k3
                  case measure=>have:=HJ6.out;have:=HJ23.out;have:=HK3.out;omega
                  case rel=>exact⟨(wrap64 (x102_3+1)),zrs,H',⟨by have:=HJ6.out;have:=HJ23.out;have:=HK3.out;omega⟩,⟨zdr HO_6⟩,⟨by(with_reducible repeat(first|apply Kd.S_alloc|apply Kd.S_drewN|apply Kd.S_drew));exact HO_100.out⟩,⟨by exact zk1 HB⟩⟩
               ·replace c35:=Bool.eq_false_iff.mpr c35
                subst c35
                have H1:(some false)=some r:=by rw [if_neg (show ¬ (false=true) by decide)] at H;exact H
                clear H
                have H:=H1
                clear H1
                exact absurd ((Option.some.inj H).trans HRT.out) (by decide)
              ·rw [if_neg c31] at H
               have c31b0:decide (x102_3< (t1120.length:Int))=false:=decide_eq_false c31
               clear c31
               as_aux_lemma=>
                have H':=Aside0.mk H
                clear H
                go_wp2
                go_meet
                case rel=>exact⟨_,H',⟨by have:=HJ6.out;have:=HJ23.out;have:=HK3.out;first|omega|exact Nat.le_refl _⟩,⟨by exact zk1 HB⟩⟩
        ·replace c22:=Bool.eq_false_iff.mpr c22
         subst c22
         have H1:(laws_FnLeastTree.j3 kj6 l1)=some r:=by rw [if_neg (show ¬ (false=true) by decide)] at H;exact H
         clear H
         have H:=H1
         clear H1
         as_aux_lemma=>
          have H':=Aside0.mk H
          clear H
          go_wp2_with (first|((with_reducible refine gate_callee (f:=55) rfl ?_);refine goesL_ (some 78) rfl rfl Try.func55 (by kernel_rfl) rfl #[.int .i64 t1103,.slice Ao9 t1104.length co9] rfl zq2 ?_;(with_reducible refine(impl_IsOneGroup.calls kj6 t1103 _ _ t1104 false true _ ?side1 ?side2 A20.out).mono ?_);(case side1=>exact zcc ((Kd.R_reads' HO_6.out).2.2));(case side2=>exact(Kd.R_reads' HO_6.out).2.1);rintro e w38 ⟨rfl,hb⟩;refine⟨_,rfl,?_⟩;replace HO_6:=Aside0.mk (Kd.R_below (zq4 HO_6) hb);replace HO_7:=Aside0.mk (Kd.R_below (zq4 HO_7) hb);replace HB:=Aside0.mk (below_step (by exact zk1 HB) hb);(try clear hb);(try clear hb2);(try clear hk);(try clear hi)))
          go_meet
          case rel=>exact⟨_,H',⟨by have:=HJ6.out;first|omega|exact Nat.le_refl _⟩,⟨by exact zk1 HB⟩⟩
       ·replace c21:=Bool.eq_false_iff.mpr c21
        subst c21
        have H1:(some false)=some r:=by rw [if_neg (show ¬ (false=true) by decide)] at H;exact H
        clear H
        have H:=H1
        clear H1
        exact absurd ((Option.some.inj H).trans HRT.out) (by decide)
      ·replace c19:=Bool.eq_false_iff.mpr c19
       subst c19
       have H1:(laws_FnLeastTree.j3 kj6 l1)=some r:=by rw [if_neg (show ¬ (false=true) by decide)] at H;exact H
       clear H
       have H:=H1
       clear H1
       as_aux_lemma=>
        have H':=Aside0.mk H
        clear H
        go_wp2
        go_meet
        case rel=>exact⟨_,H',⟨by have:=HJ6.out;first|omega|exact Nat.le_refl _⟩,⟨by exact zk1 HB⟩⟩
     case rest=>
      clear HC18
      try clear c1
      try clear p1
      try clear q1
      try clear hx1
      try clear c2
      try clear p2
      try clear c3
      try clear c3b0
      try clear c4
      try clear c5
      try clear p6
      try clear c11
      try clear p11
      try clear q11
      try clear hx11
      try clear c12
      try clear c12b0
      try clear c12b1
      try clear c12b2
      try clear c13
      try clear c13b0
      try clear c13b1
      try clear c17
      try clear c19
      try clear c21
      try clear c22
      try clear c26
      try clear c27
      try clear c29
      try clear c31
      try clear c31b0
      try clear c32
      try clear c32b0
      try clear c33
      try clear c33b0
      try clear c35
      try clear c36
      try clear c36b0
      try clear c37
      try clear hx1124_0
      try clear p1124
      try clear p2
      try clear p6
      try clear q1124
      obtain⟨kq,HA,HJ17,HB⟩:=hcut
      cases kq with
      |zero=>exact absurd HA.out (by simp [laws_FnLeastTree.j3])
      |succ kj17=>
       have H:=HA.out
       clear HA
       simp only [laws_FnLeastTree.j3] at H
       replace H:=Option.bind_eq_some_iff.mp H
       obtain⟨⟨t1127,t1128,t1129⟩,A390,H⟩:=H
       replace H:((impl_TreesFor.f kj17 t1127 t1128 t1129).bind fun bt1132=>((spec_TreesFor.f kj17 t1127 t1128 t1129).bind fun bt1136=>((spec_DrawTreeCost.f kj17 l1).bind fun bt1140=>((impl_TreeCost.f kj17 bt1140.1 bt1140.2.1 bt1140.2.2).bind fun bt1147=>((spec_TreeCost.f kj17 bt1140.1 bt1140.2.1 bt1140.2.2).bind fun bt1149=>(if (bt1132.2==bt1136.2)=true then((laws_sameRows.f kj17 bt1132.1 bt1136.1).bind fun t1151=>(if t1151=true then(if (bt1147.2==bt1149.2)=true then(some (bt1147.1==bt1149.1)) else(some false)) else(some false))) else(some false)))))))=some r:=H
       have A39:=Aside0.mk A390
       clear A390
       replace H:=Option.bind_eq_some_iff.mp H
       obtain⟨⟨t1132,t1133⟩,A400,H⟩:=H
       replace H:((spec_TreesFor.f kj17 t1127 t1128 t1129).bind fun bt1136=>((spec_DrawTreeCost.f kj17 l1).bind fun bt1140=>((impl_TreeCost.f kj17 bt1140.1 bt1140.2.1 bt1140.2.2).bind fun bt1147=>((spec_TreeCost.f kj17 bt1140.1 bt1140.2.1 bt1140.2.2).bind fun bt1149=>(if (t1133==bt1136.2)=true then((laws_sameRows.f kj17 t1132 bt1136.1).bind fun t1151=>(if t1151=true then(if (bt1147.2==bt1149.2)=true then(some (bt1147.1==bt1149.1)) else(some false)) else(some false))) else(some false))))))=some r:=H
       have A40:=Aside0.mk A400
       clear A400
       replace H:=Option.bind_eq_some_iff.mp H
       obtain⟨⟨t1136,t1137⟩,A410,H⟩:=H
       replace H:((spec_DrawTreeCost.f kj17 l1).bind fun bt1140=>((impl_TreeCost.f kj17 bt1140.1 bt1140.2.1 bt1140.2.2).bind fun bt1147=>((spec_TreeCost.f kj17 bt1140.1 bt1140.2.1 bt1140.2.2).bind fun bt1149=>(if (t1133==t1137)=true then((laws_sameRows.f kj17 t1132 t1136).bind fun t1151=>(if t1151=true then(if (bt1147.2==bt1149.2)=true then(some (bt1147.1==bt1149.1)) else(some false)) else(some false))) else(some false)))))=some r:=H
       have A41:=Aside0.mk A410
       clear A410
       replace H:=Option.bind_eq_some_iff.mp H
       obtain⟨⟨t1140,t1141,t1142⟩,A420,H⟩:=H
       replace H:((impl_TreeCost.f kj17 t1140 t1141 t1142).bind fun bt1147=>((spec_TreeCost.f kj17 t1140 t1141 t1142).bind fun bt1149=>(if (t1133==t1137)=true then((laws_sameRows.f kj17 t1132 t1136).bind fun t1151=>(if t1151=true then(if (bt1147.2==bt1149.2)=true then(some (bt1147.1==bt1149.1)) else(some false)) else(some false))) else(some false))))=some r:=H
       have A42:=Aside0.mk A420
       clear A420
       replace H:=Option.bind_eq_some_iff.mp H
       obtain⟨⟨t1147,t1148⟩,A430,H⟩:=H
       replace H:((spec_TreeCost.f kj17 t1140 t1141 t1142).bind fun bt1149=>(if (t1133==t1137)=true then((laws_sameRows.f kj17 t1132 t1136).bind fun t1151=>(if t1151=true then(if (t1148==bt1149.2)=true then(some (t1147==bt1149.1)) else(some false)) else(some false))) else(some false)))=some r:=H
       have A43:=Aside0.mk A430
       clear A430
       replace H:=Option.bind_eq_some_iff.mp H
       obtain⟨⟨t1149,t1150⟩,A440,H⟩:=H
       replace H:(if (t1133==t1137)=true then((laws_sameRows.f kj17 t1132 t1136).bind fun t1151=>(if t1151=true then(if (t1148==t1150)=true then(some (t1147==t1149)) else(some false)) else(some false))) else(some false))=some r:=H
       have A44:=Aside0.mk A440
       clear A440
       by_cases c45:(t1133==t1137)=true
       ·rw [if_pos c45] at H
        have c45b0:(t1133==t1137)=true:=c45
        (try(have c45b1:decide (t1133=t1137)=true:=by simpa using c45))
        (try(have c45b2:(t1133==t1137)=true:=by simpa using c45))
        clear c45
        replace H:=Option.bind_eq_some_iff.mp H
        obtain⟨t1151,A460,H⟩:=H
        replace H:(if t1151=true then(if (t1148==t1150)=true then(some (t1147==t1149)) else(some false)) else(some false))=some r:=H
        have A46:=Aside0.mk A460
        clear A460
        by_cases c47:t1151=true
        ·subst c47
         have H1:(if (t1148==t1150)=true then(some (t1147==t1149)) else(some false))=some r:=by rw [if_pos rfl] at H;exact H
         clear H
         have H:=H1
         clear H1
         by_cases c48:(t1148==t1150)=true
         ·rw [if_pos c48] at H
          have c48b0:(t1148==t1150)=true:=c48
          (try(have c48b1:decide (t1148=t1150)=true:=by simpa using c48))
          (try(have c48b2:(t1148==t1150)=true:=by simpa using c48))
          clear c48
          as_aux_lemma=>
           obtain rfl:=Option.some.inj H
           go_wp2_with (first|((with_reducible refine gate_callee (f:=56) rfl ?_);refine goesL_ (some 123) rfl rfl Try.func56 (by kernel_rfl) rfl #[.slice A1 l1.length c1] rfl zq2 ?_;(with_reducible refine(spec_DrawTreesFor.calls kj17 _ _ l1 t1127 t1128 t1129 _ ?side1 ?side2 A39.out).mono ?_);(case side1=>exact zcc ((Kd.C_below HR1.out HB.out)));(case side2=>exact HC1.out);rintro e w49 ⟨v1130,rfl,ho0,hb⟩;refine⟨_,rfl,?_⟩;have HO1131:=Aside0.mk (Kd.R_lower ho0 (below_size (by exact zk1 HB)));replace HB:=Aside0.mk (below_step (by exact zk1 HB) hb);(try clear hb);(try clear hb2);(try clear hk);(try clear hi);(try clear ho0);obtain⟨Ao50,co50,eo50⟩:=Kd.R_slice HO1131.out;subst eo50)|((with_reducible refine gate_callee (f:=37) rfl ?_);refine goesL_ (some 131) rfl rfl Try.func37 (by kernel_rfl) rfl #[.int .i64 t1127,.slice Ao50 t1128.length co50,.int .i64 t1129] rfl zq2 ?_;(with_reducible refine(impl_TreesFor.calls kj17 t1127 _ _ t1128 t1129 t1132 t1133 _ ?side1 ?side2 A40.out).mono ?_);(case side1=>exact zcc ((Kd.R_reads' HO1131.out).2.2));(case side2=>exact(Kd.R_reads' HO1131.out).2.1);rintro e w51 ⟨v1134,rfl,ho0,hb⟩;refine⟨_,rfl,?_⟩;have HO1135:=Aside0.mk (Kd.S_lower ho0 (below_size (by exact zk1 HB)));replace HO1131:=Aside0.mk (Kd.R_below (zq4 HO1131) hb);replace HB:=Aside0.mk (below_step (by exact zk1 HB) hb);(try clear hb);(try clear hb2);(try clear hk);(try clear hi);(try clear ho0))|((with_reducible refine gate_callee (f:=36) rfl ?_);refine goesL_ (some 138) rfl rfl Try.func36 (by kernel_rfl) rfl #[.int .i64 t1127,.slice Ao50 t1128.length co50,.int .i64 t1129] rfl zq2 ?_;(with_reducible refine(spec_TreesFor.calls kj17 t1127 _ _ t1128 t1129 t1136 t1137 _ ?side1 ?side2 A41.out).mono ?_);(case side1=>exact zcc ((Kd.R_reads' HO1131.out).2.2));(case side2=>exact(Kd.R_reads' HO1131.out).2.1);rintro e w52 ⟨v1138,rfl,ho0,hb⟩;refine⟨_,rfl,?_⟩;have HO1139:=Aside0.mk (Kd.S_lower (Kd.S_new' ho0 (Kd.S_lt (by(with_reducible repeat(first|apply Kd.S_alloc|apply Kd.S_drewN|apply Kd.S_drew));exact HO1135.out))) (below_size (by exact zk1 HB)));replace HO1131:=Aside0.mk (Kd.R_below (zq4 HO1131) hb);replace HO1135:=Aside0.mk (Kd.S_elder' (by(with_reducible repeat(first|apply Kd.S_alloc|apply Kd.S_drewN|apply Kd.S_drew));exact HO1135.out) (Kd.S_base ho0) hb);replace HB:=Aside0.mk (below_step (by exact zk1 HB) hb);(try clear hb);(try clear hb2);(try clear hk);(try clear hi);(try clear ho0))|((with_reducible refine gate_callee (f:=57) rfl ?_);refine goesL_ (some 143) rfl rfl Try.func57 (by kernel_rfl) rfl #[.slice A1 l1.length c1] rfl zq2 ?_;(with_reducible refine(spec_DrawTreeCost.calls kj17 _ _ l1 t1140 t1141 t1142 _ ?side1 ?side2 A42.out).mono ?_);(case side1=>exact zcc ((Kd.C_below HR1.out HB.out)));(case side2=>exact HC1.out);rintro e w53 ⟨v1143,v1145,rfl,ho0,ho1,hb⟩;refine⟨_,rfl,?_⟩;have HO1144:=Aside0.mk (Kd.R_lower (Kd.R_new' ho0 (Kd.R_lt (zq4 HO1131))) (below_size (by exact zk1 HB)));have HO1146:=Aside0.mk (Kd.R_lower ho1 (below_size (by exact zk1 HB)));replace HO1131:=Aside0.mk (Kd.R_elder' (zq4 HO1131) (Kd.R_base ho0) hb);replace HO1135:=Aside0.mk (Kd.S_elder' (by(with_reducible repeat(first|apply Kd.S_alloc|apply Kd.S_drewN|apply Kd.S_drew));exact HO1135.out) (Kd.R_base ho1) hb);replace HO1139:=Aside0.mk (Kd.S_elder' (by(with_reducible repeat(first|apply Kd.S_alloc|apply Kd.S_drewN|apply Kd.S_drew));exact HO1139.out) (Kd.R_base ho1) hb);replace HB:=Aside0.mk (below_step (by exact zk1 HB) hb);(try clear hb);(try clear hb2);(try clear hk);(try clear hi);(try clear ho0);(try clear ho1);obtain⟨Ao54,co54,eo54⟩:=Kd.R_slice HO1144.out;subst eo54;obtain⟨Ao55,co55,eo55⟩:=Kd.R_slice HO1146.out;subst eo55)|((with_reducible refine gate_callee (f:=26) rfl ?_);refine goesL_ (some 151) rfl rfl Try.func26 (by kernel_rfl) rfl #[.int .i64 t1140,.slice Ao54 t1141.length co54,.slice Ao55 t1142.length co55] rfl zq2 ?_;(with_reducible refine(impl_TreeCost.calls kj17 t1140 _ _ t1141 _ _ t1142 t1147 t1148 _ ?side1 ?side2 ?side3 ?side4 A43.out).mono ?_);(case side1=>exact zcc ((Kd.R_reads' HO1144.out).2.2));(case side2=>exact(Kd.R_reads' HO1144.out).2.1);(case side3=>exact zcc ((Kd.R_reads' HO1146.out).2.2));(case side4=>exact(Kd.R_reads' HO1146.out).2.1);rintro e w56 ⟨rfl,hb⟩;refine⟨_,rfl,?_⟩;replace HO1131:=Aside0.mk (Kd.R_below (zq4 HO1131) hb);replace HO1135:=Aside0.mk (Kd.S_below (by(with_reducible repeat(first|apply Kd.S_alloc|apply Kd.S_drewN|apply Kd.S_drew));exact HO1135.out) hb);replace HO1139:=Aside0.mk (Kd.S_below (by(with_reducible repeat(first|apply Kd.S_alloc|apply Kd.S_drewN|apply Kd.S_drew));exact HO1139.out) hb);replace HO1144:=Aside0.mk (Kd.R_below (zq4 HO1144) hb);replace HO1146:=Aside0.mk (Kd.R_below (zq4 HO1146) hb);replace HB:=Aside0.mk (below_step (by exact zk1 HB) hb);(try clear hb);(try clear hb2);(try clear hk);(try clear hi))|((with_reducible refine gate_callee (f:=24) rfl ?_);refine goesL_ (some 158) rfl rfl Try.func24 (by kernel_rfl) rfl #[.int .i64 t1140,.slice Ao54 t1141.length co54,.slice Ao55 t1142.length co55] rfl zq2 ?_;(with_reducible refine(spec_TreeCost.calls kj17 t1140 _ _ t1141 _ _ t1142 t1149 t1150 _ ?side1 ?side2 ?side3 ?side4 A44.out).mono ?_);(case side1=>exact zcc ((Kd.R_reads' HO1144.out).2.2));(case side2=>exact(Kd.R_reads' HO1144.out).2.1);(case side3=>exact zcc ((Kd.R_reads' HO1146.out).2.2));(case side4=>exact(Kd.R_reads' HO1146.out).2.1);rintro e w57 ⟨rfl,hb⟩;refine⟨_,rfl,?_⟩;replace HO1131:=Aside0.mk (Kd.R_below (zq4 HO1131) hb);replace HO1135:=Aside0.mk (Kd.S_below (by(with_reducible repeat(first|apply Kd.S_alloc|apply Kd.S_drewN|apply Kd.S_drew));exact HO1135.out) hb);replace HO1139:=Aside0.mk (Kd.S_below (by(with_reducible repeat(first|apply Kd.S_alloc|apply Kd.S_drewN|apply Kd.S_drew));exact HO1139.out) hb);replace HO1144:=Aside0.mk (Kd.R_below (zq4 HO1144) hb);replace HO1146:=Aside0.mk (Kd.R_below (zq4 HO1146) hb);replace HB:=Aside0.mk (below_step (by exact zk1 HB) hb);(try clear hb);(try clear hb2);(try clear hk);(try clear hi);obtain⟨Ao58,co58,eo58⟩:=Kd.S_slice HO1135.out;subst eo58;obtain⟨Ao59,co59,eo59⟩:=Kd.S_slice HO1139.out;subst eo59)|(go_at_call 58;(with_reducible refine(laws_sameRows.calls kj17 _ _ t1132 _ _ t1136 true _ ?side1 ?side2 ?side3 ?side4 A46.out).mono ?_);(case side1=>exact zcc ((Kd.S_reads' HO1135.out).2.2));(case side2=>exact(Kd.S_reads' HO1135.out).2.1);(case side3=>exact zcc ((Kd.S_reads' HO1139.out).2.2));(case side4=>exact(Kd.S_reads' HO1139.out).2.1);rintro e w' ⟨rfl,⟨nd,rfl⟩⟩))
           go_ret
           exact⟨zer,by exact zk1 HB⟩
         ·rw [if_neg c48] at H
          have c48b0:(t1148==t1150)=false:=by simpa using c48
          (try(have c48b1:decide (t1148=t1150)=false:=by simpa using c48))
          (try(have c48b2:(t1148==t1150)=false:=by simpa using c48))
          (try(have c48b3:¬ (t1148=t1150):=by simpa using c48))
          clear c48
          exact absurd ((Option.some.inj H).trans HRT.out) (by decide)
        ·replace c47:=Bool.eq_false_iff.mpr c47
         subst c47
         have H1:(some false)=some r:=by rw [if_neg (show ¬ (false=true) by decide)] at H;exact H
         clear H
         have H:=H1
         clear H1
         exact absurd ((Option.some.inj H).trans HRT.out) (by decide)
       ·rw [if_neg c45] at H
        have c45b0:(t1133==t1137)=false:=by simpa using c45
        (try(have c45b1:decide (t1133=t1137)=false:=by simpa using c45))
        (try(have c45b2:(t1133==t1137)=false:=by simpa using c45))
        (try(have c45b3:¬ (t1133=t1137):=by simpa using c45))
        clear c45
        exact absurd ((Option.some.inj H).trans HRT.out) (by decide)
/-- THE ONE PURE STATEMENT of laws_FnLeastTree: yours. -/
def laws_FnLeastTree.Pure:Prop:= ∀ (l0:List Int) (l1:List Int),l0.length≤maxLen→l0.length * 1≤140737488351232→ (∀ x ∈ l0,(Lit.int .u8 x).wf=true)→l1.length≤maxLen→l1.length * 1≤140737488351232→ (∀ x ∈ l1,(Lit.int .u8 x).wf=true)→ ∃ k,laws_FnLeastTree.f k l0 l1=some true
theorem laws_FnLeastTree.walk (P:laws_FnLeastTree.Pure) (a0:Option Addr) (len0 cap0:Nat) (z0:List Int) (a1:Option Addr) (len1 cap1:Nat) (z1:List Int) (w:World) (w0:(a0=none∧len0=0∧cap0=0∧z0= [])∨ ∃ x,a0=some x∧len0≤cap0∧cap0≤maxLen∧z0.length=cap0∧ (∀ i,i<z0.length→w.cell? (x.add i)=some (.int .u8 (z0.getD i 0)))∧ ∀ n ∈ z0,(Lit.int .u8 n).wf=true) (y0:len0 * 1≤140737488351232) (w1:(a1=none∧len1=0∧cap1=0∧z1= [])∨ ∃ x,a1=some x∧len1≤cap1∧cap1≤maxLen∧z1.length=cap1∧ (∀ i,i<z1.length→w.cell? (x.add i)=some (.int .u8 (z1.getD i 0)))∧ ∀ n ∈ z1,(Lit.int .u8 n).wf=true) (y1:len1 * 1≤140737488351232):
  Calls Try.prog 12 #[.slice a0 len0 cap0,.slice a1 len1 cap1] w fun e w'=>e= .returned (.bool true)∧Below w.heap.size w w':=by
 obtain⟨l0,rfl,hr0,hm0,hw0,hc0⟩:=ReadsInt.ofRowC w0
 obtain⟨l1,rfl,hr1,hm1,hw1,hc1⟩:=ReadsInt.ofRowC w1
 obtain⟨k,h⟩:=P l0 l1 hm0 y0 hw0 hm1 y1 hw1
 refine(laws_FnLeastTree.calls k _ _ l0 _ _ l1 true w (Kd.C_of_reads (d:=(0:Int)) (h1:=fun _=>rfl) hr0) hc0 (Kd.C_of_reads (d:=(0:Int)) (h1:=fun _=>rfl) hr1) hc1 h).mono ?_
 rintro e w' ⟨rfl,hd⟩
 exact⟨rfl,hd⟩
open Go.RowKit Go.Proofs.YtedegfbheihopaaW.PrintWords
theorem wrap_id {x:Int} (h0: -9223372036854775808≤x) (h1:x≤9223372036854775807):wrap64 x=x:=by unfold wrap64;omega
theorem Ev.succ {α :Type} {g:Nat→Option α} {r: α} (h:Ev (fun k=>g (k+1)) r):Ev g r:=Ev.step (fun _=>rfl) h
theorem Ev.some_ {α :Type} {r s: α} (h:r=s):Ev (fun _=>some r) s:=h ▸ Ev.now r
theorem getD_mid {α :Type} (d: α) (pre:List α) (x: α) (suf:List α):(pre++x::suf).getD ((pre.length:Int)).toNat d=x:=by simp
theorem set_mid {α :Type} (pre:List α) (x y: α) (suf:List α):(pre++x::suf).set ((pre.length:Int)).toNat y=pre++y::suf:=by simp
theorem app_one {α :Type} (pre:List α) (x: α) (suf:List α):pre++x::suf= (pre++ [x])++suf:=by simp
theorem len_mid {α :Type} (pre:List α) (x: α) (suf:List α):((pre++x::suf).length:Int)=pre.length+suf.length+1:=by simp;omega
theorem len_one {α :Type} (pre:List α) (x: α):((pre++ [x]).length:Int)=pre.length+1:=by simp
theorem nil_or_snoc {α :Type} (l:List α):l= []∨ ∃ p y,l=p++ [y]:=by
 rcases List.eq_nil_or_concat l with rfl|⟨p,y,rfl⟩
 ·exact .inl rfl
 ·exact .inr ⟨p,y,by simp⟩
open Go.RowKit Go.Proofs.YtedegfbheihopaaW.PrintWords Go.Proofs.YtedegfbheihopaaW.PrintLast
theorem rdEdge_mid (pre:List S79) (x:S79) (suf:List S79):rd_T79 (pre++x::suf) (pre.length:Int)=x:=getD_mid _ pre x suf
abbrev Ed:=S79
def Srt (l:List Ed):Prop:=l.Pairwise fun x y=>x.f2≤y.f2
def ofK (c:Int) (l:List Ed):List Ed:=l.filter fun x=>decide (x.f2=c)
def Stab (l r:List Ed):Prop:=r.length=l.length∧ ∀ c,ofK c r=ofK c l
def okK (l:List Ed):Prop:= ∀ x ∈ l,0≤x.f2∧x.f2≤1000
theorem ofK_app (c:Int) (a b:List Ed):ofK c (a++b)=ofK c a++ofK c b:=List.filter_append ..
theorem Stab.refl (l:List Ed):Stab l l:=⟨rfl,fun _=>rfl⟩
theorem Stab.trans {a b c:List Ed} (h:Stab a b) (k:Stab b c):Stab a c:=⟨k.1.trans h.1,fun x=>(k.2 x).trans (h.2 x)⟩
theorem Stab.app {a b c d:List Ed} (h:Stab a b) (k:Stab c d):Stab (a++c) (b++d):=⟨by rw [List.length_append,List.length_append,h.1,k.1],fun x=>by rw [ofK_app,ofK_app,h.2,k.2]⟩
theorem Stab.mem {a b:List Ed} (h:Stab a b) {x:Ed} (hx:x ∈ b):x ∈ a:=by
 have:x ∈ ofK x.f2 b:=List.mem_filter.2 ⟨hx,by simp⟩
 rw [h.2] at this
 exact(List.mem_filter.1 this).1
theorem ofK_none {c:Int} {l:List Ed} (h:∀ x ∈ l,x.f2≠c):ofK c l= []:=by
 unfold ofK
 rw [List.filter_eq_nil_iff]
 intro x hx
 simpa using h x hx
theorem Stab.swap {a b:List Ed} (h:∀ x ∈ a, ∀ y ∈ b,y.f2<x.f2):Stab (a++b) (b++a):=by
 refine⟨by rw [List.length_append,List.length_append,Nat.add_comm],fun c=>?_⟩
 rw [ofK_app,ofK_app]
 by_cases ha:∃ x ∈ a,x.f2=c
 ·obtain⟨x,hx,e⟩:=ha
  rw [ofK_none (l:=b) (fun y hy=>by have:=h x hx y hy;omega)]
  simp
 ·rw [ofK_none (l:=a) (fun x hx e=>ha ⟨x,hx,e⟩)]
  simp
theorem Stab.ok {a b:List Ed} (h:Stab a b) (k:okK a):okK b:=fun x hx=>k x (h.mem hx)
theorem rdE_mid (pre:List Ed) (x:Ed) (suf:List Ed) (i:Int) (h:i=pre.length):rd_T79 (pre++x::suf) i=x:=by
 subst h
 exact getD_mid _ pre x suf
theorem setE_mid (pre:List Ed) (x y:Ed) (suf:List Ed) (i:Int) (h:i=pre.length):(pre++x::suf).set i.toNat y=pre++y::suf:=by
 subst h
 exact set_mid pre x y suf
theorem lenE_mid (pre:List Ed) (x:Ed) (suf:List Ed):((pre++x::suf).length:Int)=pre.length+suf.length+1:=len_mid pre x suf
-- two neighbours change places
theorem swap2 (pre:List Ed) (u v:Ed) (suf:List Ed) (i j:Int) (hi:i=pre.length) (hj:j=pre.length+1):((pre++u::v::suf).set i.toNat v).set j.toNat u=pre++v::u::suf:=by
 rw [setE_mid pre u v (v::suf) i hi]
 have:=setE_mid (pre++ [v]) v u suf j (by rw [List.length_append,List.length_singleton];omega)
 simpa using this
theorem swap2' (pre:List Ed) (u v:Ed) (suf:List Ed) (i j:Int) (hi:i=pre.length+1) (hj:j=pre.length):((pre++u::v::suf).set i.toNat u).set j.toNat v=pre++v::u::suf:=by
 have:=setE_mid (pre++ [u]) v u suf i (by rw [List.length_append,List.length_singleton];omega)
 rw [show pre++u::v::suf= (pre++ [u])++v::suf by simp,this,show pre++ [u]++u::suf=pre++u::u::suf by simp,setE_mid pre u v (u::suf) j hj]
theorem rd_2nd (pre:List Ed) (u v:Ed) (suf:List Ed) (i:Int) (h:i=pre.length+1):rd_T79 (pre++u::v::suf) i=v:=by
 have:=rdE_mid (pre++ [u]) v suf i (by rw [List.length_append,List.length_singleton];omega)
 simpa using this
theorem eta3 (y:Ed):(⟨y.f0,y.f1,y.f2⟩ :Ed)=y:=rfl
-- insertion: the front is held last first
def insR:List Ed→Ed→List Ed
 | [],y=> [y]
 |u::q,y=>if y.f2<u.f2 then u::insR q y else y::u::q
def insAll:List Ed→List Ed→List Ed
 |q,[]=>q
 |q,y::r=>insAll (insR q y) r
theorem insR_len:∀ (q:List Ed) (y:Ed),(insR q y).length=q.length+1
 | [],_=>rfl
 |u::q,y=>by
  rw [insR]
  split
  ·rw [List.length_cons,insR_len q y];rfl
  ·rfl
theorem insR_stab:∀ (q:List Ed) (y:Ed),Stab (q.reverse++ [y]) (insR q y).reverse
 | [],y=>Stab.refl _
 |u::q,y=>by
  rw [insR]
  split
  ·rename_i h
   rw [List.reverse_cons,List.reverse_cons]
   have h1:Stab ([u]++ [y]) ([y]++ [u]):=Stab.swap (fun a ha b hb=>by
    rw [List.mem_singleton] at ha hb
    rw [ha,hb];exact h)
   have h2:=(insR_stab q y).app (Stab.refl [u])
   have h3:=(Stab.refl q.reverse).app h1
   rw [← List.append_assoc,← List.append_assoc] at h3
   exact h3.trans h2
  ·rw [show (y::u::q).reverse= (u::q).reverse++ [y] from List.reverse_cons ..]
   exact Stab.refl _
theorem insR_le:∀ (q:List Ed) (y:Ed) (z:Ed),z ∈ insR q y→z=y∨z ∈ q
 | [],y,z,h=>by
  rw [insR,List.mem_singleton] at h
  exact Or.inl h
 |u::q,y,z,h=>by
  rw [insR] at h
  split at h
  ·rcases List.mem_cons.1 h with e|h
   ·exact Or.inr (by rw [e];simp)
   ·rcases insR_le q y z h with e|h
    ·exact Or.inl e
    ·exact Or.inr (by simp [h])
  ·rcases List.mem_cons.1 h with e|h
   ·exact Or.inl e
   ·exact Or.inr h
def SrtR (q:List Ed):Prop:=q.Pairwise fun x y=>y.f2≤x.f2
theorem SrtR_rev {q:List Ed} :Srt q.reverse↔SrtR q:=List.pairwise_reverse
theorem insR_srt:∀ (q:List Ed) (y:Ed),SrtR q→SrtR (insR q y)
 | [],y,_=>by simp [insR,SrtR]
 |u::q,y,h=>by
  obtain⟨h1,h2⟩:=List.pairwise_cons.1 h
  rw [insR]
  split
  ·rename_i hl
   refine List.pairwise_cons.2 ⟨fun z hz=>?_,insR_srt q y h2⟩
   rcases insR_le q y z hz with e|hz
   ·rw [e];omega
   ·exact h1 z hz
  ·rename_i hl
   refine List.pairwise_cons.2 ⟨fun z hz=>?_,h⟩
   rcases List.mem_cons.1 hz with e|hz
   ·rw [e];omega
   ·have:=h1 z hz;omega
theorem insAll_srt:∀ (r q:List Ed),SrtR q→SrtR (insAll q r)
 | [],_,h=>h
 |y::r,q,h=>insAll_srt r _ (insR_srt q y h)
theorem insAll_stab:∀ (r q:List Ed),Stab (q.reverse++r) (insAll q r).reverse
 | [],q=>by rw [List.append_nil];exact Stab.refl _
 |y::r,q=>by
  have h1:=(insR_stab q y).app (Stab.refl r)
  rw [List.append_assoc,List.singleton_append] at h1
  exact h1.trans (insAll_stab r _)
theorem ins_l1 (P:List Ed) (a b i:Int) (ha:a=P.length) (hi: -1000000≤i∧i≤1000000) (X:List Ed):∀ (q:List Ed) (y:Ed) (R:List Ed),okK (P++q.reverse++y::R)→ (P++q.reverse++y::R).length≤1000→
  Ev (fun k=>slices_insertionSortCmpFunc_Edge.l0 k (P++ (insR q y).reverse++R) a b (i+1)) X→Ev (fun k=>slices_insertionSortCmpFunc_Edge.l1 k (P++q.reverse++y::R) a b i (P.length+q.length)) X
 | [],y,R,hk,hl,h=>by
  refine Ev.succ ?_
  simp only [slices_insertionSortCmpFunc_Edge.l1,List.length_nil,Int.natCast_zero,Int.add_zero,ha,if_neg (show ¬ (P.length:Int) > P.length by omega),wrap_id (show (-9223372036854775808:Int)≤i+1 by omega) (show i+1≤9223372036854775807 by omega)]
  rw [ha] at h
  simpa [insR] using h
 |u::q,y,R,hk,hl,h=>by
  have e:P++ (u::q).reverse++y::R= (P++q.reverse)++u::y::R:=by simp
  rw [e] at hk hl ⊢
  have hl':(P.length:Int)+q.length+R.length+2≤1000:=by simp at hl;omega
  have hku: 0≤u.f2∧u.f2≤1000:=hk u (by simp)
  have hky: 0≤y.f2∧y.f2≤1000:=hk y (by simp)
  have hlen:(((P++q.reverse)++u::y::R).length:Int)=P.length+q.length+R.length+2:=by simp;omega
  have hpl:((P++q.reverse).length:Int)=P.length+q.length:=by simp
  have hj:((P.length:Int)+ ((u::q).length:Nat))=P.length+q.length+1:=by rw [List.length_cons];omega
  rw [hj]
  have r1:=rd_2nd (P++q.reverse) u y R ((P.length:Int)+q.length+1) (by omega)
  have r2:=rdE_mid (P++q.reverse) u (y::R) ((P.length:Int)+q.length) (by omega)
  have s1:=swap2' (P++q.reverse) u y R ((P.length:Int)+q.length+1) ((P.length:Int)+q.length) (by omega) (by omega)
  have w1:wrap64 ((P.length:Int)+q.length+1 - 1)= (P.length:Int)+q.length:=by rw [wrap_id (by omega) (by omega)];omega
  refine Ev.succ ?_
  simp only [slices_insertionSortCmpFunc_Edge.l1,if_pos (show (P.length:Int)+q.length+1 > a by omega),if_pos (show 0≤ (P.length:Int)+q.length+1 by omega),hlen,if_pos (show (P.length:Int)+q.length+1<P.length+q.length+R.length+2 by omega),w1,if_pos (show 0≤ (P.length:Int)+q.length by omega),if_pos (show (P.length:Int)+q.length<P.length+q.length+R.length+2 by omega),r1,r2,cmpE.f,Option.bind_some,wrap_id (show (-9223372036854775808:Int)≤y.f2 - u.f2 by omega) (show y.f2 - u.f2≤9223372036854775807 by omega),eta3,s1]
  by_cases hlt:y.f2<u.f2
  ·rw [insR,if_pos hlt] at h
   have:=ins_l1 P a b i ha hi X q y (u::R) (by
    intro x hx;refine hk x ?_
    simp only [List.mem_append,List.mem_cons] at hx ⊢
    rcases hx with hx|hx|hx|hx
    ·exact Or.inl hx
    ·exact Or.inr (Or.inr (Or.inl hx))
    ·exact Or.inr (Or.inl hx)
    ·exact Or.inr (Or.inr (Or.inr hx))) (by simp;omega) (by simpa using h)
   simp only [if_pos (show y.f2 - u.f2< 0 by omega)]
   exact this
  ·rw [insR,if_neg hlt] at h
   simp only [if_neg (show ¬ y.f2 - u.f2< 0 by omega),wrap_id (show (-9223372036854775808:Int)≤i+1 by omega) (show i+1≤9223372036854775807 by omega)]
   simpa using h
theorem ins_l0 (P S:List Ed) (a b:Int) (ha:a=P.length):∀ (r q:List Ed),okK (P++q.reverse++r++S)→ (P++q.reverse++r++S).length≤1000→b=P.length+q.length+r.length→
  Ev (fun k=>slices_insertionSortCmpFunc_Edge.l0 k (P++q.reverse++r++S) a b (P.length+q.length)) (P++ (insAll q r).reverse++S)
 | [],q,hk,hl,hb=>by
  refine Ev.succ ?_
  simp only [slices_insertionSortCmpFunc_Edge.l0,if_neg (show ¬ (P.length:Int)+q.length<b by rw [hb];simp),List.append_nil,insAll]
  exact Ev.now _
 |y::r,q,hk,hl,hb=>by
  rw [List.length_cons] at hb
  have e:P++q.reverse++ (y::r)++S=P++q.reverse++y:: (r++S):=by simp
  rw [e] at hk hl ⊢
  have hl':(P.length:Int)+q.length+r.length+S.length+1≤1000:=by simp at hl;omega
  have hst:=(Stab.refl P).app ((insR_stab q y).app (Stab.refl (r++S)))
  have e2:P++ (q.reverse++ [y]++ (r++S))=P++q.reverse++y:: (r++S):=by simp
  rw [e2] at hst
  have e3:P++ ((insR q y).reverse++ (r++S))=P++ (insR q y).reverse++r++S:=by simp
  rw [e3] at hst
  have hrec:=ins_l0 P S a b ha r (insR q y) (hst.ok hk) (by rw [hst.1];exact hl) (by rw [insR_len];omega)
  rw [insR_len] at hrec
  refine Ev.succ ?_
  simp only [slices_insertionSortCmpFunc_Edge.l0,if_pos (show (P.length:Int)+q.length<b by omega)]
  refine ins_l1 P a b _ ha (by omega) _ q y (r++S) hk hl ?_
  rw [← List.append_assoc]
  rw [show ((P.length:Int)+ ((q.length+1:Nat):Int))=P.length+q.length+1 by omega] at hrec
  exact hrec
def insS:List Ed→List Ed
 | []=> []
 |y::r=>(insAll [y] r).reverse
theorem insS_srt:∀ l:List Ed,Srt (insS l)
 | []=>List.Pairwise.nil
 |y::r=>SrtR_rev.2 (insAll_srt r [y] (by simp [SrtR]))
theorem insS_stab:∀ l:List Ed,Stab l (insS l)
 | []=>Stab.refl _
 |y::r=>insAll_stab r [y]
theorem ins_ev (P L S:List Ed) (hk:okK (P++L++S)) (hl:(P++L++S).length≤1000) (z:Int):Ev (fun k=>slices_insertionSortCmpFunc_Edge.f k (P++L++S) P.length (P.length+L.length) z) (P++insS L++S):=by
 have hP:P.length≤1000:=by simp at hl;omega
 unfold slices_insertionSortCmpFunc_Edge.f
 rw [wrap_id (by omega) (by omega)]
 cases L with
 |nil=>
  refine Ev.succ ?_
  simp only [slices_insertionSortCmpFunc_Edge.l0,List.length_nil,if_neg (show ¬ (P.length:Int)+1<P.length+ ((0:Nat):Int) by omega),insS]
  exact Ev.now _
 |cons y r=>
  have:=ins_l0 P S P.length (P.length+ ((y::r).length:Nat)) rfl r [y] (by simpa using hk) (by simpa using hl) (by simp;omega)
  simpa [insS] using this
-- stretches change places
theorem swapR_l (n:Nat) (hn:n≤1000):∀ (A B P M S D E:List Ed) (a b z:Int),A.length=B.length→ (P++D++A++M++E++B++S).length≤1000→a=P.length→b=P.length+D.length+A.length+M.length→D.length=E.length→n=D.length+A.length→
  Ev (fun k=>slices_swapRangeCmpFunc_Edge.l0 k (P++D++A++M++E++B++S) a b n D.length) (P++D++B++M++E++A++S)
 | [],B,P,M,S,D,E,a,b,z,h,hl,ha,hb,hd,hnn=>by
  obtain rfl:B= []:=List.eq_nil_of_length_eq_zero h.symm
  refine Ev.succ ?_
  rw [hnn]
  simp only [slices_swapRangeCmpFunc_Edge.l0,List.length_nil,Nat.add_zero,Int.lt_irrefl,if_false]
  exact Ev.now _
 |u::A,[],P,M,S,D,E,a,b,z,h,hl,ha,hb,hd,hnn=>by simp at h
 |u::A,v::B,P,M,S,D,E,a,b,z,h,hl,ha,hb,hd,hnn=>by
  rw [List.length_cons,List.length_cons] at h
  rw [List.length_cons] at hnn hb
  have hl':P.length+D.length+A.length+M.length+E.length+B.length+S.length+2≤1000:=by simp at hl;omega
  have hlen:((P++D++ (u::A)++M++E++ (v::B)++S).length:Int)=P.length+D.length+A.length+M.length+E.length+B.length+S.length+2:=by simp;omega
  have e1:P++D++ (u::A)++M++E++ (v::B)++S= (P++D)++u:: (A++M++E++ (v::B)++S):=by simp
  have e2:P++D++ (u::A)++M++E++ (v::B)++S= (P++D++ (u::A)++M++E)++v:: (B++S):=by simp
  have ra:rd_T79 (P++D++ (u::A)++M++E++ (v::B)++S) (a+D.length)=u:=by rw [e1];exact rdE_mid _ _ _ _ (by rw [List.length_append];omega)
  have rb:rd_T79 (P++D++ (u::A)++M++E++ (v::B)++S) (b+D.length)=v:=by rw [e2];exact rdE_mid _ _ _ _ (by simp only [List.length_append,List.length_cons];omega)
  have st:((P++D++ (u::A)++M++E++ (v::B)++S).set (a+D.length).toNat v).set (b+D.length).toNat u=P++ (D++ [v])++A++M++ (E++ [u])++B++S:=by
   rw [e1,setE_mid (P++D) u v _ _ (by rw [List.length_append];omega),show (P++D)++v:: (A++M++E++ (v::B)++S)= (P++D++ (v::A)++M++E)++v:: (B++S) by simp,setE_mid _ v u _ _ (by simp only [List.length_append,List.length_cons];omega)]
   simp
  have hrec:=swapR_l n hn A B P M S (D++ [v]) (E++ [u]) a b z (by omega) (by simp;omega) ha (by simp;omega) (by simp;omega) (by simp;omega)
  have wa:wrap64 (a+D.length)=a+D.length:=wrap_id (by omega) (by omega)
  have wb:wrap64 (b+D.length)=b+D.length:=wrap_id (by omega) (by omega)
  have wc:wrap64 ((D.length:Int)+1)= (((D++ [v]).length:Nat):Int):=by rw [wrap_id (by omega) (by omega)];simp
  refine Ev.succ ?_
  simp only [slices_swapRangeCmpFunc_Edge.l0,if_pos (show (D.length:Int)< (n:Int) by omega),wa,wb,wc,hlen,if_pos (show 0≤b+ (D.length:Int) by omega),if_pos (show 0≤a+ (D.length:Int) by omega),if_pos (show b+ (D.length:Int)<P.length+D.length+A.length+M.length+E.length+B.length+S.length+2 by omega),if_pos (show a+ (D.length:Int)<P.length+D.length+A.length+M.length+E.length+B.length+S.length+2 by omega),ra,rb,eta3,st]
  simpa using hrec
theorem swapR_ev (P A M B S:List Ed) (h:A.length=B.length) (hl:(P++A++M++B++S).length≤1000) (a b n z:Int) (ha:a=P.length) (hb:b=P.length+A.length+M.length) (hn:n=A.length):Ev (fun k=>slices_swapRangeCmpFunc_Edge.f k (P++A++M++B++S) a b n z) (P++B++M++A++S):=by
 have hl':A.length≤1000:=by simp at hl;omega
 have:=swapR_l A.length hl' A B P M S [] [] a b z h (by simpa using hl) ha (by simpa using hb) rfl (by simp)
 rw [hn]
 simpa [slices_swapRangeCmpFunc_Edge.f] using this
theorem rot_l (m z:Int):∀ (d:Nat) (P A B S:List Ed),A.length+B.length≤d→1≤A.length→1≤B.length→ (P++A++B++S).length≤1000→m=P.length+A.length→ ∀ (i j:Int),i=A.length→j=B.length→
  Ev (fun k=>slices_rotateCmpFunc_Edge.l0 k (P++A++B++S) m z i j) (P++B++A++S):=by
 intro d
 induction d with
 |zero=>intro P A B S h h1 h2;omega
 |succ d ih=>
  intro P A B S h h1 h2 hl hm i j hi hj
  have hl':P.length+A.length+B.length+S.length≤1000:=by simp at hl;omega
  have w1:wrap64 (m - i)=P.length:=by rw [wrap_id (by omega) (by omega)];omega
  refine Ev.succ ?_
  by_cases he:i=j
  ·have:=swapR_ev P A [] B S (by omega) (by simpa using hl) P.length m i z rfl (by simp;omega) hi
   simp only [slices_rotateCmpFunc_Edge.l0,if_pos he,w1]
   refine Ev.bind (by simpa using this) ?_
   exact Ev.some_ (by simp)
  ·simp only [slices_rotateCmpFunc_Edge.l0,if_neg he,w1]
   by_cases hg:i > j
   ·have eA:A=A.take B.length++A.drop B.length:=(List.take_append_drop _ _).symm
    have l1:(A.take B.length).length=B.length:=by rw [List.length_take];omega
    have l2:(A.drop B.length).length=A.length - B.length:=List.length_drop ..
    generalize A.take B.length=A1 at eA l1
    generalize A.drop B.length=A2 at eA l2
    subst eA
    rw [List.length_append] at h h1 hl' hm hi
    have:=swapR_ev P A1 A2 B S l1 (by simpa using hl) P.length m j z rfl (by omega) (by omega)
    simp only [if_pos hg]
    have e1:P++ (A1++A2)++B++S=P++A1++A2++B++S:=by simp
    rw [e1]
    refine Ev.bind this ?_
    rw [show wrap64 (i - j)=i - j from wrap_id (by omega) (by omega)]
    have hrec:=ih (P++B) A2 A1 S (by omega) (by omega) (by omega) (by simp;omega) (by simp;omega) (i - j) j (by omega) (by omega)
    have e2:P++B++A1++A2++S=P++B++ (A1++A2)++S:=by simp
    rw [← e2]
    exact hrec
   ·have eB:B=B.take (B.length - A.length)++B.drop (B.length - A.length):=(List.take_append_drop _ _).symm
    have l1:(B.take (B.length - A.length)).length=B.length - A.length:=by rw [List.length_take];omega
    have l2:(B.drop (B.length - A.length)).length=A.length:=by rw [List.length_drop];omega
    generalize B.take (B.length - A.length)=B1 at eB l1
    generalize B.drop (B.length - A.length)=B2 at eB l2
    subst eB
    rw [List.length_append] at h h2 hl' hj l1
    have:=swapR_ev P A B1 B2 S l2.symm (by simpa using hl) P.length (m+j - i) i z rfl (by omega) hi
    simp only [if_neg hg,show wrap64 (m+j)=m+j from wrap_id (by omega) (by omega),show wrap64 (m+j - i)=m+j - i from wrap_id (by omega) (by omega)]
    have e1:P++A++ (B1++B2)++S=P++A++B1++B2++S:=by simp
    rw [e1]
    refine Ev.bind this ?_
    rw [show wrap64 (j - i)=j - i from wrap_id (by omega) (by omega)]
    have hrec:=ih P B2 B1 (A++S) (by omega) (by omega) (by omega) (by simp;omega) (by omega) i (j - i) (by omega) (by omega)
    have e2:P++B2++B1++A++S=P++B2++B1++ (A++S):=by simp
    have e3:P++ (B1++B2)++A++S=P++B1++B2++ (A++S):=by simp
    rw [e2,e3]
    exact hrec
theorem rot_ev (P A B S:List Ed) (h1: 1≤A.length) (h2: 1≤B.length) (hl:(P++A++B++S).length≤1000) (a m b z:Int) (ha:a=P.length) (hm:m=P.length+A.length) (hb:b=P.length+A.length+B.length):Ev (fun k=>slices_rotateCmpFunc_Edge.f k (P++A++B++S) a m b z) (P++B++A++S):=by
 have hl':P.length+A.length+B.length+S.length≤1000:=by simp at hl;omega
 unfold slices_rotateCmpFunc_Edge.f
 rw [show wrap64 (m - a)=m - a from wrap_id (by omega) (by omega),show wrap64 (b - m)=b - m from wrap_id (by omega) (by omega)]
 exact rot_l m z (A.length+B.length) P A B S (Nat.le_refl _) h1 h2 hl hm (m - a) (b - m) (by omega) (by omega)
-- one element goes up or down past a stretch
theorem up_l (x:Ed):∀ (B P S:List Ed) (i k:Int),(P++x::B++S).length≤1000→k=P.length→i=P.length+B.length+1→Ev (fun q=>slices_symMergeCmpFunc_Edge.l1 q (P++x::B++S) i k) (P++B++x::S)
 | [],P,S,i,k,hl,hk,hi=>by
  have hl':P.length+S.length+1≤1000:=by simp at hl;omega
  refine Ev.succ ?_
  simp only [slices_symMergeCmpFunc_Edge.l1,show wrap64 (i - 1)=i - 1 from wrap_id (by rw [List.length_nil] at hi;omega) (by rw [List.length_nil] at hi;omega),if_neg (show ¬ k<i - 1 by rw [List.length_nil] at hi;omega)]
  exact Ev.some_ (by simp)
 |y::B,P,S,i,k,hl,hk,hi=>by
  have hl':P.length+B.length+S.length+2≤1000:=by simp at hl;omega
  rw [List.length_cons] at hi
  have e1:P++x:: (y::B)++S=P++x::y:: (B++S):=by simp
  have hlen:((P++x::y:: (B++S)).length:Int)=P.length+B.length+S.length+2:=by simp;omega
  have r1:=rd_2nd P x y (B++S) (k+1) (by omega)
  have r2:=rdE_mid P x (y:: (B++S)) k hk
  have s1:=swap2 P x y (B++S) k (k+1) hk (by omega)
  have hrec:=up_l x B (P++ [y]) S i (k+1) (by simp;omega) (by rw [List.length_append,List.length_singleton];omega) (by rw [List.length_append,List.length_singleton];omega)
  rw [e1]
  refine Ev.succ ?_
  simp only [slices_symMergeCmpFunc_Edge.l1,show wrap64 (i - 1)=i - 1 from wrap_id (by omega) (by omega),if_pos (show k<i - 1 by omega),show wrap64 (k+1)=k+1 from wrap_id (by omega) (by omega),hlen,if_pos (show 0≤k+1 by omega),if_pos (show k+1< (P.length:Int)+B.length+S.length+2 by omega),if_pos (show 0≤k by omega),if_pos (show k< (P.length:Int)+B.length+S.length+2 by omega),r1,r2,eta3,s1]
  simpa using hrec
theorem down_l (x:Ed):∀ (q P S:List Ed) (i k:Int),(P++q.reverse++x::S).length≤1000→i=P.length→k=P.length+q.length→Ev (fun g=>slices_symMergeCmpFunc_Edge.l3 g (P++q.reverse++x::S) i k) (P++x::q.reverse++S)
 | [],P,S,i,k,hl,hi,hk=>by
  refine Ev.succ ?_
  simp only [slices_symMergeCmpFunc_Edge.l3,if_neg (show ¬ k > i by rw [hk,hi];simp)]
  exact Ev.some_ (by simp)
 |u::q,P,S,i,k,hl,hi,hk=>by
  have hl':P.length+q.length+S.length+2≤1000:=by simp at hl;omega
  rw [List.length_cons] at hk
  have e1:P++ (u::q).reverse++x::S= (P++q.reverse)++u::x::S:=by simp
  have hlen:(((P++q.reverse)++u::x::S).length:Int)=P.length+q.length+S.length+2:=by simp;omega
  have hpl:((P++q.reverse).length:Int)=P.length+q.length:=by simp
  have r1:=rd_2nd (P++q.reverse) u x S k (by omega)
  have r2:=rdE_mid (P++q.reverse) u (x::S) (k - 1) (by omega)
  have s1:=swap2' (P++q.reverse) u x S k (k - 1) (by omega) (by omega)
  have hrec:=down_l x q P (u::S) i (k - 1) (by simp;omega) hi (by omega)
  rw [e1]
  refine Ev.succ ?_
  simp only [slices_symMergeCmpFunc_Edge.l3,if_pos (show k > i by omega),show wrap64 (k - 1)=k - 1 from wrap_id (by omega) (by omega),hlen,if_pos (show 0≤k by omega),if_pos (show k< (P.length:Int)+q.length+S.length+2 by omega),if_pos (show 0≤k - 1 by omega),if_pos (show k - 1< (P.length:Int)+q.length+S.length+2 by omega),r1,r2,eta3,s1]
  simpa using hrec
theorem mid_is {i j:Int} (h0: 0≤i) (h1: 0≤j) (h2:i≤1000) (h3:j≤1000):wrap64 ((IntKind.u64.wrap (wrap64 (i+j))) / 2)= (i+j) / 2:=by
 rw [show wrap64 (i+j)=i+j from wrap_id (by omega) (by omega),show IntKind.u64.wrap (i+j)=i+j from ?_,wrap_id (by omega) (by omega)]
 unfold IntKind.wrap
 simp only [IntKind.signed,IntKind.bits,Bool.false_and,Bool.false_eq_true,if_false]
 omega
theorem Srt_app {a b:List Ed} :Srt (a++b)↔Srt a∧Srt b∧ ∀ x ∈ a, ∀ y ∈ b,x.f2≤y.f2:=List.pairwise_append
theorem last_le {a:List Ed} {u:Ed} (h:Srt (a++ [u])):∀ x ∈ a++ [u],x.f2≤u.f2:=by
 intro x hx
 rcases List.mem_append.1 hx with hx|hx
 ·exact(Srt_app.1 h).2.2 x hx u (by simp)
 ·rw [List.mem_singleton] at hx;rw [hx];exact Int.le_refl _
theorem head_le {a:List Ed} {u:Ed} (h:Srt (u::a)):∀ x ∈ u::a,u.f2≤x.f2:=by
 intro x hx
 rcases List.mem_cons.1 hx with hx|hx
 ·rw [hx];exact Int.le_refl _
 ·exact(List.pairwise_cons.1 h).1 x hx
-- the element at a cut
theorem cut_at (L:List Ed) (s:Nat) (hs:s<L.length):∃ u r,L.drop s=u::r∧L=L.take s++u::r:=by
 cases h:L.drop s with
 |nil=>have:=congrArg List.length h;rw [List.length_drop,List.length_nil] at this;omega
 |cons u r=>exact⟨u,r,rfl,by rw [← h,List.take_append_drop]⟩
theorem cut_before (L:List Ed) (s:Nat) (h0: 0<s) (hs:s≤L.length):∃ p u,L.take s=p++ [u]∧p.length+1=s:=by
 rcases nil_or_snoc (L.take s) with h|⟨p,u,h⟩
 ·have:=congrArg List.length h;rw [List.length_take,List.length_nil] at this;omega
 ·have:=congrArg List.length h;rw [List.length_take,List.length_append,List.length_singleton] at this;exact⟨p,u,h,by omega⟩
-- the searches: what holds at the place that they end at
theorem bs0 (X:List Ed) (a i0 j0:Int) (hok:okK X) (hX:X.length≤1000) (h0: 0≤i0) (hj:j0≤X.length) (ha0: 0≤a) (ha1:a<X.length) (R:List Ed)
  (hR:∀ s:Int,i0≤s→s≤j0→ (s=i0∨ (rd_T79 X (s - 1)).f2< (rd_T79 X a).f2)→ (s=j0∨ ¬ (rd_T79 X s).f2< (rd_T79 X a).f2)→Ev (fun k=>slices_symMergeCmpFunc_Edge.l1 k X s a) R):
  ∀ (d:Nat) (i j:Int),j - i≤d→i0≤i→i≤j→j≤j0→ (i=i0∨ (rd_T79 X (i - 1)).f2< (rd_T79 X a).f2)→ (j=j0∨ ¬ (rd_T79 X j).f2< (rd_T79 X a).f2)→Ev (fun k=>slices_symMergeCmpFunc_Edge.l0 k X a i j) R:=by
 have hrd:∀ c:Int,0≤c→c<X.length→0≤ (rd_T79 X c).f2∧ (rd_T79 X c).f2≤1000:=by
  intro c h0 h1
  refine hok _ ?_
  unfold rd_T79
  rw [List.getD_eq_getElem?_getD,List.getElem?_eq_getElem (by omega)]
  exact List.getElem_mem _
 intro d
 induction d with
 |zero=>
  intro i j hd hi hij hj2 hl hr
  have e:i=j:=by omega
  subst e
  refine Ev.succ ?_
  simp only [slices_symMergeCmpFunc_Edge.l0,Int.lt_irrefl,if_false]
  exact hR i hi hj2 hl hr
 |succ d ih=>
  intro i j hd hi hij hj2 hl hr
  by_cases e:i=j
  ·subst e
   refine Ev.succ ?_
   simp only [slices_symMergeCmpFunc_Edge.l0,Int.lt_irrefl,if_false]
   exact hR i hi hj2 hl hr
  ·have hm:=mid_is (i:=i) (j:=j) (by omega) (by omega) (by omega) (by omega)
   have hb:=hrd ((i+j) / 2) (by omega) (by omega)
   have hb2:=hrd a ha0 ha1
   refine Ev.succ ?_
   simp only [slices_symMergeCmpFunc_Edge.l0,if_pos (show i<j by omega),hm,if_pos (show 0≤ (i+j) / 2 by omega),if_pos (show (i+j) / 2< (X.length:Int) by omega),if_pos ha0,if_pos ha1,cmpE.f,Option.bind_some,wrap_id (show (-9223372036854775808:Int)≤ (rd_T79 X ((i+j) / 2)).f2 - (rd_T79 X a).f2 by omega) (show (rd_T79 X ((i+j) / 2)).f2 - (rd_T79 X a).f2≤9223372036854775807 by omega)]
   by_cases hc:(rd_T79 X ((i+j) / 2)).f2< (rd_T79 X a).f2
   ·simp only [if_pos (show (rd_T79 X ((i+j) / 2)).f2 - (rd_T79 X a).f2< 0 by omega),wrap_id (show (-9223372036854775808:Int)≤ (i+j) / 2+1 by omega) (show (i+j) / 2+1≤9223372036854775807 by omega)]
    exact ih _ _ (by omega) (by omega) (by omega) hj2 (Or.inr (by rw [show (i+j) / 2+1 - 1= (i+j) / 2 by omega];exact hc)) hr
   ·simp only [if_neg (show ¬ (rd_T79 X ((i+j) / 2)).f2 - (rd_T79 X a).f2< 0 by omega)]
    exact ih _ _ (by omega) hi (by omega) (by omega) hl (Or.inr hc)
theorem bs2 (X:List Ed) (m i0 j0:Int) (hok:okK X) (hX:X.length≤1000) (h0: 0≤i0) (hj:j0≤X.length) (ha0: 0≤m) (ha1:m<X.length) (R:List Ed)
  (hR:∀ s:Int,i0≤s→s≤j0→ (s=i0∨ ¬ (rd_T79 X m).f2< (rd_T79 X (s - 1)).f2)→ (s=j0∨ (rd_T79 X m).f2< (rd_T79 X s).f2)→Ev (fun k=>slices_symMergeCmpFunc_Edge.l3 k X s m) R):
  ∀ (d:Nat) (i j:Int),j - i≤d→i0≤i→i≤j→j≤j0→ (i=i0∨ ¬ (rd_T79 X m).f2< (rd_T79 X (i - 1)).f2)→ (j=j0∨ (rd_T79 X m).f2< (rd_T79 X j).f2)→Ev (fun k=>slices_symMergeCmpFunc_Edge.l2 k X m i j) R:=by
 have hrd:∀ c:Int,0≤c→c<X.length→0≤ (rd_T79 X c).f2∧ (rd_T79 X c).f2≤1000:=by
  intro c h0 h1
  refine hok _ ?_
  unfold rd_T79
  rw [List.getD_eq_getElem?_getD,List.getElem?_eq_getElem (by omega)]
  exact List.getElem_mem _
 intro d
 induction d with
 |zero=>
  intro i j hd hi hij hj2 hl hr
  have e:i=j:=by omega
  subst e
  refine Ev.succ ?_
  simp only [slices_symMergeCmpFunc_Edge.l2,Int.lt_irrefl,if_false]
  exact hR i hi hj2 hl hr
 |succ d ih=>
  intro i j hd hi hij hj2 hl hr
  by_cases e:i=j
  ·subst e
   refine Ev.succ ?_
   simp only [slices_symMergeCmpFunc_Edge.l2,Int.lt_irrefl,if_false]
   exact hR i hi hj2 hl hr
  ·have hm:=mid_is (i:=i) (j:=j) (by omega) (by omega) (by omega) (by omega)
   have hb:=hrd ((i+j) / 2) (by omega) (by omega)
   have hb2:=hrd m ha0 ha1
   refine Ev.succ ?_
   simp only [slices_symMergeCmpFunc_Edge.l2,if_pos (show i<j by omega),hm,if_pos (show 0≤ (i+j) / 2 by omega),if_pos (show (i+j) / 2< (X.length:Int) by omega),if_pos ha0,if_pos ha1,cmpE.f,Option.bind_some,wrap_id (show (-9223372036854775808:Int)≤ (rd_T79 X m).f2 - (rd_T79 X ((i+j) / 2)).f2 by omega) (show (rd_T79 X m).f2 - (rd_T79 X ((i+j) / 2)).f2≤9223372036854775807 by omega)]
   by_cases hc:(rd_T79 X m).f2< (rd_T79 X ((i+j) / 2)).f2
   ·simp only [if_pos (show (rd_T79 X m).f2 - (rd_T79 X ((i+j) / 2)).f2< 0 by omega)]
    exact ih _ _ (by omega) hi (by omega) (by omega) hl (Or.inr hc)
   ·simp only [if_neg (show ¬ (rd_T79 X m).f2 - (rd_T79 X ((i+j) / 2)).f2< 0 by omega),wrap_id (show (-9223372036854775808:Int)≤ (i+j) / 2+1 by omega) (show (i+j) / 2+1≤9223372036854775807 by omega)]
    exact ih _ _ (by omega) (by omega) (by omega) hj2 (Or.inr (by rw [show (i+j) / 2+1 - 1= (i+j) / 2 by omega];exact hc)) hr
theorem bs4 (X:List Ed) (a m b z mid n p i0 j0:Int) (hok:okK X) (hX:X.length≤1000) (h0: 0≤i0) (hj:j0≤X.length) (hp:∀ c,i0≤c→c<j0→0≤p - c∧p - c<X.length) (hpp: -5000≤p∧p≤5000) (R:List Ed)
  (hR:∀ s:Int,i0≤s→s≤j0→ (s=i0∨ ¬ (rd_T79 X (p - (s - 1))).f2< (rd_T79 X (s - 1)).f2)→ (s=j0∨ (rd_T79 X (p - s)).f2< (rd_T79 X s).f2)→Ev (fun k=>if s<m then(slices_symMergeCmpFunc_Edge.j6 k X a m b z mid s (wrap64 (n - s)) (decide (m< (wrap64 (n - s))))) else(slices_symMergeCmpFunc_Edge.j6 k X a m b z mid s (wrap64 (n - s)) false)) R):
  ∀ (d:Nat) (i j:Int),j - i≤d→i0≤i→i≤j→j≤j0→ (i=i0∨ ¬ (rd_T79 X (p - (i - 1))).f2< (rd_T79 X (i - 1)).f2)→ (j=j0∨ (rd_T79 X (p - j)).f2< (rd_T79 X j).f2)→Ev (fun k=>slices_symMergeCmpFunc_Edge.l4 k X a m b z mid n i j p) R:=by
 have hrd:∀ c:Int,0≤c→c<X.length→0≤ (rd_T79 X c).f2∧ (rd_T79 X c).f2≤1000:=by
  intro c h0 h1
  refine hok _ ?_
  unfold rd_T79
  rw [List.getD_eq_getElem?_getD,List.getElem?_eq_getElem (by omega)]
  exact List.getElem_mem _
 intro d
 induction d with
 |zero=>
  intro i j hd hi hij hj2 hl hr
  have e:i=j:=by omega
  subst e
  refine Ev.succ ?_
  simp only [slices_symMergeCmpFunc_Edge.l4,Int.lt_irrefl,if_false]
  exact hR i hi hj2 hl hr
 |succ d ih=>
  intro i j hd hi hij hj2 hl hr
  by_cases e:i=j
  ·subst e
   refine Ev.succ ?_
   simp only [slices_symMergeCmpFunc_Edge.l4,Int.lt_irrefl,if_false]
   exact hR i hi hj2 hl hr
  ·have hm:=mid_is (i:=i) (j:=j) (by omega) (by omega) (by omega) (by omega)
   have hpc:=hp ((i+j) / 2) (by omega) (by omega)
   have hb:=hrd ((i+j) / 2) (by omega) (by omega)
   have hb2:=hrd (p - (i+j) / 2) hpc.1 hpc.2
   refine Ev.succ ?_
   simp only [slices_symMergeCmpFunc_Edge.l4,if_pos (show i<j by omega),hm,wrap_id (show (-9223372036854775808:Int)≤p - (i+j) / 2 by omega) (show p - (i+j) / 2≤9223372036854775807 by omega),if_pos hpc.1,if_pos hpc.2,if_pos (show 0≤ (i+j) / 2 by omega),if_pos (show (i+j) / 2< (X.length:Int) by omega),cmpE.f,Option.bind_some,wrap_id (show (-9223372036854775808:Int)≤ (rd_T79 X (p - (i+j) / 2)).f2 - (rd_T79 X ((i+j) / 2)).f2 by omega) (show (rd_T79 X (p - (i+j) / 2)).f2 - (rd_T79 X ((i+j) / 2)).f2≤9223372036854775807 by omega)]
   by_cases hc:(rd_T79 X (p - (i+j) / 2)).f2< (rd_T79 X ((i+j) / 2)).f2
   ·simp only [if_pos (show (rd_T79 X (p - (i+j) / 2)).f2 - (rd_T79 X ((i+j) / 2)).f2< 0 by omega)]
    exact ih _ _ (by omega) hi (by omega) (by omega) hl (Or.inr hc)
   ·simp only [if_neg (show ¬ (rd_T79 X (p - (i+j) / 2)).f2 - (rd_T79 X ((i+j) / 2)).f2< 0 by omega),wrap_id (show (-9223372036854775808:Int)≤ (i+j) / 2+1 by omega) (show (i+j) / 2+1≤9223372036854775807 by omega)]
    exact ih _ _ (by omega) (by omega) (by omega) hj2 (Or.inr (by rw [show (i+j) / 2+1 - 1= (i+j) / 2 by omega];exact hc)) hr
-- the three ways to merge
theorem rd_first (P L S:List Ed) (s:Nat) (hs:s<L.length) (i:Int) (hi:i=P.length+s) {u:Ed} {r:List Ed} (h:L.drop s=u::r):rd_T79 (P++L++S) i=u:=by
 have e:L=L.take s++u::r:=by rw [← h,List.take_append_drop]
 have hl:(L.take s).length=s:=by rw [List.length_take];omega
 rw [e,show P++ (L.take s++u::r)++S= (P++L.take s)++u:: (r++S) by simp]
 exact rdE_mid _ _ _ _ (by rw [List.length_append,hl];omega)
theorem rd_before (P L S:List Ed) (s:Nat) (hs:s≤L.length) (i:Int) (hi:i=P.length+s - 1) {p:List Ed} {u:Ed} (h:L.take s=p++ [u]):rd_T79 (P++L++S) i=u:=by
 have e:L=p++ [u]++L.drop s:=by rw [← h,List.take_append_drop]
 have hl:p.length+1=s:=by have:=congrArg List.length h;rw [List.length_take,List.length_append,List.length_singleton] at this;omega
 rw [e,show P++ (p++ [u]++L.drop s)++S= (P++p)++u:: (L.drop s++S) by simp]
 exact rdE_mid _ _ _ _ (by rw [List.length_append];omega)
theorem merge_one (P B S:List Ed) (x:Ed) (hB:Srt B) (hok:okK (P++ (x::B)++S)) (hl:(P++ (x::B)++S).length≤1000):
  ∃ R,Ev (fun k=>slices_symMergeCmpFunc_Edge.l0 k (P++ (x::B)++S) P.length (P.length+1) (P.length+1+B.length)) (P++R++S)∧Srt R∧Stab (x::B) R:=by
 have hlen:((P++ (x::B)++S).length:Int)=P.length+B.length+S.length+1:=by simp;omega
 have hl':P.length+B.length+S.length+1≤1000:=by omega
 have hra:rd_T79 (P++ (x::B)++S) P.length=x:=rd_first P (x::B) S 0 (by simp) P.length (by simp) (u:=x) (r:=B) rfl
 -- what the search finds is the same for each run: the stretch below x
 refine⟨(B.filter fun y=>decide (y.f2<x.f2))++x:: (B.filter fun y=>decide (¬ y.f2<x.f2)),?_,?_,?_⟩
 ·refine bs0 (P++ (x::B)++S) P.length (P.length+1) (P.length+1+B.length) hok hl (by omega) (by rw [hlen];omega) (by omega) (by rw [hlen];omega) _ ?_ (B.length) _ _ (by omega) (by omega) (by omega) (by omega) (Or.inl rfl) (Or.inl rfl)
  intro s hs0 hs1 hlo hhi
  obtain⟨t,rfl⟩ :∃ t:Nat,s=P.length+1+t:=⟨(s - P.length - 1).toNat,by omega⟩
  have ht:t≤B.length:=by omega
  have e1:P++ (x::B)++S= (P++ [x])++B++S:=by simp
  have hbelow:∀ y ∈ B.take t,y.f2<x.f2:=by
   by_cases h0:t=0
   ·subst h0;simp
   ·obtain⟨p,u,e,hp⟩:=cut_before B t (by omega) ht
    have hu:=rd_before (P++ [x]) B S t ht (P.length+1+t - 1) (by simp) e
    rw [← e1] at hu
    rw [hu,hra] at hlo
    have hlt:u.f2<x.f2:=hlo.resolve_left (by omega)
    have hst:Srt (B.take t++B.drop t):=by rw [List.take_append_drop];exact hB
    have hs2:=(Srt_app.1 hst).1
    rw [e] at hs2 ⊢
    intro y hy
    have:=last_le hs2 y hy
    omega
  have habove:∀ y ∈ B.drop t, ¬ y.f2<x.f2:=by
   by_cases h0:t=B.length
   ·subst h0;simp
   ·obtain⟨u,r,e,_⟩:=cut_at B t (by omega)
    have hu:=rd_first (P++ [x]) B S t (by omega) (P.length+1+t) (by simp) e
    rw [← e1] at hu
    rw [hu,hra] at hhi
    have hnl:¬ u.f2<x.f2:=hhi.resolve_left (by omega)
    have hst:Srt (B.take t++B.drop t):=by rw [List.take_append_drop];exact hB
    have hs2:=(Srt_app.1 hst).2.1
    rw [e] at hs2 ⊢
    intro y hy
    have:=head_le hs2 y hy
    omega
  have fa:(B.take t).filter (fun y=>decide (y.f2<x.f2))=B.take t:=List.filter_eq_self.2 (fun y hy=>decide_eq_true (hbelow y hy))
  have fb:(B.drop t).filter (fun y=>decide (y.f2<x.f2))= []:=List.filter_eq_nil_iff.2 (fun y hy=>by simpa using habove y hy)
  have fc:(B.take t).filter (fun y=>decide (¬ y.f2<x.f2))= []:=List.filter_eq_nil_iff.2 (fun y hy=>by simpa using hbelow y hy)
  have fd:(B.drop t).filter (fun y=>decide (¬ y.f2<x.f2))=B.drop t:=List.filter_eq_self.2 (fun y hy=>decide_eq_true (habove y hy))
  have f1:(B.filter fun y=>decide (y.f2<x.f2))=B.take t:=by
   conv=>lhs;rw [← List.take_append_drop t B,List.filter_append,fa,fb,List.append_nil]
  have f2:(B.filter fun y=>decide (¬ y.f2<x.f2))=B.drop t:=by
   conv=>lhs;rw [← List.take_append_drop t B,List.filter_append,fc,fd,List.nil_append]
  rw [f1,f2]
  have:=up_l x (B.take t) P (B.drop t++S) (P.length+1+t) P.length (by rw [show P++x::B.take t++ (B.drop t++S)=P++x:: (B.take t++B.drop t)++S by simp only [List.append_assoc,List.cons_append],List.take_append_drop];simpa using hl) rfl (by rw [List.length_take];omega)
  rw [show P++x::B.take t++ (B.drop t++S)=P++x:: (B.take t++B.drop t)++S by simp only [List.append_assoc,List.cons_append],List.take_append_drop] at this
  rw [show P++ (B.take t++x::B.drop t)++S=P++B.take t++x:: (B.drop t++S) by simp]
  exact this
 ·refine Srt_app.2 ⟨List.Pairwise.filter _ hB,?_,?_⟩
  ·refine List.pairwise_cons.2 ⟨fun y hy=>?_,List.Pairwise.filter _ hB⟩
   have:=of_decide_eq_true (List.mem_filter.1 hy).2
   omega
  ·intro y hy z hz
   have h1:=of_decide_eq_true (List.mem_filter.1 hy).2
   rcases List.mem_cons.1 hz with e|hz
   ·rw [e];omega
   ·have:=of_decide_eq_true (List.mem_filter.1 hz).2
    omega
 ·have hpart:Stab B ((B.filter fun y=>decide (y.f2<x.f2))++B.filter fun y=>decide (¬ y.f2<x.f2)):=by
   refine⟨?_,fun c=>?_⟩
   ·rw [List.length_append,← List.countP_eq_length_filter,← List.countP_eq_length_filter]
    have:=List.length_eq_countP_add_countP (fun y:Ed=>decide (y.f2<x.f2)) (l:=B)
    simp only [decide_not] at this ⊢
    rw [this]
    congr 2
    funext y
    simp
   ·rw [ofK_app]
    unfold ofK
    rw [List.filter_filter,List.filter_filter]
    by_cases hc:c<x.f2
    ·rw [show (B.filter fun y=>decide (y.f2=c) && decide (¬ y.f2<x.f2))= [] from List.filter_eq_nil_iff.2 (fun y _=>by simp;omega),List.append_nil]
     refine List.filter_congr fun y _=>?_
     by_cases h:y.f2=c<;>simp [h];omega
    ·rw [show (B.filter fun y=>decide (y.f2=c) && decide (y.f2<x.f2))= [] from List.filter_eq_nil_iff.2 (fun y _=>by simp;omega),List.nil_append]
     refine List.filter_congr fun y _=>?_
     by_cases h:y.f2=c<;>simp [h];omega
  have h1:Stab ([x]++B) ([x]++ ((B.filter fun y=>decide (y.f2<x.f2))++B.filter fun y=>decide (¬ y.f2<x.f2))):=(Stab.refl [x]).app hpart
  have h2:Stab ([x]++B.filter fun y=>decide (y.f2<x.f2)) ((B.filter fun y=>decide (y.f2<x.f2))++ [x]):=Stab.swap (fun a ha b hb=>by
   rw [List.mem_singleton] at ha
   rw [ha]
   exact of_decide_eq_true (List.mem_filter.1 hb).2)
  have h3:=h2.app (Stab.refl (B.filter fun y=>decide (¬ y.f2<x.f2)))
  rw [← List.append_assoc] at h1
  have h4:=h1.trans h3
  simpa using h4
theorem srt_uniq:∀ (r s:List Ed),Srt r→Srt s→ (∀ c,ofK c r=ofK c s)→r=s
 | [],[],_,_,_=>rfl
 | [],y::s,_,_,h=>by
  have:=h y.f2
  simp [ofK,List.filter_cons] at this
 |x::r,[],_,_,h=>by
  have:=h x.f2
  simp [ofK,List.filter_cons] at this
 |x::r,y::s,hr,hs,h=>by
  have hx:x ∈ ofK x.f2 (y::s):=by rw [← h];exact List.mem_filter.2 ⟨by simp,by simp⟩
  have hy:y ∈ ofK y.f2 (x::r):=by rw [h];exact List.mem_filter.2 ⟨by simp,by simp⟩
  have h1:=head_le hs x (List.mem_filter.1 hx).1
  have h2:=head_le hr y (List.mem_filter.1 hy).1
  have hk:y.f2=x.f2:=by omega
  have hc:=h x.f2
  unfold ofK at hc
  rw [List.filter_cons_of_pos (by simp),List.filter_cons_of_pos (by simp [hk])] at hc
  obtain⟨exy,hc2⟩:=List.cons.inj hc
  subst exy
  have ht:∀ c,ofK c r=ofK c s:=by
   intro c
   by_cases e:x.f2=c
   ·rw [← e];exact hc2
   ·have:=h c
    unfold ofK at this ⊢
    rwa [List.filter_cons_of_neg (by simpa using e),List.filter_cons_of_neg (by simpa using e)] at this
  rw [srt_uniq r s (List.pairwise_cons.1 hr).2 (List.pairwise_cons.1 hs).2 ht]
theorem ins_uniq {l r:List Ed} (h:Srt r) (k:Stab l r):r=insS l:=srt_uniq _ _ h (insS_srt l) (fun c=>(k.2 c).trans ((insS_stab l).2 c).symm)
theorem part_stab (B:List Ed) (k:Int):Stab B ((B.filter fun y=>decide (y.f2<k))++B.filter fun y=>decide (¬ y.f2<k)):=by
 refine⟨?_,fun c=>?_⟩
 ·rw [List.length_append,← List.countP_eq_length_filter,← List.countP_eq_length_filter]
  have:=List.length_eq_countP_add_countP (fun y:Ed=>decide (y.f2<k)) (l:=B)
  simp only [decide_not] at this ⊢
  rw [this]
  congr 2
  funext y
  simp
 ·rw [ofK_app]
  unfold ofK
  rw [List.filter_filter,List.filter_filter]
  by_cases hc:c<k
  ·rw [show (B.filter fun y=>decide (y.f2=c) && decide (¬ y.f2<k))= [] from List.filter_eq_nil_iff.2 (fun y _=>by simp;omega),List.append_nil]
   refine List.filter_congr fun y _=>?_
   by_cases h:y.f2=c<;>simp [h];omega
  ·rw [show (B.filter fun y=>decide (y.f2=c) && decide (y.f2<k))= [] from List.filter_eq_nil_iff.2 (fun y _=>by simp;omega),List.nil_append]
   refine List.filter_congr fun y _=>?_
   by_cases h:y.f2=c<;>simp [h];omega
theorem merge_last (P A S:List Ed) (x:Ed) (hA:Srt A) (hok:okK (P++A++x::S)) (hl:(P++A++x::S).length≤1000):
  Ev (fun k=>slices_symMergeCmpFunc_Edge.l2 k (P++A++x::S) (P.length+A.length) P.length (P.length+A.length)) (P++insS (A++ [x])++S):=by
 have hlen:((P++A++x::S).length:Int)=P.length+A.length+S.length+1:=by simp;omega
 have hl':P.length+A.length+S.length+1≤1000:=by omega
 have hrm:rd_T79 (P++A++x::S) (P.length+A.length)=x:=rdE_mid (P++A) x S _ (by rw [List.length_append];omega)
 have hun:(A.filter fun y=>decide (y.f2<x.f2+1))++x:: (A.filter fun y=>decide (¬ y.f2<x.f2+1))=insS (A++ [x]):=by
  refine ins_uniq ?_ ?_
  ·refine Srt_app.2 ⟨List.Pairwise.filter _ hA,?_,?_⟩
   ·refine List.pairwise_cons.2 ⟨fun y hy=>?_,List.Pairwise.filter _ hA⟩
    have:=of_decide_eq_true (List.mem_filter.1 hy).2
    omega
   ·intro y hy z hz
    have h1:=of_decide_eq_true (List.mem_filter.1 hy).2
    rcases List.mem_cons.1 hz with e|hz
    ·rw [e];omega
    ·have:=of_decide_eq_true (List.mem_filter.1 hz).2
     omega
  ·have h1:=(part_stab A (x.f2+1)).app (Stab.refl [x])
   have h2:Stab ((A.filter fun y=>decide (¬ y.f2<x.f2+1))++ [x]) ([x]++A.filter fun y=>decide (¬ y.f2<x.f2+1)):=Stab.swap (fun a ha b hb=>by
    rw [List.mem_singleton] at hb
    have:=of_decide_eq_true (List.mem_filter.1 ha).2
    rw [hb]
    omega)
   have h3:=(Stab.refl (A.filter fun y=>decide (y.f2<x.f2+1))).app h2
   rw [← List.append_assoc] at h3
   have h4:=h1.trans h3
   simpa using h4
 rw [← hun]
 refine bs2 (P++A++x::S) (P.length+A.length) P.length (P.length+A.length) hok hl (by omega) (by rw [hlen];omega) (by omega) (by rw [hlen];omega) _ ?_ A.length _ _ (by omega) (by omega) (by omega) (by omega) (Or.inl rfl) (Or.inl rfl)
 intro s hs0 hs1 hlo hhi
 obtain⟨t,rfl⟩ :∃ t:Nat,s=P.length+t:=⟨(s - P.length).toNat,by omega⟩
 have ht:t≤A.length:=by omega
 have hst:Srt (A.take t++A.drop t):=by rw [List.take_append_drop];exact hA
 have hbelow:∀ y ∈ A.take t,y.f2<x.f2+1:=by
  by_cases h0:t=0
  ·subst h0;simp
  ·obtain⟨p,u,e,hp⟩:=cut_before A t (by omega) ht
   have hu:=rd_before P A (x::S) t ht (P.length+t - 1) rfl e
   rw [hu,hrm] at hlo
   have hlt:¬ x.f2<u.f2:=hlo.resolve_left (by omega)
   have hs2:=(Srt_app.1 hst).1
   rw [e] at hs2 ⊢
   intro y hy
   have:=last_le hs2 y hy
   omega
 have habove:∀ y ∈ A.drop t, ¬ y.f2<x.f2+1:=by
  by_cases h0:t=A.length
  ·subst h0;simp
  ·obtain⟨u,r,e,_⟩:=cut_at A t (by omega)
   have hu:=rd_first P A (x::S) t (by omega) (P.length+t) rfl e
   rw [hu,hrm] at hhi
   have hnl:x.f2<u.f2:=hhi.resolve_left (by omega)
   have hs2:=(Srt_app.1 hst).2.1
   rw [e] at hs2 ⊢
   intro y hy
   have:=head_le hs2 y hy
   omega
 have fa:(A.take t).filter (fun y=>decide (y.f2<x.f2+1))=A.take t:=List.filter_eq_self.2 (fun y hy=>decide_eq_true (hbelow y hy))
 have fb:(A.drop t).filter (fun y=>decide (y.f2<x.f2+1))= []:=List.filter_eq_nil_iff.2 (fun y hy=>by simpa using habove y hy)
 have fc:(A.take t).filter (fun y=>decide (¬ y.f2<x.f2+1))= []:=List.filter_eq_nil_iff.2 (fun y hy=>by simpa using hbelow y hy)
 have fd:(A.drop t).filter (fun y=>decide (¬ y.f2<x.f2+1))=A.drop t:=List.filter_eq_self.2 (fun y hy=>decide_eq_true (habove y hy))
 have f1:(A.filter fun y=>decide (y.f2<x.f2+1))=A.take t:=by
  conv=>lhs;rw [← List.take_append_drop t A,List.filter_append,fa,fb,List.append_nil]
 have f2:(A.filter fun y=>decide (¬ y.f2<x.f2+1))=A.drop t:=by
  conv=>lhs;rw [← List.take_append_drop t A,List.filter_append,fc,fd,List.nil_append]
 rw [f1,f2]
 have hX:P++A.take t++ (A.drop t).reverse.reverse++x::S=P++A++x::S:=by
  rw [List.reverse_reverse,List.append_assoc P,List.take_append_drop]
 have:=down_l x (A.drop t).reverse (P++A.take t) S (P.length+t) (P.length+A.length) (by rw [hX];exact hl) (by rw [List.length_append,List.length_take];omega) (by rw [List.length_append,List.length_take,List.length_reverse,List.length_drop];omega)
 rw [hX,List.reverse_reverse] at this
 rw [show P++ (A.take t++x::A.drop t)++S=P++A.take t++x::A.drop t++S by simp only [List.append_assoc,List.cons_append]]
 exact this
theorem merge_one' (P B S:List Ed) (x:Ed) (hB:Srt B) (hok:okK (P++ (x::B)++S)) (hl:(P++ (x::B)++S).length≤1000):
  Ev (fun k=>slices_symMergeCmpFunc_Edge.l0 k (P++ (x::B)++S) P.length (P.length+1) (P.length+1+B.length)) (P++insS (x::B)++S):=by
 obtain⟨R,h,h1,h2⟩:=merge_one P B S x hB hok hl
 rw [← ins_uniq h1 h2]
 exact h
theorem okK_perm {a b:List Ed} (h:okK a) (hs:∀ x ∈ b,x ∈ a):okK b:=fun x hx=>h x (hs x hx)
theorem sym_ev (z:Int):∀ (d:Nat) (P A B S:List Ed),A.length+B.length≤d→1≤A.length→1≤B.length→Srt A→Srt B→okK (P++A++B++S)→ (P++A++B++S).length≤1000→
  Ev (fun k=>slices_symMergeCmpFunc_Edge.f k (P++A++B++S) P.length (P.length+A.length) (P.length+A.length+B.length) z) (P++insS (A++B)++S):=by
 intro d
 induction d with
 |zero=>intro P A B S h h1 h2;omega
 |succ d ih=>
  intro P A B S h h1 h2 hA hB hok hl
  have hl':P.length+A.length+B.length+S.length≤1000:=by simp at hl;omega
  have hlen:((P++A++B++S).length:Int)=P.length+A.length+B.length+S.length:=by simp;omega
  have wma:wrap64 ((P.length:Int)+A.length - P.length)=A.length:=by rw [wrap_id (by omega) (by omega)];omega
  have wbm:wrap64 ((P.length:Int)+A.length+B.length - (P.length+A.length))=B.length:=by rw [wrap_id (by omega) (by omega)];omega
  refine Ev.succ ?_
  by_cases c1:(A.length:Int)=1
  ·obtain⟨x,rfl⟩ :∃ x,A= [x]:=by
    cases A with
    |nil=>simp at c1
    |cons x A=>cases A with
     |nil=>exact⟨x,rfl⟩
     |cons y A=>simp at c1;omega
   have e:P++ [x]++B++S=P++ (x::B)++S:=by simp
   have:=merge_one' P B S x hB (by rw [← e];exact hok) (by rw [← e];exact hl)
   simp only [slices_symMergeCmpFunc_Edge.f,wma,if_pos c1]
   rw [e]
   exact this
  by_cases c2:(B.length:Int)=1
  ·obtain⟨x,rfl⟩ :∃ x,B= [x]:=by
    cases B with
    |nil=>simp at c2
    |cons x B=>cases B with
     |nil=>exact⟨x,rfl⟩
     |cons y B=>simp at c2;omega
   have e:P++A++ [x]++S=P++A++x::S:=by simp
   have:=merge_last P A S x hA (by rw [← e];exact hok) (by rw [← e];exact hl)
   simp only [slices_symMergeCmpFunc_Edge.f,wma,wbm,if_neg c1,if_pos c2]
   rw [e]
   exact this
  have hmid:=mid_is (i:=P.length) (j:=(P.length:Int)+A.length+B.length) (by omega) (by omega) (by omega) (by omega)
  obtain⟨mid,hmd⟩ :∃ mid:Int,mid= ((P.length:Int)+ ((P.length:Int)+A.length+B.length)) / 2:=⟨_,rfl⟩
  rw [← hmd] at hmid
  have wn:wrap64 (mid+ (P.length+A.length))=mid+ (P.length+A.length):=wrap_id (by omega) (by omega)
  -- where the cut may lie
  have key:∀ lo hi:Int,lo≤hi→ (P.length:Int)≤lo→hi≤P.length+A.length→hi≤mid→mid+ (P.length+A.length) - (P.length+A.length+B.length)≤lo→
    (lo=P.length∨lo=mid+ (P.length+A.length) - (P.length+A.length+B.length))→ (hi=P.length+A.length∨hi=mid)→
    Ev (fun k=>slices_symMergeCmpFunc_Edge.j4 k (P++A++B++S) P.length (P.length+A.length) (P.length+A.length+B.length) z mid (mid+ (P.length+A.length)) lo hi) (P++insS (A++B)++S):=by
   intro lo hi hlh hlo1 hhi1 hhi2 hlo2 hloC hhiC
   refine Ev.succ ?_
   simp only [slices_symMergeCmpFunc_Edge.j4,wrap_id (show (-9223372036854775808:Int)≤mid+ (P.length+A.length) - 1 by omega) (show mid+ (P.length+A.length) - 1≤9223372036854775807 by omega)]
   refine bs4 (P++A++B++S) P.length (P.length+A.length) (P.length+A.length+B.length) z mid (mid+ (P.length+A.length)) (mid+ (P.length+A.length) - 1) lo hi hok hl (by omega) (by rw [hlen];omega) (fun c h0 h1=>by rw [hlen];omega) (by omega) _ ?_ (hi - lo).toNat lo hi (by omega) (by omega) hlh (by omega) (Or.inl rfl) (Or.inl rfl)
   intro s hs0 hs1 hlo hhi
   obtain⟨t,rfl⟩ :∃ t:Nat,s=P.length+t:=⟨(s - P.length).toNat,by omega⟩
   obtain⟨u,hu⟩ :∃ u:Nat,mid+ (P.length+A.length) - (P.length+t)=P.length+A.length+u:=⟨(mid - P.length - t).toNat,by omega⟩
   have ht:t≤A.length:=by omega
   have hub:u≤B.length:=by omega
   have hsA:Srt (A.take t++A.drop t):=by rw [List.take_append_drop];exact hA
   have hsB:Srt (B.take u++B.drop u):=by rw [List.take_append_drop];exact hB
   have eX:P++A++B++S=P++A++ (B++S):=by simp
   have eX2:P++A++B++S= (P++A)++B++S:=rfl
   have h12:∀ x ∈ A.drop t, ∀ y ∈ B.take u,y.f2<x.f2:=by
    by_cases e1:t=A.length
    ·subst e1;simp
    by_cases e2:u=0
    ·subst e2;simp
    have hne:¬ ((P.length:Int)+t=hi):=by omega
    have hk:=hhi.resolve_left hne
    obtain⟨v,r,ev,_⟩:=cut_at A t (by omega)
    obtain⟨p,w,ew,_⟩:=cut_before B u (by omega) hub
    rw [eX,rd_first P A (B++S) t (by omega) (P.length+t) rfl ev,← eX,rd_before (P++A) B S u hub (mid+ (P.length+A.length) - 1 - (P.length+t)) (by rw [List.length_append];omega) ew] at hk
    have h1:=(Srt_app.1 hsA).2.1
    have h2:=(Srt_app.1 hsB).1
    rw [ev] at h1 ⊢
    rw [ew] at h2 ⊢
    intro x hx y hy
    have:=head_le h1 x hx
    have:=last_le h2 y hy
    omega
   have h21:∀ x ∈ A.take t, ∀ y ∈ B.drop u,x.f2≤y.f2:=by
    by_cases e1:t=0
    ·subst e1;simp
    by_cases e2:u=B.length
    ·subst e2;simp
    have hne:¬ ((P.length:Int)+t=lo):=by omega
    have hk:=hlo.resolve_left hne
    obtain⟨v,r,ev,_⟩:=cut_at B u (by omega)
    obtain⟨p,w,ew,_⟩:=cut_before A t (by omega) ht
    rw [eX,rd_before P A (B++S) t ht (P.length+t - 1) rfl ew,← eX,rd_first (P++A) B S u (by omega) (mid+ (P.length+A.length) - 1 - (P.length+t - 1)) (by rw [List.length_append];omega) ev] at hk
    have h1:=(Srt_app.1 hsB).2.1
    have h2:=(Srt_app.1 hsA).1
    rw [ev] at h1 ⊢
    rw [ew] at h2 ⊢
    intro x hx y hy
    have:=head_le h1 y hy
    have:=last_le h2 x hx
    omega
   have l1:(A.take t).length=t:=by rw [List.length_take];omega
   have l2:(A.drop t).length=A.length - t:=List.length_drop ..
   have l3:(B.take u).length=u:=by rw [List.length_take];omega
   have l4:(B.drop u).length=B.length - u:=List.length_drop ..
   have eA:A=A.take t++A.drop t:=(List.take_append_drop _ _).symm
   have eB:B=B.take u++B.drop u:=(List.take_append_drop _ _).symm
   have hsA1:=(Srt_app.1 hsA).1
   have hsA2:=(Srt_app.1 hsA).2.1
   have hA12:=(Srt_app.1 hsA).2.2
   have hsB1:=(Srt_app.1 hsB).1
   have hsB2:=(Srt_app.1 hsB).2.1
   have hB12:=(Srt_app.1 hsB).2.2
   have hnA:A.length=t+ (A.length - t):=by omega
   have hnB:B.length=u+ (B.length - u):=by omega
   generalize hA1:A.take t=A1 at *
   generalize hA2:A.drop t=A2 at *
   generalize hB1:B.take u=B1 at *
   generalize hB2:B.drop u=B2 at *
   clear hA1 hA2 hB1 hB2 hsA hsB hlo hhi
   -- the list behind the rotation
   have hX':okK (P++A1++B1++ (A2++B2++S)):=by
    refine okK_perm hok fun x hx=>?_
    rw [eA,eB]
    simp only [List.mem_append] at hx ⊢
    rcases hx with ((hx|hx)|hx)|(hx|hx)|hx
    ·exact Or.inl (Or.inl (Or.inl hx))
    ·exact Or.inl (Or.inl (Or.inr (Or.inl hx)))
    ·exact Or.inl (Or.inr (Or.inl hx))
    ·exact Or.inl (Or.inl (Or.inr (Or.inr hx)))
    ·exact Or.inl (Or.inr (Or.inr hx))
    ·exact Or.inr hx
   have hXl:(P++A1++B1++ (A2++B2++S)).length≤1000:=by simp only [List.length_append];omega
   have hst1:=insS_stab (A1++B1)
   have hst2:=insS_stab (A2++B2)
   have hYok:okK (P++insS (A1++B1)++A2++B2++S):=by
    refine okK_perm hX' fun x hx=>?_
    simp only [List.mem_append] at hx ⊢
    rcases hx with (((hx|hx)|hx)|hx)|hx
    ·exact Or.inl (Or.inl (Or.inl hx))
    ·rcases List.mem_append.1 (hst1.mem hx) with hx|hx
     ·exact Or.inl (Or.inl (Or.inr hx))
     ·exact Or.inl (Or.inr hx)
    ·exact Or.inr (Or.inl (Or.inl hx))
    ·exact Or.inr (Or.inl (Or.inr hx))
    ·exact Or.inr (Or.inr hx)
   have hil:(insS (A1++B1)).length=t+u:=by rw [hst1.1,List.length_append,l1,l3]
   have hYl:(P++insS (A1++B1)++A2++B2++S).length≤1000:=by simp only [List.length_append];omega
   have hfin:insS (A1++B1)++insS (A2++B2)=insS (A++B):=by
    refine ins_uniq (Srt_app.2 ⟨insS_srt _,insS_srt _,fun x hx y hy=>?_⟩) ?_
    ·rcases List.mem_append.1 (hst1.mem hx) with hx|hx<;>rcases List.mem_append.1 (hst2.mem hy) with hy|hy
     ·exact hA12 x hx y hy
     ·exact h21 x hx y hy
     ·have:=h12 y hy x hx;omega
     ·exact hB12 x hx y hy
    ·have s1:Stab (A2++B1) (B1++A2):=Stab.swap h12
     have s2:=((Stab.refl A1).app s1).app (Stab.refl B2)
     have s3:=s2.trans (by
      have:=hst1.app hst2
      rw [show A1++ (B1++A2)++B2=A1++B1++ (A2++B2) by simp]
      exact this)
     rw [eA,eB,show A1++A2++ (B1++B2)=A1++ (A2++B1)++B2 by simp]
     exact s3
   have hm2:mid=P.length+t+u:=by omega
   -- the second recursion
   have tail2:Ev (fun k=>if mid< (P.length:Int)+A.length+u then(if (P.length:Int)+A.length+u< (P.length:Int)+A.length+B.length then((slices_symMergeCmpFunc_Edge.f k (P++insS (A1++B1)++A2++B2++S) mid ((P.length:Int)+A.length+u) ((P.length:Int)+A.length+B.length) z).bind fun t733=>(some t733)) else(some (P++insS (A1++B1)++A2++B2++S))) else(some (P++insS (A1++B1)++A2++B2++S))) (P++insS (A++B)++S):=by
    by_cases e1:mid< (P.length:Int)+A.length+u
    ·simp only [if_pos e1]
     by_cases e2:(P.length:Int)+A.length+u< (P.length:Int)+A.length+B.length
     ·simp only [if_pos e2]
      have:=ih (P++insS (A1++B1)) A2 B2 S (by omega) (by omega) (by omega) hsA2 hsB2 hYok hYl
      rw [List.length_append,hil,show (((P.length+ (t+u):Nat):Int))=mid by omega,show mid+ (A2.length:Int)= (P.length:Int)+A.length+u by omega,show (P.length:Int)+A.length+u+ (B2.length:Int)= (P.length:Int)+A.length+B.length by omega,show P++insS (A1++B1)++insS (A2++B2)++S=P++insS (A++B)++S by rw [← hfin];simp] at this
      exact Ev.bind this (Ev.now _)
     ·simp only [if_neg e2]
      have hB2:B2= []:=List.eq_nil_of_length_eq_zero (by omega)
      refine Ev.some_ ?_
      rw [← hfin,← ins_uniq (l:=A2++B2) (r:=A2++B2) (by rw [hB2,List.append_nil];exact hsA2) (Stab.refl _)]
      simp
    ·simp only [if_neg e1]
     have hA2:A2= []:=List.eq_nil_of_length_eq_zero (by omega)
     refine Ev.some_ ?_
     rw [← hfin,← ins_uniq (l:=A2++B2) (r:=A2++B2) (by rw [hA2,List.nil_append];exact hsB2) (Stab.refl _)]
     simp
   -- the first
   have hj7:Ev (fun k=>slices_symMergeCmpFunc_Edge.j7 k (P++A1++B1++ (A2++B2++S)) P.length (P.length+A.length+B.length) z mid (P.length+t) ((P.length:Int)+A.length+u)) (P++insS (A++B)++S):=by
    have same:A1= []∨B1= []→P++A1++B1++ (A2++B2++S)=P++insS (A1++B1)++A2++B2++S:=by
     intro hc
     rw [← ins_uniq (l:=A1++B1) (r:=A1++B1) ?_ (Stab.refl _)]
     ·simp
     ·rcases hc with e|e
      ·rw [e,List.nil_append];exact hsB1
      ·rw [e,List.append_nil];exact hsA1
    have hno:A1= []∨B1= []→Ev (fun k=>slices_symMergeCmpFunc_Edge.j8 k (P++A1++B1++ (A2++B2++S)) P.length (P.length+A.length+B.length) z mid (P.length+t) ((P.length:Int)+A.length+u) false) (P++insS (A++B)++S):=by
     intro hc
     rw [same hc]
     refine Ev.succ ?_
     simp only [slices_symMergeCmpFunc_Edge.j8,Bool.false_eq_true,if_false]
     exact tail2
    refine Ev.succ ?_
    by_cases e1:(P.length:Int)<P.length+t
    ·simp only [slices_symMergeCmpFunc_Edge.j7,if_pos e1]
     by_cases e2:(P.length:Int)+t<mid
     ·rw [decide_eq_true e2]
      refine Ev.succ ?_
      simp only [slices_symMergeCmpFunc_Edge.j8,if_true]
      have:=ih P A1 B1 (A2++B2++S) (by omega) (by omega) (by omega) hsA1 hsB1 hX' hXl
      rw [l1,l3,show (P.length:Int)+t+u=mid by omega] at this
      refine Ev.bind this ?_
      rw [show P++insS (A1++B1)++ (A2++B2++S)=P++insS (A1++B1)++A2++B2++S by simp]
      exact tail2
     ·rw [decide_eq_false e2]
      exact hno (Or.inr (List.eq_nil_of_length_eq_zero (by omega)))
    ·simp only [slices_symMergeCmpFunc_Edge.j7,if_neg e1]
     exact hno (Or.inl (List.eq_nil_of_length_eq_zero (by omega)))
   have we:wrap64 (mid+ (P.length+A.length) - (P.length+t))= (P.length:Int)+A.length+u:=by rw [wrap_id (by omega) (by omega)];omega
   have eXs:P++A++B++S= (P++A1)++A2++B1++ (B2++S):=by rw [eA,eB];simp
   have hsame:A2= []∨B1= []→P++A++B++S=P++A1++B1++ (A2++B2++S):=by
    intro hc
    rw [eXs]
    rcases hc with e|e<;>rw [e]<;>simp
   have hj6:A2= []∨B1= []→Ev (fun k=>slices_symMergeCmpFunc_Edge.j6 k (P++A++B++S) P.length (P.length+A.length) (P.length+A.length+B.length) z mid (P.length+t) ((P.length:Int)+A.length+u) false) (P++insS (A++B)++S):=by
    intro hc
    rw [hsame hc]
    refine Ev.succ ?_
    simp only [slices_symMergeCmpFunc_Edge.j6,Bool.false_eq_true,if_false]
    exact hj7
   simp only [we]
   by_cases e1:(P.length:Int)+t<P.length+A.length
   ·simp only [if_pos e1]
    by_cases e2:(P.length:Int)+A.length<P.length+A.length+u
    ·rw [decide_eq_true e2]
     refine Ev.succ ?_
     simp only [slices_symMergeCmpFunc_Edge.j6,if_true]
     have:=rot_ev (P++A1) A2 B1 (B2++S) (by omega) (by omega) (by rw [← eXs];exact hl) (P.length+t) (P.length+A.length) ((P.length:Int)+A.length+u) z (by rw [List.length_append];omega) (by rw [List.length_append];omega) (by rw [List.length_append];omega)
     rw [← eXs,show P++A1++B1++A2++ (B2++S)=P++A1++B1++ (A2++B2++S) by simp] at this
     exact Ev.bind this hj7
    ·rw [decide_eq_false e2]
     exact hj6 (Or.inr (List.eq_nil_of_length_eq_zero (by omega)))
   ·simp only [if_neg e1]
    exact hj6 (Or.inl (List.eq_nil_of_length_eq_zero (by omega)))
  simp only [slices_symMergeCmpFunc_Edge.f,wma,wbm,if_neg c1,if_neg c2,hmid,wn]
  by_cases hg:(P.length:Int)+A.length > mid
  ·simp only [if_pos hg,wrap_id (show (-9223372036854775808:Int)≤mid+ (P.length+A.length) - (P.length+A.length+B.length) by omega) (show mid+ (P.length+A.length) - (P.length+A.length+B.length)≤9223372036854775807 by omega)]
   exact key _ _ (by omega) (by omega) (by omega) (by omega) (by omega) (Or.inr rfl) (Or.inr rfl)
  ·simp only [if_neg hg]
   exact key _ _ (by omega) (by omega) (by omega) (by omega) (by omega) (Or.inl rfl) (Or.inl rfl)
-- the whole sort
theorem stable_ev (l:List Ed) (hok:okK l) (hl:l.length≤40) (z:Int):Ev (fun k=>slices_stableCmpFunc_Edge.f k l l.length z) (insS l):=by
 unfold slices_stableCmpFunc_Edge.f
 have done:∀ (X:List Ed) (n b:Int), ¬ b<n→Ev (fun k=>slices_stableCmpFunc_Edge.l1 k X n z b) X:=by
  intro X n b h
  refine Ev.succ ?_
  simp only [slices_stableCmpFunc_Edge.l1,if_neg h]
  exact Ev.now _
 by_cases h20:(20:Int)≤l.length
 ·have eL:l=l.take 20++l.drop 20:=(List.take_append_drop _ _).symm
  have l1:(l.take 20).length=20:=by rw [List.length_take];omega
  have l2:(l.drop 20).length=l.length - 20:=List.length_drop ..
  generalize l.take 20=L1 at eL l1
  generalize l.drop 20=L2 at eL l2
  subst eL
  have hnl:(L1++L2).length=20+L2.length:=by rw [List.length_append,l1]
  rw [hnl] at h20 hl ⊢
  have st1:=insS_stab L1
  have st2:=insS_stab L2
  have hok1:okK (insS L1++L2):=(st1.app (Stab.refl L2)).ok hok
  have hok2:okK (insS L1++insS L2):=(st1.app st2).ok hok
  have hi1:(insS L1).length=20:=by rw [st1.1,l1]
  have hi2:(insS L2).length=L2.length:=st2.1
  have hfin:insS (insS L1++insS L2)=insS (L1++L2):=ins_uniq (insS_srt _) ((st1.app st2).trans (insS_stab _))
  have i1:=ins_ev [] L1 L2 (by simpa using hok) (by simp;omega) z
  rw [List.length_nil,l1] at i1
  have i2:=ins_ev (insS L1) L2 [] (by simpa using hok1) (by simp;omega) z
  rw [hi1,List.append_nil,List.append_nil] at i2
  -- behind both
  have hl1:Ev (fun k=>slices_stableCmpFunc_Edge.l1 k (insS L1++insS L2) ((20+L2.length:Nat):Int) z 20) (insS (L1++L2)):=by
   by_cases hz:L2.length=0
   ·have:L2= []:=List.eq_nil_of_length_eq_zero hz
    subst this
    have:=done (insS L1++insS []) ((20+ ([] :List Ed).length:Nat):Int) 20 (by simp)
    rw [show insS L1++insS []=insS (L1++ []) by simp [insS]] at this ⊢
    exact this
   ·have hs:=sym_ev z 40 [] (insS L1) (insS L2) [] (by omega) (by omega) (by omega) (insS_srt _) (insS_srt _) (by simpa using hok2) (by simp;omega)
    rw [List.length_nil,hi1,hi2] at hs
    refine Ev.succ ?_
    simp only [slices_stableCmpFunc_Edge.l1,if_pos (show (20:Int)< ((20+L2.length:Nat):Int) by omega),show wrap64 (2 * 20)=40 by unfold wrap64;omega]
    refine Ev.succ ?_
    by_cases h40:(40:Int)≤ ((20+L2.length:Nat):Int)
    ·have h40':L2.length=20:=by omega
     simp only [slices_stableCmpFunc_Edge.l2,if_pos h40,show wrap64 (0+20)=20 by unfold wrap64;omega,show wrap64 (2 * 20)=40 by unfold wrap64;omega,show wrap64 (40+40)=80 by unfold wrap64;omega]
     rw [h40'] at hs ⊢
     refine Ev.bind (a:=insS (L1++L2)) (by
      have e:insS (L1++L2)= ([] :List Ed)++insS (insS L1++insS L2)++ []:=by rw [hfin];simp
      rw [e]
      simpa using hs) ?_
     refine Ev.succ ?_
     simp only [slices_stableCmpFunc_Edge.l2,if_neg (show ¬ (80:Int)≤ ((20+20:Nat):Int) by decide),show wrap64 (40+20)=60 by unfold wrap64;omega,if_neg (show ¬ (60:Int)< ((20+20:Nat):Int) by decide),show wrap64 (20 * 2)=40 by unfold wrap64;omega]
     exact done _ _ _ (by decide)
    ·simp only [slices_stableCmpFunc_Edge.l2,if_neg h40,show wrap64 (0+20)=20 by unfold wrap64;omega,if_pos (show (20:Int)< ((20+L2.length:Nat):Int) by omega),show wrap64 (20 * 2)=40 by unfold wrap64;omega]
     refine Ev.bind (a:=insS (L1++L2)) (by
      have e:insS (L1++L2)= ([] :List Ed)++insS (insS L1++insS L2)++ []:=by rw [hfin];simp
      rw [e,show ((20+L2.length:Nat):Int)=0+20+L2.length by omega]
      simpa using hs) ?_
     exact done _ _ _ (by omega)
  refine Ev.succ ?_
  simp only [slices_stableCmpFunc_Edge.l0,if_pos h20,show wrap64 (20+20)=40 by unfold wrap64;omega]
  refine Ev.bind (a:=insS L1++L2) (by simpa using i1) ?_
  refine Ev.succ ?_
  by_cases h40:(40:Int)≤ ((20+L2.length:Nat):Int)
  ·have h40':L2.length=20:=by omega
   simp only [slices_stableCmpFunc_Edge.l0,if_pos h40,show wrap64 (40+20)=60 by unfold wrap64;omega]
   refine Ev.bind (a:=insS L1++insS L2) (by rw [h40'] at i2;simpa using i2) ?_
   refine Ev.succ ?_
   simp only [slices_stableCmpFunc_Edge.l0,if_neg (show ¬ (60:Int)≤ ((20+L2.length:Nat):Int) by omega)]
   have i3:=ins_ev (insS L1++insS L2) [] [] (by simpa using hok2) (by simp;omega) z
   rw [show (insS L1++insS L2).length=40 by rw [List.length_append,hi1,hi2,h40']] at i3
   refine Ev.bind (a:=insS L1++insS L2) (by rw [h40'];simpa [insS] using i3) ?_
   exact hl1
  ·simp only [slices_stableCmpFunc_Edge.l0,if_neg h40]
   refine Ev.bind (a:=insS L1++insS L2) (by rw [show ((20+L2.length:Nat):Int)=20+L2.length by omega];simpa using i2) ?_
   exact hl1
 ·have i1:=ins_ev [] l [] (by simpa using hok) (by simp;omega) z
  refine Ev.succ ?_
  simp only [slices_stableCmpFunc_Edge.l0,if_neg h20]
  refine Ev.bind (a:=insS l) (by simpa using i1) ?_
  exact done _ _ _ (by omega)
theorem sortS_ev (l:List Ed) (hok:okK l) (hl:l.length≤40) (z:Int):Ev (fun k=>slices_SortStableFunc_Edge.f k l z) (insS l):=by
 unfold slices_SortStableFunc_Edge.f
 exact Ev.bind (stable_ev l hok hl z) (Ev.now _)
theorem rd_mid (pre:List Int) (x:Int) (suf:List Int):rd (pre++x::suf) (pre.length:Int)=x:=getD_mid _ pre x suf
-- sweeps over a list of numbers, and a list taken over, both sides
theorem specIn (a b c:Int):spec_l1In.f a b c=some (decide (b≤a∧a≤c)):=by
 unfold spec_l1In.f
 by_cases h:a≥b
 ·rw [if_pos h]
  congr 1
  by_cases h2:a≤c
  ·rw [decide_eq_true h2,decide_eq_true ⟨h,h2⟩]
  ·rw [decide_eq_false h2,decide_eq_false (fun hc=>h2 hc.2)]
 ·rw [if_neg h,decide_eq_false (fun hc=>h hc.1)]
theorem implIn (a b c:Int):impl_in.f a b c=some (decide (b≤a∧a≤c)):=specIn a b c
def allIn (a b:Int) (l:List Int):Bool:=l.all fun x=>decide (a≤x∧x≤b)
theorem implAll_l (a b:Int) (suf:List Int):∀ (pre:List Int),((pre++suf).length:Int)≤1099511627776→Ev (fun k=>impl_allIn.l0 k a b (pre++suf) ((pre++suf).length:Int) pre.length) (allIn a b suf):=by
 induction suf with
 |nil=>
  intro pre h
  refine Ev.succ ?_
  simp only [impl_allIn.l0,List.append_nil,Int.lt_irrefl,if_false]
  exact Ev.now _
 |cons x suf ih=>
  intro pre h
  refine Ev.succ ?_
  rw [len_mid] at h ⊢
  simp only [impl_allIn.l0]
  simp only [if_pos (show ((pre.length:Int)<pre.length+suf.length+1) by omega),if_pos (show (0:Int)≤pre.length by omega),len_mid,rd_mid,implIn,Option.bind_some,wrap_id (show (-9223372036854775808:Int)≤pre.length+1 by omega) (show ((pre.length:Int)+1≤9223372036854775807) by omega)]
  by_cases hx:a≤x∧x≤b
  ·have:=ih (pre++ [x]) (by rw [← app_one,len_mid];exact h)
   rw [← app_one,len_mid,len_one] at this
   simp only [hx,and_self,decide_true,if_true]
   rw [show allIn a b (x::suf)=allIn a b suf by simp [allIn,hx]]
   exact this
  ·simp only [decide_eq_true_eq,if_neg hx]
   rw [show allIn a b (x::suf)=false by simp [allIn];intro h1 h2;exact absurd ⟨h1,h2⟩ hx]
   exact Ev.now _
theorem implAll_ev (a b:Int) (l:List Int) (h:(l.length:Int)≤1099511627776):Ev (fun k=>impl_allIn.f k l a b) (allIn a b l):=by
 have:=implAll_l a b l [] h
 exact this
end Go.Proofs.Ytedegfbheihopaa.P
