/- Functions, walks and plain lemmas that the law FnLeastTree reaches, part 6. -/
import Derived.Test.YtedegfbheihopaaCFnLeastTree5
import Derived.Below
import Derived.Deep.Draws
import Derived.Deep.AppendLies
import Derived.Maps.AppendAt
import Derived.OwnWalk
import Derived.Laws.BytesArg
import Derived.Laws.MakeOwn
import Derived.Laws.OwnMore
import Derived.Deep.OwnRows
import Derived.Tactics
import Derived.Lib.ConvBytes
import Derived.Laws.Slices
import Derived.WalkKit
import Derived.KernelRfl
import Derived.RowKit3
import Derived.Deep.LoopGhost
import Derived.Deep.QuietTactic
import Derived.BigQuiet
import Derived.WideLaws
import Derived.Deep.DeepCutAuto
import Derived.Deep.CutBlock
import Derived.Deep.RegionHeld3
import Derived.Laws.Rows
import Derived.Lib.AppendStr
import Derived.ArgAppend
import Derived.Laws.IdiomCopy
import Derived.OrdersHeld
import Derived.Laws.BitsLemmas
import Derived.RowKit
import Derived.WalkSpells
import Derived.Lib.SliceRun
import Derived.Shelf.Abstract
import Derived.Maps.OwnSet
import Derived.Maps.OwnOps
import Derived.ProofKit
import Derived.OpenShut
import Derived.ShutString
import Derived.ChangeOld
import Derived.SizedLaws
namespace Go.Proofs.Ytedegfbheihopaa.P
open Go.RowKit Go.Proofs.YtedegfbheihopaaW.PrintWords Go.Proofs.YtedegfbheihopaaW.PrintLast Go.Proofs.YtedegfbheihopaaW.PrintMore
attribute [local go_sem] max2_int min2_int max_two min_two max_three min_three max_four min_four   -- for this text's walks alone
set_option linter.unusedVariables false
set_option linter.unusedSimpArgs false
theorem goesV_ {P : Program} {ops : Array Oper} {Q : Exit → Act → World → Prop} {oi : Oper} {N : Option Tmp} {a : Act} {w : World} {K : Act → World → Prop} {f : FuncId} {fn : Func} {c : Operand} {as_ : Array Operand} {ts : Array TypeId} (hf : P.funcs[f]? = some fn) (hname : (fn.name == "runtime.NumGoroutine") = false) (hb : fn.body.isSome = true) (args : Array Value)
  (hw:Region.wanted oi (yielded ops a.tmps)=true) (hN:oi.dst=N) (hop:oi.op= .call { callee:= .value c,args:=as_,argTypes:=ts }) (hc:a.eval c= .func (.func f) #[] #[]) (hargs:as_.map a.eval=args)
  (h:Calls P f args w fun e w'=> ∃ v,e= .returned v∧K (a.put N v) w'):if Region.wanted oi (yielded ops a.tmps)=true then Oper.wp P oi a w K Q else K (a.put N undef) w:=by
 refine call_ f args hw hN ?_ h
 have he:=enters_ hf hname hb args w
 unfold execOp
 simp [hop,resolve,Deferred.ofValue,invoke,hc,hargs,he]
def cmpE.f (a0_0:Int) (a0_1:Int) (a0_2:Int) (a1_0:Int) (a1_1:Int) (a1_2:Int):Option (Int):=some (wrap64 (a0_2 - a1_2))
set_option maxHeartbeats 8000000 in
set_option maxRecDepth 100000 in
theorem cmpE.calls (a0_0:Int) (a0_1:Int) (a0_2:Int) (a1_0:Int) (a1_1:Int) (a1_2:Int) (r:Int) (w:World) (h:cmpE.f a0_0 a0_1 a0_2 a1_0 a1_1 a1_2=some r):
  Calls Try.prog 82 #[.agg #[.int .i64 a0_0,.int .i64 a0_1,.int .i64 a0_2],.agg #[.int .i64 a1_0,.int .i64 a1_1,.int .i64 a1_2]] w fun e w'=>e= .returned (.int .i64 r)∧Below w.heap.size w w':=by
 have hu79:=Try.underlying79
 have HB:=Aside0.mk (Below.refl w.heap.size w)
 obtain rfl:=Option.some.inj h
 go_enter Try.func82,Try.ntmps82
 go_wp2
 go_ret
 exact⟨zer,by exact zk1 HB⟩
mutual
def slices_insertionSortCmpFunc_Edge.l0:Nat→List (S79)→Int→Int→Int→Option ((List (S79)))
 | 0,_,_,_,_=>none
 |k+1,x0,x1,x2,x8=>if x8<x2 then(slices_insertionSortCmpFunc_Edge.l1 k x0 x1 x2 x8 x8) else(some x0)
def slices_insertionSortCmpFunc_Edge.l1:Nat→List (S79)→Int→Int→Int→Int→Option ((List (S79)))
 | 0,_,_,_,_,_=>none
 |k+1,x0,x1,x2,x8,x9=>if x9 > x1 then(if 0≤x9 then(if x9< (x0.length:Int) then(if 0≤ (wrap64 (x9 - 1)) then(if (wrap64 (x9 - 1))< (x0.length:Int) then((cmpE.f ((rd_T79 x0 x9).f0) ((rd_T79 x0 x9).f1) ((rd_T79 x0 x9).f2) ((rd_T79 x0 (wrap64 (x9 - 1))).f0) ((rd_T79 x0 (wrap64 (x9 - 1))).f1) ((rd_T79 x0 (wrap64 (x9 - 1))).f2)).bind fun t702=>(if t702< 0 then(slices_insertionSortCmpFunc_Edge.l1 k ((x0.set (x9:Int).toNat (⟨(rd_T79 x0 (wrap64 (x9 - 1))).f0,(rd_T79 x0 (wrap64 (x9 - 1))).f1,(rd_T79 x0 (wrap64 (x9 - 1))).f2⟩ :S79)).set ((wrap64 (x9 - 1)):Int).toNat (⟨(rd_T79 x0 x9).f0,(rd_T79 x0 x9).f1,(rd_T79 x0 x9).f2⟩ :S79)) x1 x2 x8 (wrap64 (x9 - 1))) else(slices_insertionSortCmpFunc_Edge.l0 k x0 x1 x2 (wrap64 (x8+1))))) else(none)) else(none)) else(none)) else(none)) else(slices_insertionSortCmpFunc_Edge.l0 k x0 x1 x2 (wrap64 (x8+1)))
end
def slices_insertionSortCmpFunc_Edge.f (k:Nat) (l0:List (S79)) (a1:Int) (a2:Int) (a3:Int):Option ((List (S79))):=slices_insertionSortCmpFunc_Edge.l0 k l0 a1 a2 (wrap64 (a1+1))
def slices_insertionSortCmpFunc_Edge.T4:Bool × List (List Nat × List Nat):=(true,[([],[]),([],[]),([0,1],[0,1]),([2],[2]),([3],[3]),([3],[3]),([3],[3]),([5,6,3],[3,5,6]),([7,3],[3,7]),([3],[3]),([3],[3]),([10,3],[3,10]),([9,11,3],[3,9,11]),([12,3],[3,12]),([4,8,13,3,3],[3,4,8,13]),([14,3],[3,14]),([3,15],[3,15])])
def slices_insertionSortCmpFunc_Edge.B4:List Nat:= [0,0,3,7,15,15,15,111,239,15,15,1039,3599,7695,16383,32767,65535]
theorem slices_insertionSortCmpFunc_Edge.tab4:rtab .any (opsOf Try.f108 4)=slices_insertionSortCmpFunc_Edge.T4:=by kernel_rfl
theorem slices_insertionSortCmpFunc_Edge.bits4:waitsOk slices_insertionSortCmpFunc_Edge.T4.2 slices_insertionSortCmpFunc_Edge.B4=true:=by kernel_rfl
def slices_insertionSortCmpFunc_Edge.T6:Bool × List (List Nat × List Nat):=(true,[([],[]),([],[]),([],[]),([],[]),([3],[3]),([],[]),([],[]),([6],[6]),([5,7],[5,7]),([8],[8]),([],[]),([],[]),([10,11],[10,11]),([12],[12]),([0,1,0,1,5,6,7,8,9,13],[0,1]),([14,9,0,1,5,6,7,8,9,13],[9,14]),([2,4,0,1,2,3,4,5,6,7,8,9,10,11,12,13,14,15],[2,4]),([16,13,15,0,1,2,3,4,5,6,7,8,9,10,11,12,13,14,15],[13,16])])
def slices_insertionSortCmpFunc_Edge.B6:List Nat:= [0,0,0,0,8,0,0,64,224,480,0,0,3072,7168,16355,32739,65535,131071]
theorem slices_insertionSortCmpFunc_Edge.tab6:rtab .any (opsOf Try.f108 6)=slices_insertionSortCmpFunc_Edge.T6:=by kernel_rfl
theorem slices_insertionSortCmpFunc_Edge.bits6:waitsOk slices_insertionSortCmpFunc_Edge.T6.2 slices_insertionSortCmpFunc_Edge.B6=true:=by kernel_rfl
theorem zk5 {q r1 r2 r3 r4 r5 r6 p:Prop} (b:Aside0 q) (b1:r1) (b2:r2) (b3:r3) (b4:r4) (b5:r5) (b6:r6) (h:q→r1→r2→r3→r4→r5→r6→p:=by intro z g1 g2 g3 g4 g5 g6;repeat(first|(with_reducible first|exact z|apply below_alloc|apply pw_below_drewN|apply below_drew1|refine below_set ?_ g1|refine below_set ?_ g2|refine below_set ?_ g3|refine below_set ?_ g4|refine below_set ?_ g5|refine below_set ?_ g6)|exact z)):p:=h b.out b1 b2 b3 b4 b5 b6
set_option maxHeartbeats 8000000 in
set_option maxRecDepth 100000 in
theorem slices_insertionSortCmpFunc_Edge.calls (k:Nat) (P0_:Nat→Prop) (u9000_:Value) (l0:List (S79)) (a1:Int) (a2:Int) (a3:Int) (r:List (S79)) (w0 w:World) (hB:Below w0.heap.size w0 w) (ho0:Kd.R k79 79 w w0.heap.size P0_ u9000_ l0) (h:slices_insertionSortCmpFunc_Edge.f k l0 a1 a2 a3=some r):
  Calls Try.prog 108 #[u9000_,.int .i64 a1,.int .i64 a2,.func (.func 82) #[] #[]] w fun e w'=>e= .returned (.tuple #[])∧Kd.R k79 79 w' w0.heap.size (fun k_=>(P0_ k_∨w.heap.size≤k_)) u9000_ r∧Below w0.heap.size w0 w'∧Kept w w' (fun k_=>P0_ k_):=by
 have hu79:=Try.underlying79
 have HO0:=Aside0.mk (show Kd.R k79 79 w w0.heap.size (fun k_=>(P0_ k_∨w.heap.size≤k_)) u9000_ l0 from Kd.R_mono ho0 (fun k_ hk=>(.inl hk)))
 have HK:=Aside0.mk (Kept.refl w (fun k_=>P0_ k_))
 have HW0:=Aside0.mk hB.size
 have HB:=Aside0.mk hB
 clear hB
 have H:(slices_insertionSortCmpFunc_Edge.l0 k l0 a1 a2 (wrap64 (a1+1)))=some r:=h
 clear h
 have H':=Aside0.mk H
 clear H
 go_enter Try.func108,Try.ntmps108
 go_wp2
 go_loopg [8] k (fun kq v8 w'=> ∃ (x0_1:List (S79)) (x8_1:Int),v8= .int .i64 x8_1∧Aside0 (slices_insertionSortCmpFunc_Edge.l0 kq x0_1 a1 a2 x8_1=some r)∧Aside0 (kq≤k)∧Aside0 (Kd.R k79 79 w' w0.heap.size (fun k_=>(P0_ k_∨w.heap.size≤k_)) u9000_ x0_1)∧Aside0 (Kept w w' (fun k_=>P0_ k_))∧Aside0 (Below w0.heap.size w0 w'))
 case atStart=>exact⟨(l0),(wrap64 (a1+1)),zrs,H',⟨Nat.le_refl _⟩,⟨zdr HO0⟩,⟨by exact zk4 HK⟩,⟨by exact zk1 HB⟩⟩
 case round=>
  clear H'
  try clear c1
  try clear p2
  obtain⟨x0_1,x8_1,rfl,HA,HK1,HO_0,HK,HB⟩:=hrel
  cases gk with
  |zero=>exact absurd HA.out (by simp [slices_insertionSortCmpFunc_Edge.l0])
  |succ k1=>
   have H:=HA.out
   clear HA
   simp only [slices_insertionSortCmpFunc_Edge.l0] at H
   by_cases c5:x8_1<a2
   ·rw [if_pos c5] at H
    have c5b0:decide (x8_1<a2)=true:=decide_eq_true c5
    clear c5
    have H':=Aside0.mk H
    clear H
    go_wp2
    go_loopg [9] k1 (fun kq v9 w'=> ∃ (x0_2:List (S79)) (x9_2:Int),v9= .int .i64 x9_2∧Aside0 (slices_insertionSortCmpFunc_Edge.l1 kq x0_2 a1 a2 x8_1 x9_2=some r)∧Aside0 (kq≤k1)∧Aside0 (Kd.R k79 79 w' w0.heap.size (fun k_=>(P0_ k_∨w.heap.size≤k_)) u9000_ x0_2)∧Aside0 (Kept w w' (fun k_=>P0_ k_))∧Aside0 (Below w0.heap.size w0 w'))
    case atStart=>exact⟨(x0_1),(x8_1),zrs,H',⟨Nat.le_refl _⟩,⟨zdr HO_0⟩,⟨by exact zk4 HK⟩,⟨by exact zk1 HB⟩⟩
    case round=>
     clear H'
     try clear c1
     try clear p2
     try clear c5
     try clear c5b0
     try clear p2
     obtain⟨x0_2,x9_2,rfl,HA,HK2,HO_0,HK,HB⟩:=hrel
     cases gk with
     |zero=>exact absurd HA.out (by simp [slices_insertionSortCmpFunc_Edge.l1])
     |succ k2=>
      have H:=HA.out
      clear HA
      simp only [slices_insertionSortCmpFunc_Edge.l1] at H
      by_cases c6:x9_2 > a1
      ·rw [if_pos c6] at H
       have c6b0:decide (a1<x9_2)=true:=decide_eq_true c6
       clear c6
       by_cases c7: 0≤x9_2
       case neg=>exact znn c7 H
       rw [if_pos c7] at H
       have c7b0:decide (0≤x9_2)=true:=decide_eq_true c7
       clear c7
       by_cases c8:x9_2< (x0_2.length:Int)
       case neg=>exact znn c8 H
       rw [if_pos c8] at H
       have c8b0:decide (x9_2< (x0_2.length:Int))=true:=decide_eq_true c8
       clear c8
       obtain⟨ji9,hji9⟩ :∃ j_:Int,(wrap64 (x9_2 - 1))=j_:=⟨_,rfl⟩
       replace H:(if 0≤ (ji9) then(if (ji9)< (x0_2.length:Int) then((cmpE.f ((rd_T79 x0_2 x9_2).f0) ((rd_T79 x0_2 x9_2).f1) ((rd_T79 x0_2 x9_2).f2) ((rd_T79 x0_2 (ji9)).f0) ((rd_T79 x0_2 (ji9)).f1) ((rd_T79 x0_2 (ji9)).f2)).bind fun t702=>(if t702< 0 then(slices_insertionSortCmpFunc_Edge.l1 k2 ((x0_2.set (x9_2:Int).toNat (⟨(rd_T79 x0_2 (ji9)).f0,(rd_T79 x0_2 (ji9)).f1,(rd_T79 x0_2 (ji9)).f2⟩ :S79)).set ((ji9):Int).toNat (⟨(rd_T79 x0_2 x9_2).f0,(rd_T79 x0_2 x9_2).f1,(rd_T79 x0_2 x9_2).f2⟩ :S79)) a1 a2 x8_1 ji9) else(slices_insertionSortCmpFunc_Edge.l0 k2 x0_2 a1 a2 (wrap64 (x8_1+1))))) else(none)) else(none))=some r:=by first|(rw [hji9] at H;exact H)|(simp only [hji9] at H ⊢;exact H)
       have hji9w:(IntKind.i64.wrap (x9_2 - 1))=ji9:=(i64_w _).trans hji9
       by_cases c10: 0≤ (ji9)
       case neg=>exact znn c10 H
       rw [if_pos c10] at H
       have c10b0:decide (0≤ (ji9))=true:=decide_eq_true c10
       clear c10
       by_cases c11:(ji9)< (x0_2.length:Int)
       case neg=>exact znn c11 H
       rw [if_pos c11] at H
       have c11b0:decide ((ji9)< (x0_2.length:Int))=true:=decide_eq_true c11
       clear c11
       replace H:=Option.bind_eq_some_iff.mp H
       obtain⟨t702,A120,H⟩:=H
       replace H:(if t702< 0 then(slices_insertionSortCmpFunc_Edge.l1 k2 ((x0_2.set (x9_2:Int).toNat (⟨(rd_T79 x0_2 (ji9)).f0,(rd_T79 x0_2 (ji9)).f1,(rd_T79 x0_2 (ji9)).f2⟩ :S79)).set ((ji9):Int).toNat (⟨(rd_T79 x0_2 x9_2).f0,(rd_T79 x0_2 x9_2).f1,(rd_T79 x0_2 x9_2).f2⟩ :S79)) a1 a2 x8_1 ji9) else(slices_insertionSortCmpFunc_Edge.l0 k2 x0_2 a1 a2 (wrap64 (x8_1+1))))=some r:=H
       have A12:=Aside0.mk A120
       clear A120
       by_cases c13:t702< 0
       ·rw [if_pos c13] at H
        have c13b0:decide (t702< 0)=true:=decide_eq_true c13
        clear c13
        obtain⟨y705,hy705⟩ :∃ y_:List (S79),y_= (x0_2.set (x9_2:Int).toNat (⟨(rd_T79 x0_2 (ji9)).f0,(rd_T79 x0_2 (ji9)).f1,(rd_T79 x0_2 (ji9)).f2⟩ :S79)):=⟨_,rfl⟩
        replace H:(slices_insertionSortCmpFunc_Edge.l1 k2 (y705.set ((ji9):Int).toNat (⟨(rd_T79 x0_2 x9_2).f0,(rd_T79 x0_2 x9_2).f1,(rd_T79 x0_2 x9_2).f2⟩ :S79)) a1 a2 x8_1 ji9)=some r:=zfh hy705 H
        have Ny705:=Aside0.mk hy705
        clear hy705
        obtain⟨y706,hy706⟩ :∃ y_:List (S79),y_= (y705.set ((ji9):Int).toNat (⟨(rd_T79 x0_2 x9_2).f0,(rd_T79 x0_2 x9_2).f1,(rd_T79 x0_2 x9_2).f2⟩ :S79)):=⟨_,rfl⟩
        replace H:(slices_insertionSortCmpFunc_Edge.l1 k2 y706 a1 a2 x8_1 ji9)=some r:=zfh hy706 H
        have Ny706:=Aside0.mk hy706
        clear hy706
        have H':=Aside0.mk H
        clear H
        try go_wp2
        replace HO_0:=Aside0.mk (Kd.R_drew HO_0.out)
        replace HK:=Aside0.mk (Kept.drew HK.out)
        replace HB:=Aside0.mk (below_drew1 HB.out)
        obtain⟨Ao17,co17,eo17⟩:=Kd.R_slice HO_0.out
        (first|subst eo17|(injection eo17 with f1_ f2_ f3_;have f4_:=f1_.symm;have f5_:=f3_.symm;clear f1_ f2_ f3_;subst f4_;subst f5_))
        have p700: 0≤ (x9_2:Int):=of_decide_eq_true zq1
        have q700:x9_2< (x0_2.length:Int):=of_decide_eq_true zq1
        obtain⟨ad700,e700,hx700_0,hx700_1,hx700_2⟩:=at_T79 (Kd.R_reads' HO_0.out).2.2 x9_2 p700 q700
        cases e700
        replace p700:=eq_true p700
        replace q700:=eq_true q700
        have p701: 0≤ ((ji9):Int):=of_decide_eq_true zq1
        have q701:(ji9)< (x0_2.length:Int):=of_decide_eq_true zq1
        obtain⟨ad701,e701,hx701_0,hx701_1,hx701_2⟩:=at_T79 (Kd.R_reads' HO_0.out).2.2 (ji9) p701 q701
        obtain rfl:ad700=ad701:=(by injection e701)
        replace p701:=eq_true p701
        replace q701:=eq_true q701
        refine start_ (n:=17) (S:=fun w'=>w'.cell? (ad700.add ((x9_2).toNat * 3))=some (.int .i64 ((rd_T79 x0_2 x9_2).f0))∧w'.cell? ⟨(ad700.add ((x9_2).toNat * 3)).block,(ad700.add ((x9_2).toNat * 3)).off+1,none⟩=some (.int .i64 ((rd_T79 x0_2 x9_2).f1))∧w'.cell? ⟨(ad700.add ((x9_2).toNat * 3)).block,(ad700.add ((x9_2).toNat * 3)).off+2,none⟩=some (.int .i64 ((rd_T79 x0_2 x9_2).f2))∧w'.cell? (ad700.add (((ji9)).toNat * 3))=some (.int .i64 ((rd_T79 x0_2 (ji9)).f0))∧w'.cell? ⟨(ad700.add (((ji9)).toNat * 3)).block,(ad700.add (((ji9)).toNat * 3)).off+1,none⟩=some (.int .i64 ((rd_T79 x0_2 (ji9)).f1))∧w'.cell? ⟨(ad700.add (((ji9)).toNat * 3)).block,(ad700.add (((ji9)).toNat * 3)).off+2,none⟩=some (.int .i64 ((rd_T79 x0_2 (ji9)).f2))) (ds:= []) (mb' 17 0) (by kernel_rfl) rfl rfl ⟨hx700_0,hx700_1,hx700_2,hx701_0,hx701_1,hx701_2⟩ (fun hHeld=>?_);refine with_tabW slices_insertionSortCmpFunc_Edge.tab4 slices_insertionSortCmpFunc_Edge.bits4 (fun HT_ HW_=>?_)
        generalize wr.drew=w16 at HO_0 HK HB hx700_0 hx700_1 hx700_2 hx701_0 hx701_1 hx701_2 hHeld ⊢
        refine zp1 HT_ 0 18 (mb' 17 1) rfl ?_
        refine zp1 HT_ 1 19 (mb' 17 3) rfl ?_
        refine zp1 HT_ 2 20 (mb' 17 7) rfl ?_
        refine zp1 HT_ 3 21 (mb' 17 15) rfl ?_
        refine zp1 HT_ 4 22 (mb' 17 31) rfl ?_
        refine zp1 HT_ 5 23 (mb' 17 63) rfl ?_
        refine zp1 HT_ 6 24 (mb' 17 127) rfl ?_
        refine zp1 HT_ 7 25 (mb' 17 255) rfl ?_
        refine zp1 HT_ 9 27 (mb' 17 767) rfl ?_
        refine zp1 HT_ 10 28 (mb' 17 1791) rfl ?_
        refine zp1 HT_ 11 29 (mb' 17 3839) rfl ?_
        refine zp1 HT_ 12 30 (mb' 17 7935) rfl ?_
        refine zt1 HT_ HW_ (v:=?_) (a':=?_) 8 26 (mb' 17 8191) rfl ?_ hHeld ?_ ?_;rotate_left;(rintro w' ⟨s0,s1,s2,s3,s4,s5⟩;go_simp;with_reducible rfl);rotate_left;exact zpa
        refine zt1 HT_ HW_ (v:=?_) (a':=?_) 13 31 (mb' 17 16383) rfl ?_ hHeld ?_ ?_;rotate_left;(rintro w' ⟨s0,s1,s2,s3,s4,s5⟩;go_simp;with_reducible rfl);rotate_left;exact zpa
        refine one_ (i:=14) (N:=some 32) (mb' 17 32767) rfl rfl (one_of HT_.out (by kernel_rfl)) (by decide) (fun K hK=>?_)
        refine goesV_ (f:=82) Try.func82 (by kernel_rfl) rfl #[.agg #[.int .i64 ((rd_T79 x0_2 x9_2).f0),.int .i64 ((rd_T79 x0_2 x9_2).f1),.int .i64 ((rd_T79 x0_2 x9_2).f2)],.agg #[.int .i64 ((rd_T79 x0_2 (ji9)).f0),.int .i64 ((rd_T79 x0_2 (ji9)).f1),.int .i64 ((rd_T79 x0_2 (ji9)).f2)]] (by rfl) rfl rfl rfl (by(try simp only [List.map_toArray,List.map_cons,List.map_nil]);first|done|(simp only [hji9];rfl)|rfl|(simp only [List.length_drop,List.length_take];rfl)) ?_
        with_reducible refine(cmpE.calls ((rd_T79 x0_2 x9_2).f0) ((rd_T79 x0_2 x9_2).f1) ((rd_T79 x0_2 x9_2).f2) ((rd_T79 x0_2 (ji9)).f0) ((rd_T79 x0_2 (ji9)).f1) ((rd_T79 x0_2 (ji9)).f2) t702 _ A12.out).mono ?_
        rintro e w18 ⟨rfl,hb⟩
        have HS0_:=(hb.cell (World.block_lt_of_cell? _ _ (hHeld.1))).trans (hHeld.1)
        have HS1_:=(hb.cell (World.block_lt_of_cell? _ _ (hHeld.2.1))).trans (hHeld.2.1)
        have HS2_:=(hb.cell (World.block_lt_of_cell? _ _ (hHeld.2.2.1))).trans (hHeld.2.2.1)
        have HS3_:=(hb.cell (World.block_lt_of_cell? _ _ (hHeld.2.2.2.1))).trans (hHeld.2.2.2.1)
        have HS4_:=(hb.cell (World.block_lt_of_cell? _ _ (hHeld.2.2.2.2.1))).trans (hHeld.2.2.2.2.1)
        have HS5_:=(hb.cell (World.block_lt_of_cell? _ _ (hHeld.2.2.2.2.2))).trans (hHeld.2.2.2.2.2)
        refine⟨_,rfl,?_⟩
        replace HO_0:=Aside0.mk (Kd.R_below (zq4 HO_0) hb)
        replace HK:=Aside0.mk (Kept.below (S:=(fun k_=>P0_ k_)) (by exact zk4 HK) hb)
        replace HB:=Aside0.mk (below_step (by exact zk1 HB) hb)
        (try clear hb)
        (try clear hb2)
        (try clear hk)
        (try clear hi)
        refine hK.out _ _ ⟨HS0_,HS1_,HS2_,HS3_,HS4_,HS5_⟩ (fun hHeld=>?_)
        clear hK K
        refine norm_ (a':=?_) ?_ ?_
        rotate_left
        ·show Act.put _ (some 32) _=_
         simp only [Act.put,List.setIfInBounds_toArray,List.set_cons_zero,List.set_cons_succ,i64_w,i32_w]
         rfl
        refine zp1 HT_ 15 33 (mb' 17 65535) rfl ?_
        refine zp1 HT_ 16 34 (mb' 17 131071) rfl ?_
        refine done_ (done_of HT_.out (by kernel_rfl)) ?_
        try go_wp2
        replace HO_0:=Aside0.mk (Kd.R_drew HO_0.out)
        replace HK:=Aside0.mk (Kept.drew HK.out)
        replace HB:=Aside0.mk (below_drew1 HB.out)
        have p703: 0≤ ((ji9):Int):=of_decide_eq_true zq1
        have q703:(ji9)< (x0_2.length:Int):=of_decide_eq_true zq1
        obtain⟨ad703,e703,hx703_0,hx703_1,hx703_2⟩:=at_T79 (Kd.R_reads' HO_0.out).2.2 (ji9) p703 q703
        obtain rfl:ad700=ad703:=(by injection e703)
        replace p703:=eq_true p703
        replace q703:=eq_true q703
        have p704: 0≤ (x9_2:Int):=of_decide_eq_true zq1
        have q704:x9_2< (x0_2.length:Int):=of_decide_eq_true zq1
        obtain⟨ad704,e704,hx704_0,hx704_1,hx704_2⟩:=at_T79 (Kd.R_reads' HO_0.out).2.2 x9_2 p704 q704
        obtain rfl:ad700=ad704:=(by injection e704)
        replace p704:=eq_true p704
        replace q704:=eq_true q704
        have p14: 0≤ (x9_2:Int):=of_decide_eq_true zq1
        have q14:(x9_2:Int)< ((x0_2.length:Int):Int):=of_decide_eq_true zq1
        obtain⟨go14,co14,eo14,gb14,gl14,cl14,HG14⟩:=Kd.R_form HO_0.out (by omega)
        (first|cases eo14|(injection eo14 with ea_ en_ ec_;(first|subst ea_|(injection ea_ with ea_;subst ea_));subst ec_;clear en_))
        have GB14:=Aside0.mk gb14
        have GG14:=Aside0.mk HG14
        clear gb14 gl14 HG14
        have HMgo14:=Aside0.mk (show (P0_ go14∨w.heap.size≤go14) from (HO_0.out.1 _ rfl))
        (first|simp only [add_plain] at hx700_0|skip)
        (first|simp only [add_plain] at hx700_1|skip)
        (first|simp only [add_plain] at hx700_2|skip)
        (first|simp only [add_plain] at hx701_0|skip)
        (first|simp only [add_plain] at hx701_1|skip)
        (first|simp only [add_plain] at hx701_2|skip)
        (first|simp only [add_plain] at hx703_0|skip)
        (first|simp only [add_plain] at hx703_1|skip)
        (first|simp only [add_plain] at hx703_2|skip)
        (first|simp only [add_plain] at hx704_0|skip)
        (first|simp only [add_plain] at hx704_1|skip)
        (first|simp only [add_plain] at hx704_2|skip)
        obtain⟨ce14,hcl14,hM14,hcc14,hfr14⟩:=Kd.R_elem HO_0.out z79 (x9_2:Int) p14 q14
        obtain rfl:=k79_openM hM14
        have hx14_0:World.cell? _ ⟨go14,(x9_2:Int).toNat * 3,none⟩=some (.int .i64 ((rd_T79 x0_2 x9_2).f0)):=hcc14 0 _ rfl
        have hx14_1:World.cell? _ ⟨go14,(x9_2:Int).toNat * 3+1,none⟩=some (.int .i64 ((rd_T79 x0_2 x9_2).f1)):=hcc14 1 _ rfl
        have hx14_2:World.cell? _ ⟨go14,(x9_2:Int).toNat * 3+2,none⟩=some (.int .i64 ((rd_T79 x0_2 x9_2).f2)):=hcc14 2 _ rfl
        have hf14_0:World.frozen? _ ⟨go14,(x9_2:Int).toNat * 3,none⟩=false:=hfr14 0
        have hf14_1:World.frozen? _ ⟨go14,(x9_2:Int).toNat * 3+1,none⟩=false:=hfr14 1
        have hf14_2:World.frozen? _ ⟨go14,(x9_2:Int).toNat * 3+2,none⟩=false:=hfr14 2
        clear hcl14 hcc14 hfr14 hM14
        replace p14:=eq_true p14
        replace q14:=eq_true q14
        obtain⟨ce20,hcl20,hM20,hcc20,hfr20⟩:=Kd.R_elem HO_0.out z79 (x9_2:Int) (of_decide_eq_true zq1) (by have h_:(x9_2:Int)< ((x0_2.length:Int):Int):=of_decide_eq_true zq1;first|exact h_|(have e_:=(Kd.R_reads' HO_0.out).1;omega)|simpa using h_)
        obtain rfl:=k79_openM hM20
        have HP20:=(Kd.R_seg HO_0.out (x9_2:Int) (of_decide_eq_true zq1) (by have h_:(x9_2:Int)< ((x0_2.length:Int):Int):=of_decide_eq_true zq1;first|exact h_|(have e_:=(Kd.R_reads' HO_0.out).1;omega)|simpa using h_) (seg:= [.int .i64 ((rd_T79 x0_2 (ji9)).f0),.int .i64 ((rd_T79 x0_2 (ji9)).f1),.int .i64 ((rd_T79 x0_2 (ji9)).f2)]) (j:=0) hcl20 hcc20 (show 3≤3 from by decide) (x':=(⟨(rd_T79 x0_2 (ji9)).f0,(rd_T79 x0_2 (ji9)).f1,(rd_T79 x0_2 (ji9)).f2⟩ :S79)) (k79_mkM _ _ _ (⟨(rd_T79 x0_2 (ji9)).f0,(rd_T79 x0_2 (ji9)).f1,(rd_T79 x0_2 (ji9)).f2⟩ :S79) ) (fun _ hk=>hk)).1
        rw [← Ny705.out] at HP20
        have HQ20:=Aside0.mk HP20
        clear hcl20 hcc20 hfr20 hM20 HP20
        have p15: 0≤ ((ji9):Int):=of_decide_eq_true zq1
        have q15:((ji9):Int)< ((x0_2.length:Int):Int):=of_decide_eq_true zq1
        obtain⟨ce15,hcl15,hM15,hcc15,hfr15⟩:=Kd.R_elem HQ20.out z79 ((ji9):Int) p15 q15
        obtain rfl:=k79_openM hM15
        have hx15_0:World.cell? _ ⟨go14,((ji9):Int).toNat * 3,none⟩=some (.int .i64 ((rd_T79 y705 (ji9)).f0)):=hcc15 0 _ rfl
        have hx15_1:World.cell? _ ⟨go14,((ji9):Int).toNat * 3+1,none⟩=some (.int .i64 ((rd_T79 y705 (ji9)).f1)):=hcc15 1 _ rfl
        have hx15_2:World.cell? _ ⟨go14,((ji9):Int).toNat * 3+2,none⟩=some (.int .i64 ((rd_T79 y705 (ji9)).f2)):=hcc15 2 _ rfl
        have hf15_0:World.frozen? _ ⟨go14,((ji9):Int).toNat * 3,none⟩=false:=hfr15 0
        have hf15_1:World.frozen? _ ⟨go14,((ji9):Int).toNat * 3+1,none⟩=false:=hfr15 1
        have hf15_2:World.frozen? _ ⟨go14,((ji9):Int).toNat * 3+2,none⟩=false:=hfr15 2
        clear hcl15 hcc15 hfr15 hM15
        replace p15:=eq_true p15
        replace q15:=eq_true q15
        obtain⟨ce21,hcl21,hM21,hcc21,hfr21⟩:=Kd.R_elem HQ20.out z79 ((ji9):Int) (of_decide_eq_true zq1) (by have h_:((ji9):Int)< ((x0_2.length:Int):Int):=of_decide_eq_true zq1;first|exact h_|(have e_:=(Kd.R_reads' HO_0.out).1;omega)|simpa using h_)
        obtain rfl:=k79_openM hM21
        have HP21:=(Kd.R_seg HQ20.out ((ji9):Int) (of_decide_eq_true zq1) (by have h_:((ji9):Int)< ((x0_2.length:Int):Int):=of_decide_eq_true zq1;first|exact h_|(have e_:=(Kd.R_reads' HO_0.out).1;omega)|simpa using h_) (seg:= [.int .i64 ((rd_T79 x0_2 x9_2).f0),.int .i64 ((rd_T79 x0_2 x9_2).f1),.int .i64 ((rd_T79 x0_2 x9_2).f2)]) (j:=0) hcl21 hcc21 (show 3≤3 from by decide) (x':=(⟨(rd_T79 x0_2 x9_2).f0,(rd_T79 x0_2 x9_2).f1,(rd_T79 x0_2 x9_2).f2⟩ :S79)) (k79_mkM _ _ _ (⟨(rd_T79 x0_2 x9_2).f0,(rd_T79 x0_2 x9_2).f1,(rd_T79 x0_2 x9_2).f2⟩ :S79) ) (fun _ hk=>hk)).1
        rw [← Ny706.out] at HP21
        have HQ21:=Aside0.mk HP21
        clear hcl21 hcc21 hfr21 hM21 HP21
        refine start_ (n:=18) (S:=fun w'=>w'.cell? ⟨go14,((ji9)).toNat * 3,none⟩=some (.int .i64 ((rd_T79 x0_2 (ji9)).f0))∧w'.cell? ⟨go14,((ji9)).toNat * 3+1,none⟩=some (.int .i64 ((rd_T79 x0_2 (ji9)).f1))∧w'.cell? ⟨go14,((ji9)).toNat * 3+2,none⟩=some (.int .i64 ((rd_T79 x0_2 (ji9)).f2))∧w'.cell? ⟨go14,((x9_2).toNat * 3),none⟩=some (.int .i64 ((rd_T79 x0_2 x9_2).f0))∧w'.cell? ⟨go14,((x9_2).toNat * 3)+1,none⟩=some (.int .i64 ((rd_T79 x0_2 x9_2).f1))∧w'.cell? ⟨go14,((x9_2).toNat * 3)+2,none⟩=some (.int .i64 ((rd_T79 x0_2 x9_2).f2))) (ds:= [15,17]) (mb' 18 0) (by kernel_rfl) rfl rfl ⟨hx703_0,hx703_1,hx703_2,hx704_0,hx704_1,hx704_2⟩ (fun hHeld=>?_);refine with_tabW slices_insertionSortCmpFunc_Edge.tab6 slices_insertionSortCmpFunc_Edge.bits6 (fun HT_ HW_=>?_)
        generalize w18.drew=w19 at HO_0 HK HB GG14 HQ20 HQ21 hf14_0 hf14_1 hf14_2 hf15_0 hf15_1 hf15_2 hx14_0 hx14_1 hx14_2 hx15_0 hx15_1 hx15_2 hx700_0 hx700_1 hx700_2 hx701_0 hx701_1 hx701_2 hx703_0 hx703_1 hx703_2 hx704_0 hx704_1 hx704_2 hHeld ⊢
        have hw15_0:=hf15_0
        (try simp [go_sem,World.setCells,show k79.sz=3 from rfl] at hw15_0)
        have hw15_1:=hf15_1
        (try simp [go_sem,World.setCells,show k79.sz=3 from rfl] at hw15_1)
        have hw15_2:=hf15_2
        (try simp [go_sem,World.setCells,show k79.sz=3 from rfl] at hw15_2)
        have hz15_0:=hx15_0
        (try simp [go_sem,World.setCells,show k79.sz=3 from rfl] at hz15_0)
        have hz15_1:=hx15_1
        (try simp [go_sem,World.setCells,show k79.sz=3 from rfl] at hz15_1)
        have hz15_2:=hx15_2
        (try simp [go_sem,World.setCells,show k79.sz=3 from rfl] at hz15_2)
        refine zp1 HT_ 0 37 (mb' 18 1) rfl ?_
        refine zp1 HT_ 1 38 (mb' 18 3) rfl ?_
        refine zp1 HT_ 2 39 (mb' 18 7) rfl ?_
        refine zp1 HT_ 3 40 (mb' 18 15) rfl ?_
        refine zp1 HT_ 4 41 (mb' 18 31) rfl ?_
        refine zp1 HT_ 5 42 (mb' 18 63) rfl ?_
        refine zp1 HT_ 6 43 (mb' 18 127) rfl ?_
        refine zp1 HT_ 7 44 (mb' 18 255) rfl ?_
        refine zp1 HT_ 8 45 (mb' 18 511) rfl ?_
        refine zp1 HT_ 10 47 (mb' 18 1535) rfl ?_
        refine zp1 HT_ 11 48 (mb' 18 3583) rfl ?_
        refine zp1 HT_ 12 49 (mb' 18 7679) rfl ?_
        refine zt1 HT_ HW_ (v:=?_) (a':=?_) 9 46 (mb' 18 8191) rfl ?_ hHeld ?_ ?_;rotate_left;(rintro w' ⟨s0,s1,s2,s3,s4,s5⟩;go_simp;with_reducible rfl);rotate_left;exact zpa
        refine zt1 HT_ HW_ (v:=?_) (a':=?_) 13 50 (mb' 18 16383) rfl ?_ hHeld ?_ ?_;rotate_left;(rintro w' ⟨s0,s1,s2,s3,s4,s5⟩;go_simp;with_reducible rfl);rotate_left;exact zpa
        refine zp1 HT_ 14 51 (mb' 18 32767) rfl ?_
        refine last_ (i:=15) (N:=none) (mb' 18 65535) rfl rfl (one_of HT_.out (by kernel_rfl)) (by decide) (fun K hK=>?_)
        refine skip_ (w1:=?_) (by rfl) rfl ?_ ?_
        rotate_left
        ·go_simp
         rfl
        refine hK.out _ _ ?_
        clear hK K
        refine zp1 HT_ 16 52 (mb' 18 131071) rfl ?_
        refine last_ (i:=17) (N:=none) (mb' 18 262143) rfl rfl (one_of HT_.out (by kernel_rfl)) (by decide) (fun K hK=>?_)
        refine skip_ (w1:=?_) (by rfl) rfl ?_ ?_
        rotate_left
        ·go_simp
         rfl
        refine hK.out _ _ ?_
        clear hK K
        refine done_ (done_of HT_.out (by kernel_rfl)) ?_
        try go_wp2
        go_roundg k2
        case measure=>have:=HK1.out;have:=HK2.out;omega
        case rel=>exact⟨(y706),(ji9),(by first|rfl|(simp;done)|(simp only [← hji9]<;>(first|rfl|simp))|(simp [*];done)),H',⟨by have:=HK1.out;have:=HK2.out;omega⟩,⟨zdr HQ21⟩,⟨by repeat(first|(with_reducible first|exact HK.out|apply Kept.alloc|apply Kept.drewN|apply Kept.drew|refine Kept.setCell ?_ HMgo14.out _|refine Kept.setCell ?_ HMgo14.out _|refine Kept.setCell ?_ HMgo14.out _|refine Kept.setCell ?_ HMgo14.out _|refine Kept.setCell ?_ HMgo14.out _|refine Kept.setCell ?_ HMgo14.out _)|exact HK.out)⟩,⟨by exact zk5 HB GB14.out GB14.out GB14.out GB14.out GB14.out GB14.out⟩⟩
       ·rw [if_neg c13] at H
        have c13b0:decide (t702< 0)=false:=decide_eq_false c13
        clear c13
        have H':=Aside0.mk H
        clear H
        try go_wp2
        replace HO_0:=Aside0.mk (Kd.R_drew HO_0.out)
        replace HK:=Aside0.mk (Kept.drew HK.out)
        replace HB:=Aside0.mk (below_drew1 HB.out)
        obtain⟨Ao23,co23,eo23⟩:=Kd.R_slice HO_0.out
        (first|subst eo23|(injection eo23 with f1_ f2_ f3_;have f4_:=f1_.symm;have f5_:=f3_.symm;clear f1_ f2_ f3_;subst f4_;subst f5_))
        have p700: 0≤ (x9_2:Int):=of_decide_eq_true zq1
        have q700:x9_2< (x0_2.length:Int):=of_decide_eq_true zq1
        obtain⟨ad700,e700,hx700_0,hx700_1,hx700_2⟩:=at_T79 (Kd.R_reads' HO_0.out).2.2 x9_2 p700 q700
        cases e700
        replace p700:=eq_true p700
        replace q700:=eq_true q700
        have p701: 0≤ ((ji9):Int):=of_decide_eq_true zq1
        have q701:(ji9)< (x0_2.length:Int):=of_decide_eq_true zq1
        obtain⟨ad701,e701,hx701_0,hx701_1,hx701_2⟩:=at_T79 (Kd.R_reads' HO_0.out).2.2 (ji9) p701 q701
        obtain rfl:ad700=ad701:=(by injection e701)
        replace p701:=eq_true p701
        replace q701:=eq_true q701
        refine start_ (n:=17) (S:=fun w'=>w'.cell? (ad700.add ((x9_2).toNat * 3))=some (.int .i64 ((rd_T79 x0_2 x9_2).f0))∧w'.cell? ⟨(ad700.add ((x9_2).toNat * 3)).block,(ad700.add ((x9_2).toNat * 3)).off+1,none⟩=some (.int .i64 ((rd_T79 x0_2 x9_2).f1))∧w'.cell? ⟨(ad700.add ((x9_2).toNat * 3)).block,(ad700.add ((x9_2).toNat * 3)).off+2,none⟩=some (.int .i64 ((rd_T79 x0_2 x9_2).f2))∧w'.cell? (ad700.add (((ji9)).toNat * 3))=some (.int .i64 ((rd_T79 x0_2 (ji9)).f0))∧w'.cell? ⟨(ad700.add (((ji9)).toNat * 3)).block,(ad700.add (((ji9)).toNat * 3)).off+1,none⟩=some (.int .i64 ((rd_T79 x0_2 (ji9)).f1))∧w'.cell? ⟨(ad700.add (((ji9)).toNat * 3)).block,(ad700.add (((ji9)).toNat * 3)).off+2,none⟩=some (.int .i64 ((rd_T79 x0_2 (ji9)).f2))) (ds:= []) (mb' 17 0) (by kernel_rfl) rfl rfl ⟨hx700_0,hx700_1,hx700_2,hx701_0,hx701_1,hx701_2⟩ (fun hHeld=>?_);refine with_tabW slices_insertionSortCmpFunc_Edge.tab4 slices_insertionSortCmpFunc_Edge.bits4 (fun HT_ HW_=>?_)
        generalize wr.drew=w22 at HO_0 HK HB hx700_0 hx700_1 hx700_2 hx701_0 hx701_1 hx701_2 hHeld ⊢
        refine zp1 HT_ 0 18 (mb' 17 1) rfl ?_
        refine zp1 HT_ 1 19 (mb' 17 3) rfl ?_
        refine zp1 HT_ 2 20 (mb' 17 7) rfl ?_
        refine zp1 HT_ 3 21 (mb' 17 15) rfl ?_
        refine zp1 HT_ 4 22 (mb' 17 31) rfl ?_
        refine zp1 HT_ 5 23 (mb' 17 63) rfl ?_
        refine zp1 HT_ 6 24 (mb' 17 127) rfl ?_
        refine zp1 HT_ 7 25 (mb' 17 255) rfl ?_
        refine zp1 HT_ 9 27 (mb' 17 767) rfl ?_
        refine zp1 HT_ 10 28 (mb' 17 1791) rfl ?_
        refine zp1 HT_ 11 29 (mb' 17 3839) rfl ?_
        refine zp1 HT_ 12 30 (mb' 17 7935) rfl ?_
        refine zt1 HT_ HW_ (v:=?_) (a':=?_) 8 26 (mb' 17 8191) rfl ?_ hHeld ?_ ?_;rotate_left;(rintro w' ⟨s0,s1,s2,s3,s4,s5⟩;go_simp;with_reducible rfl);rotate_left;exact zpa
        refine zt1 HT_ HW_ (v:=?_) (a':=?_) 13 31 (mb' 17 16383) rfl ?_ hHeld ?_ ?_;rotate_left;(rintro w' ⟨s0,s1,s2,s3,s4,s5⟩;go_simp;with_reducible rfl);rotate_left;exact zpa
        refine one_ (i:=14) (N:=some 32) (mb' 17 32767) rfl rfl (one_of HT_.out (by kernel_rfl)) (by decide) (fun K hK=>?_)
        refine goesV_ (f:=82) Try.func82 (by kernel_rfl) rfl #[.agg #[.int .i64 ((rd_T79 x0_2 x9_2).f0),.int .i64 ((rd_T79 x0_2 x9_2).f1),.int .i64 ((rd_T79 x0_2 x9_2).f2)],.agg #[.int .i64 ((rd_T79 x0_2 (ji9)).f0),.int .i64 ((rd_T79 x0_2 (ji9)).f1),.int .i64 ((rd_T79 x0_2 (ji9)).f2)]] (by rfl) rfl rfl rfl (by(try simp only [List.map_toArray,List.map_cons,List.map_nil]);first|done|(simp only [hji9];rfl)|rfl|(simp only [List.length_drop,List.length_take];rfl)) ?_
        with_reducible refine(cmpE.calls ((rd_T79 x0_2 x9_2).f0) ((rd_T79 x0_2 x9_2).f1) ((rd_T79 x0_2 x9_2).f2) ((rd_T79 x0_2 (ji9)).f0) ((rd_T79 x0_2 (ji9)).f1) ((rd_T79 x0_2 (ji9)).f2) t702 _ A12.out).mono ?_
        rintro e w24 ⟨rfl,hb⟩
        have HS0_:=(hb.cell (World.block_lt_of_cell? _ _ (hHeld.1))).trans (hHeld.1)
        have HS1_:=(hb.cell (World.block_lt_of_cell? _ _ (hHeld.2.1))).trans (hHeld.2.1)
        have HS2_:=(hb.cell (World.block_lt_of_cell? _ _ (hHeld.2.2.1))).trans (hHeld.2.2.1)
        have HS3_:=(hb.cell (World.block_lt_of_cell? _ _ (hHeld.2.2.2.1))).trans (hHeld.2.2.2.1)
        have HS4_:=(hb.cell (World.block_lt_of_cell? _ _ (hHeld.2.2.2.2.1))).trans (hHeld.2.2.2.2.1)
        have HS5_:=(hb.cell (World.block_lt_of_cell? _ _ (hHeld.2.2.2.2.2))).trans (hHeld.2.2.2.2.2)
        refine⟨_,rfl,?_⟩
        replace HO_0:=Aside0.mk (Kd.R_below (zq4 HO_0) hb)
        replace HK:=Aside0.mk (Kept.below (S:=(fun k_=>P0_ k_)) (by exact zk4 HK) hb)
        replace HB:=Aside0.mk (below_step (by exact zk1 HB) hb)
        (try clear hb)
        (try clear hb2)
        (try clear hk)
        (try clear hi)
        refine hK.out _ _ ⟨HS0_,HS1_,HS2_,HS3_,HS4_,HS5_⟩ (fun hHeld=>?_)
        clear hK K
        refine norm_ (a':=?_) ?_ ?_
        rotate_left
        ·show Act.put _ (some 32) _=_
         simp only [Act.put,List.setIfInBounds_toArray,List.set_cons_zero,List.set_cons_succ,i64_w,i32_w]
         rfl
        refine zp1 HT_ 15 33 (mb' 17 65535) rfl ?_
        refine zp1 HT_ 16 34 (mb' 17 131071) rfl ?_
        refine done_ (done_of HT_.out (by kernel_rfl)) ?_
        try go_wp2
        go_roundg k2
        case measure=>have:=HK1.out;have:=HK2.out;omega
        case rel=>exact⟨(x0_2),(wrap64 (x8_1+1)),zrs,H',⟨by have:=HK1.out;have:=HK2.out;omega⟩,⟨zdr HO_0⟩,⟨by exact zk4 HK⟩,⟨by exact zk1 HB⟩⟩
      ·rw [if_neg c6] at H
       have c6b0:decide (a1<x9_2)=false:=decide_eq_false c6
       clear c6
       have H':=Aside0.mk H
       clear H
       try go_wp2
       replace HO_0:=Aside0.mk (Kd.R_drew HO_0.out)
       replace HK:=Aside0.mk (Kept.drew HK.out)
       replace HB:=Aside0.mk (below_drew1 HB.out)
       refine start_ (n:=17) (S:=fun w'=>True) (ds:= []) (mb' 17 0) (by kernel_rfl) rfl rfl trivial (fun hHeld=>?_);refine with_tabW slices_insertionSortCmpFunc_Edge.tab4 slices_insertionSortCmpFunc_Edge.bits4 (fun HT_ HW_=>?_)
       generalize wr.drew=w25 at HO_0 HK HB hHeld ⊢
       refine zp1 HT_ 0 18 (mb' 17 1) rfl ?_
       refine zp1 HT_ 1 19 (mb' 17 3) rfl ?_
       refine zp1 HT_ 2 20 (mb' 17 7) rfl ?_
       refine zp1 HT_ 3 21 (mb' 17 15) rfl ?_
       refine zp2 HT_ 4 22 (mb' 17 31) rfl ?_
       refine zp2 HT_ 5 23 (mb' 17 63) rfl ?_
       refine zp2 HT_ 6 24 (mb' 17 127) rfl ?_
       refine zp2 HT_ 7 25 (mb' 17 255) rfl ?_
       refine zp2 HT_ 8 26 (mb' 17 511) rfl ?_
       refine zp2 HT_ 9 27 (mb' 17 1023) rfl ?_
       refine zp2 HT_ 10 28 (mb' 17 2047) rfl ?_
       refine zp2 HT_ 11 29 (mb' 17 4095) rfl ?_
       refine zp2 HT_ 12 30 (mb' 17 8191) rfl ?_
       refine zp2 HT_ 13 31 (mb' 17 16383) rfl ?_
       refine zp2 HT_ 14 32 (mb' 17 32767) rfl ?_
       refine zp2 HT_ 15 33 (mb' 17 65535) rfl ?_
       refine zp1 HT_ 16 34 (mb' 17 131071) rfl ?_
       refine done_ (done_of HT_.out (by kernel_rfl)) ?_
       try go_wp2
       go_roundg k2
       case measure=>have:=HK1.out;have:=HK2.out;omega
       case rel=>exact⟨(x0_2),(wrap64 (x8_1+1)),zrs,H',⟨by have:=HK1.out;have:=HK2.out;omega⟩,⟨zdr HO_0⟩,⟨by exact zk4 HK⟩,⟨by exact zk1 HB⟩⟩
   ·rw [if_neg c5] at H
    have c5b0:decide (x8_1<a2)=false:=decide_eq_false c5
    clear c5
    obtain rfl:=Option.some.inj H
    go_wp2
    first|go_end0|((try simp only [Exit.inBlock,Exit.then]);refine bodyPost_ret (results_none rfl _ _ _) rfl ?_)
    exact⟨zer,zdr HO_0,by exact zk1 HB,by exact zk4 HK⟩
def slices_swapRangeCmpFunc_Edge.l0:Nat→List (S79)→Int→Int→Int→Int→Option ((List (S79)))
 | 0,_,_,_,_,_=>none
 |k+1,x0,x1,x2,x3,x10=>if x10<x3 then(if 0≤ (wrap64 (x2+x10)) then(if (wrap64 (x2+x10))< (x0.length:Int) then(if 0≤ (wrap64 (x1+x10)) then(if (wrap64 (x1+x10))< (x0.length:Int) then(slices_swapRangeCmpFunc_Edge.l0 k ((x0.set ((wrap64 (x1+x10)):Int).toNat (⟨(rd_T79 x0 (wrap64 (x2+x10))).f0,(rd_T79 x0 (wrap64 (x2+x10))).f1,(rd_T79 x0 (wrap64 (x2+x10))).f2⟩ :S79)).set ((wrap64 (x2+x10)):Int).toNat (⟨(rd_T79 x0 (wrap64 (x1+x10))).f0,(rd_T79 x0 (wrap64 (x1+x10))).f1,(rd_T79 x0 (wrap64 (x1+x10))).f2⟩ :S79)) x1 x2 x3 (wrap64 (x10+1))) else(none)) else(none)) else(none)) else(none)) else(some x0)
def slices_swapRangeCmpFunc_Edge.f (k:Nat) (l0:List (S79)) (a1:Int) (a2:Int) (a3:Int) (a4:Int):Option ((List (S79))):=slices_swapRangeCmpFunc_Edge.l0 k l0 a1 a2 a3 0
def slices_swapRangeCmpFunc_Edge.T3:Bool × List (List Nat × List Nat):=(true,[([],[]),([],[]),([],[]),([1,2],[1,2]),([],[]),([],[]),([],[]),([5,6],[5,6]),([],[]),([],[]),([],[]),([9,10],[9,10]),([8,11],[8,11]),([12],[12]),([],[]),([],[]),([],[]),([15,16],[15,16]),([14,17],[14,17]),([18],[18]),([0,3,0,1,2,3,8,9,10,11,12,13,19],[0,3]),([20,13,0,1,2,3,8,9,10,11,12,13,19],[13,20]),([4,7,0,1,2,3,4,5,6,7,8,9,10,11,12,13,14,15,16,17,18,19,20,21],[4,7]),([22,19,21,0,1,2,3,4,5,6,7,8,9,10,11,12,13,14,15,16,17,18,19,20,21],[19,22])])
def slices_swapRangeCmpFunc_Edge.B3:List Nat:= [0,0,0,6,0,0,0,96,0,0,0,1536,3840,7936,0,0,0,98304,245760,507904,1048335,2096911,4194303,8388607]
theorem slices_swapRangeCmpFunc_Edge.tab3:rtab .any (opsOf Try.f111 3)=slices_swapRangeCmpFunc_Edge.T3:=by kernel_rfl
theorem slices_swapRangeCmpFunc_Edge.bits3:waitsOk slices_swapRangeCmpFunc_Edge.T3.2 slices_swapRangeCmpFunc_Edge.B3=true:=by kernel_rfl
set_option maxHeartbeats 8000000 in
set_option maxRecDepth 100000 in
theorem slices_swapRangeCmpFunc_Edge.calls (k:Nat) (P0_:Nat→Prop) (u9000_:Value) (l0:List (S79)) (a1:Int) (a2:Int) (a3:Int) (a4:Int) (r:List (S79)) (w0 w:World) (hB:Below w0.heap.size w0 w) (ho0:Kd.R k79 79 w w0.heap.size P0_ u9000_ l0) (h:slices_swapRangeCmpFunc_Edge.f k l0 a1 a2 a3 a4=some r):
  Calls Try.prog 111 #[u9000_,.int .i64 a1,.int .i64 a2,.int .i64 a3,.func (.func 82) #[] #[]] w fun e w'=>e= .returned (.tuple #[])∧Kd.R k79 79 w' w0.heap.size (fun k_=>(P0_ k_∨w.heap.size≤k_)) u9000_ r∧Below w0.heap.size w0 w'∧Kept w w' (fun k_=>P0_ k_):=by
 have hu79:=Try.underlying79
 have HO0:=Aside0.mk (show Kd.R k79 79 w w0.heap.size (fun k_=>(P0_ k_∨w.heap.size≤k_)) u9000_ l0 from Kd.R_mono ho0 (fun k_ hk=>(.inl hk)))
 have HK:=Aside0.mk (Kept.refl w (fun k_=>P0_ k_))
 have HW0:=Aside0.mk hB.size
 have HB:=Aside0.mk hB
 clear hB
 have H:(slices_swapRangeCmpFunc_Edge.l0 k l0 a1 a2 a3 0)=some r:=h
 clear h
 have H':=Aside0.mk H
 clear H
 go_enter Try.func111,Try.ntmps111
 go_wp2
 go_loopg [10] k (fun kq v10 w'=> ∃ (x0_1:List (S79)) (x10_1:Int),v10= .int .i64 x10_1∧Aside0 (slices_swapRangeCmpFunc_Edge.l0 kq x0_1 a1 a2 a3 x10_1=some r)∧Aside0 (kq≤k)∧Aside0 (Kd.R k79 79 w' w0.heap.size (fun k_=>(P0_ k_∨w.heap.size≤k_)) u9000_ x0_1)∧Aside0 (Kept w w' (fun k_=>P0_ k_))∧Aside0 (Below w0.heap.size w0 w'))
 case atStart=>exact⟨(l0),(0),zrs,H',⟨Nat.le_refl _⟩,⟨zdr HO0⟩,⟨by exact zk4 HK⟩,⟨by exact zk1 HB⟩⟩
 case round=>
  clear H'
  try clear c1
  try clear p2
  obtain⟨x0_1,x10_1,rfl,HA,HK1,HO_0,HK,HB⟩:=hrel
  cases gk with
  |zero=>exact absurd HA.out (by simp [slices_swapRangeCmpFunc_Edge.l0])
  |succ k1=>
   have H:=HA.out
   clear HA
   simp only [slices_swapRangeCmpFunc_Edge.l0] at H
   by_cases c6:x10_1<a3
   ·rw [if_pos c6] at H
    have c6b0:decide (x10_1<a3)=true:=decide_eq_true c6
    clear c6
    obtain⟨ji7,hji7⟩ :∃ j_:Int,(wrap64 (a2+x10_1))=j_:=⟨_,rfl⟩
    replace H:(if 0≤ (ji7) then(if (ji7)< (x0_1.length:Int) then(if 0≤ (wrap64 (a1+x10_1)) then(if (wrap64 (a1+x10_1))< (x0_1.length:Int) then(slices_swapRangeCmpFunc_Edge.l0 k1 ((x0_1.set ((wrap64 (a1+x10_1)):Int).toNat (⟨(rd_T79 x0_1 (ji7)).f0,(rd_T79 x0_1 (ji7)).f1,(rd_T79 x0_1 (ji7)).f2⟩ :S79)).set ((ji7):Int).toNat (⟨(rd_T79 x0_1 (wrap64 (a1+x10_1))).f0,(rd_T79 x0_1 (wrap64 (a1+x10_1))).f1,(rd_T79 x0_1 (wrap64 (a1+x10_1))).f2⟩ :S79)) a1 a2 a3 (wrap64 (x10_1+1))) else(none)) else(none)) else(none)) else(none))=some r:=by first|(rw [hji7] at H;exact H)|(simp only [hji7] at H ⊢;exact H)
    have hji7w:(IntKind.i64.wrap (a2+x10_1))=ji7:=(i64_w _).trans hji7
    by_cases c8: 0≤ (ji7)
    case neg=>exact znn c8 H
    rw [if_pos c8] at H
    have c8b0:decide (0≤ (ji7))=true:=decide_eq_true c8
    clear c8
    by_cases c9:(ji7)< (x0_1.length:Int)
    case neg=>exact znn c9 H
    rw [if_pos c9] at H
    have c9b0:decide ((ji7)< (x0_1.length:Int))=true:=decide_eq_true c9
    clear c9
    obtain⟨ji10,hji10⟩ :∃ j_:Int,(wrap64 (a1+x10_1))=j_:=⟨_,rfl⟩
    replace H:(if 0≤ (ji10) then(if (ji10)< (x0_1.length:Int) then(slices_swapRangeCmpFunc_Edge.l0 k1 ((x0_1.set ((ji10):Int).toNat (⟨(rd_T79 x0_1 (ji7)).f0,(rd_T79 x0_1 (ji7)).f1,(rd_T79 x0_1 (ji7)).f2⟩ :S79)).set ((ji7):Int).toNat (⟨(rd_T79 x0_1 (ji10)).f0,(rd_T79 x0_1 (ji10)).f1,(rd_T79 x0_1 (ji10)).f2⟩ :S79)) a1 a2 a3 (wrap64 (x10_1+1))) else(none)) else(none))=some r:=by first|(rw [hji10] at H;exact H)|(simp only [hji10] at H ⊢;exact H)
    have hji10w:(IntKind.i64.wrap (a1+x10_1))=ji10:=(i64_w _).trans hji10
    by_cases c11: 0≤ (ji10)
    case neg=>exact znn c11 H
    rw [if_pos c11] at H
    have c11b0:decide (0≤ (ji10))=true:=decide_eq_true c11
    clear c11
    by_cases c12:(ji10)< (x0_1.length:Int)
    case neg=>exact znn c12 H
    rw [if_pos c12] at H
    have c12b0:decide ((ji10)< (x0_1.length:Int))=true:=decide_eq_true c12
    clear c12
    obtain⟨y709,hy709⟩ :∃ y_:List (S79),y_= (x0_1.set ((ji10):Int).toNat (⟨(rd_T79 x0_1 (ji7)).f0,(rd_T79 x0_1 (ji7)).f1,(rd_T79 x0_1 (ji7)).f2⟩ :S79)):=⟨_,rfl⟩
    replace H:(slices_swapRangeCmpFunc_Edge.l0 k1 (y709.set ((ji7):Int).toNat (⟨(rd_T79 x0_1 (ji10)).f0,(rd_T79 x0_1 (ji10)).f1,(rd_T79 x0_1 (ji10)).f2⟩ :S79)) a1 a2 a3 (wrap64 (x10_1+1)))=some r:=zfh hy709 H
    have Ny709:=Aside0.mk hy709
    clear hy709
    obtain⟨y710,hy710⟩ :∃ y_:List (S79),y_= (y709.set ((ji7):Int).toNat (⟨(rd_T79 x0_1 (ji10)).f0,(rd_T79 x0_1 (ji10)).f1,(rd_T79 x0_1 (ji10)).f2⟩ :S79)):=⟨_,rfl⟩
    replace H:(slices_swapRangeCmpFunc_Edge.l0 k1 y710 a1 a2 a3 (wrap64 (x10_1+1)))=some r:=zfh hy710 H
    have Ny710:=Aside0.mk hy710
    clear hy710
    have H':=Aside0.mk H
    clear H
    try go_wp2
    replace HO_0:=Aside0.mk (Kd.R_drew HO_0.out)
    replace HK:=Aside0.mk (Kept.drew HK.out)
    replace HB:=Aside0.mk (below_drew1 HB.out)
    obtain⟨Ao16,co16,eo16⟩:=Kd.R_slice HO_0.out
    (first|subst eo16|(injection eo16 with f1_ f2_ f3_;have f4_:=f1_.symm;have f5_:=f3_.symm;clear f1_ f2_ f3_;subst f4_;subst f5_))
    have p707: 0≤ ((ji7):Int):=of_decide_eq_true zq1
    have q707:(ji7)< (x0_1.length:Int):=of_decide_eq_true zq1
    obtain⟨ad707,e707,hx707_0,hx707_1,hx707_2⟩:=at_T79 (Kd.R_reads' HO_0.out).2.2 (ji7) p707 q707
    cases e707
    replace p707:=eq_true p707
    replace q707:=eq_true q707
    have p708: 0≤ ((ji10):Int):=of_decide_eq_true zq1
    have q708:(ji10)< (x0_1.length:Int):=of_decide_eq_true zq1
    obtain⟨ad708,e708,hx708_0,hx708_1,hx708_2⟩:=at_T79 (Kd.R_reads' HO_0.out).2.2 (ji10) p708 q708
    obtain rfl:ad707=ad708:=(by injection e708)
    replace p708:=eq_true p708
    replace q708:=eq_true q708
    have p13: 0≤ ((ji10):Int):=of_decide_eq_true zq1
    have q13:((ji10):Int)< ((x0_1.length:Int):Int):=of_decide_eq_true zq1
    obtain⟨go13,co13,eo13,gb13,gl13,cl13,HG13⟩:=Kd.R_form HO_0.out (by omega)
    (first|cases eo13|(injection eo13 with ea_ en_ ec_;(first|subst ea_|(injection ea_ with ea_;subst ea_));subst ec_;clear en_))
    have GB13:=Aside0.mk gb13
    have GG13:=Aside0.mk HG13
    clear gb13 gl13 HG13
    have HMgo13:=Aside0.mk (show (P0_ go13∨w.heap.size≤go13) from (HO_0.out.1 _ rfl))
    (first|simp only [add_plain] at hx707_0|skip)
    (first|simp only [add_plain] at hx707_1|skip)
    (first|simp only [add_plain] at hx707_2|skip)
    (first|simp only [add_plain] at hx708_0|skip)
    (first|simp only [add_plain] at hx708_1|skip)
    (first|simp only [add_plain] at hx708_2|skip)
    obtain⟨ce13,hcl13,hM13,hcc13,hfr13⟩:=Kd.R_elem HO_0.out z79 ((ji10):Int) p13 q13
    obtain rfl:=k79_openM hM13
    have hx13_0:World.cell? _ ⟨go13,((ji10):Int).toNat * 3,none⟩=some (.int .i64 ((rd_T79 x0_1 (ji10)).f0)):=hcc13 0 _ rfl
    have hx13_1:World.cell? _ ⟨go13,((ji10):Int).toNat * 3+1,none⟩=some (.int .i64 ((rd_T79 x0_1 (ji10)).f1)):=hcc13 1 _ rfl
    have hx13_2:World.cell? _ ⟨go13,((ji10):Int).toNat * 3+2,none⟩=some (.int .i64 ((rd_T79 x0_1 (ji10)).f2)):=hcc13 2 _ rfl
    have hf13_0:World.frozen? _ ⟨go13,((ji10):Int).toNat * 3,none⟩=false:=hfr13 0
    have hf13_1:World.frozen? _ ⟨go13,((ji10):Int).toNat * 3+1,none⟩=false:=hfr13 1
    have hf13_2:World.frozen? _ ⟨go13,((ji10):Int).toNat * 3+2,none⟩=false:=hfr13 2
    clear hcl13 hcc13 hfr13 hM13
    replace p13:=eq_true p13
    replace q13:=eq_true q13
    obtain⟨ce17,hcl17,hM17,hcc17,hfr17⟩:=Kd.R_elem HO_0.out z79 ((ji10):Int) (of_decide_eq_true zq1) (by have h_:((ji10):Int)< ((x0_1.length:Int):Int):=of_decide_eq_true zq1;first|exact h_|(have e_:=(Kd.R_reads' HO_0.out).1;omega)|simpa using h_)
    obtain rfl:=k79_openM hM17
    have HP17:=(Kd.R_seg HO_0.out ((ji10):Int) (of_decide_eq_true zq1) (by have h_:((ji10):Int)< ((x0_1.length:Int):Int):=of_decide_eq_true zq1;first|exact h_|(have e_:=(Kd.R_reads' HO_0.out).1;omega)|simpa using h_) (seg:= [.int .i64 ((rd_T79 x0_1 (ji7)).f0),.int .i64 ((rd_T79 x0_1 (ji7)).f1),.int .i64 ((rd_T79 x0_1 (ji7)).f2)]) (j:=0) hcl17 hcc17 (show 3≤3 from by decide) (x':=(⟨(rd_T79 x0_1 (ji7)).f0,(rd_T79 x0_1 (ji7)).f1,(rd_T79 x0_1 (ji7)).f2⟩ :S79)) (k79_mkM _ _ _ (⟨(rd_T79 x0_1 (ji7)).f0,(rd_T79 x0_1 (ji7)).f1,(rd_T79 x0_1 (ji7)).f2⟩ :S79) ) (fun _ hk=>hk)).1
    rw [← Ny709.out] at HP17
    have HQ17:=Aside0.mk HP17
    clear hcl17 hcc17 hfr17 hM17 HP17
    have p14: 0≤ ((ji7):Int):=of_decide_eq_true zq1
    have q14:((ji7):Int)< ((x0_1.length:Int):Int):=of_decide_eq_true zq1
    obtain⟨ce14,hcl14,hM14,hcc14,hfr14⟩:=Kd.R_elem HQ17.out z79 ((ji7):Int) p14 q14
    obtain rfl:=k79_openM hM14
    have hx14_0:World.cell? _ ⟨go13,((ji7):Int).toNat * 3,none⟩=some (.int .i64 ((rd_T79 y709 (ji7)).f0)):=hcc14 0 _ rfl
    have hx14_1:World.cell? _ ⟨go13,((ji7):Int).toNat * 3+1,none⟩=some (.int .i64 ((rd_T79 y709 (ji7)).f1)):=hcc14 1 _ rfl
    have hx14_2:World.cell? _ ⟨go13,((ji7):Int).toNat * 3+2,none⟩=some (.int .i64 ((rd_T79 y709 (ji7)).f2)):=hcc14 2 _ rfl
    have hf14_0:World.frozen? _ ⟨go13,((ji7):Int).toNat * 3,none⟩=false:=hfr14 0
    have hf14_1:World.frozen? _ ⟨go13,((ji7):Int).toNat * 3+1,none⟩=false:=hfr14 1
    have hf14_2:World.frozen? _ ⟨go13,((ji7):Int).toNat * 3+2,none⟩=false:=hfr14 2
    clear hcl14 hcc14 hfr14 hM14
    replace p14:=eq_true p14
    replace q14:=eq_true q14
    obtain⟨ce18,hcl18,hM18,hcc18,hfr18⟩:=Kd.R_elem HQ17.out z79 ((ji7):Int) (of_decide_eq_true zq1) (by have h_:((ji7):Int)< ((x0_1.length:Int):Int):=of_decide_eq_true zq1;first|exact h_|(have e_:=(Kd.R_reads' HO_0.out).1;omega)|simpa using h_)
    obtain rfl:=k79_openM hM18
    have HP18:=(Kd.R_seg HQ17.out ((ji7):Int) (of_decide_eq_true zq1) (by have h_:((ji7):Int)< ((x0_1.length:Int):Int):=of_decide_eq_true zq1;first|exact h_|(have e_:=(Kd.R_reads' HO_0.out).1;omega)|simpa using h_) (seg:= [.int .i64 ((rd_T79 x0_1 (ji10)).f0),.int .i64 ((rd_T79 x0_1 (ji10)).f1),.int .i64 ((rd_T79 x0_1 (ji10)).f2)]) (j:=0) hcl18 hcc18 (show 3≤3 from by decide) (x':=(⟨(rd_T79 x0_1 (ji10)).f0,(rd_T79 x0_1 (ji10)).f1,(rd_T79 x0_1 (ji10)).f2⟩ :S79)) (k79_mkM _ _ _ (⟨(rd_T79 x0_1 (ji10)).f0,(rd_T79 x0_1 (ji10)).f1,(rd_T79 x0_1 (ji10)).f2⟩ :S79) ) (fun _ hk=>hk)).1
    rw [← Ny710.out] at HP18
    have HQ18:=Aside0.mk HP18
    clear hcl18 hcc18 hfr18 hM18 HP18
    refine start_ (n:=24) (S:=fun w'=>w'.cell? ⟨go13,((ji7)).toNat * 3,none⟩=some (.int .i64 ((rd_T79 x0_1 (ji7)).f0))∧w'.cell? ⟨go13,((ji7)).toNat * 3+1,none⟩=some (.int .i64 ((rd_T79 x0_1 (ji7)).f1))∧w'.cell? ⟨go13,((ji7)).toNat * 3+2,none⟩=some (.int .i64 ((rd_T79 x0_1 (ji7)).f2))∧w'.cell? ⟨go13,((ji10)).toNat * 3,none⟩=some (.int .i64 ((rd_T79 x0_1 (ji10)).f0))∧w'.cell? ⟨go13,((ji10)).toNat * 3+1,none⟩=some (.int .i64 ((rd_T79 x0_1 (ji10)).f1))∧w'.cell? ⟨go13,((ji10)).toNat * 3+2,none⟩=some (.int .i64 ((rd_T79 x0_1 (ji10)).f2))) (ds:= [21,23]) (mb' 24 0) (by kernel_rfl) rfl rfl ⟨hx707_0,hx707_1,hx707_2,hx708_0,hx708_1,hx708_2⟩ (fun hHeld=>?_);refine with_tabW slices_swapRangeCmpFunc_Edge.tab3 slices_swapRangeCmpFunc_Edge.bits3 (fun HT_ HW_=>?_)
    generalize wr.drew=w15 at HO_0 HK HB GG13 HQ17 HQ18 hf13_0 hf13_1 hf13_2 hf14_0 hf14_1 hf14_2 hx13_0 hx13_1 hx13_2 hx14_0 hx14_1 hx14_2 hx707_0 hx707_1 hx707_2 hx708_0 hx708_1 hx708_2 hHeld ⊢
    have hw14_0:=hf14_0
    (try simp [go_sem,World.setCells,show k79.sz=3 from rfl] at hw14_0)
    have hw14_1:=hf14_1
    (try simp [go_sem,World.setCells,show k79.sz=3 from rfl] at hw14_1)
    have hw14_2:=hf14_2
    (try simp [go_sem,World.setCells,show k79.sz=3 from rfl] at hw14_2)
    have hz14_0:=hx14_0
    (try simp [go_sem,World.setCells,show k79.sz=3 from rfl] at hz14_0)
    have hz14_1:=hx14_1
    (try simp [go_sem,World.setCells,show k79.sz=3 from rfl] at hz14_1)
    have hz14_2:=hx14_2
    (try simp [go_sem,World.setCells,show k79.sz=3 from rfl] at hz14_2)
    refine zp1 HT_ 0 16 (mb' 24 1) rfl ?_
    refine zp1 HT_ 1 17 (mb' 24 3) rfl ?_
    refine zp1 HT_ 2 18 (mb' 24 7) rfl ?_
    refine zp1 HT_ 3 19 (mb' 24 15) rfl ?_
    refine zp1 HT_ 4 20 (mb' 24 31) rfl ?_
    refine zp1 HT_ 5 21 (mb' 24 63) rfl ?_
    refine zp1 HT_ 6 22 (mb' 24 127) rfl ?_
    refine zp1 HT_ 7 23 (mb' 24 255) rfl ?_
    refine zp1 HT_ 8 24 (mb' 24 511) rfl ?_
    refine zp1 HT_ 9 25 (mb' 24 1023) rfl ?_
    refine zp1 HT_ 10 26 (mb' 24 2047) rfl ?_
    refine zp1 HT_ 11 27 (mb' 24 4095) rfl ?_
    refine zp1 HT_ 12 28 (mb' 24 8191) rfl ?_
    refine zp1 HT_ 14 30 (mb' 24 24575) rfl ?_
    refine zp1 HT_ 15 31 (mb' 24 57343) rfl ?_
    refine zp1 HT_ 16 32 (mb' 24 122879) rfl ?_
    refine zp1 HT_ 17 33 (mb' 24 253951) rfl ?_
    refine zp1 HT_ 18 34 (mb' 24 516095) rfl ?_
    refine zt1 HT_ HW_ (v:=?_) (a':=?_) 13 29 (mb' 24 524287) rfl ?_ hHeld ?_ ?_;rotate_left;(rintro w' ⟨s0,s1,s2,s3,s4,s5⟩;go_simp;with_reducible rfl);rotate_left;exact zpa
    refine zt1 HT_ HW_ (v:=?_) (a':=?_) 19 35 (mb' 24 1048575) rfl ?_ hHeld ?_ ?_;rotate_left;(rintro w' ⟨s0,s1,s2,s3,s4,s5⟩;go_simp;with_reducible rfl);rotate_left;exact zpa
    refine zp1 HT_ 20 36 (mb' 24 2097151) rfl ?_
    refine last_ (i:=21) (N:=none) (mb' 24 4194303) rfl rfl (one_of HT_.out (by kernel_rfl)) (by decide) (fun K hK=>?_)
    refine skip_ (w1:=?_) (by rfl) rfl ?_ ?_
    rotate_left
    ·go_simp
     rfl
    refine hK.out _ _ ?_
    clear hK K
    refine zp1 HT_ 22 37 (mb' 24 8388607) rfl ?_
    refine last_ (i:=23) (N:=none) (mb' 24 16777215) rfl rfl (one_of HT_.out (by kernel_rfl)) (by decide) (fun K hK=>?_)
    refine skip_ (w1:=?_) (by rfl) rfl ?_ ?_
    rotate_left
    ·go_simp
     rfl
    refine hK.out _ _ ?_
    clear hK K
    refine done_ (done_of HT_.out (by kernel_rfl)) ?_
    try go_wp2
    go_roundg k1
    case measure=>have:=HK1.out;omega
    case rel=>exact⟨(y710),(wrap64 (x10_1+1)),zrs,H',⟨by have:=HK1.out;omega⟩,⟨zdr HQ18⟩,⟨by repeat(first|(with_reducible first|exact HK.out|apply Kept.alloc|apply Kept.drewN|apply Kept.drew|refine Kept.setCell ?_ HMgo13.out _|refine Kept.setCell ?_ HMgo13.out _|refine Kept.setCell ?_ HMgo13.out _|refine Kept.setCell ?_ HMgo13.out _|refine Kept.setCell ?_ HMgo13.out _|refine Kept.setCell ?_ HMgo13.out _)|exact HK.out)⟩,⟨by exact zk5 HB GB13.out GB13.out GB13.out GB13.out GB13.out GB13.out⟩⟩
   ·rw [if_neg c6] at H
    have c6b0:decide (x10_1<a3)=false:=decide_eq_false c6
    clear c6
    obtain rfl:=Option.some.inj H
    go_wp2
    first|go_end0|((try simp only [Exit.inBlock,Exit.then]);refine bodyPost_ret (results_none rfl _ _ _) rfl ?_)
    exact⟨zer,zdr HO_0,by exact zk1 HB,by exact zk4 HK⟩
def slices_rotateCmpFunc_Edge.l0:Nat→List (S79)→Int→Int→Int→Int→Option ((List (S79)))
 | 0,_,_,_,_,_=>none
 |k+1,x0,x2,x4,x10,x11=>if x10=x11 then((slices_swapRangeCmpFunc_Edge.f k x0 (wrap64 (x2 - x10)) x2 x10 x4).bind fun t711=>(some t711)) else(if x10 > x11 then((slices_swapRangeCmpFunc_Edge.f k x0 (wrap64 (x2 - x10)) x2 x11 x4).bind fun t712=>(slices_rotateCmpFunc_Edge.l0 k t712 x2 x4 (wrap64 (x10 - x11)) x11)) else((slices_swapRangeCmpFunc_Edge.f k x0 (wrap64 (x2 - x10)) (wrap64 ((wrap64 (x2+x11)) - x10)) x10 x4).bind fun t713=>(slices_rotateCmpFunc_Edge.l0 k t713 x2 x4 x10 (wrap64 (x11 - x10)))))
def slices_rotateCmpFunc_Edge.f (k:Nat) (l0:List (S79)) (a1:Int) (a2:Int) (a3:Int) (a4:Int):Option ((List (S79))):=slices_rotateCmpFunc_Edge.l0 k l0 a2 a4 (wrap64 (a2 - a1)) (wrap64 (a3 - a2))
set_option maxHeartbeats 8000000 in
set_option maxRecDepth 100000 in
theorem slices_rotateCmpFunc_Edge.calls (k:Nat) (P0_:Nat→Prop) (u9000_:Value) (l0:List (S79)) (a1:Int) (a2:Int) (a3:Int) (a4:Int) (r:List (S79)) (w0 w:World) (hB:Below w0.heap.size w0 w) (ho0:Kd.R k79 79 w w0.heap.size P0_ u9000_ l0) (h:slices_rotateCmpFunc_Edge.f k l0 a1 a2 a3 a4=some r):
  Calls Try.prog 110 #[u9000_,.int .i64 a1,.int .i64 a2,.int .i64 a3,.func (.func 82) #[] #[]] w fun e w'=>e= .returned (.tuple #[])∧Kd.R k79 79 w' w0.heap.size (fun k_=>(P0_ k_∨w.heap.size≤k_)) u9000_ r∧Below w0.heap.size w0 w'∧Kept w w' (fun k_=>P0_ k_):=by
 have HO0:=Aside0.mk (show Kd.R k79 79 w w0.heap.size (fun k_=>(P0_ k_∨w.heap.size≤k_)) u9000_ l0 from Kd.R_mono ho0 (fun k_ hk=>(.inl hk)))
 have HK:=Aside0.mk (Kept.refl w (fun k_=>P0_ k_))
 have HW0:=Aside0.mk hB.size
 have HB:=Aside0.mk hB
 clear hB
 have H:(slices_rotateCmpFunc_Edge.l0 k l0 a2 a4 (wrap64 (a2 - a1)) (wrap64 (a3 - a2)))=some r:=h
 clear h
 have H':=Aside0.mk H
 clear H
 go_enter Try.func110,Try.ntmps110
 go_wp2
 go_loopg [10,11] k (fun kq v10 v11 w'=> ∃ (x0_1:List (S79)) (x10_1:Int) (x11_1:Int),v10= .int .i64 x10_1∧v11= .int .i64 x11_1∧Aside0 (slices_rotateCmpFunc_Edge.l0 kq x0_1 a2 a4 x10_1 x11_1=some r)∧Aside0 (kq≤k)∧Aside0 (Kd.R k79 79 w' w0.heap.size (fun k_=>(P0_ k_∨w.heap.size≤k_)) u9000_ x0_1)∧Aside0 (Kept w w' (fun k_=>P0_ k_))∧Aside0 (Below w0.heap.size w0 w'))
 case atStart=>exact⟨(l0),(wrap64 (a2 - a1)),(wrap64 (a3 - a2)),zrs,zrs,H',⟨Nat.le_refl _⟩,⟨zdr HO0⟩,⟨by exact zk4 HK⟩,⟨by exact zk1 HB⟩⟩
 case round=>
  clear H'
  try clear c1
  try clear p2
  obtain⟨x0_1,x10_1,x11_1,rfl,rfl,HA,HK1,HO_0,HK,HB⟩:=hrel
  cases gk with
  |zero=>exact absurd HA.out (by simp [slices_rotateCmpFunc_Edge.l0])
  |succ k1=>
   have H:=HA.out
   clear HA
   simp only [slices_rotateCmpFunc_Edge.l0] at H
   by_cases c6:x10_1=x11_1
   ·rw [if_pos c6] at H
    have c6b0:(x10_1==x11_1)=true:=beq_iff_eq.mpr c6
    have c6b1:(x10_1 !=x11_1)=false:=bne_eq_false_iff_eq.mpr c6
    clear c6
    replace H:=Option.bind_eq_some_iff.mp H
    obtain⟨t711,A70,H⟩:=H
    replace H:(some t711)=some r:=H
    have A7:=Aside0.mk A70
    clear A70
    obtain rfl:=Option.some.inj H
    obtain⟨Ao8,co8,eo8⟩:=Kd.R_slice HO_0.out
    subst eo8
    go_wp2_with (first|((with_reducible refine gate_callee (f:=111) rfl ?_);refine goesL_ (some 57) rfl rfl Try.func111 (by kernel_rfl) rfl #[.slice Ao8 x0_1.length co8,.int .i64 (wrap64 (a2 - x10_1)),.int .i64 a2,.int .i64 x10_1,.func (.func 82) #[] #[]] rfl zq2 ?_;(with_reducible refine(slices_swapRangeCmpFunc_Edge.calls k1 (fun k_=>some k_= (.slice Ao8 x0_1.length co8:Value).ownBlock) (.slice Ao8 x0_1.length co8) x0_1 (wrap64 (a2 - x10_1)) a2 x10_1 a4 t711 w0 _ ?side1 ?side2 A7.out).mono ?_);(case side1=>exact zk1 HB);(case side2=>exact Kd.R_tight rfl HO_0.out);rintro e w9 ⟨rfl,hy0,hb,hkp⟩;refine⟨_,rfl,?_⟩;replace HK:=Aside0.mk (Kept.then_ (S:=(fun k_=>P0_ k_)) (by exact zk4 HK) hkp (fun k_ hs_=>(fun e_=>(HO_0.out.1 k_ e_.symm)) hs_));replace HO_0:=Aside0.mk (Kd.R_reok rfl hy0 (fun k_ e_=>HO_0.out.1 k_ e_));replace HB:=Aside0.mk (hb);(try clear hb);(try clear hkp);(try clear hy0)))
    first|go_end0|((try simp only [Exit.inBlock,Exit.then]);refine bodyPost_ret (results_none rfl _ _ _) rfl ?_)
    exact⟨zer,zdr HO_0,by exact zk1 HB,by exact zk4 HK⟩
   ·rw [if_neg c6] at H
    have c6b0:(x10_1==x11_1)=false:=beq_eq_false_iff_ne.mpr c6
    have c6b1:(x10_1 !=x11_1)=true:=bne_iff_ne.mpr c6
    by_cases c10:x10_1 > x11_1
    ·rw [if_pos c10] at H
     have c10b0:decide (x11_1<x10_1)=true:=decide_eq_true c10
     clear c10
     replace H:=Option.bind_eq_some_iff.mp H
     obtain⟨t712,A110,H⟩:=H
     replace H:(slices_rotateCmpFunc_Edge.l0 k1 t712 a2 a4 (wrap64 (x10_1 - x11_1)) x11_1)=some r:=H
     have A11:=Aside0.mk A110
     clear A110
     have H':=Aside0.mk H
     clear H
     obtain⟨Ao12,co12,eo12⟩:=Kd.R_slice HO_0.out
     subst eo12
     go_wp2_with (first|((with_reducible refine gate_callee (f:=111) rfl ?_);refine goesL_ (some 31) rfl rfl Try.func111 (by kernel_rfl) rfl #[.slice Ao12 x0_1.length co12,.int .i64 (wrap64 (a2 - x10_1)),.int .i64 a2,.int .i64 x11_1,.func (.func 82) #[] #[]] rfl zq2 ?_;(with_reducible refine(slices_swapRangeCmpFunc_Edge.calls k1 (fun k_=>some k_= (.slice Ao12 x0_1.length co12:Value).ownBlock) (.slice Ao12 x0_1.length co12) x0_1 (wrap64 (a2 - x10_1)) a2 x11_1 a4 t712 w0 _ ?side1 ?side2 A11.out).mono ?_);(case side1=>exact zk1 HB);(case side2=>exact Kd.R_tight rfl HO_0.out);rintro e w13 ⟨rfl,hy0,hb,hkp⟩;refine⟨_,rfl,?_⟩;replace HK:=Aside0.mk (Kept.then_ (S:=(fun k_=>P0_ k_)) (by exact zk4 HK) hkp (fun k_ hs_=>(fun e_=>(HO_0.out.1 k_ e_.symm)) hs_));replace HO_0:=Aside0.mk (Kd.R_reok rfl hy0 (fun k_ e_=>HO_0.out.1 k_ e_));replace HB:=Aside0.mk (hb);(try clear hb);(try clear hkp);(try clear hy0)))
     go_roundg k1
     case measure=>have:=HK1.out;omega
     case rel=>exact⟨(t712),(wrap64 (x10_1 - x11_1)),(x11_1),zrs,zrs,H',⟨by have:=HK1.out;omega⟩,⟨zdr HO_0⟩,⟨by exact zk4 HK⟩,⟨by exact zk1 HB⟩⟩
    ·rw [if_neg c10] at H
     have c10b0:decide (x11_1<x10_1)=false:=decide_eq_false c10
     clear c10
     replace H:=Option.bind_eq_some_iff.mp H
     obtain⟨t713,A140,H⟩:=H
     replace H:(slices_rotateCmpFunc_Edge.l0 k1 t713 a2 a4 x10_1 (wrap64 (x11_1 - x10_1)))=some r:=H
     have A14:=Aside0.mk A140
     clear A140
     have H':=Aside0.mk H
     clear H
     obtain⟨Ao15,co15,eo15⟩:=Kd.R_slice HO_0.out
     subst eo15
     go_wp2_with (first|((with_reducible refine gate_callee (f:=111) rfl ?_);refine goesL_ (some 46) rfl rfl Try.func111 (by kernel_rfl) rfl #[.slice Ao15 x0_1.length co15,.int .i64 (wrap64 (a2 - x10_1)),.int .i64 (wrap64 ((wrap64 (a2+x11_1)) - x10_1)),.int .i64 x10_1,.func (.func 82) #[] #[]] rfl zq2 ?_;(with_reducible refine(slices_swapRangeCmpFunc_Edge.calls k1 (fun k_=>some k_= (.slice Ao15 x0_1.length co15:Value).ownBlock) (.slice Ao15 x0_1.length co15) x0_1 (wrap64 (a2 - x10_1)) (wrap64 ((wrap64 (a2+x11_1)) - x10_1)) x10_1 a4 t713 w0 _ ?side1 ?side2 A14.out).mono ?_);(case side1=>exact zk1 HB);(case side2=>exact Kd.R_tight rfl HO_0.out);rintro e w16 ⟨rfl,hy0,hb,hkp⟩;refine⟨_,rfl,?_⟩;replace HK:=Aside0.mk (Kept.then_ (S:=(fun k_=>P0_ k_)) (by exact zk4 HK) hkp (fun k_ hs_=>(fun e_=>(HO_0.out.1 k_ e_.symm)) hs_));replace HO_0:=Aside0.mk (Kd.R_reok rfl hy0 (fun k_ e_=>HO_0.out.1 k_ e_));replace HB:=Aside0.mk (hb);(try clear hb);(try clear hkp);(try clear hy0)))
     go_roundg k1
     case measure=>have:=HK1.out;omega
     case rel=>exact⟨(t713),(x10_1),(wrap64 (x11_1 - x10_1)),zrs,zrs,H',⟨by have:=HK1.out;omega⟩,⟨zdr HO_0⟩,⟨by exact zk4 HK⟩,⟨by exact zk1 HB⟩⟩
end Go.Proofs.Ytedegfbheihopaa.P
