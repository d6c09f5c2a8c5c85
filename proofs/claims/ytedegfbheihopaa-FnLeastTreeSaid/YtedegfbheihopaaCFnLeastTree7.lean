/- Functions, walks and plain lemmas that the law FnLeastTree reaches, part 7. -/
import Derived.Test.YtedegfbheihopaaCFnLeastTree6
import Derived.Below
import Derived.Deep.Draws
import Derived.Deep.AppendLies
import Derived.Maps.AppendAt
import Derived.OwnWalk
import Derived.Laws.BytesArg
import Derived.Laws.MakeOwn
import Derived.Laws.OwnMore
import Derived.Deep.OwnRows
import Derived.Tactics
import Derived.Lib.ConvBytes
import Derived.Laws.Slices
import Derived.WalkKit
import Derived.KernelRfl
import Derived.RowKit3
import Derived.Deep.LoopGhost
import Derived.Deep.QuietTactic
import Derived.BigQuiet
import Derived.WideLaws
import Derived.Deep.DeepCutAuto
import Derived.Deep.CutBlock
import Derived.Deep.RegionHeld3
import Derived.Laws.Rows
import Derived.Lib.AppendStr
import Derived.ArgAppend
import Derived.Laws.IdiomCopy
import Derived.OrdersHeld
import Derived.Laws.BitsLemmas
import Derived.RowKit
import Derived.WalkSpells
import Derived.Lib.SliceRun
import Derived.Shelf.Abstract
import Derived.Maps.OwnSet
import Derived.Maps.OwnOps
import Derived.ProofKit
import Derived.OpenShut
import Derived.ShutString
import Derived.ChangeOld
import Derived.SizedLaws
namespace Go.Proofs.Ytedegfbheihopaa.P
open Go.RowKit Go.Proofs.YtedegfbheihopaaW.PrintWords Go.Proofs.YtedegfbheihopaaW.PrintLast Go.Proofs.YtedegfbheihopaaW.PrintMore
attribute [local go_sem] max2_int min2_int max_two min_two max_three min_three max_four min_four   -- for this text's walks alone
set_option linter.unusedVariables false
set_option linter.unusedSimpArgs false
mutual
def slices_symMergeCmpFunc_Edge.l0:Nat→List (S79)→Int→Int→Int→Option ((List (S79)))
 | 0,_,_,_,_=>none
 |k+1,x0,x1,x10,x11=>if x10<x11 then(if 0≤ (wrap64 ((IntKind.u64.wrap (wrap64 (x10+x11))) / 2)) then(if (wrap64 ((IntKind.u64.wrap (wrap64 (x10+x11))) / 2))< (x0.length:Int) then(if 0≤x1 then(if x1< (x0.length:Int) then((cmpE.f ((rd_T79 x0 (wrap64 ((IntKind.u64.wrap (wrap64 (x10+x11))) / 2))).f0) ((rd_T79 x0 (wrap64 ((IntKind.u64.wrap (wrap64 (x10+x11))) / 2))).f1) ((rd_T79 x0 (wrap64 ((IntKind.u64.wrap (wrap64 (x10+x11))) / 2))).f2) ((rd_T79 x0 x1).f0) ((rd_T79 x0 x1).f1) ((rd_T79 x0 x1).f2)).bind fun t716=>(if t716< 0 then(slices_symMergeCmpFunc_Edge.l0 k x0 x1 (wrap64 ((wrap64 ((IntKind.u64.wrap (wrap64 (x10+x11))) / 2))+1)) x11) else(slices_symMergeCmpFunc_Edge.l0 k x0 x1 x10 (wrap64 ((IntKind.u64.wrap (wrap64 (x10+x11))) / 2))))) else(none)) else(none)) else(none)) else(none)) else(slices_symMergeCmpFunc_Edge.l1 k x0 x10 x1)
def slices_symMergeCmpFunc_Edge.l1:Nat→List (S79)→Int→Int→Option ((List (S79)))
 | 0,_,_,_=>none
 |k+1,x0,x10,x13=>if x13< (wrap64 (x10 - 1)) then(if 0≤ (wrap64 (x13+1)) then(if (wrap64 (x13+1))< (x0.length:Int) then(if 0≤x13 then(if x13< (x0.length:Int) then(slices_symMergeCmpFunc_Edge.l1 k ((x0.set (x13:Int).toNat (⟨(rd_T79 x0 (wrap64 (x13+1))).f0,(rd_T79 x0 (wrap64 (x13+1))).f1,(rd_T79 x0 (wrap64 (x13+1))).f2⟩ :S79)).set ((wrap64 (x13+1)):Int).toNat (⟨(rd_T79 x0 x13).f0,(rd_T79 x0 x13).f1,(rd_T79 x0 x13).f2⟩ :S79)) x10 (wrap64 (x13+1))) else(none)) else(none)) else(none)) else(none)) else(some x0)
def slices_symMergeCmpFunc_Edge.l2:Nat→List (S79)→Int→Int→Int→Option ((List (S79)))
 | 0,_,_,_,_=>none
 |k+1,x0,x2,x14,x15=>if x14<x15 then(if 0≤x2 then(if x2< (x0.length:Int) then(if 0≤ (wrap64 ((IntKind.u64.wrap (wrap64 (x14+x15))) / 2)) then(if (wrap64 ((IntKind.u64.wrap (wrap64 (x14+x15))) / 2))< (x0.length:Int) then((cmpE.f ((rd_T79 x0 x2).f0) ((rd_T79 x0 x2).f1) ((rd_T79 x0 x2).f2) ((rd_T79 x0 (wrap64 ((IntKind.u64.wrap (wrap64 (x14+x15))) / 2))).f0) ((rd_T79 x0 (wrap64 ((IntKind.u64.wrap (wrap64 (x14+x15))) / 2))).f1) ((rd_T79 x0 (wrap64 ((IntKind.u64.wrap (wrap64 (x14+x15))) / 2))).f2)).bind fun t723=>(if t723< 0 then(slices_symMergeCmpFunc_Edge.l2 k x0 x2 x14 (wrap64 ((IntKind.u64.wrap (wrap64 (x14+x15))) / 2))) else(slices_symMergeCmpFunc_Edge.l2 k x0 x2 (wrap64 ((wrap64 ((IntKind.u64.wrap (wrap64 (x14+x15))) / 2))+1)) x15))) else(none)) else(none)) else(none)) else(none)) else(slices_symMergeCmpFunc_Edge.l3 k x0 x14 x2)
def slices_symMergeCmpFunc_Edge.l3:Nat→List (S79)→Int→Int→Option ((List (S79)))
 | 0,_,_,_=>none
 |k+1,x0,x14,x17=>if x17 > x14 then(if 0≤ (wrap64 (x17 - 1)) then(if (wrap64 (x17 - 1))< (x0.length:Int) then(if 0≤x17 then(if x17< (x0.length:Int) then(slices_symMergeCmpFunc_Edge.l3 k ((x0.set (x17:Int).toNat (⟨(rd_T79 x0 (wrap64 (x17 - 1))).f0,(rd_T79 x0 (wrap64 (x17 - 1))).f1,(rd_T79 x0 (wrap64 (x17 - 1))).f2⟩ :S79)).set ((wrap64 (x17 - 1)):Int).toNat (⟨(rd_T79 x0 x17).f0,(rd_T79 x0 x17).f1,(rd_T79 x0 x17).f2⟩ :S79)) x14 (wrap64 (x17 - 1))) else(none)) else(none)) else(none)) else(none)) else(some x0)
def slices_symMergeCmpFunc_Edge.j4:Nat→List (S79)→Int→Int→Int→Int→Int→Int→Int→Int→Option ((List (S79)))
 | 0,_,_,_,_,_,_,_,_,_=>none
 |k+1,x0,x1,x2,x3,x4,x18,x19,x20,x21=>slices_symMergeCmpFunc_Edge.l4 k x0 x1 x2 x3 x4 x18 x19 x20 x21 (wrap64 (x19 - 1))
def slices_symMergeCmpFunc_Edge.l4:Nat→List (S79)→Int→Int→Int→Int→Int→Int→Int→Int→Int→Option ((List (S79)))
 | 0,_,_,_,_,_,_,_,_,_,_=>none
 |k+1,x0,x1,x2,x3,x4,x18,x19,x20,x21,x22=>if x20<x21 then(if 0≤ (wrap64 (x22 - (wrap64 ((IntKind.u64.wrap (wrap64 (x20+x21))) / 2)))) then(if (wrap64 (x22 - (wrap64 ((IntKind.u64.wrap (wrap64 (x20+x21))) / 2))))< (x0.length:Int) then(if 0≤ (wrap64 ((IntKind.u64.wrap (wrap64 (x20+x21))) / 2)) then(if (wrap64 ((IntKind.u64.wrap (wrap64 (x20+x21))) / 2))< (x0.length:Int) then((cmpE.f ((rd_T79 x0 (wrap64 (x22 - (wrap64 ((IntKind.u64.wrap (wrap64 (x20+x21))) / 2))))).f0) ((rd_T79 x0 (wrap64 (x22 - (wrap64 ((IntKind.u64.wrap (wrap64 (x20+x21))) / 2))))).f1) ((rd_T79 x0 (wrap64 (x22 - (wrap64 ((IntKind.u64.wrap (wrap64 (x20+x21))) / 2))))).f2) ((rd_T79 x0 (wrap64 ((IntKind.u64.wrap (wrap64 (x20+x21))) / 2))).f0) ((rd_T79 x0 (wrap64 ((IntKind.u64.wrap (wrap64 (x20+x21))) / 2))).f1) ((rd_T79 x0 (wrap64 ((IntKind.u64.wrap (wrap64 (x20+x21))) / 2))).f2)).bind fun t730=>(if t730< 0 then(slices_symMergeCmpFunc_Edge.l4 k x0 x1 x2 x3 x4 x18 x19 x20 (wrap64 ((IntKind.u64.wrap (wrap64 (x20+x21))) / 2)) x22) else(slices_symMergeCmpFunc_Edge.l4 k x0 x1 x2 x3 x4 x18 x19 (wrap64 ((wrap64 ((IntKind.u64.wrap (wrap64 (x20+x21))) / 2))+1)) x21 x22))) else(none)) else(none)) else(none)) else(none)) else(if x20<x2 then(slices_symMergeCmpFunc_Edge.j6 k x0 x1 x2 x3 x4 x18 x20 (wrap64 (x19 - x20)) (decide (x2< (wrap64 (x19 - x20))))) else(slices_symMergeCmpFunc_Edge.j6 k x0 x1 x2 x3 x4 x18 x20 (wrap64 (x19 - x20)) false))
def slices_symMergeCmpFunc_Edge.j6:Nat→List (S79)→Int→Int→Int→Int→Int→Int→Int→Bool→Option ((List (S79)))
 | 0,_,_,_,_,_,_,_,_,_=>none
 |k+1,x0,x1,x2,x3,x4,x18,x20,x24,x185=>if x185=true then((slices_rotateCmpFunc_Edge.f k x0 x20 x2 x24 x4).bind fun t731=>(slices_symMergeCmpFunc_Edge.j7 k t731 x1 x3 x4 x18 x20 x24)) else(slices_symMergeCmpFunc_Edge.j7 k x0 x1 x3 x4 x18 x20 x24)
def slices_symMergeCmpFunc_Edge.j7:Nat→List (S79)→Int→Int→Int→Int→Int→Int→Option ((List (S79)))
 | 0,_,_,_,_,_,_,_=>none
 |k+1,x0,x1,x3,x4,x18,x20,x24=>if x1<x20 then(slices_symMergeCmpFunc_Edge.j8 k x0 x1 x3 x4 x18 x20 x24 (decide (x20<x18))) else(slices_symMergeCmpFunc_Edge.j8 k x0 x1 x3 x4 x18 x20 x24 false)
def slices_symMergeCmpFunc_Edge.j8:Nat→List (S79)→Int→Int→Int→Int→Int→Int→Bool→Option ((List (S79)))
 | 0,_,_,_,_,_,_,_,_=>none
 |k+1,x0,x1,x3,x4,x18,x20,x24,x199=>if x199=true then((slices_symMergeCmpFunc_Edge.f k x0 x1 x20 x18 x4).bind fun t732=>(if x18<x24 then(if x24<x3 then((slices_symMergeCmpFunc_Edge.f k t732 x18 x24 x3 x4).bind fun t733=>(some t733)) else(some t732)) else(some t732))) else(if x18<x24 then(if x24<x3 then((slices_symMergeCmpFunc_Edge.f k x0 x18 x24 x3 x4).bind fun t734=>(some t734)) else(some x0)) else(some x0))
def slices_symMergeCmpFunc_Edge.f:Nat→List (S79)→Int→Int→Int→Int→Option ((List (S79)))
 | 0,_,_,_,_,_=>none
 |k+1,l0,a1,a2,a3,a4=>if (wrap64 (a2 - a1))=1 then(slices_symMergeCmpFunc_Edge.l0 k l0 a1 a2 a3) else(if (wrap64 (a3 - a2))=1 then(slices_symMergeCmpFunc_Edge.l2 k l0 a2 a1 a2) else(if a2 > (wrap64 ((IntKind.u64.wrap (wrap64 (a1+a3))) / 2)) then(slices_symMergeCmpFunc_Edge.j4 k l0 a1 a2 a3 a4 (wrap64 ((IntKind.u64.wrap (wrap64 (a1+a3))) / 2)) (wrap64 ((wrap64 ((IntKind.u64.wrap (wrap64 (a1+a3))) / 2))+a2)) (wrap64 ((wrap64 ((wrap64 ((IntKind.u64.wrap (wrap64 (a1+a3))) / 2))+a2)) - a3)) (wrap64 ((IntKind.u64.wrap (wrap64 (a1+a3))) / 2))) else(slices_symMergeCmpFunc_Edge.j4 k l0 a1 a2 a3 a4 (wrap64 ((IntKind.u64.wrap (wrap64 (a1+a3))) / 2)) (wrap64 ((wrap64 ((IntKind.u64.wrap (wrap64 (a1+a3))) / 2))+a2)) a1 a2)))
end
def slices_symMergeCmpFunc_Edge.T5:Bool × List (List Nat × List Nat):=(true,[([],[]),([],[]),([],[]),([1,2],[1,2]),([3],[3]),([],[]),([],[]),([5,6],[5,6]),([7],[7]),([0,4,8],[0,4,8]),([9],[9])])
def slices_symMergeCmpFunc_Edge.B5:List Nat:= [0,0,0,6,14,0,0,96,224,511,1023]
theorem slices_symMergeCmpFunc_Edge.tab5:rtab .any (opsOf Try.f109 5)=slices_symMergeCmpFunc_Edge.T5:=by kernel_rfl
theorem slices_symMergeCmpFunc_Edge.bits5:waitsOk slices_symMergeCmpFunc_Edge.T5.2 slices_symMergeCmpFunc_Edge.B5=true:=by kernel_rfl
def slices_symMergeCmpFunc_Edge.T11:Bool × List (List Nat × List Nat):=(true,[([],[]),([],[]),([],[]),([],[]),([3],[3]),([],[]),([],[]),([6],[6]),([5,7],[5,7]),([8],[8]),([],[]),([],[]),([10,11],[10,11]),([12],[12]),([0,1,0,1,5,6,7,8,9,13],[0,1]),([14,9,0,1,5,6,7,8,9,13],[9,14]),([2,4,0,1,2,3,4,5,6,7,8,9,10,11,12,13,14,15],[2,4]),([16,13,15,0,1,2,3,4,5,6,7,8,9,10,11,12,13,14,15],[13,16])])
def slices_symMergeCmpFunc_Edge.B11:List Nat:= [0,0,0,0,8,0,0,64,224,480,0,0,3072,7168,16355,32739,65535,131071]
theorem slices_symMergeCmpFunc_Edge.tab11:rtab .any (opsOf Try.f109 11)=slices_symMergeCmpFunc_Edge.T11:=by kernel_rfl
theorem slices_symMergeCmpFunc_Edge.bits11:waitsOk slices_symMergeCmpFunc_Edge.T11.2 slices_symMergeCmpFunc_Edge.B11=true:=by kernel_rfl
def slices_symMergeCmpFunc_Edge.T17:Bool × List (List Nat × List Nat):=(true,[([],[]),([],[]),([],[]),([1,2],[1,2]),([3],[3]),([],[]),([],[]),([5,6],[5,6]),([7],[7]),([0,4,8],[0,4,8]),([9],[9]),([10],[10])])
def slices_symMergeCmpFunc_Edge.B17:List Nat:= [0,0,0,6,14,0,0,96,224,511,1023,2047]
theorem slices_symMergeCmpFunc_Edge.tab17:rtab .any (opsOf Try.f109 17)=slices_symMergeCmpFunc_Edge.T17:=by kernel_rfl
theorem slices_symMergeCmpFunc_Edge.bits17:waitsOk slices_symMergeCmpFunc_Edge.T17.2 slices_symMergeCmpFunc_Edge.B17=true:=by kernel_rfl
def slices_symMergeCmpFunc_Edge.T23:Bool × List (List Nat × List Nat):=(true,[([],[]),([],[]),([],[]),([],[]),([3],[3]),([],[]),([],[]),([6],[6]),([5,7],[5,7]),([8],[8]),([],[]),([],[]),([10,11],[10,11]),([12],[12]),([0,1,0,1,5,6,7,8,9,13],[0,1]),([14,9,0,1,5,6,7,8,9,13],[9,14]),([2,4,0,1,2,3,4,5,6,7,8,9,10,11,12,13,14,15],[2,4]),([16,13,15,0,1,2,3,4,5,6,7,8,9,10,11,12,13,14,15],[13,16])])
def slices_symMergeCmpFunc_Edge.B23:List Nat:= [0,0,0,0,8,0,0,64,224,480,0,0,3072,7168,16355,32739,65535,131071]
theorem slices_symMergeCmpFunc_Edge.tab23:rtab .any (opsOf Try.f109 23)=slices_symMergeCmpFunc_Edge.T23:=by kernel_rfl
theorem slices_symMergeCmpFunc_Edge.bits23:waitsOk slices_symMergeCmpFunc_Edge.T23.2 slices_symMergeCmpFunc_Edge.B23=true:=by kernel_rfl
def slices_symMergeCmpFunc_Edge.T35:Bool × List (List Nat × List Nat):=(true,[([],[]),([],[]),([],[]),([],[]),([2,3],[2,3]),([1,4],[1,4]),([5],[5]),([],[]),([],[]),([7,8],[7,8]),([9],[9]),([0,6,10],[0,6,10]),([11],[11]),([12],[12])])
def slices_symMergeCmpFunc_Edge.B35:List Nat:= [0,0,0,0,12,30,62,0,0,384,896,2047,4095,8191]
theorem slices_symMergeCmpFunc_Edge.tab35:rtab .any (opsOf Try.f109 35)=slices_symMergeCmpFunc_Edge.T35:=by kernel_rfl
theorem slices_symMergeCmpFunc_Edge.bits35:waitsOk slices_symMergeCmpFunc_Edge.T35.2 slices_symMergeCmpFunc_Edge.B35=true:=by kernel_rfl
set_option maxHeartbeats 8000000 in
set_option maxRecDepth 100000 in
theorem slices_symMergeCmpFunc_Edge.calls (k:Nat):∀ (P0_:Nat→Prop) (u9000_:Value) (l0:List (S79)) (a1:Int) (a2:Int) (a3:Int) (a4:Int) (r:List (S79)) (w0 w:World) (hB:Below w0.heap.size w0 w) (ho0:Kd.R k79 79 w w0.heap.size P0_ u9000_ l0) (h:slices_symMergeCmpFunc_Edge.f k l0 a1 a2 a3 a4=some r),
  Calls Try.prog 109 #[u9000_,.int .i64 a1,.int .i64 a2,.int .i64 a3,.func (.func 82) #[] #[]] w fun e w'=>e= .returned (.tuple #[])∧Kd.R k79 79 w' w0.heap.size (fun k_=>(P0_ k_∨w.heap.size≤k_)) u9000_ r∧Below w0.heap.size w0 w'∧Kept w w' (fun k_=>P0_ k_):=by
 induction k using Nat.strongRecOn with
 |_ k ih=>
 intro P0_ u9000_ l0 a1 a2 a3 a4 r w0 w hB ho0 h
 cases k with
 |zero=>exact absurd h (by simp [slices_symMergeCmpFunc_Edge.f])
 |succ k=>
 simp only [slices_symMergeCmpFunc_Edge.f] at h
 have hu79:=Try.underlying79
 have HO0:=Aside0.mk (show Kd.R k79 79 w w0.heap.size (fun k_=>(P0_ k_∨w.heap.size≤k_)) u9000_ l0 from Kd.R_mono ho0 (fun k_ hk=>(.inl hk)))
 have HK:=Aside0.mk (Kept.refl w (fun k_=>P0_ k_))
 have HW0:=Aside0.mk hB.size
 have HB:=Aside0.mk hB
 clear hB
 have H:(if (wrap64 (a2 - a1))=1 then(slices_symMergeCmpFunc_Edge.l0 k l0 a1 a2 a3) else(if (wrap64 (a3 - a2))=1 then(slices_symMergeCmpFunc_Edge.l2 k l0 a2 a1 a2) else(if a2 > (wrap64 ((IntKind.u64.wrap (wrap64 (a1+a3))) / 2)) then(slices_symMergeCmpFunc_Edge.j4 k l0 a1 a2 a3 a4 (wrap64 ((IntKind.u64.wrap (wrap64 (a1+a3))) / 2)) (wrap64 ((wrap64 ((IntKind.u64.wrap (wrap64 (a1+a3))) / 2))+a2)) (wrap64 ((wrap64 ((wrap64 ((IntKind.u64.wrap (wrap64 (a1+a3))) / 2))+a2)) - a3)) (wrap64 ((IntKind.u64.wrap (wrap64 (a1+a3))) / 2))) else(slices_symMergeCmpFunc_Edge.j4 k l0 a1 a2 a3 a4 (wrap64 ((IntKind.u64.wrap (wrap64 (a1+a3))) / 2)) (wrap64 ((wrap64 ((IntKind.u64.wrap (wrap64 (a1+a3))) / 2))+a2)) a1 a2))))=some r:=h
 clear h
 by_cases c6:(wrap64 (a2 - a1))=1
 ·rw [if_pos c6] at H
  have c6b0:((wrap64 (a2 - a1))==1)=true:=beq_iff_eq.mpr c6
  have c6b1:((wrap64 (a2 - a1)) !=1)=false:=bne_eq_false_iff_eq.mpr c6
  clear c6
  have H':=Aside0.mk H
  clear H
  go_enter Try.func109,Try.ntmps109
  go_wp2
  go_loopg [10,11] k (fun kq v10 v11 w'=> ∃ (x10_1:Int) (x11_1:Int),v10= .int .i64 x10_1∧v11= .int .i64 x11_1∧Aside0 (slices_symMergeCmpFunc_Edge.l0 kq l0 a1 x10_1 x11_1=some r)∧Aside0 (kq≤k)∧Aside0 (Kd.R k79 79 w' w0.heap.size (fun k_=>(P0_ k_∨w.heap.size≤k_)) u9000_ l0)∧Aside0 (Kept w w' (fun k_=>P0_ k_))∧Aside0 (Below w0.heap.size w0 w'))
  case atStart=>exact⟨(a2),(a3),zrs,zrs,H',⟨Nat.le_refl _⟩,⟨zdr HO0⟩,⟨by exact zk4 HK⟩,⟨by exact zk1 HB⟩⟩
  case round=>
   clear H'
   try clear c1
   try clear p2
   try clear c6
   try clear c6b0
   try clear c6b1
   try clear p6
   obtain⟨x10_1,x11_1,rfl,rfl,HA,HK1,HO_0,HK,HB⟩:=hrel
   cases gk with
   |zero=>exact absurd HA.out (by simp [slices_symMergeCmpFunc_Edge.l0])
   |succ k1=>
    have H:=HA.out
    clear HA
    simp only [slices_symMergeCmpFunc_Edge.l0] at H
    by_cases c7:x10_1<x11_1
    ·rw [if_pos c7] at H
     have c7b0:decide (x10_1<x11_1)=true:=decide_eq_true c7
     clear c7
     obtain⟨ji8,hji8⟩ :∃ j_:Int,(wrap64 ((IntKind.u64.wrap (wrap64 (x10_1+x11_1))) / 2))=j_:=⟨_,rfl⟩
     replace H:(if 0≤ (ji8) then(if (ji8)< (l0.length:Int) then(if 0≤a1 then(if a1< (l0.length:Int) then((cmpE.f ((rd_T79 l0 (ji8)).f0) ((rd_T79 l0 (ji8)).f1) ((rd_T79 l0 (ji8)).f2) ((rd_T79 l0 a1).f0) ((rd_T79 l0 a1).f1) ((rd_T79 l0 a1).f2)).bind fun t716=>(if t716< 0 then(slices_symMergeCmpFunc_Edge.l0 k1 l0 a1 (wrap64 ((ji8)+1)) x11_1) else(slices_symMergeCmpFunc_Edge.l0 k1 l0 a1 x10_1 ji8))) else(none)) else(none)) else(none)) else(none))=some r:=by first|(rw [hji8] at H;exact H)|(simp only [hji8] at H ⊢;exact H)
     have hji8w:(IntKind.i64.wrap ((IntKind.u64.wrap (wrap64 (x10_1+x11_1))) / 2))=ji8:=(i64_w _).trans hji8
     by_cases c9: 0≤ (ji8)
     case neg=>exact znn c9 H
     rw [if_pos c9] at H
     have c9b0:decide (0≤ (ji8))=true:=decide_eq_true c9
     clear c9
     by_cases c10:(ji8)< (l0.length:Int)
     case neg=>exact znn c10 H
     rw [if_pos c10] at H
     have c10b0:decide ((ji8)< (l0.length:Int))=true:=decide_eq_true c10
     clear c10
     by_cases c11: 0≤a1
     case neg=>exact znn c11 H
     rw [if_pos c11] at H
     have c11b0:decide (0≤a1)=true:=decide_eq_true c11
     clear c11
     by_cases c12:a1< (l0.length:Int)
     case neg=>exact znn c12 H
     rw [if_pos c12] at H
     have c12b0:decide (a1< (l0.length:Int))=true:=decide_eq_true c12
     clear c12
     replace H:=Option.bind_eq_some_iff.mp H
     obtain⟨t716,A130,H⟩:=H
     replace H:(if t716< 0 then(slices_symMergeCmpFunc_Edge.l0 k1 l0 a1 (wrap64 ((ji8)+1)) x11_1) else(slices_symMergeCmpFunc_Edge.l0 k1 l0 a1 x10_1 ji8))=some r:=H
     have A13:=Aside0.mk A130
     clear A130
     by_cases c14:t716< 0
     ·rw [if_pos c14] at H
      have c14b0:decide (t716< 0)=true:=decide_eq_true c14
      clear c14
      as_aux_lemma=>
       have H':=Aside0.mk H
       clear H
       try go_wp2
       replace HO_0:=Aside0.mk (Kd.R_drew HO_0.out)
       replace HK:=Aside0.mk (Kept.drew HK.out)
       replace HB:=Aside0.mk (below_drew1 HB.out)
       obtain⟨Ao16,co16,eo16⟩:=Kd.R_slice HO_0.out
       (first|subst eo16|(injection eo16 with f1_ f2_ f3_;have f4_:=f1_.symm;have f5_:=f3_.symm;clear f1_ f2_ f3_;subst f4_;subst f5_))
       have p714: 0≤ ((ji8):Int):=of_decide_eq_true zq1
       have q714:(ji8)< (l0.length:Int):=of_decide_eq_true zq1
       obtain⟨ad714,e714,hx714_0,hx714_1,hx714_2⟩:=at_T79 (Kd.R_reads' HO_0.out).2.2 (ji8) p714 q714
       cases e714
       replace p714:=eq_true p714
       replace q714:=eq_true q714
       have p715: 0≤ (a1:Int):=of_decide_eq_true zq1
       have q715:a1< (l0.length:Int):=of_decide_eq_true zq1
       obtain⟨ad715,e715,hx715_0,hx715_1,hx715_2⟩:=at_T79 (Kd.R_reads' HO_0.out).2.2 a1 p715 q715
       obtain rfl:ad714=ad715:=(by injection e715)
       replace p715:=eq_true p715
       replace q715:=eq_true q715
       refine start_ (n:=11) (S:=fun w'=>w'.cell? (ad714.add (((ji8)).toNat * 3))=some (.int .i64 ((rd_T79 l0 (ji8)).f0))∧w'.cell? ⟨(ad714.add (((ji8)).toNat * 3)).block,(ad714.add (((ji8)).toNat * 3)).off+1,none⟩=some (.int .i64 ((rd_T79 l0 (ji8)).f1))∧w'.cell? ⟨(ad714.add (((ji8)).toNat * 3)).block,(ad714.add (((ji8)).toNat * 3)).off+2,none⟩=some (.int .i64 ((rd_T79 l0 (ji8)).f2))∧w'.cell? (ad714.add ((a1).toNat * 3))=some (.int .i64 ((rd_T79 l0 a1).f0))∧w'.cell? ⟨(ad714.add ((a1).toNat * 3)).block,(ad714.add ((a1).toNat * 3)).off+1,none⟩=some (.int .i64 ((rd_T79 l0 a1).f1))∧w'.cell? ⟨(ad714.add ((a1).toNat * 3)).block,(ad714.add ((a1).toNat * 3)).off+2,none⟩=some (.int .i64 ((rd_T79 l0 a1).f2))) (ds:= []) (mb' 11 0) (by kernel_rfl) rfl rfl ⟨hx714_0,hx714_1,hx714_2,hx715_0,hx715_1,hx715_2⟩ (fun hHeld=>?_);refine with_tabW slices_symMergeCmpFunc_Edge.tab5 slices_symMergeCmpFunc_Edge.bits5 (fun HT_ HW_=>?_)
       generalize wr.drew=w15 at HO_0 HK HB hx714_0 hx714_1 hx714_2 hx715_0 hx715_1 hx715_2 hHeld ⊢
       refine zp1 HT_ 0 40 (mb' 11 1) rfl ?_
       refine zp1 HT_ 1 41 (mb' 11 3) rfl ?_
       refine zp1 HT_ 2 42 (mb' 11 7) rfl ?_
       refine zp1 HT_ 3 43 (mb' 11 15) rfl ?_
       refine zp1 HT_ 5 45 (mb' 11 47) rfl ?_
       refine zp1 HT_ 6 46 (mb' 11 111) rfl ?_
       refine zp1 HT_ 7 47 (mb' 11 239) rfl ?_
       refine zt1 HT_ HW_ (v:=?_) (a':=?_) 4 44 (mb' 11 255) rfl ?_ hHeld ?_ ?_;rotate_left;(rintro w' ⟨s0,s1,s2,s3,s4,s5⟩;go_simp;with_reducible rfl);rotate_left;exact zpa
       refine zt1 HT_ HW_ (v:=?_) (a':=?_) 8 48 (mb' 11 511) rfl ?_ hHeld ?_ ?_;rotate_left;(rintro w' ⟨s0,s1,s2,s3,s4,s5⟩;go_simp;with_reducible rfl);rotate_left;exact zpa
       refine one_ (i:=9) (N:=some 49) (mb' 11 1023) rfl rfl (one_of HT_.out (by kernel_rfl)) (by decide) (fun K hK=>?_)
       refine goesV_ (f:=82) Try.func82 (by kernel_rfl) rfl #[.agg #[.int .i64 ((rd_T79 l0 (ji8)).f0),.int .i64 ((rd_T79 l0 (ji8)).f1),.int .i64 ((rd_T79 l0 (ji8)).f2)],.agg #[.int .i64 ((rd_T79 l0 a1).f0),.int .i64 ((rd_T79 l0 a1).f1),.int .i64 ((rd_T79 l0 a1).f2)]] (by rfl) rfl rfl rfl (by(try simp only [List.map_toArray,List.map_cons,List.map_nil]);first|done|(simp only [hji8];rfl)|rfl|(simp only [List.length_drop,List.length_take];rfl)) ?_
       with_reducible refine(cmpE.calls ((rd_T79 l0 (ji8)).f0) ((rd_T79 l0 (ji8)).f1) ((rd_T79 l0 (ji8)).f2) ((rd_T79 l0 a1).f0) ((rd_T79 l0 a1).f1) ((rd_T79 l0 a1).f2) t716 _ A13.out).mono ?_
       rintro e w17 ⟨rfl,hb⟩
       have HS0_:=(hb.cell (World.block_lt_of_cell? _ _ (hHeld.1))).trans (hHeld.1)
       have HS1_:=(hb.cell (World.block_lt_of_cell? _ _ (hHeld.2.1))).trans (hHeld.2.1)
       have HS2_:=(hb.cell (World.block_lt_of_cell? _ _ (hHeld.2.2.1))).trans (hHeld.2.2.1)
       have HS3_:=(hb.cell (World.block_lt_of_cell? _ _ (hHeld.2.2.2.1))).trans (hHeld.2.2.2.1)
       have HS4_:=(hb.cell (World.block_lt_of_cell? _ _ (hHeld.2.2.2.2.1))).trans (hHeld.2.2.2.2.1)
       have HS5_:=(hb.cell (World.block_lt_of_cell? _ _ (hHeld.2.2.2.2.2))).trans (hHeld.2.2.2.2.2)
       refine⟨_,rfl,?_⟩
       replace HO_0:=Aside0.mk (Kd.R_below (zq4 HO_0) hb)
       replace HK:=Aside0.mk (Kept.below (S:=(fun k_=>P0_ k_)) (by exact zk4 HK) hb)
       replace HB:=Aside0.mk (below_step (by exact zk1 HB) hb)
       (try clear hb)
       (try clear hb2)
       (try clear hk)
       (try clear hi)
       refine hK.out _ _ ⟨HS0_,HS1_,HS2_,HS3_,HS4_,HS5_⟩ (fun hHeld=>?_)
       clear hK K
       refine norm_ (a':=?_) ?_ ?_
       rotate_left
       ·show Act.put _ (some 49) _=_
        simp only [Act.put,List.setIfInBounds_toArray,List.set_cons_zero,List.set_cons_succ,i64_w,i32_w]
        rfl
       refine zp1 HT_ 10 50 (mb' 11 2047) rfl ?_
       refine done_ (done_of HT_.out (by kernel_rfl)) ?_
       try go_wp2
       go_roundg k1
       case measure=>have:=HK1.out;omega
       case rel=>exact⟨(wrap64 ((ji8)+1)),(x11_1),(by first|rfl|(simp;done)|(simp only [← hji8]<;>(first|rfl|simp))|(simp [*];done)),zrs,H',⟨by have:=HK1.out;omega⟩,⟨zdr HO_0⟩,⟨by exact zk4 HK⟩,⟨by exact zk1 HB⟩⟩
     ·rw [if_neg c14] at H
      have c14b0:decide (t716< 0)=false:=decide_eq_false c14
      clear c14
      as_aux_lemma=>
       have H':=Aside0.mk H
       clear H
       try go_wp2
       replace HO_0:=Aside0.mk (Kd.R_drew HO_0.out)
       replace HK:=Aside0.mk (Kept.drew HK.out)
       replace HB:=Aside0.mk (below_drew1 HB.out)
       obtain⟨Ao19,co19,eo19⟩:=Kd.R_slice HO_0.out
       (first|subst eo19|(injection eo19 with f1_ f2_ f3_;have f4_:=f1_.symm;have f5_:=f3_.symm;clear f1_ f2_ f3_;subst f4_;subst f5_))
       have p714: 0≤ ((ji8):Int):=of_decide_eq_true zq1
       have q714:(ji8)< (l0.length:Int):=of_decide_eq_true zq1
       obtain⟨ad714,e714,hx714_0,hx714_1,hx714_2⟩:=at_T79 (Kd.R_reads' HO_0.out).2.2 (ji8) p714 q714
       cases e714
       replace p714:=eq_true p714
       replace q714:=eq_true q714
       have p715: 0≤ (a1:Int):=of_decide_eq_true zq1
       have q715:a1< (l0.length:Int):=of_decide_eq_true zq1
       obtain⟨ad715,e715,hx715_0,hx715_1,hx715_2⟩:=at_T79 (Kd.R_reads' HO_0.out).2.2 a1 p715 q715
       obtain rfl:ad714=ad715:=(by injection e715)
       replace p715:=eq_true p715
       replace q715:=eq_true q715
       refine start_ (n:=11) (S:=fun w'=>w'.cell? (ad714.add (((ji8)).toNat * 3))=some (.int .i64 ((rd_T79 l0 (ji8)).f0))∧w'.cell? ⟨(ad714.add (((ji8)).toNat * 3)).block,(ad714.add (((ji8)).toNat * 3)).off+1,none⟩=some (.int .i64 ((rd_T79 l0 (ji8)).f1))∧w'.cell? ⟨(ad714.add (((ji8)).toNat * 3)).block,(ad714.add (((ji8)).toNat * 3)).off+2,none⟩=some (.int .i64 ((rd_T79 l0 (ji8)).f2))∧w'.cell? (ad714.add ((a1).toNat * 3))=some (.int .i64 ((rd_T79 l0 a1).f0))∧w'.cell? ⟨(ad714.add ((a1).toNat * 3)).block,(ad714.add ((a1).toNat * 3)).off+1,none⟩=some (.int .i64 ((rd_T79 l0 a1).f1))∧w'.cell? ⟨(ad714.add ((a1).toNat * 3)).block,(ad714.add ((a1).toNat * 3)).off+2,none⟩=some (.int .i64 ((rd_T79 l0 a1).f2))) (ds:= []) (mb' 11 0) (by kernel_rfl) rfl rfl ⟨hx714_0,hx714_1,hx714_2,hx715_0,hx715_1,hx715_2⟩ (fun hHeld=>?_);refine with_tabW slices_symMergeCmpFunc_Edge.tab5 slices_symMergeCmpFunc_Edge.bits5 (fun HT_ HW_=>?_)
       generalize wr.drew=w18 at HO_0 HK HB hx714_0 hx714_1 hx714_2 hx715_0 hx715_1 hx715_2 hHeld ⊢
       refine zp1 HT_ 0 40 (mb' 11 1) rfl ?_
       refine zp1 HT_ 1 41 (mb' 11 3) rfl ?_
       refine zp1 HT_ 2 42 (mb' 11 7) rfl ?_
       refine zp1 HT_ 3 43 (mb' 11 15) rfl ?_
       refine zp1 HT_ 5 45 (mb' 11 47) rfl ?_
       refine zp1 HT_ 6 46 (mb' 11 111) rfl ?_
       refine zp1 HT_ 7 47 (mb' 11 239) rfl ?_
       refine zt1 HT_ HW_ (v:=?_) (a':=?_) 4 44 (mb' 11 255) rfl ?_ hHeld ?_ ?_;rotate_left;(rintro w' ⟨s0,s1,s2,s3,s4,s5⟩;go_simp;with_reducible rfl);rotate_left;exact zpa
       refine zt1 HT_ HW_ (v:=?_) (a':=?_) 8 48 (mb' 11 511) rfl ?_ hHeld ?_ ?_;rotate_left;(rintro w' ⟨s0,s1,s2,s3,s4,s5⟩;go_simp;with_reducible rfl);rotate_left;exact zpa
       refine one_ (i:=9) (N:=some 49) (mb' 11 1023) rfl rfl (one_of HT_.out (by kernel_rfl)) (by decide) (fun K hK=>?_)
       refine goesV_ (f:=82) Try.func82 (by kernel_rfl) rfl #[.agg #[.int .i64 ((rd_T79 l0 (ji8)).f0),.int .i64 ((rd_T79 l0 (ji8)).f1),.int .i64 ((rd_T79 l0 (ji8)).f2)],.agg #[.int .i64 ((rd_T79 l0 a1).f0),.int .i64 ((rd_T79 l0 a1).f1),.int .i64 ((rd_T79 l0 a1).f2)]] (by rfl) rfl rfl rfl (by(try simp only [List.map_toArray,List.map_cons,List.map_nil]);first|done|(simp only [hji8];rfl)|rfl|(simp only [List.length_drop,List.length_take];rfl)) ?_
       with_reducible refine(cmpE.calls ((rd_T79 l0 (ji8)).f0) ((rd_T79 l0 (ji8)).f1) ((rd_T79 l0 (ji8)).f2) ((rd_T79 l0 a1).f0) ((rd_T79 l0 a1).f1) ((rd_T79 l0 a1).f2) t716 _ A13.out).mono ?_
       rintro e w20 ⟨rfl,hb⟩
       have HS0_:=(hb.cell (World.block_lt_of_cell? _ _ (hHeld.1))).trans (hHeld.1)
       have HS1_:=(hb.cell (World.block_lt_of_cell? _ _ (hHeld.2.1))).trans (hHeld.2.1)
       have HS2_:=(hb.cell (World.block_lt_of_cell? _ _ (hHeld.2.2.1))).trans (hHeld.2.2.1)
       have HS3_:=(hb.cell (World.block_lt_of_cell? _ _ (hHeld.2.2.2.1))).trans (hHeld.2.2.2.1)
       have HS4_:=(hb.cell (World.block_lt_of_cell? _ _ (hHeld.2.2.2.2.1))).trans (hHeld.2.2.2.2.1)
       have HS5_:=(hb.cell (World.block_lt_of_cell? _ _ (hHeld.2.2.2.2.2))).trans (hHeld.2.2.2.2.2)
       refine⟨_,rfl,?_⟩
       replace HO_0:=Aside0.mk (Kd.R_below (zq4 HO_0) hb)
       replace HK:=Aside0.mk (Kept.below (S:=(fun k_=>P0_ k_)) (by exact zk4 HK) hb)
       replace HB:=Aside0.mk (below_step (by exact zk1 HB) hb)
       (try clear hb)
       (try clear hb2)
       (try clear hk)
       (try clear hi)
       refine hK.out _ _ ⟨HS0_,HS1_,HS2_,HS3_,HS4_,HS5_⟩ (fun hHeld=>?_)
       clear hK K
       refine norm_ (a':=?_) ?_ ?_
       rotate_left
       ·show Act.put _ (some 49) _=_
        simp only [Act.put,List.setIfInBounds_toArray,List.set_cons_zero,List.set_cons_succ,i64_w,i32_w]
        rfl
       refine zp1 HT_ 10 50 (mb' 11 2047) rfl ?_
       refine done_ (done_of HT_.out (by kernel_rfl)) ?_
       try go_wp2
       go_roundg k1
       case measure=>have:=HK1.out;omega
       case rel=>exact⟨(x10_1),(ji8),zrs,(by first|rfl|(simp;done)|(simp only [← hji8]<;>(first|rfl|simp))|(simp [*];done)),H',⟨by have:=HK1.out;omega⟩,⟨zdr HO_0⟩,⟨by exact zk4 HK⟩,⟨by exact zk1 HB⟩⟩
    ·rw [if_neg c7] at H
     have c7b0:decide (x10_1<x11_1)=false:=decide_eq_false c7
     clear c7
     have H':=Aside0.mk H
     clear H
     go_wp2
     go_loopg [13] k1 (fun kq v13 w'=> ∃ (x0_2:List (S79)) (x13_2:Int),v13= .int .i64 x13_2∧Aside0 (slices_symMergeCmpFunc_Edge.l1 kq x0_2 x10_1 x13_2=some r)∧Aside0 (kq≤k1)∧Aside0 (Kd.R k79 79 w' w0.heap.size (fun k_=>(P0_ k_∨w.heap.size≤k_)) u9000_ x0_2)∧Aside0 (Kept w w' (fun k_=>P0_ k_))∧Aside0 (Below w0.heap.size w0 w'))
     case atStart=>exact⟨(l0),(a1),zrs,H',⟨Nat.le_refl _⟩,⟨zdr HO_0⟩,⟨by exact zk4 HK⟩,⟨by exact zk1 HB⟩⟩
     case round=>
      clear H'
      try clear c1
      try clear p2
      try clear c6
      try clear c6b0
      try clear c6b1
      try clear p6
      try clear c7
      try clear c7b0
      try clear p7
      try clear q7
      try clear hx7
      try clear c9
      try clear c9b0
      try clear c10
      try clear c10b0
      try clear c11
      try clear c11b0
      try clear c12
      try clear c12b0
      try clear c14
      try clear c14b0
      try clear hx714_0
      try clear hx714_1
      try clear hx714_2
      try clear hx715_0
      try clear hx715_1
      try clear hx715_2
      try clear p2
      try clear p6
      try clear p714
      try clear p715
      try clear q714
      try clear q715
      obtain⟨x0_2,x13_2,rfl,HA,HK2,HO_0,HK,HB⟩:=hrel
      cases gk with
      |zero=>exact absurd HA.out (by simp [slices_symMergeCmpFunc_Edge.l1])
      |succ k2=>
       have H:=HA.out
       clear HA
       simp only [slices_symMergeCmpFunc_Edge.l1] at H
       by_cases c21:x13_2< (wrap64 (x10_1 - 1))
       ·rw [if_pos c21] at H
        have c21b0:decide (x13_2< (wrap64 (x10_1 - 1)))=true:=decide_eq_true c21
        clear c21
        obtain⟨ji22,hji22⟩ :∃ j_:Int,(wrap64 (x13_2+1))=j_:=⟨_,rfl⟩
        replace H:(if 0≤ (ji22) then(if (ji22)< (x0_2.length:Int) then(if 0≤x13_2 then(if x13_2< (x0_2.length:Int) then(slices_symMergeCmpFunc_Edge.l1 k2 ((x0_2.set (x13_2:Int).toNat (⟨(rd_T79 x0_2 (ji22)).f0,(rd_T79 x0_2 (ji22)).f1,(rd_T79 x0_2 (ji22)).f2⟩ :S79)).set ((ji22):Int).toNat (⟨(rd_T79 x0_2 x13_2).f0,(rd_T79 x0_2 x13_2).f1,(rd_T79 x0_2 x13_2).f2⟩ :S79)) x10_1 ji22) else(none)) else(none)) else(none)) else(none))=some r:=by first|(rw [hji22] at H;exact H)|(simp only [hji22] at H ⊢;exact H)
        have hji22w:(IntKind.i64.wrap (x13_2+1))=ji22:=(i64_w _).trans hji22
        by_cases c23: 0≤ (ji22)
        case neg=>exact znn c23 H
        rw [if_pos c23] at H
        have c23b0:decide (0≤ (ji22))=true:=decide_eq_true c23
        clear c23
        by_cases c24:(ji22)< (x0_2.length:Int)
        case neg=>exact znn c24 H
        rw [if_pos c24] at H
        have c24b0:decide ((ji22)< (x0_2.length:Int))=true:=decide_eq_true c24
        clear c24
        by_cases c25: 0≤x13_2
        case neg=>exact znn c25 H
        rw [if_pos c25] at H
        have c25b0:decide (0≤x13_2)=true:=decide_eq_true c25
        clear c25
        by_cases c26:x13_2< (x0_2.length:Int)
        case neg=>exact znn c26 H
        rw [if_pos c26] at H
        have c26b0:decide (x13_2< (x0_2.length:Int))=true:=decide_eq_true c26
        clear c26
        obtain⟨y719,hy719⟩ :∃ y_:List (S79),y_= (x0_2.set (x13_2:Int).toNat (⟨(rd_T79 x0_2 (ji22)).f0,(rd_T79 x0_2 (ji22)).f1,(rd_T79 x0_2 (ji22)).f2⟩ :S79)):=⟨_,rfl⟩
        replace H:(slices_symMergeCmpFunc_Edge.l1 k2 (y719.set ((ji22):Int).toNat (⟨(rd_T79 x0_2 x13_2).f0,(rd_T79 x0_2 x13_2).f1,(rd_T79 x0_2 x13_2).f2⟩ :S79)) x10_1 ji22)=some r:=zfh hy719 H
        have Ny719:=Aside0.mk hy719
        clear hy719
        obtain⟨y720,hy720⟩ :∃ y_:List (S79),y_= (y719.set ((ji22):Int).toNat (⟨(rd_T79 x0_2 x13_2).f0,(rd_T79 x0_2 x13_2).f1,(rd_T79 x0_2 x13_2).f2⟩ :S79)):=⟨_,rfl⟩
        replace H:(slices_symMergeCmpFunc_Edge.l1 k2 y720 x10_1 ji22)=some r:=zfh hy720 H
        have Ny720:=Aside0.mk hy720
        clear hy720
        as_aux_lemma=>
         have H':=Aside0.mk H
         clear H
         try go_wp2
         replace HO_0:=Aside0.mk (Kd.R_drew HO_0.out)
         replace HK:=Aside0.mk (Kept.drew HK.out)
         replace HB:=Aside0.mk (below_drew1 HB.out)
         obtain⟨Ao30,co30,eo30⟩:=Kd.R_slice HO_0.out
         (first|subst eo30|(injection eo30 with f1_ f2_ f3_;have f4_:=f1_.symm;have f5_:=f3_.symm;clear f1_ f2_ f3_;subst f4_;subst f5_))
         have p717: 0≤ ((ji22):Int):=of_decide_eq_true zq1
         have q717:(ji22)< (x0_2.length:Int):=of_decide_eq_true zq1
         obtain⟨ad717,e717,hx717_0,hx717_1,hx717_2⟩:=at_T79 (Kd.R_reads' HO_0.out).2.2 (ji22) p717 q717
         cases e717
         replace p717:=eq_true p717
         replace q717:=eq_true q717
         have p718: 0≤ (x13_2:Int):=of_decide_eq_true zq1
         have q718:x13_2< (x0_2.length:Int):=of_decide_eq_true zq1
         obtain⟨ad718,e718,hx718_0,hx718_1,hx718_2⟩:=at_T79 (Kd.R_reads' HO_0.out).2.2 x13_2 p718 q718
         obtain rfl:ad717=ad718:=(by injection e718)
         replace p718:=eq_true p718
         replace q718:=eq_true q718
         have p27: 0≤ (x13_2:Int):=of_decide_eq_true zq1
         have q27:(x13_2:Int)< ((x0_2.length:Int):Int):=of_decide_eq_true zq1
         obtain⟨go27,co27,eo27,gb27,gl27,cl27,HG27⟩:=Kd.R_form HO_0.out (by omega)
         (first|cases eo27|(injection eo27 with ea_ en_ ec_;(first|subst ea_|(injection ea_ with ea_;subst ea_));subst ec_;clear en_))
         have GB27:=Aside0.mk gb27
         have GG27:=Aside0.mk HG27
         clear gb27 gl27 HG27
         have HMgo27:=Aside0.mk (show (P0_ go27∨w.heap.size≤go27) from (HO_0.out.1 _ rfl))
         (first|simp only [add_plain] at hx717_0|skip)
         (first|simp only [add_plain] at hx717_1|skip)
         (first|simp only [add_plain] at hx717_2|skip)
         (first|simp only [add_plain] at hx718_0|skip)
         (first|simp only [add_plain] at hx718_1|skip)
         (first|simp only [add_plain] at hx718_2|skip)
         obtain⟨ce27,hcl27,hM27,hcc27,hfr27⟩:=Kd.R_elem HO_0.out z79 (x13_2:Int) p27 q27
         obtain rfl:=k79_openM hM27
         have hx27_0:World.cell? _ ⟨go27,(x13_2:Int).toNat * 3,none⟩=some (.int .i64 ((rd_T79 x0_2 x13_2).f0)):=hcc27 0 _ rfl
         have hx27_1:World.cell? _ ⟨go27,(x13_2:Int).toNat * 3+1,none⟩=some (.int .i64 ((rd_T79 x0_2 x13_2).f1)):=hcc27 1 _ rfl
         have hx27_2:World.cell? _ ⟨go27,(x13_2:Int).toNat * 3+2,none⟩=some (.int .i64 ((rd_T79 x0_2 x13_2).f2)):=hcc27 2 _ rfl
         have hf27_0:World.frozen? _ ⟨go27,(x13_2:Int).toNat * 3,none⟩=false:=hfr27 0
         have hf27_1:World.frozen? _ ⟨go27,(x13_2:Int).toNat * 3+1,none⟩=false:=hfr27 1
         have hf27_2:World.frozen? _ ⟨go27,(x13_2:Int).toNat * 3+2,none⟩=false:=hfr27 2
         clear hcl27 hcc27 hfr27 hM27
         replace p27:=eq_true p27
         replace q27:=eq_true q27
         obtain⟨ce31,hcl31,hM31,hcc31,hfr31⟩:=Kd.R_elem HO_0.out z79 (x13_2:Int) (of_decide_eq_true zq1) (by have h_:(x13_2:Int)< ((x0_2.length:Int):Int):=of_decide_eq_true zq1;first|exact h_|(have e_:=(Kd.R_reads' HO_0.out).1;omega)|simpa using h_)
         obtain rfl:=k79_openM hM31
         have HP31:=(Kd.R_seg HO_0.out (x13_2:Int) (of_decide_eq_true zq1) (by have h_:(x13_2:Int)< ((x0_2.length:Int):Int):=of_decide_eq_true zq1;first|exact h_|(have e_:=(Kd.R_reads' HO_0.out).1;omega)|simpa using h_) (seg:= [.int .i64 ((rd_T79 x0_2 (ji22)).f0),.int .i64 ((rd_T79 x0_2 (ji22)).f1),.int .i64 ((rd_T79 x0_2 (ji22)).f2)]) (j:=0) hcl31 hcc31 (show 3≤3 from by decide) (x':=(⟨(rd_T79 x0_2 (ji22)).f0,(rd_T79 x0_2 (ji22)).f1,(rd_T79 x0_2 (ji22)).f2⟩ :S79)) (k79_mkM _ _ _ (⟨(rd_T79 x0_2 (ji22)).f0,(rd_T79 x0_2 (ji22)).f1,(rd_T79 x0_2 (ji22)).f2⟩ :S79) ) (fun _ hk=>hk)).1
         rw [← Ny719.out] at HP31
         have HQ31:=Aside0.mk HP31
         clear hcl31 hcc31 hfr31 hM31 HP31
         have p28: 0≤ ((ji22):Int):=of_decide_eq_true zq1
         have q28:((ji22):Int)< ((x0_2.length:Int):Int):=of_decide_eq_true zq1
         obtain⟨ce28,hcl28,hM28,hcc28,hfr28⟩:=Kd.R_elem HQ31.out z79 ((ji22):Int) p28 q28
         obtain rfl:=k79_openM hM28
         have hx28_0:World.cell? _ ⟨go27,((ji22):Int).toNat * 3,none⟩=some (.int .i64 ((rd_T79 y719 (ji22)).f0)):=hcc28 0 _ rfl
         have hx28_1:World.cell? _ ⟨go27,((ji22):Int).toNat * 3+1,none⟩=some (.int .i64 ((rd_T79 y719 (ji22)).f1)):=hcc28 1 _ rfl
         have hx28_2:World.cell? _ ⟨go27,((ji22):Int).toNat * 3+2,none⟩=some (.int .i64 ((rd_T79 y719 (ji22)).f2)):=hcc28 2 _ rfl
         have hf28_0:World.frozen? _ ⟨go27,((ji22):Int).toNat * 3,none⟩=false:=hfr28 0
         have hf28_1:World.frozen? _ ⟨go27,((ji22):Int).toNat * 3+1,none⟩=false:=hfr28 1
         have hf28_2:World.frozen? _ ⟨go27,((ji22):Int).toNat * 3+2,none⟩=false:=hfr28 2
         clear hcl28 hcc28 hfr28 hM28
         replace p28:=eq_true p28
         replace q28:=eq_true q28
         obtain⟨ce32,hcl32,hM32,hcc32,hfr32⟩:=Kd.R_elem HQ31.out z79 ((ji22):Int) (of_decide_eq_true zq1) (by have h_:((ji22):Int)< ((x0_2.length:Int):Int):=of_decide_eq_true zq1;first|exact h_|(have e_:=(Kd.R_reads' HO_0.out).1;omega)|simpa using h_)
         obtain rfl:=k79_openM hM32
         have HP32:=(Kd.R_seg HQ31.out ((ji22):Int) (of_decide_eq_true zq1) (by have h_:((ji22):Int)< ((x0_2.length:Int):Int):=of_decide_eq_true zq1;first|exact h_|(have e_:=(Kd.R_reads' HO_0.out).1;omega)|simpa using h_) (seg:= [.int .i64 ((rd_T79 x0_2 x13_2).f0),.int .i64 ((rd_T79 x0_2 x13_2).f1),.int .i64 ((rd_T79 x0_2 x13_2).f2)]) (j:=0) hcl32 hcc32 (show 3≤3 from by decide) (x':=(⟨(rd_T79 x0_2 x13_2).f0,(rd_T79 x0_2 x13_2).f1,(rd_T79 x0_2 x13_2).f2⟩ :S79)) (k79_mkM _ _ _ (⟨(rd_T79 x0_2 x13_2).f0,(rd_T79 x0_2 x13_2).f1,(rd_T79 x0_2 x13_2).f2⟩ :S79) ) (fun _ hk=>hk)).1
         rw [← Ny720.out] at HP32
         have HQ32:=Aside0.mk HP32
         clear hcl32 hcc32 hfr32 hM32 HP32
         refine start_ (n:=18) (S:=fun w'=>w'.cell? ⟨go27,((ji22)).toNat * 3,none⟩=some (.int .i64 ((rd_T79 x0_2 (ji22)).f0))∧w'.cell? ⟨go27,((ji22)).toNat * 3+1,none⟩=some (.int .i64 ((rd_T79 x0_2 (ji22)).f1))∧w'.cell? ⟨go27,((ji22)).toNat * 3+2,none⟩=some (.int .i64 ((rd_T79 x0_2 (ji22)).f2))∧w'.cell? ⟨go27,((x13_2).toNat * 3),none⟩=some (.int .i64 ((rd_T79 x0_2 x13_2).f0))∧w'.cell? ⟨go27,((x13_2).toNat * 3)+1,none⟩=some (.int .i64 ((rd_T79 x0_2 x13_2).f1))∧w'.cell? ⟨go27,((x13_2).toNat * 3)+2,none⟩=some (.int .i64 ((rd_T79 x0_2 x13_2).f2))) (ds:= [15,17]) (mb' 18 0) (by kernel_rfl) rfl rfl ⟨hx717_0,hx717_1,hx717_2,hx718_0,hx718_1,hx718_2⟩ (fun hHeld=>?_);refine with_tabW slices_symMergeCmpFunc_Edge.tab11 slices_symMergeCmpFunc_Edge.bits11 (fun HT_ HW_=>?_)
         generalize wr.drew=w29 at HO_0 HK HB GG27 HQ31 HQ32 hf27_0 hf27_1 hf27_2 hf28_0 hf28_1 hf28_2 hx27_0 hx27_1 hx27_2 hx28_0 hx28_1 hx28_2 hx717_0 hx717_1 hx717_2 hx718_0 hx718_1 hx718_2 hHeld ⊢
         have hw28_0:=hf28_0
         (try simp [go_sem,World.setCells,show k79.sz=3 from rfl] at hw28_0)
         have hw28_1:=hf28_1
         (try simp [go_sem,World.setCells,show k79.sz=3 from rfl] at hw28_1)
         have hw28_2:=hf28_2
         (try simp [go_sem,World.setCells,show k79.sz=3 from rfl] at hw28_2)
         have hz28_0:=hx28_0
         (try simp [go_sem,World.setCells,show k79.sz=3 from rfl] at hz28_0)
         have hz28_1:=hx28_1
         (try simp [go_sem,World.setCells,show k79.sz=3 from rfl] at hz28_1)
         have hz28_2:=hx28_2
         (try simp [go_sem,World.setCells,show k79.sz=3 from rfl] at hz28_2)
         refine zp1 HT_ 0 61 (mb' 18 1) rfl ?_
         refine zp1 HT_ 1 62 (mb' 18 3) rfl ?_
         refine zp1 HT_ 2 63 (mb' 18 7) rfl ?_
         refine zp1 HT_ 3 64 (mb' 18 15) rfl ?_
         refine zp1 HT_ 4 65 (mb' 18 31) rfl ?_
         refine zp1 HT_ 5 66 (mb' 18 63) rfl ?_
         refine zp1 HT_ 6 67 (mb' 18 127) rfl ?_
         refine zp1 HT_ 7 68 (mb' 18 255) rfl ?_
         refine zp1 HT_ 8 69 (mb' 18 511) rfl ?_
         refine zp1 HT_ 10 71 (mb' 18 1535) rfl ?_
         refine zp1 HT_ 11 72 (mb' 18 3583) rfl ?_
         refine zp1 HT_ 12 73 (mb' 18 7679) rfl ?_
         refine zt1 HT_ HW_ (v:=?_) (a':=?_) 9 70 (mb' 18 8191) rfl ?_ hHeld ?_ ?_;rotate_left;(rintro w' ⟨s0,s1,s2,s3,s4,s5⟩;go_simp;with_reducible rfl);rotate_left;exact zpa
         refine zt1 HT_ HW_ (v:=?_) (a':=?_) 13 74 (mb' 18 16383) rfl ?_ hHeld ?_ ?_;rotate_left;(rintro w' ⟨s0,s1,s2,s3,s4,s5⟩;go_simp;with_reducible rfl);rotate_left;exact zpa
         refine zp1 HT_ 14 75 (mb' 18 32767) rfl ?_
         refine last_ (i:=15) (N:=none) (mb' 18 65535) rfl rfl (one_of HT_.out (by kernel_rfl)) (by decide) (fun K hK=>?_)
         refine skip_ (w1:=?_) (by rfl) rfl ?_ ?_
         rotate_left
         ·go_simp
          rfl
         refine hK.out _ _ ?_
         clear hK K
         refine zp1 HT_ 16 76 (mb' 18 131071) rfl ?_
         refine last_ (i:=17) (N:=none) (mb' 18 262143) rfl rfl (one_of HT_.out (by kernel_rfl)) (by decide) (fun K hK=>?_)
         refine skip_ (w1:=?_) (by rfl) rfl ?_ ?_
         rotate_left
         ·go_simp
          rfl
         refine hK.out _ _ ?_
         clear hK K
         refine done_ (done_of HT_.out (by kernel_rfl)) ?_
         try go_wp2
         go_roundg k2
         case measure=>have:=HK1.out;have:=HK2.out;omega
         case rel=>exact⟨(y720),(ji22),(by first|rfl|(simp;done)|(simp only [← hji22]<;>(first|rfl|simp))|(simp [*];done)),H',⟨by have:=HK1.out;have:=HK2.out;omega⟩,⟨zdr HQ32⟩,⟨by repeat(first|(with_reducible first|exact HK.out|apply Kept.alloc|apply Kept.drewN|apply Kept.drew|refine Kept.setCell ?_ HMgo27.out _|refine Kept.setCell ?_ HMgo27.out _|refine Kept.setCell ?_ HMgo27.out _|refine Kept.setCell ?_ HMgo27.out _|refine Kept.setCell ?_ HMgo27.out _|refine Kept.setCell ?_ HMgo27.out _)|exact HK.out)⟩,⟨by exact zk5 HB GB27.out GB27.out GB27.out GB27.out GB27.out GB27.out⟩⟩
       ·rw [if_neg c21] at H
        have c21b0:decide (x13_2< (wrap64 (x10_1 - 1)))=false:=decide_eq_false c21
        clear c21
        as_aux_lemma=>
         obtain rfl:=Option.some.inj H
         go_wp2
         first|go_end0|((try simp only [Exit.inBlock,Exit.then]);refine bodyPost_ret (results_none rfl _ _ _) rfl ?_)
         exact⟨zer,zdr HO_0,by exact zk1 HB,by exact zk4 HK⟩
 ·rw [if_neg c6] at H
  have c6b0:((wrap64 (a2 - a1))==1)=false:=beq_eq_false_iff_ne.mpr c6
  have c6b1:((wrap64 (a2 - a1)) !=1)=true:=bne_iff_ne.mpr c6
  by_cases c33:(wrap64 (a3 - a2))=1
  ·rw [if_pos c33] at H
   have c33b0:((wrap64 (a3 - a2))==1)=true:=beq_iff_eq.mpr c33
   have c33b1:((wrap64 (a3 - a2)) !=1)=false:=bne_eq_false_iff_eq.mpr c33
   clear c33
   have H':=Aside0.mk H
   clear H
   go_enter Try.func109,Try.ntmps109
   go_wp2
   go_loopg [14,15] k (fun kq v14 v15 w'=> ∃ (x14_1:Int) (x15_1:Int),v14= .int .i64 x14_1∧v15= .int .i64 x15_1∧Aside0 (slices_symMergeCmpFunc_Edge.l2 kq l0 a2 x14_1 x15_1=some r)∧Aside0 (kq≤k)∧Aside0 (Kd.R k79 79 w' w0.heap.size (fun k_=>(P0_ k_∨w.heap.size≤k_)) u9000_ l0)∧Aside0 (Kept w w' (fun k_=>P0_ k_))∧Aside0 (Below w0.heap.size w0 w'))
   case atStart=>exact⟨(a1),(a2),zrs,zrs,H',⟨Nat.le_refl _⟩,⟨zdr HO0⟩,⟨by exact zk4 HK⟩,⟨by exact zk1 HB⟩⟩
   case round=>
    clear H'
    try clear c1
    try clear c2
    try clear p2
    try clear q2
    try clear hx2
    try clear c3
    try clear c6
    try clear c6b0
    try clear c6b1
    try clear p6
    try clear c7
    try clear c7b0
    try clear p7
    try clear q7
    try clear hx7
    try clear c9
    try clear c9b0
    try clear c10
    try clear c10b0
    try clear c11
    try clear c11b0
    try clear c12
    try clear c12b0
    try clear c14
    try clear c14b0
    try clear c21
    try clear c21b0
    try clear c23
    try clear c23b0
    try clear c24
    try clear c24b0
    try clear c25
    try clear c25b0
    try clear c26
    try clear c26b0
    try clear c27
    try clear p27
    try clear q27
    try clear hx27
    try clear hf27
    try clear c28
    try clear p28
    try clear q28
    try clear hx28
    try clear hf28
    try clear c31
    try clear c32
    try clear c33
    try clear c33b0
    try clear c33b1
    try clear hx27_0
    try clear hx27_1
    try clear hx27_2
    try clear hx28_0
    try clear hx28_1
    try clear hx28_2
    try clear hx714_0
    try clear hx714_1
    try clear hx714_2
    try clear hx715_0
    try clear hx715_1
    try clear hx715_2
    try clear hx717_0
    try clear hx717_1
    try clear hx717_2
    try clear hx718_0
    try clear hx718_1
    try clear hx718_2
    try clear p2
    try clear p27
    try clear p28
    try clear p6
    try clear p7
    try clear p714
    try clear p715
    try clear p717
    try clear p718
    try clear q27
    try clear q28
    try clear q7
    try clear q714
    try clear q715
    try clear q717
    try clear q718
    obtain⟨x14_1,x15_1,rfl,rfl,HA,HK1,HO_0,HK,HB⟩:=hrel
    cases gk with
    |zero=>exact absurd HA.out (by simp [slices_symMergeCmpFunc_Edge.l2])
    |succ k1=>
     have H:=HA.out
     clear HA
     simp only [slices_symMergeCmpFunc_Edge.l2] at H
     by_cases c34:x14_1<x15_1
     ·rw [if_pos c34] at H
      have c34b0:decide (x14_1<x15_1)=true:=decide_eq_true c34
      clear c34
      by_cases c35: 0≤a2
      case neg=>exact znn c35 H
      rw [if_pos c35] at H
      have c35b0:decide (0≤a2)=true:=decide_eq_true c35
      clear c35
      by_cases c36:a2< (l0.length:Int)
      case neg=>exact znn c36 H
      rw [if_pos c36] at H
      have c36b0:decide (a2< (l0.length:Int))=true:=decide_eq_true c36
      clear c36
      obtain⟨ji37,hji37⟩ :∃ j_:Int,(wrap64 ((IntKind.u64.wrap (wrap64 (x14_1+x15_1))) / 2))=j_:=⟨_,rfl⟩
      replace H:(if 0≤ (ji37) then(if (ji37)< (l0.length:Int) then((cmpE.f ((rd_T79 l0 a2).f0) ((rd_T79 l0 a2).f1) ((rd_T79 l0 a2).f2) ((rd_T79 l0 (ji37)).f0) ((rd_T79 l0 (ji37)).f1) ((rd_T79 l0 (ji37)).f2)).bind fun t723=>(if t723< 0 then(slices_symMergeCmpFunc_Edge.l2 k1 l0 a2 x14_1 ji37) else(slices_symMergeCmpFunc_Edge.l2 k1 l0 a2 (wrap64 ((ji37)+1)) x15_1))) else(none)) else(none))=some r:=by first|(rw [hji37] at H;exact H)|(simp only [hji37] at H ⊢;exact H)
      have hji37w:(IntKind.i64.wrap ((IntKind.u64.wrap (wrap64 (x14_1+x15_1))) / 2))=ji37:=(i64_w _).trans hji37
      by_cases c38: 0≤ (ji37)
      case neg=>exact znn c38 H
      rw [if_pos c38] at H
      have c38b0:decide (0≤ (ji37))=true:=decide_eq_true c38
      clear c38
      by_cases c39:(ji37)< (l0.length:Int)
      case neg=>exact znn c39 H
      rw [if_pos c39] at H
      have c39b0:decide ((ji37)< (l0.length:Int))=true:=decide_eq_true c39
      clear c39
      replace H:=Option.bind_eq_some_iff.mp H
      obtain⟨t723,A400,H⟩:=H
      replace H:(if t723< 0 then(slices_symMergeCmpFunc_Edge.l2 k1 l0 a2 x14_1 ji37) else(slices_symMergeCmpFunc_Edge.l2 k1 l0 a2 (wrap64 ((ji37)+1)) x15_1))=some r:=H
      have A40:=Aside0.mk A400
      clear A400
      by_cases c41:t723< 0
      ·rw [if_pos c41] at H
       have c41b0:decide (t723< 0)=true:=decide_eq_true c41
       clear c41
       as_aux_lemma=>
        have H':=Aside0.mk H
        clear H
        try go_wp2
        replace HO_0:=Aside0.mk (Kd.R_drew HO_0.out)
        replace HK:=Aside0.mk (Kept.drew HK.out)
        replace HB:=Aside0.mk (below_drew1 HB.out)
        obtain⟨Ao43,co43,eo43⟩:=Kd.R_slice HO_0.out
        (first|subst eo43|(injection eo43 with f1_ f2_ f3_;have f4_:=f1_.symm;have f5_:=f3_.symm;clear f1_ f2_ f3_;subst f4_;subst f5_))
        have p721: 0≤ (a2:Int):=of_decide_eq_true zq1
        have q721:a2< (l0.length:Int):=of_decide_eq_true zq1
        obtain⟨ad721,e721,hx721_0,hx721_1,hx721_2⟩:=at_T79 (Kd.R_reads' HO_0.out).2.2 a2 p721 q721
        cases e721
        replace p721:=eq_true p721
        replace q721:=eq_true q721
        have p722: 0≤ ((ji37):Int):=of_decide_eq_true zq1
        have q722:(ji37)< (l0.length:Int):=of_decide_eq_true zq1
        obtain⟨ad722,e722,hx722_0,hx722_1,hx722_2⟩:=at_T79 (Kd.R_reads' HO_0.out).2.2 (ji37) p722 q722
        obtain rfl:ad721=ad722:=(by injection e722)
        replace p722:=eq_true p722
        replace q722:=eq_true q722
        refine start_ (n:=12) (S:=fun w'=>w'.cell? (ad721.add ((a2).toNat * 3))=some (.int .i64 ((rd_T79 l0 a2).f0))∧w'.cell? ⟨(ad721.add ((a2).toNat * 3)).block,(ad721.add ((a2).toNat * 3)).off+1,none⟩=some (.int .i64 ((rd_T79 l0 a2).f1))∧w'.cell? ⟨(ad721.add ((a2).toNat * 3)).block,(ad721.add ((a2).toNat * 3)).off+2,none⟩=some (.int .i64 ((rd_T79 l0 a2).f2))∧w'.cell? (ad721.add (((ji37)).toNat * 3))=some (.int .i64 ((rd_T79 l0 (ji37)).f0))∧w'.cell? ⟨(ad721.add (((ji37)).toNat * 3)).block,(ad721.add (((ji37)).toNat * 3)).off+1,none⟩=some (.int .i64 ((rd_T79 l0 (ji37)).f1))∧w'.cell? ⟨(ad721.add (((ji37)).toNat * 3)).block,(ad721.add (((ji37)).toNat * 3)).off+2,none⟩=some (.int .i64 ((rd_T79 l0 (ji37)).f2))) (ds:= []) (mb' 12 0) (by kernel_rfl) rfl rfl ⟨hx721_0,hx721_1,hx721_2,hx722_0,hx722_1,hx722_2⟩ (fun hHeld=>?_);refine with_tabW slices_symMergeCmpFunc_Edge.tab17 slices_symMergeCmpFunc_Edge.bits17 (fun HT_ HW_=>?_)
        generalize wr.drew=w42 at HO_0 HK HB hx721_0 hx721_1 hx721_2 hx722_0 hx722_1 hx722_2 hHeld ⊢
        refine zp1 HT_ 0 92 (mb' 12 1) rfl ?_
        refine zp1 HT_ 1 93 (mb' 12 3) rfl ?_
        refine zp1 HT_ 2 94 (mb' 12 7) rfl ?_
        refine zp1 HT_ 3 95 (mb' 12 15) rfl ?_
        refine zp1 HT_ 5 97 (mb' 12 47) rfl ?_
        refine zp1 HT_ 6 98 (mb' 12 111) rfl ?_
        refine zp1 HT_ 7 99 (mb' 12 239) rfl ?_
        refine zt1 HT_ HW_ (v:=?_) (a':=?_) 4 96 (mb' 12 255) rfl ?_ hHeld ?_ ?_;rotate_left;(rintro w' ⟨s0,s1,s2,s3,s4,s5⟩;go_simp;with_reducible rfl);rotate_left;exact zpa
        refine zt1 HT_ HW_ (v:=?_) (a':=?_) 8 100 (mb' 12 511) rfl ?_ hHeld ?_ ?_;rotate_left;(rintro w' ⟨s0,s1,s2,s3,s4,s5⟩;go_simp;with_reducible rfl);rotate_left;exact zpa
        refine one_ (i:=9) (N:=some 101) (mb' 12 1023) rfl rfl (one_of HT_.out (by kernel_rfl)) (by decide) (fun K hK=>?_)
        refine goesV_ (f:=82) Try.func82 (by kernel_rfl) rfl #[.agg #[.int .i64 ((rd_T79 l0 a2).f0),.int .i64 ((rd_T79 l0 a2).f1),.int .i64 ((rd_T79 l0 a2).f2)],.agg #[.int .i64 ((rd_T79 l0 (ji37)).f0),.int .i64 ((rd_T79 l0 (ji37)).f1),.int .i64 ((rd_T79 l0 (ji37)).f2)]] (by rfl) rfl rfl rfl (by(try simp only [List.map_toArray,List.map_cons,List.map_nil]);first|done|(simp only [hji37];rfl)|rfl|(simp only [List.length_drop,List.length_take];rfl)) ?_
        with_reducible refine(cmpE.calls ((rd_T79 l0 a2).f0) ((rd_T79 l0 a2).f1) ((rd_T79 l0 a2).f2) ((rd_T79 l0 (ji37)).f0) ((rd_T79 l0 (ji37)).f1) ((rd_T79 l0 (ji37)).f2) t723 _ A40.out).mono ?_
        rintro e w44 ⟨rfl,hb⟩
        have HS0_:=(hb.cell (World.block_lt_of_cell? _ _ (hHeld.1))).trans (hHeld.1)
        have HS1_:=(hb.cell (World.block_lt_of_cell? _ _ (hHeld.2.1))).trans (hHeld.2.1)
        have HS2_:=(hb.cell (World.block_lt_of_cell? _ _ (hHeld.2.2.1))).trans (hHeld.2.2.1)
        have HS3_:=(hb.cell (World.block_lt_of_cell? _ _ (hHeld.2.2.2.1))).trans (hHeld.2.2.2.1)
        have HS4_:=(hb.cell (World.block_lt_of_cell? _ _ (hHeld.2.2.2.2.1))).trans (hHeld.2.2.2.2.1)
        have HS5_:=(hb.cell (World.block_lt_of_cell? _ _ (hHeld.2.2.2.2.2))).trans (hHeld.2.2.2.2.2)
        refine⟨_,rfl,?_⟩
        replace HO_0:=Aside0.mk (Kd.R_below (zq4 HO_0) hb)
        replace HK:=Aside0.mk (Kept.below (S:=(fun k_=>P0_ k_)) (by exact zk4 HK) hb)
        replace HB:=Aside0.mk (below_step (by exact zk1 HB) hb)
        (try clear hb)
        (try clear hb2)
        (try clear hk)
        (try clear hi)
        refine hK.out _ _ ⟨HS0_,HS1_,HS2_,HS3_,HS4_,HS5_⟩ (fun hHeld=>?_)
        clear hK K
        refine norm_ (a':=?_) ?_ ?_
        rotate_left
        ·show Act.put _ (some 101) _=_
         simp only [Act.put,List.setIfInBounds_toArray,List.set_cons_zero,List.set_cons_succ,i64_w,i32_w]
         rfl
        refine zp1 HT_ 10 102 (mb' 12 2047) rfl ?_
        refine zp1 HT_ 11 103 (mb' 12 4095) rfl ?_
        refine done_ (done_of HT_.out (by kernel_rfl)) ?_
        try go_wp2
        go_roundg k1
        case measure=>have:=HK1.out;omega
        case rel=>exact⟨(x14_1),(ji37),zrs,(by first|rfl|(simp;done)|(simp only [← hji37]<;>(first|rfl|simp))|(simp [*];done)),H',⟨by have:=HK1.out;omega⟩,⟨zdr HO_0⟩,⟨by exact zk4 HK⟩,⟨by exact zk1 HB⟩⟩
      ·rw [if_neg c41] at H
       have c41b0:decide (t723< 0)=false:=decide_eq_false c41
       clear c41
       as_aux_lemma=>
        have H':=Aside0.mk H
        clear H
        try go_wp2
        replace HO_0:=Aside0.mk (Kd.R_drew HO_0.out)
        replace HK:=Aside0.mk (Kept.drew HK.out)
        replace HB:=Aside0.mk (below_drew1 HB.out)
        obtain⟨Ao46,co46,eo46⟩:=Kd.R_slice HO_0.out
        (first|subst eo46|(injection eo46 with f1_ f2_ f3_;have f4_:=f1_.symm;have f5_:=f3_.symm;clear f1_ f2_ f3_;subst f4_;subst f5_))
        have p721: 0≤ (a2:Int):=of_decide_eq_true zq1
        have q721:a2< (l0.length:Int):=of_decide_eq_true zq1
        obtain⟨ad721,e721,hx721_0,hx721_1,hx721_2⟩:=at_T79 (Kd.R_reads' HO_0.out).2.2 a2 p721 q721
        cases e721
        replace p721:=eq_true p721
        replace q721:=eq_true q721
        have p722: 0≤ ((ji37):Int):=of_decide_eq_true zq1
        have q722:(ji37)< (l0.length:Int):=of_decide_eq_true zq1
        obtain⟨ad722,e722,hx722_0,hx722_1,hx722_2⟩:=at_T79 (Kd.R_reads' HO_0.out).2.2 (ji37) p722 q722
        obtain rfl:ad721=ad722:=(by injection e722)
        replace p722:=eq_true p722
        replace q722:=eq_true q722
        refine start_ (n:=12) (S:=fun w'=>w'.cell? (ad721.add ((a2).toNat * 3))=some (.int .i64 ((rd_T79 l0 a2).f0))∧w'.cell? ⟨(ad721.add ((a2).toNat * 3)).block,(ad721.add ((a2).toNat * 3)).off+1,none⟩=some (.int .i64 ((rd_T79 l0 a2).f1))∧w'.cell? ⟨(ad721.add ((a2).toNat * 3)).block,(ad721.add ((a2).toNat * 3)).off+2,none⟩=some (.int .i64 ((rd_T79 l0 a2).f2))∧w'.cell? (ad721.add (((ji37)).toNat * 3))=some (.int .i64 ((rd_T79 l0 (ji37)).f0))∧w'.cell? ⟨(ad721.add (((ji37)).toNat * 3)).block,(ad721.add (((ji37)).toNat * 3)).off+1,none⟩=some (.int .i64 ((rd_T79 l0 (ji37)).f1))∧w'.cell? ⟨(ad721.add (((ji37)).toNat * 3)).block,(ad721.add (((ji37)).toNat * 3)).off+2,none⟩=some (.int .i64 ((rd_T79 l0 (ji37)).f2))) (ds:= []) (mb' 12 0) (by kernel_rfl) rfl rfl ⟨hx721_0,hx721_1,hx721_2,hx722_0,hx722_1,hx722_2⟩ (fun hHeld=>?_);refine with_tabW slices_symMergeCmpFunc_Edge.tab17 slices_symMergeCmpFunc_Edge.bits17 (fun HT_ HW_=>?_)
        generalize wr.drew=w45 at HO_0 HK HB hx721_0 hx721_1 hx721_2 hx722_0 hx722_1 hx722_2 hHeld ⊢
        refine zp1 HT_ 0 92 (mb' 12 1) rfl ?_
        refine zp1 HT_ 1 93 (mb' 12 3) rfl ?_
        refine zp1 HT_ 2 94 (mb' 12 7) rfl ?_
        refine zp1 HT_ 3 95 (mb' 12 15) rfl ?_
        refine zp1 HT_ 5 97 (mb' 12 47) rfl ?_
        refine zp1 HT_ 6 98 (mb' 12 111) rfl ?_
        refine zp1 HT_ 7 99 (mb' 12 239) rfl ?_
        refine zt1 HT_ HW_ (v:=?_) (a':=?_) 4 96 (mb' 12 255) rfl ?_ hHeld ?_ ?_;rotate_left;(rintro w' ⟨s0,s1,s2,s3,s4,s5⟩;go_simp;with_reducible rfl);rotate_left;exact zpa
        refine zt1 HT_ HW_ (v:=?_) (a':=?_) 8 100 (mb' 12 511) rfl ?_ hHeld ?_ ?_;rotate_left;(rintro w' ⟨s0,s1,s2,s3,s4,s5⟩;go_simp;with_reducible rfl);rotate_left;exact zpa
        refine one_ (i:=9) (N:=some 101) (mb' 12 1023) rfl rfl (one_of HT_.out (by kernel_rfl)) (by decide) (fun K hK=>?_)
        refine goesV_ (f:=82) Try.func82 (by kernel_rfl) rfl #[.agg #[.int .i64 ((rd_T79 l0 a2).f0),.int .i64 ((rd_T79 l0 a2).f1),.int .i64 ((rd_T79 l0 a2).f2)],.agg #[.int .i64 ((rd_T79 l0 (ji37)).f0),.int .i64 ((rd_T79 l0 (ji37)).f1),.int .i64 ((rd_T79 l0 (ji37)).f2)]] (by rfl) rfl rfl rfl (by(try simp only [List.map_toArray,List.map_cons,List.map_nil]);first|done|(simp only [hji37];rfl)|rfl|(simp only [List.length_drop,List.length_take];rfl)) ?_
        with_reducible refine(cmpE.calls ((rd_T79 l0 a2).f0) ((rd_T79 l0 a2).f1) ((rd_T79 l0 a2).f2) ((rd_T79 l0 (ji37)).f0) ((rd_T79 l0 (ji37)).f1) ((rd_T79 l0 (ji37)).f2) t723 _ A40.out).mono ?_
        rintro e w47 ⟨rfl,hb⟩
        have HS0_:=(hb.cell (World.block_lt_of_cell? _ _ (hHeld.1))).trans (hHeld.1)
        have HS1_:=(hb.cell (World.block_lt_of_cell? _ _ (hHeld.2.1))).trans (hHeld.2.1)
        have HS2_:=(hb.cell (World.block_lt_of_cell? _ _ (hHeld.2.2.1))).trans (hHeld.2.2.1)
        have HS3_:=(hb.cell (World.block_lt_of_cell? _ _ (hHeld.2.2.2.1))).trans (hHeld.2.2.2.1)
        have HS4_:=(hb.cell (World.block_lt_of_cell? _ _ (hHeld.2.2.2.2.1))).trans (hHeld.2.2.2.2.1)
        have HS5_:=(hb.cell (World.block_lt_of_cell? _ _ (hHeld.2.2.2.2.2))).trans (hHeld.2.2.2.2.2)
        refine⟨_,rfl,?_⟩
        replace HO_0:=Aside0.mk (Kd.R_below (zq4 HO_0) hb)
        replace HK:=Aside0.mk (Kept.below (S:=(fun k_=>P0_ k_)) (by exact zk4 HK) hb)
        replace HB:=Aside0.mk (below_step (by exact zk1 HB) hb)
        (try clear hb)
        (try clear hb2)
        (try clear hk)
        (try clear hi)
        refine hK.out _ _ ⟨HS0_,HS1_,HS2_,HS3_,HS4_,HS5_⟩ (fun hHeld=>?_)
        clear hK K
        refine norm_ (a':=?_) ?_ ?_
        rotate_left
        ·show Act.put _ (some 101) _=_
         simp only [Act.put,List.setIfInBounds_toArray,List.set_cons_zero,List.set_cons_succ,i64_w,i32_w]
         rfl
        refine zp1 HT_ 10 102 (mb' 12 2047) rfl ?_
        refine zp1 HT_ 11 103 (mb' 12 4095) rfl ?_
        refine done_ (done_of HT_.out (by kernel_rfl)) ?_
        try go_wp2
        go_roundg k1
        case measure=>have:=HK1.out;omega
        case rel=>exact⟨(wrap64 ((ji37)+1)),(x15_1),(by first|rfl|(simp;done)|(simp only [← hji37]<;>(first|rfl|simp))|(simp [*];done)),zrs,H',⟨by have:=HK1.out;omega⟩,⟨zdr HO_0⟩,⟨by exact zk4 HK⟩,⟨by exact zk1 HB⟩⟩
     ·rw [if_neg c34] at H
      have c34b0:decide (x14_1<x15_1)=false:=decide_eq_false c34
      clear c34
      have H':=Aside0.mk H
      clear H
      go_wp2
      go_loopg [17] k1 (fun kq v17 w'=> ∃ (x0_2:List (S79)) (x17_2:Int),v17= .int .i64 x17_2∧Aside0 (slices_symMergeCmpFunc_Edge.l3 kq x0_2 x14_1 x17_2=some r)∧Aside0 (kq≤k1)∧Aside0 (Kd.R k79 79 w' w0.heap.size (fun k_=>(P0_ k_∨w.heap.size≤k_)) u9000_ x0_2)∧Aside0 (Kept w w' (fun k_=>P0_ k_))∧Aside0 (Below w0.heap.size w0 w'))
      case atStart=>exact⟨(l0),(a2),zrs,H',⟨Nat.le_refl _⟩,⟨zdr HO_0⟩,⟨by exact zk4 HK⟩,⟨by exact zk1 HB⟩⟩
      case round=>
       clear H'
       try clear c1
       try clear c2
       try clear p2
       try clear q2
       try clear hx2
       try clear c3
       try clear c4
       try clear c6
       try clear c6b0
       try clear c6b1
       try clear p6
       try clear c7
       try clear c7b0
       try clear p7
       try clear q7
       try clear hx7
       try clear c9
       try clear c9b0
       try clear c10
       try clear c10b0
       try clear c11
       try clear c11b0
       try clear c12
       try clear c12b0
       try clear c14
       try clear c14b0
       try clear c21
       try clear c21b0
       try clear c23
       try clear c23b0
       try clear c24
       try clear c24b0
       try clear c25
       try clear c25b0
       try clear c26
       try clear c26b0
       try clear c27
       try clear p27
       try clear q27
       try clear hx27
       try clear hf27
       try clear c28
       try clear p28
       try clear q28
       try clear hx28
       try clear hf28
       try clear c31
       try clear c32
       try clear c33
       try clear c33b0
       try clear c33b1
       try clear c34
       try clear c34b0
       try clear c35
       try clear c35b0
       try clear c36
       try clear c36b0
       try clear c38
       try clear c38b0
       try clear c39
       try clear c39b0
       try clear c41
       try clear c41b0
       try clear hx27_0
       try clear hx27_1
       try clear hx27_2
       try clear hx28_0
       try clear hx28_1
       try clear hx28_2
       try clear hx714_0
       try clear hx714_1
       try clear hx714_2
       try clear hx715_0
       try clear hx715_1
       try clear hx715_2
       try clear hx717_0
       try clear hx717_1
       try clear hx717_2
       try clear hx718_0
       try clear hx718_1
       try clear hx718_2
       try clear hx721_0
       try clear hx721_1
       try clear hx721_2
       try clear hx722_0
       try clear hx722_1
       try clear hx722_2
       try clear p2
       try clear p27
       try clear p28
       try clear p6
       try clear p7
       try clear p714
       try clear p715
       try clear p717
       try clear p718
       try clear p721
       try clear p722
       try clear q2
       try clear q27
       try clear q28
       try clear q7
       try clear q714
       try clear q715
       try clear q717
       try clear q718
       try clear q721
       try clear q722
       obtain⟨x0_2,x17_2,rfl,HA,HK2,HO_0,HK,HB⟩:=hrel
       cases gk with
       |zero=>exact absurd HA.out (by simp [slices_symMergeCmpFunc_Edge.l3])
       |succ k2=>
        have H:=HA.out
        clear HA
        simp only [slices_symMergeCmpFunc_Edge.l3] at H
        by_cases c48:x17_2 > x14_1
        ·rw [if_pos c48] at H
         have c48b0:decide (x14_1<x17_2)=true:=decide_eq_true c48
         clear c48
         obtain⟨ji49,hji49⟩ :∃ j_:Int,(wrap64 (x17_2 - 1))=j_:=⟨_,rfl⟩
         replace H:(if 0≤ (ji49) then(if (ji49)< (x0_2.length:Int) then(if 0≤x17_2 then(if x17_2< (x0_2.length:Int) then(slices_symMergeCmpFunc_Edge.l3 k2 ((x0_2.set (x17_2:Int).toNat (⟨(rd_T79 x0_2 (ji49)).f0,(rd_T79 x0_2 (ji49)).f1,(rd_T79 x0_2 (ji49)).f2⟩ :S79)).set ((ji49):Int).toNat (⟨(rd_T79 x0_2 x17_2).f0,(rd_T79 x0_2 x17_2).f1,(rd_T79 x0_2 x17_2).f2⟩ :S79)) x14_1 ji49) else(none)) else(none)) else(none)) else(none))=some r:=by first|(rw [hji49] at H;exact H)|(simp only [hji49] at H ⊢;exact H)
         have hji49w:(IntKind.i64.wrap (x17_2 - 1))=ji49:=(i64_w _).trans hji49
         by_cases c50: 0≤ (ji49)
         case neg=>exact znn c50 H
         rw [if_pos c50] at H
         have c50b0:decide (0≤ (ji49))=true:=decide_eq_true c50
         clear c50
         by_cases c51:(ji49)< (x0_2.length:Int)
         case neg=>exact znn c51 H
         rw [if_pos c51] at H
         have c51b0:decide ((ji49)< (x0_2.length:Int))=true:=decide_eq_true c51
         clear c51
         by_cases c52: 0≤x17_2
         case neg=>exact znn c52 H
         rw [if_pos c52] at H
         have c52b0:decide (0≤x17_2)=true:=decide_eq_true c52
         clear c52
         by_cases c53:x17_2< (x0_2.length:Int)
         case neg=>exact znn c53 H
         rw [if_pos c53] at H
         have c53b0:decide (x17_2< (x0_2.length:Int))=true:=decide_eq_true c53
         clear c53
         obtain⟨y726,hy726⟩ :∃ y_:List (S79),y_= (x0_2.set (x17_2:Int).toNat (⟨(rd_T79 x0_2 (ji49)).f0,(rd_T79 x0_2 (ji49)).f1,(rd_T79 x0_2 (ji49)).f2⟩ :S79)):=⟨_,rfl⟩
         replace H:(slices_symMergeCmpFunc_Edge.l3 k2 (y726.set ((ji49):Int).toNat (⟨(rd_T79 x0_2 x17_2).f0,(rd_T79 x0_2 x17_2).f1,(rd_T79 x0_2 x17_2).f2⟩ :S79)) x14_1 ji49)=some r:=zfh hy726 H
         have Ny726:=Aside0.mk hy726
         clear hy726
         obtain⟨y727,hy727⟩ :∃ y_:List (S79),y_= (y726.set ((ji49):Int).toNat (⟨(rd_T79 x0_2 x17_2).f0,(rd_T79 x0_2 x17_2).f1,(rd_T79 x0_2 x17_2).f2⟩ :S79)):=⟨_,rfl⟩
         replace H:(slices_symMergeCmpFunc_Edge.l3 k2 y727 x14_1 ji49)=some r:=zfh hy727 H
         have Ny727:=Aside0.mk hy727
         clear hy727
         as_aux_lemma=>
          have H':=Aside0.mk H
          clear H
          try go_wp2
          replace HO_0:=Aside0.mk (Kd.R_drew HO_0.out)
          replace HK:=Aside0.mk (Kept.drew HK.out)
          replace HB:=Aside0.mk (below_drew1 HB.out)
          obtain⟨Ao57,co57,eo57⟩:=Kd.R_slice HO_0.out
          (first|subst eo57|(injection eo57 with f1_ f2_ f3_;have f4_:=f1_.symm;have f5_:=f3_.symm;clear f1_ f2_ f3_;subst f4_;subst f5_))
          have p724: 0≤ ((ji49):Int):=of_decide_eq_true zq1
          have q724:(ji49)< (x0_2.length:Int):=of_decide_eq_true zq1
          obtain⟨ad724,e724,hx724_0,hx724_1,hx724_2⟩:=at_T79 (Kd.R_reads' HO_0.out).2.2 (ji49) p724 q724
          cases e724
          replace p724:=eq_true p724
          replace q724:=eq_true q724
          have p725: 0≤ (x17_2:Int):=of_decide_eq_true zq1
          have q725:x17_2< (x0_2.length:Int):=of_decide_eq_true zq1
          obtain⟨ad725,e725,hx725_0,hx725_1,hx725_2⟩:=at_T79 (Kd.R_reads' HO_0.out).2.2 x17_2 p725 q725
          obtain rfl:ad724=ad725:=(by injection e725)
          replace p725:=eq_true p725
          replace q725:=eq_true q725
          have p54: 0≤ (x17_2:Int):=of_decide_eq_true zq1
          have q54:(x17_2:Int)< ((x0_2.length:Int):Int):=of_decide_eq_true zq1
          obtain⟨go54,co54,eo54,gb54,gl54,cl54,HG54⟩:=Kd.R_form HO_0.out (by omega)
          (first|cases eo54|(injection eo54 with ea_ en_ ec_;(first|subst ea_|(injection ea_ with ea_;subst ea_));subst ec_;clear en_))
          have GB54:=Aside0.mk gb54
          have GG54:=Aside0.mk HG54
          clear gb54 gl54 HG54
          have HMgo54:=Aside0.mk (show (P0_ go54∨w.heap.size≤go54) from (HO_0.out.1 _ rfl))
          (first|simp only [add_plain] at hx724_0|skip)
          (first|simp only [add_plain] at hx724_1|skip)
          (first|simp only [add_plain] at hx724_2|skip)
          (first|simp only [add_plain] at hx725_0|skip)
          (first|simp only [add_plain] at hx725_1|skip)
          (first|simp only [add_plain] at hx725_2|skip)
          obtain⟨ce54,hcl54,hM54,hcc54,hfr54⟩:=Kd.R_elem HO_0.out z79 (x17_2:Int) p54 q54
          obtain rfl:=k79_openM hM54
          have hx54_0:World.cell? _ ⟨go54,(x17_2:Int).toNat * 3,none⟩=some (.int .i64 ((rd_T79 x0_2 x17_2).f0)):=hcc54 0 _ rfl
          have hx54_1:World.cell? _ ⟨go54,(x17_2:Int).toNat * 3+1,none⟩=some (.int .i64 ((rd_T79 x0_2 x17_2).f1)):=hcc54 1 _ rfl
          have hx54_2:World.cell? _ ⟨go54,(x17_2:Int).toNat * 3+2,none⟩=some (.int .i64 ((rd_T79 x0_2 x17_2).f2)):=hcc54 2 _ rfl
          have hf54_0:World.frozen? _ ⟨go54,(x17_2:Int).toNat * 3,none⟩=false:=hfr54 0
          have hf54_1:World.frozen? _ ⟨go54,(x17_2:Int).toNat * 3+1,none⟩=false:=hfr54 1
          have hf54_2:World.frozen? _ ⟨go54,(x17_2:Int).toNat * 3+2,none⟩=false:=hfr54 2
          clear hcl54 hcc54 hfr54 hM54
          replace p54:=eq_true p54
          replace q54:=eq_true q54
          obtain⟨ce58,hcl58,hM58,hcc58,hfr58⟩:=Kd.R_elem HO_0.out z79 (x17_2:Int) (of_decide_eq_true zq1) (by have h_:(x17_2:Int)< ((x0_2.length:Int):Int):=of_decide_eq_true zq1;first|exact h_|(have e_:=(Kd.R_reads' HO_0.out).1;omega)|simpa using h_)
          obtain rfl:=k79_openM hM58
          have HP58:=(Kd.R_seg HO_0.out (x17_2:Int) (of_decide_eq_true zq1) (by have h_:(x17_2:Int)< ((x0_2.length:Int):Int):=of_decide_eq_true zq1;first|exact h_|(have e_:=(Kd.R_reads' HO_0.out).1;omega)|simpa using h_) (seg:= [.int .i64 ((rd_T79 x0_2 (ji49)).f0),.int .i64 ((rd_T79 x0_2 (ji49)).f1),.int .i64 ((rd_T79 x0_2 (ji49)).f2)]) (j:=0) hcl58 hcc58 (show 3≤3 from by decide) (x':=(⟨(rd_T79 x0_2 (ji49)).f0,(rd_T79 x0_2 (ji49)).f1,(rd_T79 x0_2 (ji49)).f2⟩ :S79)) (k79_mkM _ _ _ (⟨(rd_T79 x0_2 (ji49)).f0,(rd_T79 x0_2 (ji49)).f1,(rd_T79 x0_2 (ji49)).f2⟩ :S79) ) (fun _ hk=>hk)).1
          rw [← Ny726.out] at HP58
          have HQ58:=Aside0.mk HP58
          clear hcl58 hcc58 hfr58 hM58 HP58
          have p55: 0≤ ((ji49):Int):=of_decide_eq_true zq1
          have q55:((ji49):Int)< ((x0_2.length:Int):Int):=of_decide_eq_true zq1
          obtain⟨ce55,hcl55,hM55,hcc55,hfr55⟩:=Kd.R_elem HQ58.out z79 ((ji49):Int) p55 q55
          obtain rfl:=k79_openM hM55
          have hx55_0:World.cell? _ ⟨go54,((ji49):Int).toNat * 3,none⟩=some (.int .i64 ((rd_T79 y726 (ji49)).f0)):=hcc55 0 _ rfl
          have hx55_1:World.cell? _ ⟨go54,((ji49):Int).toNat * 3+1,none⟩=some (.int .i64 ((rd_T79 y726 (ji49)).f1)):=hcc55 1 _ rfl
          have hx55_2:World.cell? _ ⟨go54,((ji49):Int).toNat * 3+2,none⟩=some (.int .i64 ((rd_T79 y726 (ji49)).f2)):=hcc55 2 _ rfl
          have hf55_0:World.frozen? _ ⟨go54,((ji49):Int).toNat * 3,none⟩=false:=hfr55 0
          have hf55_1:World.frozen? _ ⟨go54,((ji49):Int).toNat * 3+1,none⟩=false:=hfr55 1
          have hf55_2:World.frozen? _ ⟨go54,((ji49):Int).toNat * 3+2,none⟩=false:=hfr55 2
          clear hcl55 hcc55 hfr55 hM55
          replace p55:=eq_true p55
          replace q55:=eq_true q55
          obtain⟨ce59,hcl59,hM59,hcc59,hfr59⟩:=Kd.R_elem HQ58.out z79 ((ji49):Int) (of_decide_eq_true zq1) (by have h_:((ji49):Int)< ((x0_2.length:Int):Int):=of_decide_eq_true zq1;first|exact h_|(have e_:=(Kd.R_reads' HO_0.out).1;omega)|simpa using h_)
          obtain rfl:=k79_openM hM59
          have HP59:=(Kd.R_seg HQ58.out ((ji49):Int) (of_decide_eq_true zq1) (by have h_:((ji49):Int)< ((x0_2.length:Int):Int):=of_decide_eq_true zq1;first|exact h_|(have e_:=(Kd.R_reads' HO_0.out).1;omega)|simpa using h_) (seg:= [.int .i64 ((rd_T79 x0_2 x17_2).f0),.int .i64 ((rd_T79 x0_2 x17_2).f1),.int .i64 ((rd_T79 x0_2 x17_2).f2)]) (j:=0) hcl59 hcc59 (show 3≤3 from by decide) (x':=(⟨(rd_T79 x0_2 x17_2).f0,(rd_T79 x0_2 x17_2).f1,(rd_T79 x0_2 x17_2).f2⟩ :S79)) (k79_mkM _ _ _ (⟨(rd_T79 x0_2 x17_2).f0,(rd_T79 x0_2 x17_2).f1,(rd_T79 x0_2 x17_2).f2⟩ :S79) ) (fun _ hk=>hk)).1
          rw [← Ny727.out] at HP59
          have HQ59:=Aside0.mk HP59
          clear hcl59 hcc59 hfr59 hM59 HP59
          refine start_ (n:=18) (S:=fun w'=>w'.cell? ⟨go54,((ji49)).toNat * 3,none⟩=some (.int .i64 ((rd_T79 x0_2 (ji49)).f0))∧w'.cell? ⟨go54,((ji49)).toNat * 3+1,none⟩=some (.int .i64 ((rd_T79 x0_2 (ji49)).f1))∧w'.cell? ⟨go54,((ji49)).toNat * 3+2,none⟩=some (.int .i64 ((rd_T79 x0_2 (ji49)).f2))∧w'.cell? ⟨go54,((x17_2).toNat * 3),none⟩=some (.int .i64 ((rd_T79 x0_2 x17_2).f0))∧w'.cell? ⟨go54,((x17_2).toNat * 3)+1,none⟩=some (.int .i64 ((rd_T79 x0_2 x17_2).f1))∧w'.cell? ⟨go54,((x17_2).toNat * 3)+2,none⟩=some (.int .i64 ((rd_T79 x0_2 x17_2).f2))) (ds:= [15,17]) (mb' 18 0) (by kernel_rfl) rfl rfl ⟨hx724_0,hx724_1,hx724_2,hx725_0,hx725_1,hx725_2⟩ (fun hHeld=>?_);refine with_tabW slices_symMergeCmpFunc_Edge.tab23 slices_symMergeCmpFunc_Edge.bits23 (fun HT_ HW_=>?_)
          generalize wr.drew=w56 at HO_0 HK HB GG54 HQ58 HQ59 hf54_0 hf54_1 hf54_2 hf55_0 hf55_1 hf55_2 hx54_0 hx54_1 hx54_2 hx55_0 hx55_1 hx55_2 hx724_0 hx724_1 hx724_2 hx725_0 hx725_1 hx725_2 hHeld ⊢
          have hw55_0:=hf55_0
          (try simp [go_sem,World.setCells,show k79.sz=3 from rfl] at hw55_0)
          have hw55_1:=hf55_1
          (try simp [go_sem,World.setCells,show k79.sz=3 from rfl] at hw55_1)
          have hw55_2:=hf55_2
          (try simp [go_sem,World.setCells,show k79.sz=3 from rfl] at hw55_2)
          have hz55_0:=hx55_0
          (try simp [go_sem,World.setCells,show k79.sz=3 from rfl] at hz55_0)
          have hz55_1:=hx55_1
          (try simp [go_sem,World.setCells,show k79.sz=3 from rfl] at hz55_1)
          have hz55_2:=hx55_2
          (try simp [go_sem,World.setCells,show k79.sz=3 from rfl] at hz55_2)
          refine zp1 HT_ 0 113 (mb' 18 1) rfl ?_
          refine zp1 HT_ 1 114 (mb' 18 3) rfl ?_
          refine zp1 HT_ 2 115 (mb' 18 7) rfl ?_
          refine zp1 HT_ 3 116 (mb' 18 15) rfl ?_
          refine zp1 HT_ 4 117 (mb' 18 31) rfl ?_
          refine zp1 HT_ 5 118 (mb' 18 63) rfl ?_
          refine zp1 HT_ 6 119 (mb' 18 127) rfl ?_
          refine zp1 HT_ 7 120 (mb' 18 255) rfl ?_
          refine zp1 HT_ 8 121 (mb' 18 511) rfl ?_
          refine zp1 HT_ 10 123 (mb' 18 1535) rfl ?_
          refine zp1 HT_ 11 124 (mb' 18 3583) rfl ?_
          refine zp1 HT_ 12 125 (mb' 18 7679) rfl ?_
          refine zt1 HT_ HW_ (v:=?_) (a':=?_) 9 122 (mb' 18 8191) rfl ?_ hHeld ?_ ?_;rotate_left;(rintro w' ⟨s0,s1,s2,s3,s4,s5⟩;go_simp;with_reducible rfl);rotate_left;exact zpa
          refine zt1 HT_ HW_ (v:=?_) (a':=?_) 13 126 (mb' 18 16383) rfl ?_ hHeld ?_ ?_;rotate_left;(rintro w' ⟨s0,s1,s2,s3,s4,s5⟩;go_simp;with_reducible rfl);rotate_left;exact zpa
          refine zp1 HT_ 14 127 (mb' 18 32767) rfl ?_
          refine last_ (i:=15) (N:=none) (mb' 18 65535) rfl rfl (one_of HT_.out (by kernel_rfl)) (by decide) (fun K hK=>?_)
          refine skip_ (w1:=?_) (by rfl) rfl ?_ ?_
          rotate_left
          ·go_simp
           rfl
          refine hK.out _ _ ?_
          clear hK K
          refine zp1 HT_ 16 128 (mb' 18 131071) rfl ?_
          refine last_ (i:=17) (N:=none) (mb' 18 262143) rfl rfl (one_of HT_.out (by kernel_rfl)) (by decide) (fun K hK=>?_)
          refine skip_ (w1:=?_) (by rfl) rfl ?_ ?_
          rotate_left
          ·go_simp
           rfl
          refine hK.out _ _ ?_
          clear hK K
          refine done_ (done_of HT_.out (by kernel_rfl)) ?_
          try go_wp2
          go_roundg k2
          case measure=>have:=HK1.out;have:=HK2.out;omega
          case rel=>exact⟨(y727),(ji49),(by first|rfl|(simp;done)|(simp only [← hji49]<;>(first|rfl|simp))|(simp [*];done)),H',⟨by have:=HK1.out;have:=HK2.out;omega⟩,⟨zdr HQ59⟩,⟨by repeat(first|(with_reducible first|exact HK.out|apply Kept.alloc|apply Kept.drewN|apply Kept.drew|refine Kept.setCell ?_ HMgo54.out _|refine Kept.setCell ?_ HMgo54.out _|refine Kept.setCell ?_ HMgo54.out _|refine Kept.setCell ?_ HMgo54.out _|refine Kept.setCell ?_ HMgo54.out _|refine Kept.setCell ?_ HMgo54.out _)|exact HK.out)⟩,⟨by exact zk5 HB GB54.out GB54.out GB54.out GB54.out GB54.out GB54.out⟩⟩
        ·rw [if_neg c48] at H
         have c48b0:decide (x14_1<x17_2)=false:=decide_eq_false c48
         clear c48
         as_aux_lemma=>
          obtain rfl:=Option.some.inj H
          go_wp2
          first|go_end0|((try simp only [Exit.inBlock,Exit.then]);refine bodyPost_ret (results_none rfl _ _ _) rfl ?_)
          exact⟨zer,zdr HO_0,by exact zk1 HB,by exact zk4 HK⟩
  ·rw [if_neg c33] at H
   have c33b0:((wrap64 (a3 - a2))==1)=false:=beq_eq_false_iff_ne.mpr c33
   have c33b1:((wrap64 (a3 - a2)) !=1)=true:=bne_iff_ne.mpr c33
   have HC60:=Aside0.mk H
   clear H
   go_enter Try.func109,Try.ntmps109
   go_upto_if 140 with (fail)
   go_cut [20,21] (fun v20 v21 wc=> ∃ (kq:Nat) (x20_59:Int) (x21_59:Int),v20= .int .i64 x20_59∧v21= .int .i64 x21_59∧Aside0 (slices_symMergeCmpFunc_Edge.j4 kq l0 a1 a2 a3 a4 (wrap64 ((IntKind.u64.wrap (wrap64 (a1+a3))) / 2)) (wrap64 ((wrap64 ((IntKind.u64.wrap (wrap64 (a1+a3))) / 2))+a2)) x20_59 x21_59=some r)∧Aside0 (kq≤k)∧Aside0 (Kd.R k79 79 wc w0.heap.size (fun k_=>(P0_ k_∨w.heap.size≤k_)) u9000_ l0)∧Aside0 (Kept w wc (fun k_=>P0_ k_))∧Aside0 (Below w0.heap.size w0 wc))
   case first=>
    have H:=HC60.out
    clear HC60
    by_cases c61:a2 > (wrap64 ((IntKind.u64.wrap (wrap64 (a1+a3))) / 2))
    ·rw [if_pos c61] at H
     have c61b0:decide ((wrap64 ((IntKind.u64.wrap (wrap64 (a1+a3))) / 2))<a2)=true:=decide_eq_true c61
     clear c61
     (first|rw [c61b0]|(simp only [i64_w,i32_w];rw [c61b0])|skip)
     as_aux_lemma=>
      have H':=Aside0.mk H
      clear H
      go_wp2
      go_meet
      case rel=>exact⟨_,(wrap64 ((wrap64 ((wrap64 ((IntKind.u64.wrap (wrap64 (a1+a3))) / 2))+a2)) - a3)),(wrap64 ((IntKind.u64.wrap (wrap64 (a1+a3))) / 2)),zrs,zrs,H',⟨by first|omega|exact Nat.le_refl _⟩,⟨zdr HO0⟩,⟨by exact zk4 HK⟩,⟨by exact zk1 HB⟩⟩
    ·rw [if_neg c61] at H
     have c61b0:decide ((wrap64 ((IntKind.u64.wrap (wrap64 (a1+a3))) / 2))<a2)=false:=decide_eq_false c61
     clear c61
     (first|rw [c61b0]|(simp only [i64_w,i32_w];rw [c61b0])|skip)
     as_aux_lemma=>
      have H':=Aside0.mk H
      clear H
      go_wp2
      go_meet
      case rel=>exact⟨_,(a1),(a2),zrs,zrs,H',⟨by first|omega|exact Nat.le_refl _⟩,⟨zdr HO0⟩,⟨by exact zk4 HK⟩,⟨by exact zk1 HB⟩⟩
   case rest=>
    clear HC60
    try clear c1
    try clear c2
    try clear p2
    try clear q2
    try clear hx2
    try clear c3
    try clear c4
    try clear c5
    try clear p5
    try clear q5
    try clear hx5
    try clear hf5
    try clear c6
    try clear c6b0
    try clear c6b1
    try clear p6
    try clear c7
    try clear c7b0
    try clear p7
    try clear q7
    try clear hx7
    try clear c9
    try clear c9b0
    try clear c10
    try clear c10b0
    try clear c11
    try clear c11b0
    try clear c12
    try clear c12b0
    try clear c14
    try clear c14b0
    try clear c21
    try clear c21b0
    try clear c23
    try clear c23b0
    try clear c24
    try clear c24b0
    try clear c25
    try clear c25b0
    try clear c26
    try clear c26b0
    try clear c27
    try clear p27
    try clear q27
    try clear hx27
    try clear hf27
    try clear c28
    try clear p28
    try clear q28
    try clear hx28
    try clear hf28
    try clear c31
    try clear c32
    try clear c33
    try clear c33b0
    try clear c33b1
    try clear c34
    try clear c34b0
    try clear c35
    try clear c35b0
    try clear c36
    try clear c36b0
    try clear c38
    try clear c38b0
    try clear c39
    try clear c39b0
    try clear c41
    try clear c41b0
    try clear c48
    try clear c48b0
    try clear c50
    try clear c50b0
    try clear c51
    try clear c51b0
    try clear c52
    try clear c52b0
    try clear c53
    try clear c53b0
    try clear c54
    try clear p54
    try clear q54
    try clear hx54
    try clear hf54
    try clear c55
    try clear p55
    try clear q55
    try clear hx55
    try clear hf55
    try clear c58
    try clear c59
    try clear c61
    try clear c61b0
    try clear hx27_0
    try clear hx27_1
    try clear hx27_2
    try clear hx28_0
    try clear hx28_1
    try clear hx28_2
    try clear hx54_0
    try clear hx54_1
    try clear hx54_2
    try clear hx55_0
    try clear hx55_1
    try clear hx55_2
    try clear hx714_0
    try clear hx714_1
    try clear hx714_2
    try clear hx715_0
    try clear hx715_1
    try clear hx715_2
    try clear hx717_0
    try clear hx717_1
    try clear hx717_2
    try clear hx718_0
    try clear hx718_1
    try clear hx718_2
    try clear hx721_0
    try clear hx721_1
    try clear hx721_2
    try clear hx722_0
    try clear hx722_1
    try clear hx722_2
    try clear hx724_0
    try clear hx724_1
    try clear hx724_2
    try clear hx725_0
    try clear hx725_1
    try clear hx725_2
    try clear p2
    try clear p27
    try clear p28
    try clear p54
    try clear p55
    try clear p6
    try clear p7
    try clear p714
    try clear p715
    try clear p717
    try clear p718
    try clear p721
    try clear p722
    try clear p724
    try clear p725
    try clear q2
    try clear q27
    try clear q28
    try clear q54
    try clear q55
    try clear q7
    try clear q714
    try clear q715
    try clear q717
    try clear q718
    try clear q721
    try clear q722
    try clear q724
    try clear q725
    obtain⟨kq,x20_59,x21_59,rfl,rfl,HA,HJ59,HO_0,HK,HB⟩:=hcut
    cases kq with
    |zero=>exact absurd HA.out (by simp [slices_symMergeCmpFunc_Edge.j4])
    |succ kj59=>
     have H:=HA.out
     clear HA
     simp only [slices_symMergeCmpFunc_Edge.j4] at H
     have H':=Aside0.mk H
     clear H
     go_wp2
     go_loopg [20,21] kj59 (fun kq v20 v21 w'=> ∃ (x20_2:Int) (x21_2:Int),v20= .int .i64 x20_2∧v21= .int .i64 x21_2∧Aside0 (slices_symMergeCmpFunc_Edge.l4 kq l0 a1 a2 a3 a4 (wrap64 ((IntKind.u64.wrap (wrap64 (a1+a3))) / 2)) (wrap64 ((wrap64 ((IntKind.u64.wrap (wrap64 (a1+a3))) / 2))+a2)) x20_2 x21_2 (wrap64 ((wrap64 ((wrap64 ((IntKind.u64.wrap (wrap64 (a1+a3))) / 2))+a2)) - 1))=some r)∧Aside0 (kq≤kj59)∧Aside0 (Kd.R k79 79 w' w0.heap.size (fun k_=>(P0_ k_∨w.heap.size≤k_)) u9000_ l0)∧Aside0 (Kept w w' (fun k_=>P0_ k_))∧Aside0 (Below w0.heap.size w0 w'))
     case atStart=>exact⟨(x20_59),(x21_59),zrs,zrs,H',⟨Nat.le_refl _⟩,⟨zdr HO_0⟩,⟨by exact zk4 HK⟩,⟨by exact zk1 HB⟩⟩
     case round=>
      clear H'
      try clear c1
      try clear c2
      try clear p2
      try clear q2
      try clear hx2
      try clear c3
      try clear c4
      try clear c5
      try clear p5
      try clear q5
      try clear hx5
      try clear hf5
      try clear c6
      try clear c6b0
      try clear c6b1
      try clear p6
      try clear c7
      try clear c7b0
      try clear p7
      try clear q7
      try clear hx7
      try clear c9
      try clear c9b0
      try clear c10
      try clear c10b0
      try clear c11
      try clear c11b0
      try clear c12
      try clear c12b0
      try clear c14
      try clear c14b0
      try clear c21
      try clear c21b0
      try clear c23
      try clear c23b0
      try clear c24
      try clear c24b0
      try clear c25
      try clear c25b0
      try clear c26
      try clear c26b0
      try clear c27
      try clear p27
      try clear q27
      try clear hx27
      try clear hf27
      try clear c28
      try clear p28
      try clear q28
      try clear hx28
      try clear hf28
      try clear c31
      try clear c32
      try clear c33
      try clear c33b0
      try clear c33b1
      try clear c34
      try clear c34b0
      try clear c35
      try clear c35b0
      try clear c36
      try clear c36b0
      try clear c38
      try clear c38b0
      try clear c39
      try clear c39b0
      try clear c41
      try clear c41b0
      try clear c48
      try clear c48b0
      try clear c50
      try clear c50b0
      try clear c51
      try clear c51b0
      try clear c52
      try clear c52b0
      try clear c53
      try clear c53b0
      try clear c54
      try clear p54
      try clear q54
      try clear hx54
      try clear hf54
      try clear c55
      try clear p55
      try clear q55
      try clear hx55
      try clear hf55
      try clear c58
      try clear c59
      try clear c61
      try clear c61b0
      try clear hx27_0
      try clear hx27_1
      try clear hx27_2
      try clear hx28_0
      try clear hx28_1
      try clear hx28_2
      try clear hx54_0
      try clear hx54_1
      try clear hx54_2
      try clear hx55_0
      try clear hx55_1
      try clear hx55_2
      try clear hx714_0
      try clear hx714_1
      try clear hx714_2
      try clear hx715_0
      try clear hx715_1
      try clear hx715_2
      try clear hx717_0
      try clear hx717_1
      try clear hx717_2
      try clear hx718_0
      try clear hx718_1
      try clear hx718_2
      try clear hx721_0
      try clear hx721_1
      try clear hx721_2
      try clear hx722_0
      try clear hx722_1
      try clear hx722_2
      try clear hx724_0
      try clear hx724_1
      try clear hx724_2
      try clear hx725_0
      try clear hx725_1
      try clear hx725_2
      try clear p2
      try clear p27
      try clear p28
      try clear p5
      try clear p54
      try clear p55
      try clear p6
      try clear p7
      try clear p714
      try clear p715
      try clear p717
      try clear p718
      try clear p721
      try clear p722
      try clear p724
      try clear p725
      try clear q2
      try clear q27
      try clear q28
      try clear q5
      try clear q54
      try clear q55
      try clear q7
      try clear q714
      try clear q715
      try clear q717
      try clear q718
      try clear q721
      try clear q722
      try clear q724
      try clear q725
      obtain⟨x20_2,x21_2,rfl,rfl,HA,HK2,HO_0,HK,HB⟩:=hrel
      cases gk with
      |zero=>exact absurd HA.out (by simp [slices_symMergeCmpFunc_Edge.l4])
      |succ k2=>
       have H:=HA.out
       clear HA
       simp only [slices_symMergeCmpFunc_Edge.l4] at H
       by_cases c62:x20_2<x21_2
       ·rw [if_pos c62] at H
        have c62b0:decide (x20_2<x21_2)=true:=decide_eq_true c62
        clear c62
        obtain⟨ji63,hji63⟩ :∃ j_:Int,(wrap64 ((wrap64 ((wrap64 ((wrap64 ((IntKind.u64.wrap (wrap64 (a1+a3))) / 2))+a2)) - 1)) - (wrap64 ((IntKind.u64.wrap (wrap64 (x20_2+x21_2))) / 2))))=j_:=⟨_,rfl⟩
        replace H:(if 0≤ (ji63) then(if (ji63)< (l0.length:Int) then(if 0≤ (wrap64 ((IntKind.u64.wrap (wrap64 (x20_2+x21_2))) / 2)) then(if (wrap64 ((IntKind.u64.wrap (wrap64 (x20_2+x21_2))) / 2))< (l0.length:Int) then((cmpE.f ((rd_T79 l0 (ji63)).f0) ((rd_T79 l0 (ji63)).f1) ((rd_T79 l0 (ji63)).f2) ((rd_T79 l0 (wrap64 ((IntKind.u64.wrap (wrap64 (x20_2+x21_2))) / 2))).f0) ((rd_T79 l0 (wrap64 ((IntKind.u64.wrap (wrap64 (x20_2+x21_2))) / 2))).f1) ((rd_T79 l0 (wrap64 ((IntKind.u64.wrap (wrap64 (x20_2+x21_2))) / 2))).f2)).bind fun t730=>(if t730< 0 then(slices_symMergeCmpFunc_Edge.l4 k2 l0 a1 a2 a3 a4 (wrap64 ((IntKind.u64.wrap (wrap64 (a1+a3))) / 2)) (wrap64 ((wrap64 ((IntKind.u64.wrap (wrap64 (a1+a3))) / 2))+a2)) x20_2 (wrap64 ((IntKind.u64.wrap (wrap64 (x20_2+x21_2))) / 2)) (wrap64 ((wrap64 ((wrap64 ((IntKind.u64.wrap (wrap64 (a1+a3))) / 2))+a2)) - 1))) else(slices_symMergeCmpFunc_Edge.l4 k2 l0 a1 a2 a3 a4 (wrap64 ((IntKind.u64.wrap (wrap64 (a1+a3))) / 2)) (wrap64 ((wrap64 ((IntKind.u64.wrap (wrap64 (a1+a3))) / 2))+a2)) (wrap64 ((wrap64 ((IntKind.u64.wrap (wrap64 (x20_2+x21_2))) / 2))+1)) x21_2 (wrap64 ((wrap64 ((wrap64 ((IntKind.u64.wrap (wrap64 (a1+a3))) / 2))+a2)) - 1))))) else(none)) else(none)) else(none)) else(none))=some r:=by first|(rw [hji63] at H;exact H)|(simp only [hji63] at H ⊢;exact H)
        have hji63w:(IntKind.i64.wrap ((wrap64 ((wrap64 ((wrap64 ((IntKind.u64.wrap (wrap64 (a1+a3))) / 2))+a2)) - 1)) - (wrap64 ((IntKind.u64.wrap (wrap64 (x20_2+x21_2))) / 2))))=ji63:=(i64_w _).trans hji63
        by_cases c64: 0≤ (ji63)
        case neg=>exact znn c64 H
        rw [if_pos c64] at H
        have c64b0:decide (0≤ (ji63))=true:=decide_eq_true c64
        clear c64
        by_cases c65:(ji63)< (l0.length:Int)
        case neg=>exact znn c65 H
        rw [if_pos c65] at H
        have c65b0:decide ((ji63)< (l0.length:Int))=true:=decide_eq_true c65
        clear c65
        obtain⟨ji66,hji66⟩ :∃ j_:Int,(wrap64 ((IntKind.u64.wrap (wrap64 (x20_2+x21_2))) / 2))=j_:=⟨_,rfl⟩
        replace H:(if 0≤ (ji66) then(if (ji66)< (l0.length:Int) then((cmpE.f ((rd_T79 l0 (ji63)).f0) ((rd_T79 l0 (ji63)).f1) ((rd_T79 l0 (ji63)).f2) ((rd_T79 l0 (ji66)).f0) ((rd_T79 l0 (ji66)).f1) ((rd_T79 l0 (ji66)).f2)).bind fun t730=>(if t730< 0 then(slices_symMergeCmpFunc_Edge.l4 k2 l0 a1 a2 a3 a4 (wrap64 ((IntKind.u64.wrap (wrap64 (a1+a3))) / 2)) (wrap64 ((wrap64 ((IntKind.u64.wrap (wrap64 (a1+a3))) / 2))+a2)) x20_2 ji66 (wrap64 ((wrap64 ((wrap64 ((IntKind.u64.wrap (wrap64 (a1+a3))) / 2))+a2)) - 1))) else(slices_symMergeCmpFunc_Edge.l4 k2 l0 a1 a2 a3 a4 (wrap64 ((IntKind.u64.wrap (wrap64 (a1+a3))) / 2)) (wrap64 ((wrap64 ((IntKind.u64.wrap (wrap64 (a1+a3))) / 2))+a2)) (wrap64 ((ji66)+1)) x21_2 (wrap64 ((wrap64 ((wrap64 ((IntKind.u64.wrap (wrap64 (a1+a3))) / 2))+a2)) - 1))))) else(none)) else(none))=some r:=by first|(rw [hji66] at H;exact H)|(simp only [hji66] at H ⊢;exact H)
        have hji66w:(IntKind.i64.wrap ((IntKind.u64.wrap (wrap64 (x20_2+x21_2))) / 2))=ji66:=(i64_w _).trans hji66
        have hji63x:=hji63
        (try rw [hji66] at hji63x)
        have hji63wx:=hji63w
        (try rw [hji66] at hji63wx)
        by_cases c67: 0≤ (ji66)
        case neg=>exact znn c67 H
        rw [if_pos c67] at H
        have c67b0:decide (0≤ (ji66))=true:=decide_eq_true c67
        clear c67
        by_cases c68:(ji66)< (l0.length:Int)
        case neg=>exact znn c68 H
        rw [if_pos c68] at H
        have c68b0:decide ((ji66)< (l0.length:Int))=true:=decide_eq_true c68
        clear c68
        replace H:=Option.bind_eq_some_iff.mp H
        obtain⟨t730,A690,H⟩:=H
        replace H:(if t730< 0 then(slices_symMergeCmpFunc_Edge.l4 k2 l0 a1 a2 a3 a4 (wrap64 ((IntKind.u64.wrap (wrap64 (a1+a3))) / 2)) (wrap64 ((wrap64 ((IntKind.u64.wrap (wrap64 (a1+a3))) / 2))+a2)) x20_2 ji66 (wrap64 ((wrap64 ((wrap64 ((IntKind.u64.wrap (wrap64 (a1+a3))) / 2))+a2)) - 1))) else(slices_symMergeCmpFunc_Edge.l4 k2 l0 a1 a2 a3 a4 (wrap64 ((IntKind.u64.wrap (wrap64 (a1+a3))) / 2)) (wrap64 ((wrap64 ((IntKind.u64.wrap (wrap64 (a1+a3))) / 2))+a2)) (wrap64 ((ji66)+1)) x21_2 (wrap64 ((wrap64 ((wrap64 ((IntKind.u64.wrap (wrap64 (a1+a3))) / 2))+a2)) - 1))))=some r:=H
        have A69:=Aside0.mk A690
        clear A690
        by_cases c70:t730< 0
        ·rw [if_pos c70] at H
         have c70b0:decide (t730< 0)=true:=decide_eq_true c70
         clear c70
         as_aux_lemma=>
          have H':=Aside0.mk H
          clear H
          try go_wp2
          replace HO_0:=Aside0.mk (Kd.R_drew HO_0.out)
          replace HK:=Aside0.mk (Kept.drew HK.out)
          replace HB:=Aside0.mk (below_drew1 HB.out)
          obtain⟨Ao72,co72,eo72⟩:=Kd.R_slice HO_0.out
          (first|subst eo72|(injection eo72 with f1_ f2_ f3_;have f4_:=f1_.symm;have f5_:=f3_.symm;clear f1_ f2_ f3_;subst f4_;subst f5_))
          have p728: 0≤ ((ji63):Int):=of_decide_eq_true zq1
          have q728:(ji63)< (l0.length:Int):=of_decide_eq_true zq1
          obtain⟨ad728,e728,hx728_0,hx728_1,hx728_2⟩:=at_T79 (Kd.R_reads' HO_0.out).2.2 (ji63) p728 q728
          cases e728
          replace p728:=eq_true p728
          replace q728:=eq_true q728
          have p729: 0≤ ((ji66):Int):=of_decide_eq_true zq1
          have q729:(ji66)< (l0.length:Int):=of_decide_eq_true zq1
          obtain⟨ad729,e729,hx729_0,hx729_1,hx729_2⟩:=at_T79 (Kd.R_reads' HO_0.out).2.2 (ji66) p729 q729
          obtain rfl:ad728=ad729:=(by injection e729)
          replace p729:=eq_true p729
          replace q729:=eq_true q729
          refine start_ (n:=14) (S:=fun w'=>w'.cell? (ad728.add (((ji63)).toNat * 3))=some (.int .i64 ((rd_T79 l0 (ji63)).f0))∧w'.cell? ⟨(ad728.add (((ji63)).toNat * 3)).block,(ad728.add (((ji63)).toNat * 3)).off+1,none⟩=some (.int .i64 ((rd_T79 l0 (ji63)).f1))∧w'.cell? ⟨(ad728.add (((ji63)).toNat * 3)).block,(ad728.add (((ji63)).toNat * 3)).off+2,none⟩=some (.int .i64 ((rd_T79 l0 (ji63)).f2))∧w'.cell? (ad728.add (((ji66)).toNat * 3))=some (.int .i64 ((rd_T79 l0 (ji66)).f0))∧w'.cell? ⟨(ad728.add (((ji66)).toNat * 3)).block,(ad728.add (((ji66)).toNat * 3)).off+1,none⟩=some (.int .i64 ((rd_T79 l0 (ji66)).f1))∧w'.cell? ⟨(ad728.add (((ji66)).toNat * 3)).block,(ad728.add (((ji66)).toNat * 3)).off+2,none⟩=some (.int .i64 ((rd_T79 l0 (ji66)).f2))) (ds:= []) (mb' 14 0) (by kernel_rfl) rfl rfl ⟨hx728_0,hx728_1,hx728_2,hx729_0,hx729_1,hx729_2⟩ (fun hHeld=>?_);refine with_tabW slices_symMergeCmpFunc_Edge.tab35 slices_symMergeCmpFunc_Edge.bits35 (fun HT_ HW_=>?_)
          generalize wr.drew=w71 at HO_0 HK HB hx728_0 hx728_1 hx728_2 hx729_0 hx729_1 hx729_2 hHeld ⊢
          refine zp1 HT_ 0 158 (mb' 14 1) rfl ?_
          refine zp1 HT_ 1 159 (mb' 14 3) rfl ?_
          refine zp1 HT_ 2 160 (mb' 14 7) rfl ?_
          refine zp1 HT_ 3 161 (mb' 14 15) rfl ?_
          refine zp1 HT_ 4 162 (mb' 14 31) rfl ?_
          refine zp1 HT_ 5 163 (mb' 14 63) rfl ?_
          refine zp1 HT_ 7 165 (mb' 14 191) rfl ?_
          refine zp1 HT_ 8 166 (mb' 14 447) rfl ?_
          refine zp1 HT_ 9 167 (mb' 14 959) rfl ?_
          refine zt1 HT_ HW_ (v:=?_) (a':=?_) 6 164 (mb' 14 1023) rfl ?_ hHeld ?_ ?_;rotate_left;(rintro w' ⟨s0,s1,s2,s3,s4,s5⟩;go_simp;with_reducible rfl);rotate_left;exact zpa
          refine zt1 HT_ HW_ (v:=?_) (a':=?_) 10 168 (mb' 14 2047) rfl ?_ hHeld ?_ ?_;rotate_left;(rintro w' ⟨s0,s1,s2,s3,s4,s5⟩;go_simp;with_reducible rfl);rotate_left;exact zpa
          refine one_ (i:=11) (N:=some 169) (mb' 14 4095) rfl rfl (one_of HT_.out (by kernel_rfl)) (by decide) (fun K hK=>?_)
          refine goesV_ (f:=82) Try.func82 (by kernel_rfl) rfl #[.agg #[.int .i64 ((rd_T79 l0 (ji63)).f0),.int .i64 ((rd_T79 l0 (ji63)).f1),.int .i64 ((rd_T79 l0 (ji63)).f2)],.agg #[.int .i64 ((rd_T79 l0 (ji66)).f0),.int .i64 ((rd_T79 l0 (ji66)).f1),.int .i64 ((rd_T79 l0 (ji66)).f2)]] (by rfl) rfl rfl rfl (by(try simp only [List.map_toArray,List.map_cons,List.map_nil]);first|done|(simp only [hji63,hji66];rfl)|rfl|(simp only [List.length_drop,List.length_take];rfl)) ?_
          with_reducible refine(cmpE.calls ((rd_T79 l0 (ji63)).f0) ((rd_T79 l0 (ji63)).f1) ((rd_T79 l0 (ji63)).f2) ((rd_T79 l0 (ji66)).f0) ((rd_T79 l0 (ji66)).f1) ((rd_T79 l0 (ji66)).f2) t730 _ A69.out).mono ?_
          rintro e w73 ⟨rfl,hb⟩
          have HS0_:=(hb.cell (World.block_lt_of_cell? _ _ (hHeld.1))).trans (hHeld.1)
          have HS1_:=(hb.cell (World.block_lt_of_cell? _ _ (hHeld.2.1))).trans (hHeld.2.1)
          have HS2_:=(hb.cell (World.block_lt_of_cell? _ _ (hHeld.2.2.1))).trans (hHeld.2.2.1)
          have HS3_:=(hb.cell (World.block_lt_of_cell? _ _ (hHeld.2.2.2.1))).trans (hHeld.2.2.2.1)
          have HS4_:=(hb.cell (World.block_lt_of_cell? _ _ (hHeld.2.2.2.2.1))).trans (hHeld.2.2.2.2.1)
          have HS5_:=(hb.cell (World.block_lt_of_cell? _ _ (hHeld.2.2.2.2.2))).trans (hHeld.2.2.2.2.2)
          refine⟨_,rfl,?_⟩
          replace HO_0:=Aside0.mk (Kd.R_below (zq4 HO_0) hb)
          replace HK:=Aside0.mk (Kept.below (S:=(fun k_=>P0_ k_)) (by exact zk4 HK) hb)
          replace HB:=Aside0.mk (below_step (by exact zk1 HB) hb)
          (try clear hb)
          (try clear hb2)
          (try clear hk)
          (try clear hi)
          refine hK.out _ _ ⟨HS0_,HS1_,HS2_,HS3_,HS4_,HS5_⟩ (fun hHeld=>?_)
          clear hK K
          refine norm_ (a':=?_) ?_ ?_
          rotate_left
          ·show Act.put _ (some 169) _=_
           simp only [Act.put,List.setIfInBounds_toArray,List.set_cons_zero,List.set_cons_succ,i64_w,i32_w]
           rfl
          refine zp1 HT_ 12 170 (mb' 14 8191) rfl ?_
          refine zp1 HT_ 13 171 (mb' 14 16383) rfl ?_
          refine done_ (done_of HT_.out (by kernel_rfl)) ?_
          try go_wp2
          go_roundg k2
          case measure=>have:=HJ59.out;have:=HK2.out;omega
          case rel=>exact⟨(x20_2),(ji66),zrs,(by first|rfl|(simp;done)|(simp only [← hji66]<;>(first|rfl|simp))|(simp [*];done)),H',⟨by have:=HJ59.out;have:=HK2.out;omega⟩,⟨zdr HO_0⟩,⟨by exact zk4 HK⟩,⟨by exact zk1 HB⟩⟩
        ·rw [if_neg c70] at H
         have c70b0:decide (t730< 0)=false:=decide_eq_false c70
         clear c70
         as_aux_lemma=>
          have H':=Aside0.mk H
          clear H
          try go_wp2
          replace HO_0:=Aside0.mk (Kd.R_drew HO_0.out)
          replace HK:=Aside0.mk (Kept.drew HK.out)
          replace HB:=Aside0.mk (below_drew1 HB.out)
          obtain⟨Ao75,co75,eo75⟩:=Kd.R_slice HO_0.out
          (first|subst eo75|(injection eo75 with f1_ f2_ f3_;have f4_:=f1_.symm;have f5_:=f3_.symm;clear f1_ f2_ f3_;subst f4_;subst f5_))
          have p728: 0≤ ((ji63):Int):=of_decide_eq_true zq1
          have q728:(ji63)< (l0.length:Int):=of_decide_eq_true zq1
          obtain⟨ad728,e728,hx728_0,hx728_1,hx728_2⟩:=at_T79 (Kd.R_reads' HO_0.out).2.2 (ji63) p728 q728
          cases e728
          replace p728:=eq_true p728
          replace q728:=eq_true q728
          have p729: 0≤ ((ji66):Int):=of_decide_eq_true zq1
          have q729:(ji66)< (l0.length:Int):=of_decide_eq_true zq1
          obtain⟨ad729,e729,hx729_0,hx729_1,hx729_2⟩:=at_T79 (Kd.R_reads' HO_0.out).2.2 (ji66) p729 q729
          obtain rfl:ad728=ad729:=(by injection e729)
          replace p729:=eq_true p729
          replace q729:=eq_true q729
          refine start_ (n:=14) (S:=fun w'=>w'.cell? (ad728.add (((ji63)).toNat * 3))=some (.int .i64 ((rd_T79 l0 (ji63)).f0))∧w'.cell? ⟨(ad728.add (((ji63)).toNat * 3)).block,(ad728.add (((ji63)).toNat * 3)).off+1,none⟩=some (.int .i64 ((rd_T79 l0 (ji63)).f1))∧w'.cell? ⟨(ad728.add (((ji63)).toNat * 3)).block,(ad728.add (((ji63)).toNat * 3)).off+2,none⟩=some (.int .i64 ((rd_T79 l0 (ji63)).f2))∧w'.cell? (ad728.add (((ji66)).toNat * 3))=some (.int .i64 ((rd_T79 l0 (ji66)).f0))∧w'.cell? ⟨(ad728.add (((ji66)).toNat * 3)).block,(ad728.add (((ji66)).toNat * 3)).off+1,none⟩=some (.int .i64 ((rd_T79 l0 (ji66)).f1))∧w'.cell? ⟨(ad728.add (((ji66)).toNat * 3)).block,(ad728.add (((ji66)).toNat * 3)).off+2,none⟩=some (.int .i64 ((rd_T79 l0 (ji66)).f2))) (ds:= []) (mb' 14 0) (by kernel_rfl) rfl rfl ⟨hx728_0,hx728_1,hx728_2,hx729_0,hx729_1,hx729_2⟩ (fun hHeld=>?_);refine with_tabW slices_symMergeCmpFunc_Edge.tab35 slices_symMergeCmpFunc_Edge.bits35 (fun HT_ HW_=>?_)
          generalize wr.drew=w74 at HO_0 HK HB hx728_0 hx728_1 hx728_2 hx729_0 hx729_1 hx729_2 hHeld ⊢
          refine zp1 HT_ 0 158 (mb' 14 1) rfl ?_
          refine zp1 HT_ 1 159 (mb' 14 3) rfl ?_
          refine zp1 HT_ 2 160 (mb' 14 7) rfl ?_
          refine zp1 HT_ 3 161 (mb' 14 15) rfl ?_
          refine zp1 HT_ 4 162 (mb' 14 31) rfl ?_
          refine zp1 HT_ 5 163 (mb' 14 63) rfl ?_
          refine zp1 HT_ 7 165 (mb' 14 191) rfl ?_
          refine zp1 HT_ 8 166 (mb' 14 447) rfl ?_
          refine zp1 HT_ 9 167 (mb' 14 959) rfl ?_
          refine zt1 HT_ HW_ (v:=?_) (a':=?_) 6 164 (mb' 14 1023) rfl ?_ hHeld ?_ ?_;rotate_left;(rintro w' ⟨s0,s1,s2,s3,s4,s5⟩;go_simp;with_reducible rfl);rotate_left;exact zpa
          refine zt1 HT_ HW_ (v:=?_) (a':=?_) 10 168 (mb' 14 2047) rfl ?_ hHeld ?_ ?_;rotate_left;(rintro w' ⟨s0,s1,s2,s3,s4,s5⟩;go_simp;with_reducible rfl);rotate_left;exact zpa
          refine one_ (i:=11) (N:=some 169) (mb' 14 4095) rfl rfl (one_of HT_.out (by kernel_rfl)) (by decide) (fun K hK=>?_)
          refine goesV_ (f:=82) Try.func82 (by kernel_rfl) rfl #[.agg #[.int .i64 ((rd_T79 l0 (ji63)).f0),.int .i64 ((rd_T79 l0 (ji63)).f1),.int .i64 ((rd_T79 l0 (ji63)).f2)],.agg #[.int .i64 ((rd_T79 l0 (ji66)).f0),.int .i64 ((rd_T79 l0 (ji66)).f1),.int .i64 ((rd_T79 l0 (ji66)).f2)]] (by rfl) rfl rfl rfl (by(try simp only [List.map_toArray,List.map_cons,List.map_nil]);first|done|(simp only [hji63,hji66];rfl)|rfl|(simp only [List.length_drop,List.length_take];rfl)) ?_
          with_reducible refine(cmpE.calls ((rd_T79 l0 (ji63)).f0) ((rd_T79 l0 (ji63)).f1) ((rd_T79 l0 (ji63)).f2) ((rd_T79 l0 (ji66)).f0) ((rd_T79 l0 (ji66)).f1) ((rd_T79 l0 (ji66)).f2) t730 _ A69.out).mono ?_
          rintro e w76 ⟨rfl,hb⟩
          have HS0_:=(hb.cell (World.block_lt_of_cell? _ _ (hHeld.1))).trans (hHeld.1)
          have HS1_:=(hb.cell (World.block_lt_of_cell? _ _ (hHeld.2.1))).trans (hHeld.2.1)
          have HS2_:=(hb.cell (World.block_lt_of_cell? _ _ (hHeld.2.2.1))).trans (hHeld.2.2.1)
          have HS3_:=(hb.cell (World.block_lt_of_cell? _ _ (hHeld.2.2.2.1))).trans (hHeld.2.2.2.1)
          have HS4_:=(hb.cell (World.block_lt_of_cell? _ _ (hHeld.2.2.2.2.1))).trans (hHeld.2.2.2.2.1)
          have HS5_:=(hb.cell (World.block_lt_of_cell? _ _ (hHeld.2.2.2.2.2))).trans (hHeld.2.2.2.2.2)
          refine⟨_,rfl,?_⟩
          replace HO_0:=Aside0.mk (Kd.R_below (zq4 HO_0) hb)
          replace HK:=Aside0.mk (Kept.below (S:=(fun k_=>P0_ k_)) (by exact zk4 HK) hb)
          replace HB:=Aside0.mk (below_step (by exact zk1 HB) hb)
          (try clear hb)
          (try clear hb2)
          (try clear hk)
          (try clear hi)
          refine hK.out _ _ ⟨HS0_,HS1_,HS2_,HS3_,HS4_,HS5_⟩ (fun hHeld=>?_)
          clear hK K
          refine norm_ (a':=?_) ?_ ?_
          rotate_left
          ·show Act.put _ (some 169) _=_
           simp only [Act.put,List.setIfInBounds_toArray,List.set_cons_zero,List.set_cons_succ,i64_w,i32_w]
           rfl
          refine zp1 HT_ 12 170 (mb' 14 8191) rfl ?_
          refine zp1 HT_ 13 171 (mb' 14 16383) rfl ?_
          refine done_ (done_of HT_.out (by kernel_rfl)) ?_
          try go_wp2
          go_roundg k2
          case measure=>have:=HJ59.out;have:=HK2.out;omega
          case rel=>exact⟨(wrap64 ((ji66)+1)),(x21_2),(by first|rfl|(simp;done)|(simp only [← hji66]<;>(first|rfl|simp))|(simp [*];done)),zrs,H',⟨by have:=HJ59.out;have:=HK2.out;omega⟩,⟨zdr HO_0⟩,⟨by exact zk4 HK⟩,⟨by exact zk1 HB⟩⟩
       ·rw [if_neg c62] at H
        have c62b0:decide (x20_2<x21_2)=false:=decide_eq_false c62
        clear c62
        have HC77:=Aside0.mk H
        clear H
        go_upto_region 39 with (fail)
        go_cut [185] (fun v185 wc=> ∃ (kq:Nat) (x185_76:Bool),v185= .bool x185_76∧Aside0 (slices_symMergeCmpFunc_Edge.j6 kq l0 a1 a2 a3 a4 (wrap64 ((IntKind.u64.wrap (wrap64 (a1+a3))) / 2)) x20_2 (wrap64 ((wrap64 ((wrap64 ((IntKind.u64.wrap (wrap64 (a1+a3))) / 2))+a2)) - x20_2)) x185_76=some r)∧Aside0 (kq≤k2)∧Aside0 (Kd.R k79 79 wc w0.heap.size (fun k_=>(P0_ k_∨w.heap.size≤k_)) u9000_ l0)∧Aside0 (Kept w wc (fun k_=>P0_ k_))∧Aside0 (Below w0.heap.size w0 wc))
        case first=>
         have H:=HC77.out
         clear HC77
         by_cases c78:x20_2<a2
         ·rw [if_pos c78] at H
          have c78b0:decide (x20_2<a2)=true:=decide_eq_true c78
          clear c78
          (first|rw [c78b0]|(simp only [i64_w,i32_w];rw [c78b0])|skip)
          as_aux_lemma=>
           have H':=Aside0.mk H
           clear H
           go_wp2
           go_meet
           case rel=>exact⟨_,(decide (a2< (wrap64 ((wrap64 ((wrap64 ((IntKind.u64.wrap (wrap64 (a1+a3))) / 2))+a2)) - x20_2)))),zrs,H',⟨by have:=HJ59.out;have:=HK2.out;first|omega|exact Nat.le_refl _⟩,⟨zdr HO_0⟩,⟨by exact zk4 HK⟩,⟨by exact zk1 HB⟩⟩
         ·rw [if_neg c78] at H
          have c78b0:decide (x20_2<a2)=false:=decide_eq_false c78
          clear c78
          (first|rw [c78b0]|(simp only [i64_w,i32_w];rw [c78b0])|skip)
          as_aux_lemma=>
           have H':=Aside0.mk H
           clear H
           go_wp2
           go_meet
           case rel=>exact⟨_,(false),zrs,H',⟨by have:=HJ59.out;have:=HK2.out;first|omega|exact Nat.le_refl _⟩,⟨zdr HO_0⟩,⟨by exact zk4 HK⟩,⟨by exact zk1 HB⟩⟩
        case rest=>
         clear HC77
         try clear c1
         try clear c2
         try clear p2
         try clear q2
         try clear hx2
         try clear c3
         try clear c4
         try clear c5
         try clear p5
         try clear q5
         try clear hx5
         try clear hf5
         try clear c6
         try clear c6b0
         try clear c6b1
         try clear p6
         try clear c7
         try clear c7b0
         try clear p7
         try clear q7
         try clear hx7
         try clear c9
         try clear c9b0
         try clear c10
         try clear c10b0
         try clear c11
         try clear c11b0
         try clear c12
         try clear c12b0
         try clear c14
         try clear c14b0
         try clear c21
         try clear c21b0
         try clear c23
         try clear c23b0
         try clear c24
         try clear c24b0
         try clear c25
         try clear c25b0
         try clear c26
         try clear c26b0
         try clear c27
         try clear p27
         try clear q27
         try clear hx27
         try clear hf27
         try clear c28
         try clear p28
         try clear q28
         try clear hx28
         try clear hf28
         try clear c31
         try clear c32
         try clear c33
         try clear c33b0
         try clear c33b1
         try clear c34
         try clear c34b0
         try clear c35
         try clear c35b0
         try clear c36
         try clear c36b0
         try clear c38
         try clear c38b0
         try clear c39
         try clear c39b0
         try clear c41
         try clear c41b0
         try clear c48
         try clear c48b0
         try clear c50
         try clear c50b0
         try clear c51
         try clear c51b0
         try clear c52
         try clear c52b0
         try clear c53
         try clear c53b0
         try clear c54
         try clear p54
         try clear q54
         try clear hx54
         try clear hf54
         try clear c55
         try clear p55
         try clear q55
         try clear hx55
         try clear hf55
         try clear c58
         try clear c59
         try clear c61
         try clear c61b0
         try clear c62
         try clear c62b0
         try clear c64
         try clear c64b0
         try clear p64
         try clear c65
         try clear c65b0
         try clear c67
         try clear c67b0
         try clear c68
         try clear c68b0
         try clear c70
         try clear c70b0
         try clear p71
         try clear q71
         try clear hx71
         try clear p72
         try clear q72
         try clear hx72
         try clear c78
         try clear c78b0
         try clear hx27_0
         try clear hx27_1
         try clear hx27_2
         try clear hx28_0
         try clear hx28_1
         try clear hx28_2
         try clear hx54_0
         try clear hx54_1
         try clear hx54_2
         try clear hx55_0
         try clear hx55_1
         try clear hx55_2
         try clear hx714_0
         try clear hx714_1
         try clear hx714_2
         try clear hx715_0
         try clear hx715_1
         try clear hx715_2
         try clear hx717_0
         try clear hx717_1
         try clear hx717_2
         try clear hx718_0
         try clear hx718_1
         try clear hx718_2
         try clear hx721_0
         try clear hx721_1
         try clear hx721_2
         try clear hx722_0
         try clear hx722_1
         try clear hx722_2
         try clear hx724_0
         try clear hx724_1
         try clear hx724_2
         try clear hx725_0
         try clear hx725_1
         try clear hx725_2
         try clear hx728_0
         try clear hx728_1
         try clear hx728_2
         try clear hx729_0
         try clear hx729_1
         try clear hx729_2
         try clear p2
         try clear p27
         try clear p28
         try clear p5
         try clear p54
         try clear p55
         try clear p6
         try clear p7
         try clear p714
         try clear p715
         try clear p717
         try clear p718
         try clear p721
         try clear p722
         try clear p724
         try clear p725
         try clear p728
         try clear p729
         try clear q2
         try clear q27
         try clear q28
         try clear q5
         try clear q54
         try clear q55
         try clear q7
         try clear q714
         try clear q715
         try clear q717
         try clear q718
         try clear q721
         try clear q722
         try clear q724
         try clear q725
         try clear q728
         try clear q729
         obtain⟨kq,x185_76,rfl,HA,HJ76,HO_0,HK,HB⟩:=hcut
         cases kq with
         |zero=>exact absurd HA.out (by simp [slices_symMergeCmpFunc_Edge.j6])
         |succ kj76=>
          have H:=HA.out
          clear HA
          simp only [slices_symMergeCmpFunc_Edge.j6] at H
          have HC79:=Aside0.mk H
          clear H
          go_upto_if 185 with (fail)
          go_cut [] (fun wc=> ∃ (kq:Nat) (x0_78:List (S79)),Aside0 (slices_symMergeCmpFunc_Edge.j7 kq x0_78 a1 a3 a4 (wrap64 ((IntKind.u64.wrap (wrap64 (a1+a3))) / 2)) x20_2 (wrap64 ((wrap64 ((wrap64 ((IntKind.u64.wrap (wrap64 (a1+a3))) / 2))+a2)) - x20_2))=some r)∧Aside0 (kq≤kj76)∧Aside0 (Kd.R k79 79 wc w0.heap.size (fun k_=>(P0_ k_∨w.heap.size≤k_)) u9000_ x0_78)∧Aside0 (Kept w wc (fun k_=>P0_ k_))∧Aside0 (Below w0.heap.size w0 wc))
          case first=>
           have H:=HC79.out
           clear HC79
           by_cases c80:x185_76=true
           ·subst c80
            have H1:((slices_rotateCmpFunc_Edge.f kj76 l0 x20_2 a2 (wrap64 ((wrap64 ((wrap64 ((IntKind.u64.wrap (wrap64 (a1+a3))) / 2))+a2)) - x20_2)) a4).bind fun t731=>(slices_symMergeCmpFunc_Edge.j7 kj76 t731 a1 a3 a4 (wrap64 ((IntKind.u64.wrap (wrap64 (a1+a3))) / 2)) x20_2 (wrap64 ((wrap64 ((wrap64 ((IntKind.u64.wrap (wrap64 (a1+a3))) / 2))+a2)) - x20_2))))=some r:=by rw [if_pos rfl] at H;exact H
            clear H
            have H:=H1
            clear H1
            replace H:=Option.bind_eq_some_iff.mp H
            obtain⟨t731,A810,H⟩:=H
            replace H:(slices_symMergeCmpFunc_Edge.j7 kj76 t731 a1 a3 a4 (wrap64 ((IntKind.u64.wrap (wrap64 (a1+a3))) / 2)) x20_2 (wrap64 ((wrap64 ((wrap64 ((IntKind.u64.wrap (wrap64 (a1+a3))) / 2))+a2)) - x20_2)))=some r:=H
            have A81:=Aside0.mk A810
            clear A810
            as_aux_lemma=>
             have H':=Aside0.mk H
             clear H
             obtain⟨Ao82,co82,eo82⟩:=Kd.R_slice HO_0.out
             subst eo82
             go_wp2_with (first|((with_reducible refine gate_callee (f:=110) rfl ?_);refine goesL_ (some 191) rfl rfl Try.func110 (by kernel_rfl) rfl #[.slice Ao82 l0.length co82,.int .i64 x20_2,.int .i64 a2,.int .i64 (wrap64 ((wrap64 ((wrap64 ((IntKind.u64.wrap (wrap64 (a1+a3))) / 2))+a2)) - x20_2)),.func (.func 82) #[] #[]] rfl zq2 ?_;(with_reducible refine(slices_rotateCmpFunc_Edge.calls kj76 (fun k_=>some k_= (.slice Ao82 l0.length co82:Value).ownBlock) (.slice Ao82 l0.length co82) l0 x20_2 a2 (wrap64 ((wrap64 ((wrap64 ((IntKind.u64.wrap (wrap64 (a1+a3))) / 2))+a2)) - x20_2)) a4 t731 w0 _ ?side1 ?side2 A81.out).mono ?_);(case side1=>exact zk1 HB);(case side2=>exact Kd.R_tight rfl HO_0.out);rintro e w83 ⟨rfl,hy0,hb,hkp⟩;refine⟨_,rfl,?_⟩;replace HK:=Aside0.mk (Kept.then_ (S:=(fun k_=>P0_ k_)) (by exact zk4 HK) hkp (fun k_ hs_=>(fun e_=>(HO_0.out.1 k_ e_.symm)) hs_));replace HO_0:=Aside0.mk (Kd.R_reok rfl hy0 (fun k_ e_=>HO_0.out.1 k_ e_));replace HB:=Aside0.mk (hb);(try clear hb);(try clear hkp);(try clear hy0)))
             go_meet
             case rel=>exact⟨_,(t731),H',⟨by have:=HJ59.out;have:=HK2.out;have:=HJ76.out;first|omega|exact Nat.le_refl _⟩,⟨zdr HO_0⟩,⟨by exact zk4 HK⟩,⟨by exact zk1 HB⟩⟩
           ·replace c80:=Bool.eq_false_iff.mpr c80
            subst c80
            have H1:(slices_symMergeCmpFunc_Edge.j7 kj76 l0 a1 a3 a4 (wrap64 ((IntKind.u64.wrap (wrap64 (a1+a3))) / 2)) x20_2 (wrap64 ((wrap64 ((wrap64 ((IntKind.u64.wrap (wrap64 (a1+a3))) / 2))+a2)) - x20_2)))=some r:=by rw [if_neg (show ¬ (false=true) by decide)] at H;exact H
            clear H
            have H:=H1
            clear H1
            as_aux_lemma=>
             have H':=Aside0.mk H
             clear H
             go_wp2
             go_meet
             case rel=>exact⟨_,(l0),H',⟨by have:=HJ59.out;have:=HK2.out;have:=HJ76.out;first|omega|exact Nat.le_refl _⟩,⟨zdr HO_0⟩,⟨by exact zk4 HK⟩,⟨by exact zk1 HB⟩⟩
          case rest=>
           clear HC79
           try clear c1
           try clear c2
           try clear p2
           try clear q2
           try clear hx2
           try clear c3
           try clear c4
           try clear c5
           try clear p5
           try clear q5
           try clear hx5
           try clear hf5
           try clear c6
           try clear c6b0
           try clear c6b1
           try clear p6
           try clear c7
           try clear c7b0
           try clear p7
           try clear q7
           try clear hx7
           try clear c8
           try clear c9
           try clear c9b0
           try clear c10
           try clear c10b0
           try clear c11
           try clear c11b0
           try clear c12
           try clear c12b0
           try clear c14
           try clear c14b0
           try clear c21
           try clear c21b0
           try clear c23
           try clear c23b0
           try clear c24
           try clear c24b0
           try clear c25
           try clear c25b0
           try clear c26
           try clear c26b0
           try clear c27
           try clear p27
           try clear q27
           try clear hx27
           try clear hf27
           try clear c28
           try clear p28
           try clear q28
           try clear hx28
           try clear hf28
           try clear c31
           try clear c32
           try clear c33
           try clear c33b0
           try clear c33b1
           try clear c34
           try clear c34b0
           try clear c35
           try clear c35b0
           try clear c36
           try clear c36b0
           try clear c38
           try clear c38b0
           try clear c39
           try clear c39b0
           try clear c41
           try clear c41b0
           try clear c48
           try clear c48b0
           try clear c50
           try clear c50b0
           try clear c51
           try clear c51b0
           try clear c52
           try clear c52b0
           try clear c53
           try clear c53b0
           try clear c54
           try clear p54
           try clear q54
           try clear hx54
           try clear hf54
           try clear c55
           try clear p55
           try clear q55
           try clear hx55
           try clear hf55
           try clear c58
           try clear c59
           try clear c61
           try clear c61b0
           try clear c62
           try clear c62b0
           try clear c64
           try clear c64b0
           try clear p64
           try clear c65
           try clear c65b0
           try clear c67
           try clear c67b0
           try clear c68
           try clear c68b0
           try clear c70
           try clear c70b0
           try clear p71
           try clear q71
           try clear hx71
           try clear p72
           try clear q72
           try clear hx72
           try clear c78
           try clear c78b0
           try clear c80
           try clear hx27_0
           try clear hx27_1
           try clear hx27_2
           try clear hx28_0
           try clear hx28_1
           try clear hx28_2
           try clear hx54_0
           try clear hx54_1
           try clear hx54_2
           try clear hx55_0
           try clear hx55_1
           try clear hx55_2
           try clear hx714_0
           try clear hx714_1
           try clear hx714_2
           try clear hx715_0
           try clear hx715_1
           try clear hx715_2
           try clear hx717_0
           try clear hx717_1
           try clear hx717_2
           try clear hx718_0
           try clear hx718_1
           try clear hx718_2
           try clear hx721_0
           try clear hx721_1
           try clear hx721_2
           try clear hx722_0
           try clear hx722_1
           try clear hx722_2
           try clear hx724_0
           try clear hx724_1
           try clear hx724_2
           try clear hx725_0
           try clear hx725_1
           try clear hx725_2
           try clear hx728_0
           try clear hx728_1
           try clear hx728_2
           try clear hx729_0
           try clear hx729_1
           try clear hx729_2
           try clear p2
           try clear p27
           try clear p28
           try clear p5
           try clear p54
           try clear p55
           try clear p6
           try clear p64
           try clear p7
           try clear p71
           try clear p714
           try clear p715
           try clear p717
           try clear p718
           try clear p72
           try clear p721
           try clear p722
           try clear p724
           try clear p725
           try clear p728
           try clear p729
           try clear q2
           try clear q27
           try clear q28
           try clear q5
           try clear q54
           try clear q55
           try clear q7
           try clear q71
           try clear q714
           try clear q715
           try clear q717
           try clear q718
           try clear q72
           try clear q721
           try clear q722
           try clear q724
           try clear q725
           try clear q728
           try clear q729
           obtain⟨kq,x0_78,HA,HJ78,HO_0,HK,HB⟩:=hcut
           cases kq with
           |zero=>exact absurd HA.out (by simp [slices_symMergeCmpFunc_Edge.j7])
           |succ kj78=>
            have H:=HA.out
            clear HA
            simp only [slices_symMergeCmpFunc_Edge.j7] at H
            have HC84:=Aside0.mk H
            clear H
            go_upto_region 41 with (fail)
            go_cut [199] (fun v199 wc=> ∃ (kq:Nat) (x199_83:Bool),v199= .bool x199_83∧Aside0 (slices_symMergeCmpFunc_Edge.j8 kq x0_78 a1 a3 a4 (wrap64 ((IntKind.u64.wrap (wrap64 (a1+a3))) / 2)) x20_2 (wrap64 ((wrap64 ((wrap64 ((IntKind.u64.wrap (wrap64 (a1+a3))) / 2))+a2)) - x20_2)) x199_83=some r)∧Aside0 (kq≤kj78)∧Aside0 (Kd.R k79 79 wc w0.heap.size (fun k_=>(P0_ k_∨w.heap.size≤k_)) u9000_ x0_78)∧Aside0 (Kept w wc (fun k_=>P0_ k_))∧Aside0 (Below w0.heap.size w0 wc))
            case first=>
             have H:=HC84.out
             clear HC84
             by_cases c85:a1<x20_2
             ·rw [if_pos c85] at H
              have c85b0:decide (a1<x20_2)=true:=decide_eq_true c85
              clear c85
              (first|rw [c85b0]|(simp only [i64_w,i32_w];rw [c85b0])|skip)
              as_aux_lemma=>
               have H':=Aside0.mk H
               clear H
               go_wp2
               go_meet
               case rel=>exact⟨_,(decide (x20_2< (wrap64 ((IntKind.u64.wrap (wrap64 (a1+a3))) / 2)))),zrs,H',⟨by have:=HJ59.out;have:=HK2.out;have:=HJ76.out;have:=HJ78.out;first|omega|exact Nat.le_refl _⟩,⟨zdr HO_0⟩,⟨by exact zk4 HK⟩,⟨by exact zk1 HB⟩⟩
             ·rw [if_neg c85] at H
              have c85b0:decide (a1<x20_2)=false:=decide_eq_false c85
              clear c85
              (first|rw [c85b0]|(simp only [i64_w,i32_w];rw [c85b0])|skip)
              as_aux_lemma=>
               have H':=Aside0.mk H
               clear H
               go_wp2
               go_meet
               case rel=>exact⟨_,(false),zrs,H',⟨by have:=HJ59.out;have:=HK2.out;have:=HJ76.out;have:=HJ78.out;first|omega|exact Nat.le_refl _⟩,⟨zdr HO_0⟩,⟨by exact zk4 HK⟩,⟨by exact zk1 HB⟩⟩
            case rest=>
             clear HC84
             try clear c1
             try clear c2
             try clear p2
             try clear q2
             try clear hx2
             try clear c3
             try clear c4
             try clear c5
             try clear p5
             try clear q5
             try clear hx5
             try clear hf5
             try clear c6
             try clear c6b0
             try clear c6b1
             try clear p6
             try clear c7
             try clear c7b0
             try clear p7
             try clear q7
             try clear hx7
             try clear c8
             try clear c9
             try clear c9b0
             try clear c10
             try clear c10b0
             try clear c11
             try clear c11b0
             try clear c12
             try clear c12b0
             try clear c14
             try clear c14b0
             try clear c21
             try clear c21b0
             try clear c23
             try clear c23b0
             try clear c24
             try clear c24b0
             try clear c25
             try clear c25b0
             try clear c26
             try clear c26b0
             try clear c27
             try clear p27
             try clear q27
             try clear hx27
             try clear hf27
             try clear c28
             try clear p28
             try clear q28
             try clear hx28
             try clear hf28
             try clear c31
             try clear c32
             try clear c33
             try clear c33b0
             try clear c33b1
             try clear c34
             try clear c34b0
             try clear c35
             try clear c35b0
             try clear c36
             try clear c36b0
             try clear c38
             try clear c38b0
             try clear c39
             try clear c39b0
             try clear c41
             try clear c41b0
             try clear c48
             try clear c48b0
             try clear c50
             try clear c50b0
             try clear c51
             try clear c51b0
             try clear c52
             try clear c52b0
             try clear c53
             try clear c53b0
             try clear c54
             try clear p54
             try clear q54
             try clear hx54
             try clear hf54
             try clear c55
             try clear p55
             try clear q55
             try clear hx55
             try clear hf55
             try clear c58
             try clear c59
             try clear c61
             try clear c61b0
             try clear c62
             try clear c62b0
             try clear c64
             try clear c64b0
             try clear p64
             try clear c65
             try clear c65b0
             try clear c67
             try clear c67b0
             try clear c68
             try clear c68b0
             try clear c70
             try clear c70b0
             try clear p71
             try clear q71
             try clear hx71
             try clear p72
             try clear q72
             try clear hx72
             try clear c78
             try clear c78b0
             try clear c80
             try clear c85
             try clear c85b0
             try clear hx27_0
             try clear hx27_1
             try clear hx27_2
             try clear hx28_0
             try clear hx28_1
             try clear hx28_2
             try clear hx54_0
             try clear hx54_1
             try clear hx54_2
             try clear hx55_0
             try clear hx55_1
             try clear hx55_2
             try clear hx714_0
             try clear hx714_1
             try clear hx714_2
             try clear hx715_0
             try clear hx715_1
             try clear hx715_2
             try clear hx717_0
             try clear hx717_1
             try clear hx717_2
             try clear hx718_0
             try clear hx718_1
             try clear hx718_2
             try clear hx721_0
             try clear hx721_1
             try clear hx721_2
             try clear hx722_0
             try clear hx722_1
             try clear hx722_2
             try clear hx724_0
             try clear hx724_1
             try clear hx724_2
             try clear hx725_0
             try clear hx725_1
             try clear hx725_2
             try clear hx728_0
             try clear hx728_1
             try clear hx728_2
             try clear hx729_0
             try clear hx729_1
             try clear hx729_2
             try clear p2
             try clear p27
             try clear p28
             try clear p5
             try clear p54
             try clear p55
             try clear p6
             try clear p64
             try clear p7
             try clear p71
             try clear p714
             try clear p715
             try clear p717
             try clear p718
             try clear p72
             try clear p721
             try clear p722
             try clear p724
             try clear p725
             try clear p728
             try clear p729
             try clear q2
             try clear q27
             try clear q28
             try clear q5
             try clear q54
             try clear q55
             try clear q7
             try clear q71
             try clear q714
             try clear q715
             try clear q717
             try clear q718
             try clear q72
             try clear q721
             try clear q722
             try clear q724
             try clear q725
             try clear q728
             try clear q729
             obtain⟨kq,x199_83,rfl,HA,HJ83,HO_0,HK,HB⟩:=hcut
             cases kq with
             |zero=>exact absurd HA.out (by simp [slices_symMergeCmpFunc_Edge.j8])
             |succ kj83=>
              have H:=HA.out
              clear HA
              simp only [slices_symMergeCmpFunc_Edge.j8] at H
              by_cases c86:x199_83=true
              ·subst c86
               have H1:((slices_symMergeCmpFunc_Edge.f kj83 x0_78 a1 x20_2 (wrap64 ((IntKind.u64.wrap (wrap64 (a1+a3))) / 2)) a4).bind fun t732=>(if (wrap64 ((IntKind.u64.wrap (wrap64 (a1+a3))) / 2))< (wrap64 ((wrap64 ((wrap64 ((IntKind.u64.wrap (wrap64 (a1+a3))) / 2))+a2)) - x20_2)) then(if (wrap64 ((wrap64 ((wrap64 ((IntKind.u64.wrap (wrap64 (a1+a3))) / 2))+a2)) - x20_2))<a3 then((slices_symMergeCmpFunc_Edge.f kj83 t732 (wrap64 ((IntKind.u64.wrap (wrap64 (a1+a3))) / 2)) (wrap64 ((wrap64 ((wrap64 ((IntKind.u64.wrap (wrap64 (a1+a3))) / 2))+a2)) - x20_2)) a3 a4).bind fun t733=>(some t733)) else(some t732)) else(some t732)))=some r:=by rw [if_pos rfl] at H;exact H
               clear H
               have H:=H1
               clear H1
               replace H:=Option.bind_eq_some_iff.mp H
               obtain⟨t732,A870,H⟩:=H
               replace H:(if (wrap64 ((IntKind.u64.wrap (wrap64 (a1+a3))) / 2))< (wrap64 ((wrap64 ((wrap64 ((IntKind.u64.wrap (wrap64 (a1+a3))) / 2))+a2)) - x20_2)) then(if (wrap64 ((wrap64 ((wrap64 ((IntKind.u64.wrap (wrap64 (a1+a3))) / 2))+a2)) - x20_2))<a3 then((slices_symMergeCmpFunc_Edge.f kj83 t732 (wrap64 ((IntKind.u64.wrap (wrap64 (a1+a3))) / 2)) (wrap64 ((wrap64 ((wrap64 ((IntKind.u64.wrap (wrap64 (a1+a3))) / 2))+a2)) - x20_2)) a3 a4).bind fun t733=>(some t733)) else(some t732)) else(some t732))=some r:=H
               have A87:=Aside0.mk A870
               clear A870
               by_cases c88:(wrap64 ((IntKind.u64.wrap (wrap64 (a1+a3))) / 2))< (wrap64 ((wrap64 ((wrap64 ((IntKind.u64.wrap (wrap64 (a1+a3))) / 2))+a2)) - x20_2))
               ·rw [if_pos c88] at H
                have c88b0:decide ((wrap64 ((IntKind.u64.wrap (wrap64 (a1+a3))) / 2))< (wrap64 ((wrap64 ((wrap64 ((IntKind.u64.wrap (wrap64 (a1+a3))) / 2))+a2)) - x20_2)))=true:=decide_eq_true c88
                clear c88
                by_cases c89:(wrap64 ((wrap64 ((wrap64 ((IntKind.u64.wrap (wrap64 (a1+a3))) / 2))+a2)) - x20_2))<a3
                ·rw [if_pos c89] at H
                 have c89b0:decide ((wrap64 ((wrap64 ((wrap64 ((IntKind.u64.wrap (wrap64 (a1+a3))) / 2))+a2)) - x20_2))<a3)=true:=decide_eq_true c89
                 clear c89
                 replace H:=Option.bind_eq_some_iff.mp H
                 obtain⟨t733,A900,H⟩:=H
                 replace H:(some t733)=some r:=H
                 have A90:=Aside0.mk A900
                 clear A900
                 as_aux_lemma=>
                  obtain rfl:=Option.some.inj H
                  obtain⟨Ao91,co91,eo91⟩:=Kd.R_slice HO_0.out
                  subst eo91
                  go_wp2_with (first|((with_reducible refine gate_callee (f:=109) rfl ?_);refine goesL_ (some 205) rfl rfl Try.func109 (by kernel_rfl) rfl #[.slice Ao91 x0_78.length co91,.int .i64 a1,.int .i64 x20_2,.int .i64 (wrap64 ((IntKind.u64.wrap (wrap64 (a1+a3))) / 2)),.func (.func 82) #[] #[]] rfl zq2 ?_;(with_reducible refine(ih kj83 (by have:=HJ59.out;have:=HK2.out;have:=HJ76.out;have:=HJ78.out;have:=HJ83.out;omega) (fun k_=>some k_= (.slice Ao91 x0_78.length co91:Value).ownBlock) (.slice Ao91 x0_78.length co91) x0_78 a1 x20_2 (wrap64 ((IntKind.u64.wrap (wrap64 (a1+a3))) / 2)) a4 t732 w0 _ ?side1 ?side2 A87.out).mono ?_);(case side1=>exact zk1 HB);(case side2=>exact Kd.R_tight rfl HO_0.out);rintro e w92 ⟨rfl,hy0,hb,hkp⟩;refine⟨_,rfl,?_⟩;replace HK:=Aside0.mk (Kept.then_ (S:=(fun k_=>P0_ k_)) (by exact zk4 HK) hkp (fun k_ hs_=>(fun e_=>(HO_0.out.1 k_ e_.symm)) hs_));replace HO_0:=Aside0.mk (Kd.R_reok rfl hy0 (fun k_ e_=>HO_0.out.1 k_ e_));replace HB:=Aside0.mk (hb);(try clear hb);(try clear hkp);(try clear hy0))|((with_reducible refine gate_callee (f:=109) rfl ?_);refine goesL_ (some 219) rfl rfl Try.func109 (by kernel_rfl) rfl #[.slice Ao91 x0_78.length co91,.int .i64 (wrap64 ((IntKind.u64.wrap (wrap64 (a1+a3))) / 2)),.int .i64 (wrap64 ((wrap64 ((wrap64 ((IntKind.u64.wrap (wrap64 (a1+a3))) / 2))+a2)) - x20_2)),.int .i64 a3,.func (.func 82) #[] #[]] rfl zq2 ?_;(with_reducible refine(ih kj83 (by have:=HJ59.out;have:=HK2.out;have:=HJ76.out;have:=HJ78.out;have:=HJ83.out;omega) (fun k_=>some k_= (.slice Ao91 x0_78.length co91:Value).ownBlock) (.slice Ao91 x0_78.length co91) t732 (wrap64 ((IntKind.u64.wrap (wrap64 (a1+a3))) / 2)) (wrap64 ((wrap64 ((wrap64 ((IntKind.u64.wrap (wrap64 (a1+a3))) / 2))+a2)) - x20_2)) a3 a4 t733 w0 _ ?side1 ?side2 A90.out).mono ?_);(case side1=>exact zk1 HB);(case side2=>exact Kd.R_tight rfl HO_0.out);rintro e w93 ⟨rfl,hy0,hb,hkp⟩;refine⟨_,rfl,?_⟩;replace HK:=Aside0.mk (Kept.then_ (S:=(fun k_=>P0_ k_)) (by exact zk4 HK) hkp (fun k_ hs_=>(fun e_=>(HO_0.out.1 k_ e_.symm)) hs_));replace HO_0:=Aside0.mk (Kd.R_reok rfl hy0 (fun k_ e_=>HO_0.out.1 k_ e_));replace HB:=Aside0.mk (hb);(try clear hb);(try clear hkp);(try clear hy0)))
                  first|go_end0|((try simp only [Exit.inBlock,Exit.then]);refine bodyPost_ret (results_none rfl _ _ _) rfl ?_)
                  exact⟨zer,zdr HO_0,by exact zk1 HB,by exact zk4 HK⟩
                ·rw [if_neg c89] at H
                 have c89b0:decide ((wrap64 ((wrap64 ((wrap64 ((IntKind.u64.wrap (wrap64 (a1+a3))) / 2))+a2)) - x20_2))<a3)=false:=decide_eq_false c89
                 clear c89
                 as_aux_lemma=>
                  obtain rfl:=Option.some.inj H
                  obtain⟨Ao94,co94,eo94⟩:=Kd.R_slice HO_0.out
                  subst eo94
                  go_wp2_with (first|((with_reducible refine gate_callee (f:=109) rfl ?_);refine goesL_ (some 205) rfl rfl Try.func109 (by kernel_rfl) rfl #[.slice Ao94 x0_78.length co94,.int .i64 a1,.int .i64 x20_2,.int .i64 (wrap64 ((IntKind.u64.wrap (wrap64 (a1+a3))) / 2)),.func (.func 82) #[] #[]] rfl zq2 ?_;(with_reducible refine(ih kj83 (by have:=HJ59.out;have:=HK2.out;have:=HJ76.out;have:=HJ78.out;have:=HJ83.out;omega) (fun k_=>some k_= (.slice Ao94 x0_78.length co94:Value).ownBlock) (.slice Ao94 x0_78.length co94) x0_78 a1 x20_2 (wrap64 ((IntKind.u64.wrap (wrap64 (a1+a3))) / 2)) a4 t732 w0 _ ?side1 ?side2 A87.out).mono ?_);(case side1=>exact zk1 HB);(case side2=>exact Kd.R_tight rfl HO_0.out);rintro e w95 ⟨rfl,hy0,hb,hkp⟩;refine⟨_,rfl,?_⟩;replace HK:=Aside0.mk (Kept.then_ (S:=(fun k_=>P0_ k_)) (by exact zk4 HK) hkp (fun k_ hs_=>(fun e_=>(HO_0.out.1 k_ e_.symm)) hs_));replace HO_0:=Aside0.mk (Kd.R_reok rfl hy0 (fun k_ e_=>HO_0.out.1 k_ e_));replace HB:=Aside0.mk (hb);(try clear hb);(try clear hkp);(try clear hy0)))
                  first|go_end0|((try simp only [Exit.inBlock,Exit.then]);refine bodyPost_ret (results_none rfl _ _ _) rfl ?_)
                  exact⟨zer,zdr HO_0,by exact zk1 HB,by exact zk4 HK⟩
               ·rw [if_neg c88] at H
                have c88b0:decide ((wrap64 ((IntKind.u64.wrap (wrap64 (a1+a3))) / 2))< (wrap64 ((wrap64 ((wrap64 ((IntKind.u64.wrap (wrap64 (a1+a3))) / 2))+a2)) - x20_2)))=false:=decide_eq_false c88
                clear c88
                as_aux_lemma=>
                 obtain rfl:=Option.some.inj H
                 obtain⟨Ao96,co96,eo96⟩:=Kd.R_slice HO_0.out
                 subst eo96
                 go_wp2_with (first|((with_reducible refine gate_callee (f:=109) rfl ?_);refine goesL_ (some 205) rfl rfl Try.func109 (by kernel_rfl) rfl #[.slice Ao96 x0_78.length co96,.int .i64 a1,.int .i64 x20_2,.int .i64 (wrap64 ((IntKind.u64.wrap (wrap64 (a1+a3))) / 2)),.func (.func 82) #[] #[]] rfl zq2 ?_;(with_reducible refine(ih kj83 (by have:=HJ59.out;have:=HK2.out;have:=HJ76.out;have:=HJ78.out;have:=HJ83.out;omega) (fun k_=>some k_= (.slice Ao96 x0_78.length co96:Value).ownBlock) (.slice Ao96 x0_78.length co96) x0_78 a1 x20_2 (wrap64 ((IntKind.u64.wrap (wrap64 (a1+a3))) / 2)) a4 t732 w0 _ ?side1 ?side2 A87.out).mono ?_);(case side1=>exact zk1 HB);(case side2=>exact Kd.R_tight rfl HO_0.out);rintro e w97 ⟨rfl,hy0,hb,hkp⟩;refine⟨_,rfl,?_⟩;replace HK:=Aside0.mk (Kept.then_ (S:=(fun k_=>P0_ k_)) (by exact zk4 HK) hkp (fun k_ hs_=>(fun e_=>(HO_0.out.1 k_ e_.symm)) hs_));replace HO_0:=Aside0.mk (Kd.R_reok rfl hy0 (fun k_ e_=>HO_0.out.1 k_ e_));replace HB:=Aside0.mk (hb);(try clear hb);(try clear hkp);(try clear hy0)))
                 first|go_end0|((try simp only [Exit.inBlock,Exit.then]);refine bodyPost_ret (results_none rfl _ _ _) rfl ?_)
                 exact⟨zer,zdr HO_0,by exact zk1 HB,by exact zk4 HK⟩
              ·replace c86:=Bool.eq_false_iff.mpr c86
               subst c86
               have H1:(if (wrap64 ((IntKind.u64.wrap (wrap64 (a1+a3))) / 2))< (wrap64 ((wrap64 ((wrap64 ((IntKind.u64.wrap (wrap64 (a1+a3))) / 2))+a2)) - x20_2)) then(if (wrap64 ((wrap64 ((wrap64 ((IntKind.u64.wrap (wrap64 (a1+a3))) / 2))+a2)) - x20_2))<a3 then((slices_symMergeCmpFunc_Edge.f kj83 x0_78 (wrap64 ((IntKind.u64.wrap (wrap64 (a1+a3))) / 2)) (wrap64 ((wrap64 ((wrap64 ((IntKind.u64.wrap (wrap64 (a1+a3))) / 2))+a2)) - x20_2)) a3 a4).bind fun t734=>(some t734)) else(some x0_78)) else(some x0_78))=some r:=by rw [if_neg (show ¬ (false=true) by decide)] at H;exact H
               clear H
               have H:=H1
               clear H1
               by_cases c98:(wrap64 ((IntKind.u64.wrap (wrap64 (a1+a3))) / 2))< (wrap64 ((wrap64 ((wrap64 ((IntKind.u64.wrap (wrap64 (a1+a3))) / 2))+a2)) - x20_2))
               ·rw [if_pos c98] at H
                have c98b0:decide ((wrap64 ((IntKind.u64.wrap (wrap64 (a1+a3))) / 2))< (wrap64 ((wrap64 ((wrap64 ((IntKind.u64.wrap (wrap64 (a1+a3))) / 2))+a2)) - x20_2)))=true:=decide_eq_true c98
                clear c98
                by_cases c99:(wrap64 ((wrap64 ((wrap64 ((IntKind.u64.wrap (wrap64 (a1+a3))) / 2))+a2)) - x20_2))<a3
                ·rw [if_pos c99] at H
                 have c99b0:decide ((wrap64 ((wrap64 ((wrap64 ((IntKind.u64.wrap (wrap64 (a1+a3))) / 2))+a2)) - x20_2))<a3)=true:=decide_eq_true c99
                 clear c99
                 replace H:=Option.bind_eq_some_iff.mp H
                 obtain⟨t734,A1000,H⟩:=H
                 replace H:(some t734)=some r:=H
                 have A100:=Aside0.mk A1000
                 clear A1000
                 as_aux_lemma=>
                  obtain rfl:=Option.some.inj H
                  obtain⟨Ao101,co101,eo101⟩:=Kd.R_slice HO_0.out
                  subst eo101
                  go_wp2_with (first|((with_reducible refine gate_callee (f:=109) rfl ?_);refine goesL_ (some 219) rfl rfl Try.func109 (by kernel_rfl) rfl #[.slice Ao101 x0_78.length co101,.int .i64 (wrap64 ((IntKind.u64.wrap (wrap64 (a1+a3))) / 2)),.int .i64 (wrap64 ((wrap64 ((wrap64 ((IntKind.u64.wrap (wrap64 (a1+a3))) / 2))+a2)) - x20_2)),.int .i64 a3,.func (.func 82) #[] #[]] rfl zq2 ?_;(with_reducible refine(ih kj83 (by have:=HJ59.out;have:=HK2.out;have:=HJ76.out;have:=HJ78.out;have:=HJ83.out;omega) (fun k_=>some k_= (.slice Ao101 x0_78.length co101:Value).ownBlock) (.slice Ao101 x0_78.length co101) x0_78 (wrap64 ((IntKind.u64.wrap (wrap64 (a1+a3))) / 2)) (wrap64 ((wrap64 ((wrap64 ((IntKind.u64.wrap (wrap64 (a1+a3))) / 2))+a2)) - x20_2)) a3 a4 t734 w0 _ ?side1 ?side2 A100.out).mono ?_);(case side1=>exact zk1 HB);(case side2=>exact Kd.R_tight rfl HO_0.out);rintro e w102 ⟨rfl,hy0,hb,hkp⟩;refine⟨_,rfl,?_⟩;replace HK:=Aside0.mk (Kept.then_ (S:=(fun k_=>P0_ k_)) (by exact zk4 HK) hkp (fun k_ hs_=>(fun e_=>(HO_0.out.1 k_ e_.symm)) hs_));replace HO_0:=Aside0.mk (Kd.R_reok rfl hy0 (fun k_ e_=>HO_0.out.1 k_ e_));replace HB:=Aside0.mk (hb);(try clear hb);(try clear hkp);(try clear hy0)))
                  first|go_end0|((try simp only [Exit.inBlock,Exit.then]);refine bodyPost_ret (results_none rfl _ _ _) rfl ?_)
                  exact⟨zer,zdr HO_0,by exact zk1 HB,by exact zk4 HK⟩
                ·rw [if_neg c99] at H
                 have c99b0:decide ((wrap64 ((wrap64 ((wrap64 ((IntKind.u64.wrap (wrap64 (a1+a3))) / 2))+a2)) - x20_2))<a3)=false:=decide_eq_false c99
                 clear c99
                 as_aux_lemma=>
                  obtain rfl:=Option.some.inj H
                  go_wp2
                  first|go_end0|((try simp only [Exit.inBlock,Exit.then]);refine bodyPost_ret (results_none rfl _ _ _) rfl ?_)
                  exact⟨zer,zdr HO_0,by exact zk1 HB,by exact zk4 HK⟩
               ·rw [if_neg c98] at H
                have c98b0:decide ((wrap64 ((IntKind.u64.wrap (wrap64 (a1+a3))) / 2))< (wrap64 ((wrap64 ((wrap64 ((IntKind.u64.wrap (wrap64 (a1+a3))) / 2))+a2)) - x20_2)))=false:=decide_eq_false c98
                clear c98
                as_aux_lemma=>
                 obtain rfl:=Option.some.inj H
                 go_wp2
                 first|go_end0|((try simp only [Exit.inBlock,Exit.then]);refine bodyPost_ret (results_none rfl _ _ _) rfl ?_)
                 exact⟨zer,zdr HO_0,by exact zk1 HB,by exact zk4 HK⟩
mutual
def slices_stableCmpFunc_Edge.l0:Nat→List (S79)→Int→Int→Int→Int→Int→Option ((List (S79)))
 | 0,_,_,_,_,_,_=>none
 |k+1,x0,x1,x2,x6,x7,x8=>if x8≤x1 then((slices_insertionSortCmpFunc_Edge.f k x0 x7 x8 x2).bind fun t735=>(slices_stableCmpFunc_Edge.l0 k t735 x1 x2 x6 x8 (wrap64 (x8+x6)))) else((slices_insertionSortCmpFunc_Edge.f k x0 x7 x1 x2).bind fun t736=>(slices_stableCmpFunc_Edge.l1 k t736 x1 x2 x6))
def slices_stableCmpFunc_Edge.l1:Nat→List (S79)→Int→Int→Int→Option ((List (S79)))
 | 0,_,_,_,_=>none
 |k+1,x0,x1,x2,x6=>if x6<x1 then(slices_stableCmpFunc_Edge.l2 k x0 x1 x2 x6 0 (wrap64 (2 * x6))) else(some x0)
def slices_stableCmpFunc_Edge.l2:Nat→List (S79)→Int→Int→Int→Int→Int→Option ((List (S79)))
 | 0,_,_,_,_,_,_=>none
 |k+1,x0,x1,x2,x6,x7,x8=>if x8≤x1 then((slices_symMergeCmpFunc_Edge.f k x0 x7 (wrap64 (x7+x6)) x8 x2).bind fun t737=>(slices_stableCmpFunc_Edge.l2 k t737 x1 x2 x6 x8 (wrap64 (x8+ (wrap64 (2 * x6)))))) else(if (wrap64 (x7+x6))<x1 then((slices_symMergeCmpFunc_Edge.f k x0 x7 (wrap64 (x7+x6)) x1 x2).bind fun t738=>(slices_stableCmpFunc_Edge.l1 k t738 x1 x2 (wrap64 (x6 * 2)))) else(slices_stableCmpFunc_Edge.l1 k x0 x1 x2 (wrap64 (x6 * 2))))
end
def slices_stableCmpFunc_Edge.f (k:Nat) (l0:List (S79)) (a1:Int) (a2:Int):Option ((List (S79))):=slices_stableCmpFunc_Edge.l0 k l0 a1 a2 20 0 20
set_option maxHeartbeats 8000000 in
set_option maxRecDepth 100000 in
theorem slices_stableCmpFunc_Edge.calls (k:Nat) (P0_:Nat→Prop) (u9000_:Value) (l0:List (S79)) (a1:Int) (a2:Int) (r:List (S79)) (w0 w:World) (hB:Below w0.heap.size w0 w) (ho0:Kd.R k79 79 w w0.heap.size P0_ u9000_ l0) (h:slices_stableCmpFunc_Edge.f k l0 a1 a2=some r):
  Calls Try.prog 100 #[u9000_,.int .i64 a1,.func (.func 82) #[] #[]] w fun e w'=>e= .returned (.tuple #[])∧Kd.R k79 79 w' w0.heap.size (fun k_=>(P0_ k_∨w.heap.size≤k_)) u9000_ r∧Below w0.heap.size w0 w'∧Kept w w' (fun k_=>P0_ k_):=by
 have HO0:=Aside0.mk (show Kd.R k79 79 w w0.heap.size (fun k_=>(P0_ k_∨w.heap.size≤k_)) u9000_ l0 from Kd.R_mono ho0 (fun k_ hk=>(.inl hk)))
 have HK:=Aside0.mk (Kept.refl w (fun k_=>P0_ k_))
 have HW0:=Aside0.mk hB.size
 have HB:=Aside0.mk hB
 clear hB
 have H:(slices_stableCmpFunc_Edge.l0 k l0 a1 a2 20 0 20)=some r:=h
 clear h
 have H':=Aside0.mk H
 clear H
 go_enter Try.func100,Try.ntmps100
 go_wp2
 go_loopg [7,8] k (fun kq v7 v8 w'=> ∃ (x0_1:List (S79)) (x7_1:Int) (x8_1:Int),v7= .int .i64 x7_1∧v8= .int .i64 x8_1∧Aside0 (slices_stableCmpFunc_Edge.l0 kq x0_1 a1 a2 20 x7_1 x8_1=some r)∧Aside0 (kq≤k)∧Aside0 (Kd.R k79 79 w' w0.heap.size (fun k_=>(P0_ k_∨w.heap.size≤k_)) u9000_ x0_1)∧Aside0 (Kept w w' (fun k_=>P0_ k_))∧Aside0 (Below w0.heap.size w0 w'))
 case atStart=>exact⟨(l0),(0),(20),zrs,zrs,H',⟨Nat.le_refl _⟩,⟨zdr HO0⟩,⟨by exact zk4 HK⟩,⟨by exact zk1 HB⟩⟩
 case round=>
  clear H'
  try clear c1
  try clear p2
  obtain⟨x0_1,x7_1,x8_1,rfl,rfl,HA,HK1,HO_0,HK,HB⟩:=hrel
  cases gk with
  |zero=>exact absurd HA.out (by simp [slices_stableCmpFunc_Edge.l0])
  |succ k1=>
   have H:=HA.out
   clear HA
   simp only [slices_stableCmpFunc_Edge.l0] at H
   by_cases c4:x8_1≤a1
   ·rw [if_pos c4] at H
    have c4b0:decide (x8_1≤a1)=true:=decide_eq_true c4
    clear c4
    replace H:=Option.bind_eq_some_iff.mp H
    obtain⟨t735,A50,H⟩:=H
    replace H:(slices_stableCmpFunc_Edge.l0 k1 t735 a1 a2 20 x8_1 (wrap64 (x8_1+20)))=some r:=H
    have A5:=Aside0.mk A50
    clear A50
    have H':=Aside0.mk H
    clear H
    obtain⟨Ao6,co6,eo6⟩:=Kd.R_slice HO_0.out
    subst eo6
    go_wp2_with (first|((with_reducible refine gate_callee (f:=108) rfl ?_);refine goesL_ (some 18) rfl rfl Try.func108 (by kernel_rfl) rfl #[.slice Ao6 x0_1.length co6,.int .i64 x7_1,.int .i64 x8_1,.func (.func 82) #[] #[]] rfl zq2 ?_;(with_reducible refine(slices_insertionSortCmpFunc_Edge.calls k1 (fun k_=>some k_= (.slice Ao6 x0_1.length co6:Value).ownBlock) (.slice Ao6 x0_1.length co6) x0_1 x7_1 x8_1 a2 t735 w0 _ ?side1 ?side2 A5.out).mono ?_);(case side1=>exact zk1 HB);(case side2=>exact Kd.R_tight rfl HO_0.out);rintro e w7 ⟨rfl,hy0,hb,hkp⟩;refine⟨_,rfl,?_⟩;replace HK:=Aside0.mk (Kept.then_ (S:=(fun k_=>P0_ k_)) (by exact zk4 HK) hkp (fun k_ hs_=>(fun e_=>(HO_0.out.1 k_ e_.symm)) hs_));replace HO_0:=Aside0.mk (Kd.R_reok rfl hy0 (fun k_ e_=>HO_0.out.1 k_ e_));replace HB:=Aside0.mk (hb);(try clear hb);(try clear hkp);(try clear hy0)))
    go_roundg k1
    case measure=>have:=HK1.out;omega
    case rel=>exact⟨(t735),(x8_1),(wrap64 (x8_1+20)),zrs,zrs,H',⟨by have:=HK1.out;omega⟩,⟨zdr HO_0⟩,⟨by exact zk4 HK⟩,⟨by exact zk1 HB⟩⟩
   ·rw [if_neg c4] at H
    have c4b0:decide (x8_1≤a1)=false:=decide_eq_false c4
    clear c4
    replace H:=Option.bind_eq_some_iff.mp H
    obtain⟨t736,A80,H⟩:=H
    replace H:(slices_stableCmpFunc_Edge.l1 k1 t736 a1 a2 20)=some r:=H
    have A8:=Aside0.mk A80
    clear A80
    have H':=Aside0.mk H
    clear H
    obtain⟨Ao9,co9,eo9⟩:=Kd.R_slice HO_0.out
    subst eo9
    go_wp2_with (first|((with_reducible refine gate_callee (f:=108) rfl ?_);refine goesL_ (some 27) rfl rfl Try.func108 (by kernel_rfl) rfl #[.slice Ao9 x0_1.length co9,.int .i64 x7_1,.int .i64 a1,.func (.func 82) #[] #[]] rfl zq2 ?_;(with_reducible refine(slices_insertionSortCmpFunc_Edge.calls k1 (fun k_=>some k_= (.slice Ao9 x0_1.length co9:Value).ownBlock) (.slice Ao9 x0_1.length co9) x0_1 x7_1 a1 a2 t736 w0 _ ?side1 ?side2 A8.out).mono ?_);(case side1=>exact zk1 HB);(case side2=>exact Kd.R_tight rfl HO_0.out);rintro e w10 ⟨rfl,hy0,hb,hkp⟩;refine⟨_,rfl,?_⟩;replace HK:=Aside0.mk (Kept.then_ (S:=(fun k_=>P0_ k_)) (by exact zk4 HK) hkp (fun k_ hs_=>(fun e_=>(HO_0.out.1 k_ e_.symm)) hs_));replace HO_0:=Aside0.mk (Kd.R_reok rfl hy0 (fun k_ e_=>HO_0.out.1 k_ e_));replace HB:=Aside0.mk (hb);(try clear hb);(try clear hkp);(try clear hy0)))
    (try simp only [Act.put,List.setIfInBounds_toArray,List.set_cons_succ,List.set_cons_zero])
    go_loopg [6] k1 (fun kq v6 w'=> ∃ (x0_2:List (S79)) (x6_2:Int),v6= .int .i64 x6_2∧Aside0 (slices_stableCmpFunc_Edge.l1 kq x0_2 a1 a2 x6_2=some r)∧Aside0 (kq≤k1)∧Aside0 (Kd.R k79 79 w' w0.heap.size (fun k_=>(P0_ k_∨w.heap.size≤k_)) (.slice Ao9 x0_1.length co9) x0_2)∧Aside0 (Kept w w' (fun k_=>P0_ k_))∧Aside0 (Below w0.heap.size w0 w'))
    case atStart=>exact⟨(t736),(20),zrs,H',⟨Nat.le_refl _⟩,⟨zdr HO_0⟩,⟨by exact zk4 HK⟩,⟨by exact zk1 HB⟩⟩
    case round=>
     clear H'
     try clear c1
     try clear p2
     try clear c4
     try clear c4b0
     try clear p6
     try clear c10
     try clear p2
     obtain⟨x0_2,x6_2,rfl,HA,HK2,HO_0,HK,HB⟩:=hrel
     have hl0_2:=(Kd.R_reads' HO_0.out).1
     rw [hl0_2] at HO_0
     (try simp only [hl0_2])
     cases gk with
     |zero=>exact absurd HA.out (by simp [slices_stableCmpFunc_Edge.l1])
     |succ k2=>
      have H:=HA.out
      clear HA
      simp only [slices_stableCmpFunc_Edge.l1] at H
      by_cases c11:x6_2<a1
      ·rw [if_pos c11] at H
       have c11b0:decide (x6_2<a1)=true:=decide_eq_true c11
       clear c11
       have H':=Aside0.mk H
       clear H
       go_wp2
       go_loopg [7,8] k2 (fun kq v7 v8 w'=> ∃ (x0_3:List (S79)) (x7_3:Int) (x8_3:Int),v7= .int .i64 x7_3∧v8= .int .i64 x8_3∧Aside0 (slices_stableCmpFunc_Edge.l2 kq x0_3 a1 a2 x6_2 x7_3 x8_3=some r)∧Aside0 (kq≤k2)∧Aside0 (Kd.R k79 79 w' w0.heap.size (fun k_=>(P0_ k_∨w.heap.size≤k_)) (.slice Ao9 x0_2.length co9) x0_3)∧Aside0 (Kept w w' (fun k_=>P0_ k_))∧Aside0 (Below w0.heap.size w0 w'))
       case atStart=>exact⟨(x0_2),(0),(wrap64 (2 * x6_2)),zrs,zrs,H',⟨Nat.le_refl _⟩,⟨by(try simp only [hl0_2]);(with_reducible repeat(first|apply Kd.R_alloc|apply Kd.R_drewN|apply Kd.R_drew));exact HO_0.out⟩,⟨by exact zk4 HK⟩,⟨by exact zk1 HB⟩⟩
       case round=>
        clear H'
        try clear c1
        try clear p2
        try clear c4
        try clear c4b0
        try clear p6
        try clear c10
        try clear c11
        try clear c11b0
        try clear p2
        try clear p6
        obtain⟨x0_3,x7_3,x8_3,rfl,rfl,HA,HK3,HO_0,HK,HB⟩:=hrel
        have hl0_3:=(Kd.R_reads' HO_0.out).1
        rw [hl0_3] at HO_0
        (try simp only [hl0_3])
        cases gk with
        |zero=>exact absurd HA.out (by simp [slices_stableCmpFunc_Edge.l2])
        |succ k3=>
         have H:=HA.out
         clear HA
         simp only [slices_stableCmpFunc_Edge.l2] at H
         by_cases c12:x8_3≤a1
         ·rw [if_pos c12] at H
          have c12b0:decide (x8_3≤a1)=true:=decide_eq_true c12
          clear c12
          replace H:=Option.bind_eq_some_iff.mp H
          obtain⟨t737,A130,H⟩:=H
          replace H:(slices_stableCmpFunc_Edge.l2 k3 t737 a1 a2 x6_2 x8_3 (wrap64 (x8_3+ (wrap64 (2 * x6_2)))))=some r:=H
          have A13:=Aside0.mk A130
          clear A130
          have H':=Aside0.mk H
          clear H
          go_wp2_with (first|((with_reducible refine gate_callee (f:=109) rfl ?_);refine goesL_ (some 43) rfl rfl Try.func109 (by kernel_rfl) rfl #[.slice Ao9 x0_3.length co9,.int .i64 x7_3,.int .i64 (wrap64 (x7_3+x6_2)),.int .i64 x8_3,.func (.func 82) #[] #[]] rfl zq2 ?_;(with_reducible refine(slices_symMergeCmpFunc_Edge.calls k3 (fun k_=>some k_= (.slice Ao9 x0_3.length co9:Value).ownBlock) (.slice Ao9 x0_3.length co9) x0_3 x7_3 (wrap64 (x7_3+x6_2)) x8_3 a2 t737 w0 _ ?side1 ?side2 A13.out).mono ?_);(case side1=>exact zk1 HB);(case side2=>exact Kd.R_tight rfl HO_0.out);rintro e w14 ⟨rfl,hy0,hb,hkp⟩;refine⟨_,rfl,?_⟩;replace HK:=Aside0.mk (Kept.then_ (S:=(fun k_=>P0_ k_)) (by exact zk4 HK) hkp (fun k_ hs_=>(fun e_=>(HO_0.out.1 k_ e_.symm)) hs_));replace HO_0:=Aside0.mk (Kd.R_reok rfl hy0 (fun k_ e_=>HO_0.out.1 k_ e_));replace HB:=Aside0.mk (hb);(try clear hb);(try clear hkp);(try clear hy0)))
          (try simp only [← hl0_3])
          go_roundg k3
          case measure=>have:=HK1.out;have:=HK2.out;have:=HK3.out;omega
          case rel=>exact⟨(t737),(x8_3),(wrap64 (x8_3+ (wrap64 (2 * x6_2)))),zrs,zrs,H',⟨by have:=HK1.out;have:=HK2.out;have:=HK3.out;omega⟩,⟨by(try simp only [hl0_2]);(try simp only [hl0_3]);(with_reducible repeat(first|apply Kd.R_alloc|apply Kd.R_drewN|apply Kd.R_drew));exact HO_0.out⟩,⟨by exact zk4 HK⟩,⟨by exact zk1 HB⟩⟩
         ·rw [if_neg c12] at H
          have c12b0:decide (x8_3≤a1)=false:=decide_eq_false c12
          clear c12
          by_cases c15:(wrap64 (x7_3+x6_2))<a1
          ·rw [if_pos c15] at H
           have c15b0:decide ((wrap64 (x7_3+x6_2))<a1)=true:=decide_eq_true c15
           clear c15
           replace H:=Option.bind_eq_some_iff.mp H
           obtain⟨t738,A160,H⟩:=H
           replace H:(slices_stableCmpFunc_Edge.l1 k3 t738 a1 a2 (wrap64 (x6_2 * 2)))=some r:=H
           have A16:=Aside0.mk A160
           clear A160
           have H':=Aside0.mk H
           clear H
           go_wp2_with (first|((with_reducible refine gate_callee (f:=109) rfl ?_);refine goesL_ (some 60) rfl rfl Try.func109 (by kernel_rfl) rfl #[.slice Ao9 x0_3.length co9,.int .i64 x7_3,.int .i64 (wrap64 (x7_3+x6_2)),.int .i64 a1,.func (.func 82) #[] #[]] rfl zq2 ?_;(with_reducible refine(slices_symMergeCmpFunc_Edge.calls k3 (fun k_=>some k_= (.slice Ao9 x0_3.length co9:Value).ownBlock) (.slice Ao9 x0_3.length co9) x0_3 x7_3 (wrap64 (x7_3+x6_2)) a1 a2 t738 w0 _ ?side1 ?side2 A16.out).mono ?_);(case side1=>exact zk1 HB);(case side2=>exact Kd.R_tight rfl HO_0.out);rintro e w17 ⟨rfl,hy0,hb,hkp⟩;refine⟨_,rfl,?_⟩;replace HK:=Aside0.mk (Kept.then_ (S:=(fun k_=>P0_ k_)) (by exact zk4 HK) hkp (fun k_ hs_=>(fun e_=>(HO_0.out.1 k_ e_.symm)) hs_));replace HO_0:=Aside0.mk (Kd.R_reok rfl hy0 (fun k_ e_=>HO_0.out.1 k_ e_));replace HB:=Aside0.mk (hb);(try clear hb);(try clear hkp);(try clear hy0)))
           (try simp only [← hl0_2,← hl0_3])
           go_roundg k3
           case measure=>have:=HK1.out;have:=HK2.out;have:=HK3.out;omega
           case rel=>exact⟨(t738),(wrap64 (x6_2 * 2)),zrs,H',⟨by have:=HK1.out;have:=HK2.out;have:=HK3.out;omega⟩,⟨by(try simp only [hl0_2]);(try simp only [hl0_3]);(with_reducible repeat(first|apply Kd.R_alloc|apply Kd.R_drewN|apply Kd.R_drew));exact HO_0.out⟩,⟨by exact zk4 HK⟩,⟨by exact zk1 HB⟩⟩
          ·rw [if_neg c15] at H
           have c15b0:decide ((wrap64 (x7_3+x6_2))<a1)=false:=decide_eq_false c15
           clear c15
           have H':=Aside0.mk H
           clear H
           go_wp2
           (try simp only [← hl0_2,← hl0_3])
           go_roundg k3
           case measure=>have:=HK1.out;have:=HK2.out;have:=HK3.out;omega
           case rel=>exact⟨(x0_3),(wrap64 (x6_2 * 2)),zrs,H',⟨by have:=HK1.out;have:=HK2.out;have:=HK3.out;omega⟩,⟨by(try simp only [hl0_2]);(try simp only [hl0_3]);(with_reducible repeat(first|apply Kd.R_alloc|apply Kd.R_drewN|apply Kd.R_drew));exact HO_0.out⟩,⟨by exact zk4 HK⟩,⟨by exact zk1 HB⟩⟩
      ·rw [if_neg c11] at H
       have c11b0:decide (x6_2<a1)=false:=decide_eq_false c11
       clear c11
       obtain rfl:=Option.some.inj H
       go_wp2
       first|go_end0|((try simp only [Exit.inBlock,Exit.then]);refine bodyPost_ret (results_none rfl _ _ _) rfl ?_)
       exact⟨zer,(by first|exact(zq4 HO_0)|(simp only [hl0_2];exact(zq4 HO_0))),by exact zk1 HB,by exact zk4 HK⟩
def slices_SortStableFunc_Edge.f (k:Nat) (l0:List (S79)) (a1:Int):Option ((List (S79))):=(slices_stableCmpFunc_Edge.f k l0 (l0.length:Int) a1).bind fun t739=>(some t739)
set_option maxHeartbeats 8000000 in
set_option maxRecDepth 100000 in
theorem slices_SortStableFunc_Edge.calls (k:Nat) (P0_:Nat→Prop) (u9000_:Value) (l0:List (S79)) (a1:Int) (r:List (S79)) (w0 w:World) (hB:Below w0.heap.size w0 w) (ho0:Kd.R k79 79 w w0.heap.size P0_ u9000_ l0) (h:slices_SortStableFunc_Edge.f k l0 a1=some r):
  Calls Try.prog 81 #[u9000_,.func (.func 82) #[] #[]] w fun e w'=>e= .returned (.tuple #[])∧Kd.R k79 79 w' w0.heap.size (fun k_=>(P0_ k_∨w.heap.size≤k_)) u9000_ r∧Below w0.heap.size w0 w'∧Kept w w' (fun k_=>P0_ k_):=by
 have HO0:=Aside0.mk (show Kd.R k79 79 w w0.heap.size (fun k_=>(P0_ k_∨w.heap.size≤k_)) u9000_ l0 from Kd.R_mono ho0 (fun k_ hk=>(.inl hk)))
 have HK:=Aside0.mk (Kept.refl w (fun k_=>P0_ k_))
 have HW0:=Aside0.mk hB.size
 have HB:=Aside0.mk hB
 clear hB
 have H:((slices_stableCmpFunc_Edge.f k l0 (l0.length:Int) a1).bind fun t739=>(some t739))=some r:=h
 clear h
 replace H:=Option.bind_eq_some_iff.mp H
 obtain⟨t739,A30,H⟩:=H
 replace H:(some t739)=some r:=H
 have A3:=Aside0.mk A30
 clear A30
 obtain rfl:=Option.some.inj H
 obtain⟨Ao4,co4,eo4⟩:=Kd.R_slice HO0.out
 subst eo4
 go_enter Try.func81,Try.ntmps81
 go_wp2_with (first|((with_reducible refine gate_callee (f:=100) rfl ?_);refine goesL_ (some 8) rfl rfl Try.func100 (by kernel_rfl) rfl #[.slice Ao4 l0.length co4,.int .i64 (l0.length:Int),.func (.func 82) #[] #[]] rfl zq2 ?_;(with_reducible refine(slices_stableCmpFunc_Edge.calls k (fun k_=>some k_= (.slice Ao4 l0.length co4:Value).ownBlock) (.slice Ao4 l0.length co4) l0 (l0.length:Int) a1 t739 w0 _ ?side1 ?side2 A3.out).mono ?_);(case side1=>exact zk1 HB);(case side2=>exact Kd.R_tight rfl HO0.out);rintro e w5 ⟨rfl,hy0,hb,hkp⟩;refine⟨_,rfl,?_⟩;replace HK:=Aside0.mk (Kept.then_ (S:=(fun k_=>P0_ k_)) (by exact zk4 HK) hkp (fun k_ hs_=>(fun e_=>(HO0.out.1 k_ e_.symm)) hs_));replace HO0:=Aside0.mk (Kd.R_reok rfl hy0 (fun k_ e_=>HO0.out.1 k_ e_));replace HB:=Aside0.mk (hb);(try clear hb);(try clear hkp);(try clear hy0)))
 first|go_end0|((try simp only [Exit.inBlock,Exit.then]);refine bodyPost_ret (results_none rfl _ _ _) rfl ?_)
 exact⟨zer,zdr HO0,by exact zk1 HB,by exact zk4 HK⟩
end Go.Proofs.Ytedegfbheihopaa.P
