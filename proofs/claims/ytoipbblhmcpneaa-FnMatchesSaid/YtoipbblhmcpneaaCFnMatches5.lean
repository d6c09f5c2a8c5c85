/- Functions, walks and plain lemmas that the law FnMatches reaches, part 5. -/
import Derived.Test.YtoipbblhmcpneaaCFnMatches4
import Derived.Below
import Derived.Deep.Draws
import Derived.Deep.AppendLies
import Derived.Maps.AppendAt
import Derived.OwnWalk
import Derived.Laws.BytesArg
import Derived.Laws.MakeOwn
import Derived.Laws.OwnMore
import Derived.Deep.OwnRows
import Derived.Tactics
import Derived.Lib.ConvBytes
import Derived.Laws.Slices
import Derived.WalkKit
import Derived.KernelRfl
import Derived.RowKit3
import Derived.Deep.LoopGhost
import Derived.Deep.QuietTactic
import Derived.BigQuiet
import Derived.WideLaws
import Derived.Deep.DeepCutAuto
import Derived.Deep.CutBlock
import Derived.Deep.RegionHeld3
import Derived.Laws.Rows
import Derived.Lib.AppendStr
import Derived.ArgAppend
import Derived.Laws.IdiomCopy
import Derived.OrdersHeld
import Derived.Laws.BitsLemmas
import Derived.RowKit
import Derived.WalkSpells
import Derived.Lib.SliceRun
import Derived.Shelf.Abstract
import Derived.ProofKit
import Derived.OpenShut
import Derived.ShutString
import Derived.ChangeOld
import Derived.SizedLaws
namespace Go.Proofs.Ytoipbblhmcpneaa.P
open Go.RowKit Go.Proofs.YtoipbblhmcpneaaW.PrintWords Go.Proofs.YtoipbblhmcpneaaW.PrintLast Go.Proofs.YtoipbblhmcpneaaW.PrintMore
attribute [local go_sem] max2_int min2_int max_two min_two max_three min_three max_four min_four   -- for this text's walks alone
set_option linter.unusedVariables false
set_option linter.unusedSimpArgs false
/-- A state of type 71 at block g of W; what its slices lead to came in by w0. -/
def IsS71 (w0 W:World) (g:Nat) (f0:List Int) (f1:Int) (f2:Int):Prop:= ∃ A0 c0,W.heap[g]?=some (.cells #[.slice A0 f0.length c0,.int .i64 f1,.int .u64 f2] 71 (0,0))∧w0.heap.size≤g∧Kd.C (Kd.int .u8) w0 A0 f0.length f0
theorem IsS71.grown {w0 W:World} {g:Nat} {f0:List Int} {f1:Int} {f2:Int} {W1:World} {row:Option Nat} (h:IsS71 w0 W g f0 f1 f2) (hw:W.grownBy W1 row) (hne:some g≠row):IsS71 w0 W1 g f0 f1 f2:=by
 obtain⟨A0,c0,hb,hg,hr0⟩:=h
 exact⟨A0,c0,blk_grown hb hw hne,hg,hr0⟩
theorem IsS71.below {w0 W:World} {g:Nat} {f0:List Int} {f1:Int} {f2:Int} {W1:World} (h:IsS71 w0 W g f0 f1 f2) (hw:Below W.heap.size W W1):IsS71 w0 W1 g f0 f1 f2:=h.grown (grown_of_below hw none) (by simp)
theorem IsS71.drewN {w0 W:World} {g:Nat} {f0:List Int} {f1:Int} {f2:Int} (h:IsS71 w0 W g f0 f1 f2) (m:Nat):IsS71 w0 (W.drewN m) g f0 f1 f2:=h
theorem IsS71.drew {w0 W:World} {g:Nat} {f0:List Int} {f1:Int} {f2:Int} (h:IsS71 w0 W g f0 f1 f2):IsS71 w0 W.drew g f0 f1 f2:=h
theorem IsS71.apart {w0 W:World} {g:Nat} {f0:List Int} {f1:Int} {f2:Int} {α :Type} {d:Kd α} {e:Nat} {base:Nat} {ok:Nat→Prop} {v:Value} {xs:List α} (h:IsS71 w0 W g f0 f1 f2) (ho:d.R e W base ok v xs) (ht:∀ q,q ∈ e::d.E→q≠71):d.R e W base (fun k=>ok k∧k≠g) v xs:=by
 obtain⟨A0,c0,hb,hg,hr0⟩:=h
 exact Kd.R_types ho hb ht
theorem IsS71.own_ne {w0 W:World} {g:Nat} {f0:List Int} {f1:Int} {f2:Int} {α :Type} {d:Kd α} {e:Nat} {base:Nat} {ok:Nat→Prop} {v:Value} {xs:List α} (h:IsS71 w0 W g f0 f1 f2) (ho:d.R e W base ok v xs) (ht:e≠71):some g≠v.ownBlock:=by
 obtain⟨A0,c0,hb,hg,hr0⟩:=h
 exact Kd.R_ne ho hb ht
theorem IsS71.apartS {w0 W:World} {g:Nat} {f0:List Int} {f1:Int} {f2:Int} {α :Type} {d:Kd α} {e:Nat} {base:Nat} {ok:Nat→Prop} {v:Value} {xs:List α} (h:IsS71 w0 W g f0 f1 f2) (ho:d.S e W base ok v xs) (ht:∀ q,q ∈ e::d.E→q≠71):d.S e W base (fun k=>ok k∧k≠g) v xs:=by
 obtain⟨A0,c0,hb,hg,hr0⟩:=h
 exact Kd.S_types ho hb ht
theorem IsS71.own_neS {w0 W:World} {g:Nat} {f0:List Int} {f1:Int} {f2:Int} {α :Type} {d:Kd α} {e:Nat} {base:Nat} {ok:Nat→Prop} {v:Value} {xs:List α} (h:IsS71 w0 W g f0 f1 f2) (ho:d.S e W base ok v xs) (ht:e≠71):some g≠v.ownBlock:=by
 obtain⟨A0,c0,hb,hg,hr0⟩:=h
 exact Kd.S_ne ho hb ht
theorem IsS71.lt {w0 W:World} {g:Nat} {f0:List Int} {f1:Int} {f2:Int} (h:IsS71 w0 W g f0 f1 f2):g<W.heap.size:=by
 obtain⟨A0,c0,hb,hg,hr0⟩:=h
 exact blk_lt hb
theorem IsS71.ge {w0 W:World} {g:Nat} {f0:List Int} {f1:Int} {f2:Int} (h:IsS71 w0 W g f0 f1 f2):w0.heap.size≤g:=by
 obtain⟨A0,c0,hb,hg,hr0⟩:=h
 exact hg
theorem IsS71.far {w0 W:World} {g:Nat} {f0:List Int} {f1:Int} {f2:Int} {p:Addr} (h:IsS71 w0 W g f0 f1 f2) (hne:g≠p.block) (u:Value):IsS71 w0 (W.setCell p u) g f0 f1 f2:=by
 obtain⟨A0,c0,hb,hg,hr0⟩:=h
 exact⟨A0,c0,blk_far hb hne u,hg,hr0⟩
theorem cellS71_0 {W:World} {g:Nat} {A0:Option Addr} {c0:Nat} {f0:List Int} {f1:Int} {f2:Int} (h:W.heap[g]?=some (.cells #[.slice A0 f0.length c0,.int .i64 f1,.int .u64 f2] 71 (0,0))):W.cell? ⟨g,0,none⟩=some (.slice A0 f0.length c0):=(blk_cell h 0).trans rfl
theorem cellS71_1 {W:World} {g:Nat} {A0:Option Addr} {c0:Nat} {f0:List Int} {f1:Int} {f2:Int} (h:W.heap[g]?=some (.cells #[.slice A0 f0.length c0,.int .i64 f1,.int .u64 f2] 71 (0,0))):W.cell? ⟨g,1,none⟩=some (.int .i64 f1):=(blk_cell h 1).trans rfl
theorem IsS71.set_1 {w0 W:World} {g:Nat} {f0:List Int} {f1:Int} {f2:Int} (h:IsS71 w0 W g f0 f1 f2) (x:Int):IsS71 w0 (W.setCell ⟨g,1,none⟩ (.int .i64 x)) g f0 x f2:=by
 obtain⟨A0,c0,hb,hg,hr0⟩:=h
 exact⟨A0,c0,by simpa using blk_set hb 1 (.int .i64 x),hg,hr0⟩
theorem cellS71_2 {W:World} {g:Nat} {A0:Option Addr} {c0:Nat} {f0:List Int} {f1:Int} {f2:Int} (h:W.heap[g]?=some (.cells #[.slice A0 f0.length c0,.int .i64 f1,.int .u64 f2] 71 (0,0))):W.cell? ⟨g,2,none⟩=some (.int .u64 f2):=(blk_cell h 2).trans rfl
theorem IsS71.set_2 {w0 W:World} {g:Nat} {f0:List Int} {f1:Int} {f2:Int} (h:IsS71 w0 W g f0 f1 f2) (x:Int):IsS71 w0 (W.setCell ⟨g,2,none⟩ (.int .u64 x)) g f0 f1 x:=by
 obtain⟨A0,c0,hb,hg,hr0⟩:=h
 exact⟨A0,c0,by simpa using blk_set hb 2 (.int .u64 x),hg,hr0⟩
def spec_l1Cur_next.f (s0_0:List Int) (s0_1:Int) (s0_2:Int):Option (Int × Int × Int):=if s0_1< (s0_0.length:Int) then(if 0≤s0_1 then(if (wrap64 (s0_1+1))≤ (s0_0.length:Int) then(some (wrap64 (rd s0_0 s0_1),wrap64 (s0_1+1),IntKind.u64.wrap ((IntKind.u64.wrap ((IntKind.u64.wrap (s0_2 * 6364136223846793005))+ (IntKind.u64.wrap (wrap64 (rd s0_0 s0_1)))))+1442695040888963407))) else(some (wrap64 (Go.bits .and .u64 ((IntKind.u64.wrap ((IntKind.u64.wrap ((IntKind.u64.wrap (s0_2 * 6364136223846793005))+ (IntKind.u64.wrap (wrap64 (rd s0_0 s0_1)))))+1442695040888963407)) / 1099511627776) 255),wrap64 (s0_1+1),IntKind.u64.wrap ((IntKind.u64.wrap ((IntKind.u64.wrap (s0_2 * 6364136223846793005))+ (IntKind.u64.wrap (wrap64 (rd s0_0 s0_1)))))+1442695040888963407)))) else(none)) else(if (wrap64 (s0_1+1))≤ (s0_0.length:Int) then(some (0,wrap64 (s0_1+1),IntKind.u64.wrap ((IntKind.u64.wrap ((IntKind.u64.wrap (s0_2 * 6364136223846793005))))+1442695040888963407))) else(some (wrap64 (Go.bits .and .u64 ((IntKind.u64.wrap ((IntKind.u64.wrap ((IntKind.u64.wrap (s0_2 * 6364136223846793005))))+1442695040888963407)) / 1099511627776) 255),wrap64 (s0_1+1),IntKind.u64.wrap ((IntKind.u64.wrap ((IntKind.u64.wrap (s0_2 * 6364136223846793005))))+1442695040888963407))))
theorem zk3 {q p:Prop} (b:Aside0 q) (h:q→p:=by intro z;repeat(first|(with_reducible first|exact z|apply IsS71.alloc|apply IsS71.drewN|apply IsS71.drew|apply IsS71.set_1|apply IsS71.set_2)|exact z)):p:=h b.out
theorem zk4 {q p:Prop} (b:Aside0 q) (h:q→p:=by intro z;repeat(first|(with_reducible first|exact z|apply KeepBut.set_|apply keep_drewN|apply keep_drew|apply keep_alloc)|exact z)):p:=h b.out
set_option maxHeartbeats 8000000 in
set_option maxRecDepth 100000 in
theorem spec_l1Cur_next.calls (g:Nat) (s0_0:List Int) (s0_1:Int) (s0_2:Int) (r1:Int) (r2:Int) (r3:Int) (w0 w:World) (hI:IsS71 w0 w g s0_0 s0_1 s0_2) (hB:Below w0.heap.size w0 w) (h:spec_l1Cur_next.f s0_0 s0_1 s0_2=some (r1,r2,r3)):
  Calls Try.prog 72 #[.pointer (some ⟨g,0,none⟩)] w fun e w'=>e= .returned (.int .i64 r1)∧IsS71 w0 w' g s0_0 r2 r3∧Below w0.heap.size w0 w'∧KeepBut w w' g none:=by
 have HI0:=Aside0.mk hI
 have HK:=Aside0.mk (KeepBut.refl w g none)
 have HL:=Aside0.mk hB.size
 clear hI
 have HW0:=Aside0.mk hB.size
 have HB:=Aside0.mk hB
 clear hB
 have H:(if s0_1< (s0_0.length:Int) then(if 0≤s0_1 then(if (wrap64 (s0_1+1))≤ (s0_0.length:Int) then(some (wrap64 (rd s0_0 s0_1),wrap64 (s0_1+1),IntKind.u64.wrap ((IntKind.u64.wrap ((IntKind.u64.wrap (s0_2 * 6364136223846793005))+ (IntKind.u64.wrap (wrap64 (rd s0_0 s0_1)))))+1442695040888963407))) else(some (wrap64 (Go.bits .and .u64 ((IntKind.u64.wrap ((IntKind.u64.wrap ((IntKind.u64.wrap (s0_2 * 6364136223846793005))+ (IntKind.u64.wrap (wrap64 (rd s0_0 s0_1)))))+1442695040888963407)) / 1099511627776) 255),wrap64 (s0_1+1),IntKind.u64.wrap ((IntKind.u64.wrap ((IntKind.u64.wrap (s0_2 * 6364136223846793005))+ (IntKind.u64.wrap (wrap64 (rd s0_0 s0_1)))))+1442695040888963407)))) else(none)) else(if (wrap64 (s0_1+1))≤ (s0_0.length:Int) then(some (0,wrap64 (s0_1+1),IntKind.u64.wrap ((IntKind.u64.wrap ((IntKind.u64.wrap (s0_2 * 6364136223846793005))))+1442695040888963407))) else(some (wrap64 (Go.bits .and .u64 ((IntKind.u64.wrap ((IntKind.u64.wrap ((IntKind.u64.wrap (s0_2 * 6364136223846793005))))+1442695040888963407)) / 1099511627776) 255),wrap64 (s0_1+1),IntKind.u64.wrap ((IntKind.u64.wrap ((IntKind.u64.wrap (s0_2 * 6364136223846793005))))+1442695040888963407)))))=some (r1,r2,r3):=h
 clear h
 by_cases c2:s0_1< (s0_0.length:Int)
 ·rw [if_pos c2] at H
  have c2b0:decide (s0_1< (s0_0.length:Int))=true:=decide_eq_true c2
  clear c2
  by_cases c3: 0≤s0_1
  case neg=>exact znn c3 H
  rw [if_pos c3] at H
  have c3b0:decide (0≤s0_1)=true:=decide_eq_true c3
  clear c3
  by_cases c4:(wrap64 (s0_1+1))≤ (s0_0.length:Int)
  ·rw [if_pos c4] at H
   have c4b0:decide ((wrap64 (s0_1+1))≤ (s0_0.length:Int))=true:=decide_eq_true c4
   clear c4
   simp only [Option.some.injEq,Prod.mk.injEq] at H
   obtain⟨rfl,rfl,rfl⟩:=H
   obtain⟨ASz5_0,cSz5_0,HGz5,hgz5,HSz5_0⟩:=HI0.out
   have hcz5_0:=cellS71_0 HGz5
   have hcz5_1:=cellS71_1 HGz5
   have hcz5_2:=cellS71_2 HGz5
   have hfz5_1:=blk_frozen HGz5 1
   have hfz5_2:=blk_frozen HGz5 2
   clear HGz5 hgz5
   have p745: 0≤ (s0_1:Int):=of_decide_eq_true zq1
   have q745:s0_1< (s0_0.length:Int):=of_decide_eq_true zq1
   obtain⟨ad745,e745,hx745_0⟩:=Kd.at_int HSz5_0 s0_1 p745 q745
   cases e745
   replace hx745_0:=pw_cell_below HB.out hx745_0
   replace p745:=eq_true p745
   replace q745:=eq_true q745
   go_enter Try.func72,Try.ntmps72
   go_wp2
   repeat(go_quiet (fail);try go_wp2)
   go_ret
   exact⟨zer,by exact zk3 HI0,by exact zk2 HB (IsS71.ge HI0.out),by exact zk4 HK⟩
  ·rw [if_neg c4] at H
   have c4b0:decide ((wrap64 (s0_1+1))≤ (s0_0.length:Int))=false:=decide_eq_false c4
   clear c4
   simp only [Option.some.injEq,Prod.mk.injEq] at H
   obtain⟨rfl,rfl,rfl⟩:=H
   obtain⟨ASz6_0,cSz6_0,HGz6,hgz6,HSz6_0⟩:=HI0.out
   have hcz6_0:=cellS71_0 HGz6
   have hcz6_1:=cellS71_1 HGz6
   have hcz6_2:=cellS71_2 HGz6
   have hfz6_1:=blk_frozen HGz6 1
   have hfz6_2:=blk_frozen HGz6 2
   clear HGz6 hgz6
   have p745: 0≤ (s0_1:Int):=of_decide_eq_true zq1
   have q745:s0_1< (s0_0.length:Int):=of_decide_eq_true zq1
   obtain⟨ad745,e745,hx745_0⟩:=Kd.at_int HSz6_0 s0_1 p745 q745
   cases e745
   replace hx745_0:=pw_cell_below HB.out hx745_0
   replace p745:=eq_true p745
   replace q745:=eq_true q745
   go_enter Try.func72,Try.ntmps72
   go_wp2
   repeat(go_quiet (fail);try go_wp2)
   go_ret
   exact⟨zer,by exact zk3 HI0,by exact zk2 HB (IsS71.ge HI0.out),by exact zk4 HK⟩
 ·rw [if_neg c2] at H
  have c2b0:decide (s0_1< (s0_0.length:Int))=false:=decide_eq_false c2
  clear c2
  by_cases c7:(wrap64 (s0_1+1))≤ (s0_0.length:Int)
  ·rw [if_pos c7] at H
   have c7b0:decide ((wrap64 (s0_1+1))≤ (s0_0.length:Int))=true:=decide_eq_true c7
   clear c7
   simp only [Option.some.injEq,Prod.mk.injEq] at H
   obtain⟨rfl,rfl,rfl⟩:=H
   obtain⟨ASz8_0,cSz8_0,HGz8,hgz8,HSz8_0⟩:=HI0.out
   have hcz8_0:=cellS71_0 HGz8
   have hcz8_1:=cellS71_1 HGz8
   have hcz8_2:=cellS71_2 HGz8
   have hfz8_1:=blk_frozen HGz8 1
   have hfz8_2:=blk_frozen HGz8 2
   clear HGz8 hgz8
   go_enter Try.func72,Try.ntmps72
   go_wp2
   repeat(go_quiet (fail);try go_wp2)
   go_ret
   exact⟨zer,by exact zk3 HI0,by exact zk2 HB (IsS71.ge HI0.out),by exact zk4 HK⟩
  ·rw [if_neg c7] at H
   have c7b0:decide ((wrap64 (s0_1+1))≤ (s0_0.length:Int))=false:=decide_eq_false c7
   clear c7
   simp only [Option.some.injEq,Prod.mk.injEq] at H
   obtain⟨rfl,rfl,rfl⟩:=H
   obtain⟨ASz9_0,cSz9_0,HGz9,hgz9,HSz9_0⟩:=HI0.out
   have hcz9_0:=cellS71_0 HGz9
   have hcz9_1:=cellS71_1 HGz9
   have hcz9_2:=cellS71_2 HGz9
   have hfz9_1:=blk_frozen HGz9 1
   have hfz9_2:=blk_frozen HGz9 2
   clear HGz9 hgz9
   go_enter Try.func72,Try.ntmps72
   go_wp2
   repeat(go_quiet (fail);try go_wp2)
   go_ret
   exact⟨zer,by exact zk3 HI0,by exact zk2 HB (IsS71.ge HI0.out),by exact zk4 HK⟩
def spec_l1Cur_pick.f (s0_0:List Int) (s0_1:Int) (s0_2:Int) (a1:Int):Option (Int × Int × Int):=if a1≤1 then(some (0,s0_1,s0_2)) else((spec_l1Cur_next.f s0_0 s0_1 s0_2).bind fun bt746=>(if a1 > 200 then((spec_l1Cur_next.f s0_0 bt746.2.1 bt746.2.2).bind fun bt749=>(if a1=0 then(none) else(some (Int.tmod (wrap64 ((wrap64 (bt746.1 * 256))+bt749.1)) a1,bt749.2.1,bt749.2.2)))) else(if a1=0 then(none) else(some (Int.tmod bt746.1 a1,bt746.2.1,bt746.2.2)))))
set_option maxHeartbeats 8000000 in
set_option maxRecDepth 100000 in
theorem spec_l1Cur_pick.calls (g:Nat) (s0_0:List Int) (s0_1:Int) (s0_2:Int) (a1:Int) (r1:Int) (r2:Int) (r3:Int) (w0 w:World) (hI:IsS71 w0 w g s0_0 s0_1 s0_2) (hB:Below w0.heap.size w0 w) (h:spec_l1Cur_pick.f s0_0 s0_1 s0_2 a1=some (r1,r2,r3)):
  Calls Try.prog 65 #[.pointer (some ⟨g,0,none⟩),.int .i64 a1] w fun e w'=>e= .returned (.int .i64 r1)∧IsS71 w0 w' g s0_0 r2 r3∧Below w0.heap.size w0 w'∧KeepBut w w' g none:=by
 have HI0:=Aside0.mk hI
 have HK:=Aside0.mk (KeepBut.refl w g none)
 have HL:=Aside0.mk hB.size
 clear hI
 have HW0:=Aside0.mk hB.size
 have HB:=Aside0.mk hB
 clear hB
 have H:(if a1≤1 then(some (0,s0_1,s0_2)) else((spec_l1Cur_next.f s0_0 s0_1 s0_2).bind fun bt746=>(if a1 > 200 then((spec_l1Cur_next.f s0_0 bt746.2.1 bt746.2.2).bind fun bt749=>(if a1=0 then(none) else(some (Int.tmod (wrap64 ((wrap64 (bt746.1 * 256))+bt749.1)) a1,bt749.2.1,bt749.2.2)))) else(if a1=0 then(none) else(some (Int.tmod bt746.1 a1,bt746.2.1,bt746.2.2))))))=some (r1,r2,r3):=h
 clear h
 by_cases c3:a1≤1
 ·rw [if_pos c3] at H
  have c3b0:decide (a1≤1)=true:=decide_eq_true c3
  clear c3
  simp only [Option.some.injEq,Prod.mk.injEq] at H
  obtain⟨rfl,rfl,rfl⟩:=H
  go_enter Try.func65,Try.ntmps65
  go_wp2
  go_ret
  exact⟨zer,by exact zk3 HI0,by exact zk2 HB (IsS71.ge HI0.out),by exact zk4 HK⟩
 ·rw [if_neg c3] at H
  have c3b0:decide (a1≤1)=false:=decide_eq_false c3
  clear c3
  replace H:=Option.bind_eq_some_iff.mp H
  obtain⟨⟨t746,t747,t748⟩,A40,H⟩:=H
  replace H:(if a1 > 200 then((spec_l1Cur_next.f s0_0 t747 t748).bind fun bt749=>(if a1=0 then(none) else(some (Int.tmod (wrap64 ((wrap64 (t746 * 256))+bt749.1)) a1,bt749.2.1,bt749.2.2)))) else(if a1=0 then(none) else(some (Int.tmod t746 a1,t747,t748))))=some (r1,r2,r3):=H
  have A4:=Aside0.mk A40
  clear A40
  by_cases c5:a1 > 200
  ·rw [if_pos c5] at H
   have c5b0:decide (200<a1)=true:=decide_eq_true c5
   clear c5
   replace H:=Option.bind_eq_some_iff.mp H
   obtain⟨⟨t749,t750,t751⟩,A60,H⟩:=H
   replace H:(if a1=0 then(none) else(some (Int.tmod (wrap64 ((wrap64 (t746 * 256))+t749)) a1,t750,t751)))=some (r1,r2,r3):=H
   have A6:=Aside0.mk A60
   clear A60
   by_cases c7:a1=0
   ·rw [if_pos c7] at H
    exact absurd H (by simp)
   ·rw [if_neg c7] at H
    have c7b0:(a1==0)=false:=beq_eq_false_iff_ne.mpr c7
    have c7b1:(a1 !=0)=true:=bne_iff_ne.mpr c7
    simp only [Option.some.injEq,Prod.mk.injEq] at H
    obtain⟨rfl,rfl,rfl⟩:=H
    go_enter Try.func65,Try.ntmps65
    go_wp2_with (first|((with_reducible refine gate_callee (f:=72) rfl ?_);refine goesL_ (some 9) rfl rfl Try.func72 (by kernel_rfl) rfl #[.pointer (some ⟨g,0,none⟩)] rfl zq2 ?_;(with_reducible refine(spec_l1Cur_next.calls g s0_0 s0_1 s0_2 t746 t747 t748 w0 _ ?side1 ?side2 A4.out).mono ?_);(case side1=>exact zk3 HI0);(case side2=>exact zk2 HB (IsS71.ge HI0.out));rintro e w8 ⟨rfl,hi,hb,hk⟩;refine⟨_,rfl,?_⟩;replace HK:=Aside0.mk (KeepBut.trans (by exact zk4 HK) hk (.inl rfl));replace HB:=Aside0.mk (hb);replace HI0:=Aside0.mk (hi);(try clear hb);(try clear hb2);(try clear hk);(try clear hi))|((with_reducible refine gate_callee (f:=72) rfl ?_);refine goesL_ (some 15) rfl rfl Try.func72 (by kernel_rfl) rfl #[.pointer (some ⟨g,0,none⟩)] rfl zq2 ?_;(with_reducible refine(spec_l1Cur_next.calls g s0_0 t747 t748 t749 t750 t751 w0 _ ?side1 ?side2 A6.out).mono ?_);(case side1=>exact zk3 HI0);(case side2=>exact zk2 HB (IsS71.ge HI0.out));rintro e w9 ⟨rfl,hi,hb,hk⟩;refine⟨_,rfl,?_⟩;replace HK:=Aside0.mk (KeepBut.trans (by exact zk4 HK) hk (.inl rfl));replace HB:=Aside0.mk (hb);replace HI0:=Aside0.mk (hi);(try clear hb);(try clear hb2);(try clear hk);(try clear hi)))
    go_ret
    exact⟨zer,by exact zk3 HI0,by exact zk2 HB (IsS71.ge HI0.out),by exact zk4 HK⟩
  ·rw [if_neg c5] at H
   have c5b0:decide (200<a1)=false:=decide_eq_false c5
   clear c5
   by_cases c10:a1=0
   ·rw [if_pos c10] at H
    exact absurd H (by simp)
   ·rw [if_neg c10] at H
    have c10b0:(a1==0)=false:=beq_eq_false_iff_ne.mpr c10
    have c10b1:(a1 !=0)=true:=bne_iff_ne.mpr c10
    simp only [Option.some.injEq,Prod.mk.injEq] at H
    obtain⟨rfl,rfl,rfl⟩:=H
    go_enter Try.func65,Try.ntmps65
    go_wp2_with (first|((with_reducible refine gate_callee (f:=72) rfl ?_);refine goesL_ (some 9) rfl rfl Try.func72 (by kernel_rfl) rfl #[.pointer (some ⟨g,0,none⟩)] rfl zq2 ?_;(with_reducible refine(spec_l1Cur_next.calls g s0_0 s0_1 s0_2 t746 t747 t748 w0 _ ?side1 ?side2 A4.out).mono ?_);(case side1=>exact zk3 HI0);(case side2=>exact zk2 HB (IsS71.ge HI0.out));rintro e w11 ⟨rfl,hi,hb,hk⟩;refine⟨_,rfl,?_⟩;replace HK:=Aside0.mk (KeepBut.trans (by exact zk4 HK) hk (.inl rfl));replace HB:=Aside0.mk (hb);replace HI0:=Aside0.mk (hi);(try clear hb);(try clear hb2);(try clear hk);(try clear hi)))
    go_ret
    exact⟨zer,by exact zk3 HI0,by exact zk2 HB (IsS71.ge HI0.out),by exact zk4 HK⟩
def spec_l1Cur_mixed.l0:Nat→Int→List Int→Int→List Int→Int→Int→Option (List Int × Int × Int)
 | 0,_,_,_,_,_,_=>none
 |k+1,x1,x5,x6,x1000,x1001,x1002=>if x6<x1 then((spec_l1Cur_pick.f x1000 x1001 x1002 (wrap64 ((x5.length:Int)+1))).bind fun bt752=>((some (([] :List Int):List Int)).bind fun y755=>(if 0≤bt752.1 then(if bt752.1≤ (x5.length:Int) then((some (x5.drop (bt752.1:Int).toNat:List Int)).bind fun y758=>(if y755.length+y758.length< 17592186044416 then((some (y755++y758:List Int)).bind fun y762=>((some (([] :List Int):List Int)).bind fun y765=>((some (x5.take (bt752.1:Int).toNat:List Int)).bind fun y768=>(if y765.length+y768.length< 17592186044416 then((some (y765++y768:List Int)).bind fun y772=>(if y772.length< 17592186044416 then((some (y772++ [x6] :List Int)).bind fun y775=>(if y775.length+y762.length< 17592186044416 then(spec_l1Cur_mixed.l0 k x1 (y775++y762) (wrap64 (x6+1)) x1000 bt752.2.1 bt752.2.2) else(none))) else(none))) else(none))))) else(none))) else(none)) else(none)))) else(some (x5,x1001,x1002))
def spec_l1Cur_mixed.f (k:Nat) (s0_0:List Int) (s0_1:Int) (s0_2:Int) (a1:Int):Option (List Int × Int × Int):=spec_l1Cur_mixed.l0 k a1 ([] :List Int) 0 s0_0 s0_1 s0_2
set_option maxHeartbeats 8000000 in
set_option maxRecDepth 100000 in
theorem spec_l1Cur_mixed.calls (k:Nat) (g:Nat) (s0_0:List Int) (s0_1:Int) (s0_2:Int) (a1:Int) (r1:List Int) (r2:Int) (r3:Int) (w0 w:World) (hI:IsS71 w0 w g s0_0 s0_1 s0_2) (hB:Below w0.heap.size w0 w) (h:spec_l1Cur_mixed.f k s0_0 s0_1 s0_2 a1=some (r1,r2,r3)):
  Calls Try.prog 64 #[.pointer (some ⟨g,0,none⟩),.int .i64 a1] w fun e w'=> ∃ v0_:Value,e= .returned (v0_)∧Kd.R (Kd.int .i64) 3 w' w.heap.size (fun _=>True) v0_ r1∧IsS71 w0 w' g s0_0 r2 r3∧Below w0.heap.size w0 w'∧KeepBut w w' g none:=by
 have HI0:=Aside0.mk hI
 have HK:=Aside0.mk (KeepBut.refl w g none)
 have HL:=Aside0.mk hB.size
 clear hI
 have HW0:=Aside0.mk hB.size
 have HB:=Aside0.mk hB
 clear hB
 have H:(spec_l1Cur_mixed.l0 k a1 ([] :List Int) 0 s0_0 s0_1 s0_2)=some (r1,r2,r3):=h
 clear h
 have H':=Aside0.mk H
 clear H
 go_enter Try.func64,Try.ntmps64
 go_wp2
 go_loopg [5,6] k (fun kq v5 v6 w'=> ∃ (x5_1:List Int) (x6_1:Int) (x1001_1:Int) (x1002_1:Int),v6= .int .i64 x6_1∧Aside0 (spec_l1Cur_mixed.l0 kq a1 x5_1 x6_1 s0_0 x1001_1 x1002_1=some (r1,r2,r3))∧Aside0 (kq≤k)∧Aside0 (Kd.R (Kd.int .i64) 3 w' w.heap.size (fun _=>True) v5 x5_1)∧Aside0 (IsS71 w0 w' g s0_0 x1001_1 x1002_1)∧Aside0 (KeepBut w w' g none)∧Aside0 (Below w0.heap.size w0 w'))
 case atStart=>exact⟨(([] :List Int)),(0),(s0_1),(s0_2),zrs,H',⟨Nat.le_refl _⟩,⟨by first|exact Kd.R_nil _ _ _ _ _|exact Kd.N_nil _ _ _ _ _|exact Kd.V_nil _ _ _ _ _|exact Kd.Q_nil _ _ _ _ _|exact Kd.S_nil _ _ _ _ _⟩,⟨by exact zk3 HI0⟩,⟨by exact zk4 HK⟩,⟨by exact zk2 HB (IsS71.ge HI0.out)⟩⟩
 case round=>
  clear H'
  try clear p2
  obtain⟨x5_1,x6_1,x1001_1,x1002_1,rfl,HA,HK1,HO_5,HI0,HK,HB⟩:=hrel
  cases gk with
  |zero=>exact absurd HA.out (by simp [spec_l1Cur_mixed.l0])
  |succ k1=>
   have H:=HA.out
   clear HA
   simp only [spec_l1Cur_mixed.l0] at H
   by_cases c3:x6_1<a1
   ·rw [if_pos c3] at H
    have c3b0:decide (x6_1<a1)=true:=decide_eq_true c3
    clear c3
    replace H:=Option.bind_eq_some_iff.mp H
    obtain⟨⟨t752,t753,t754⟩,A40,H⟩:=H
    replace H:((some (([] :List Int):List Int)).bind fun y755=>(if 0≤t752 then(if t752≤ (x5_1.length:Int) then((some (x5_1.drop (t752:Int).toNat:List Int)).bind fun y758=>(if y755.length+y758.length< 17592186044416 then((some (y755++y758:List Int)).bind fun y762=>((some (([] :List Int):List Int)).bind fun y765=>((some (x5_1.take (t752:Int).toNat:List Int)).bind fun y768=>(if y765.length+y768.length< 17592186044416 then((some (y765++y768:List Int)).bind fun y772=>(if y772.length< 17592186044416 then((some (y772++ [x6_1] :List Int)).bind fun y775=>(if y775.length+y762.length< 17592186044416 then(spec_l1Cur_mixed.l0 k1 a1 (y775++y762) (wrap64 (x6_1+1)) s0_0 t753 t754) else(none))) else(none))) else(none))))) else(none))) else(none)) else(none)))=some (r1,r2,r3):=H
    have A4:=Aside0.mk A40
    clear A40
    obtain⟨y755,hy755⟩ :∃ y_:List Int,y_= (([] :List Int)):=⟨_,rfl⟩
    replace H:(if 0≤t752 then(if t752≤ (x5_1.length:Int) then((some (x5_1.drop (t752:Int).toNat:List Int)).bind fun y758=>(if y755.length+y758.length< 17592186044416 then((some (y755++y758:List Int)).bind fun y762=>((some (([] :List Int):List Int)).bind fun y765=>((some (x5_1.take (t752:Int).toNat:List Int)).bind fun y768=>(if y765.length+y768.length< 17592186044416 then((some (y765++y768:List Int)).bind fun y772=>(if y772.length< 17592186044416 then((some (y772++ [x6_1] :List Int)).bind fun y775=>(if y775.length+y762.length< 17592186044416 then(spec_l1Cur_mixed.l0 k1 a1 (y775++y762) (wrap64 (x6_1+1)) s0_0 t753 t754) else(none))) else(none))) else(none))))) else(none))) else(none)) else(none))=some (r1,r2,r3):=zfh hy755 H
    have Ny755:=Aside0.mk hy755
    clear hy755
    by_cases c5: 0≤t752
    case neg=>exact znn c5 H
    rw [if_pos c5] at H
    have c5b0:=eq_true c5
    have c5b1:decide (0≤t752)=true:=decide_eq_true c5
    clear c5
    by_cases c6:t752≤ (x5_1.length:Int)
    case neg=>exact znn c6 H
    rw [if_pos c6] at H
    have c6b0:=eq_true c6
    have c6b1:decide (t752≤ (x5_1.length:Int))=true:=decide_eq_true c6
    clear c6
    obtain⟨y758,hy758⟩ :∃ y_:List Int,y_= (x5_1.drop (t752:Int).toNat):=⟨_,rfl⟩
    replace H:(if y755.length+y758.length< 17592186044416 then((some (y755++y758:List Int)).bind fun y762=>((some (([] :List Int):List Int)).bind fun y765=>((some (x5_1.take (t752:Int).toNat:List Int)).bind fun y768=>(if y765.length+y768.length< 17592186044416 then((some (y765++y768:List Int)).bind fun y772=>(if y772.length< 17592186044416 then((some (y772++ [x6_1] :List Int)).bind fun y775=>(if y775.length+y762.length< 17592186044416 then(spec_l1Cur_mixed.l0 k1 a1 (y775++y762) (wrap64 (x6_1+1)) s0_0 t753 t754) else(none))) else(none))) else(none))))) else(none))=some (r1,r2,r3):=zfh hy758 H
    have Ny758:=Aside0.mk hy758
    clear hy758
    by_cases c7:y755.length+y758.length< 17592186044416
    case neg=>exact znn c7 H
    rw [if_pos c7] at H
    have LMc7:=Aside0.mk c7
    clear c7
    obtain⟨y762,hy762⟩ :∃ y_:List Int,y_= (y755++y758):=⟨_,rfl⟩
    replace H:((some (([] :List Int):List Int)).bind fun y765=>((some (x5_1.take (t752:Int).toNat:List Int)).bind fun y768=>(if y765.length+y768.length< 17592186044416 then((some (y765++y768:List Int)).bind fun y772=>(if y772.length< 17592186044416 then((some (y772++ [x6_1] :List Int)).bind fun y775=>(if y775.length+y762.length< 17592186044416 then(spec_l1Cur_mixed.l0 k1 a1 (y775++y762) (wrap64 (x6_1+1)) s0_0 t753 t754) else(none))) else(none))) else(none))))=some (r1,r2,r3):=zfh hy762 H
    have Ny762:=Aside0.mk hy762
    clear hy762
    obtain⟨y765,hy765⟩ :∃ y_:List Int,y_= (([] :List Int)):=⟨_,rfl⟩
    replace H:((some (x5_1.take (t752:Int).toNat:List Int)).bind fun y768=>(if y765.length+y768.length< 17592186044416 then((some (y765++y768:List Int)).bind fun y772=>(if y772.length< 17592186044416 then((some (y772++ [x6_1] :List Int)).bind fun y775=>(if y775.length+y762.length< 17592186044416 then(spec_l1Cur_mixed.l0 k1 a1 (y775++y762) (wrap64 (x6_1+1)) s0_0 t753 t754) else(none))) else(none))) else(none)))=some (r1,r2,r3):=zfh hy765 H
    have Ny765:=Aside0.mk hy765
    clear hy765
    have c8b0:=eq_true (of_decide_eq_true zq1: 0≤t752)
    have c9b0:=eq_true (of_decide_eq_true zq1:t752≤ (x5_1.length:Int))
    obtain⟨y768,hy768⟩ :∃ y_:List Int,y_= (x5_1.take (t752:Int).toNat):=⟨_,rfl⟩
    replace H:(if y765.length+y768.length< 17592186044416 then((some (y765++y768:List Int)).bind fun y772=>(if y772.length< 17592186044416 then((some (y772++ [x6_1] :List Int)).bind fun y775=>(if y775.length+y762.length< 17592186044416 then(spec_l1Cur_mixed.l0 k1 a1 (y775++y762) (wrap64 (x6_1+1)) s0_0 t753 t754) else(none))) else(none))) else(none))=some (r1,r2,r3):=zfh hy768 H
    have Ny768:=Aside0.mk hy768
    clear hy768
    by_cases c10:y765.length+y768.length< 17592186044416
    case neg=>exact znn c10 H
    rw [if_pos c10] at H
    have LMc10:=Aside0.mk c10
    clear c10
    obtain⟨y772,hy772⟩ :∃ y_:List Int,y_= (y765++y768):=⟨_,rfl⟩
    replace H:(if y772.length< 17592186044416 then((some (y772++ [x6_1] :List Int)).bind fun y775=>(if y775.length+y762.length< 17592186044416 then(spec_l1Cur_mixed.l0 k1 a1 (y775++y762) (wrap64 (x6_1+1)) s0_0 t753 t754) else(none))) else(none))=some (r1,r2,r3):=zfh hy772 H
    have Ny772:=Aside0.mk hy772
    clear hy772
    by_cases c11:y772.length< 17592186044416
    case neg=>exact znn c11 H
    rw [if_pos c11] at H
    have LMc11:=Aside0.mk c11
    clear c11
    obtain⟨y775,hy775⟩ :∃ y_:List Int,y_= (y772++ [x6_1]):=⟨_,rfl⟩
    replace H:(if y775.length+y762.length< 17592186044416 then(spec_l1Cur_mixed.l0 k1 a1 (y775++y762) (wrap64 (x6_1+1)) s0_0 t753 t754) else(none))=some (r1,r2,r3):=zfh hy775 H
    have Ny775:=Aside0.mk hy775
    clear hy775
    by_cases c12:y775.length+y762.length< 17592186044416
    case neg=>exact znn c12 H
    rw [if_pos c12] at H
    have LMc12:=Aside0.mk c12
    clear c12
    obtain⟨y778,hy778⟩ :∃ y_:List Int,y_= (y775++y762):=⟨_,rfl⟩
    replace H:(spec_l1Cur_mixed.l0 k1 a1 y778 (wrap64 (x6_1+1)) s0_0 t753 t754)=some (r1,r2,r3):=zfh hy778 H
    have Ny778:=Aside0.mk hy778
    clear hy778
    have H':=Aside0.mk H
    clear H
    obtain⟨Ao13,co13,eo13⟩:=Kd.R_slice HO_5.out
    subst eo13
    go_wp2_with (first|((with_reducible refine gate_callee (f:=65) rfl ?_);refine goesL_ (some 18) rfl rfl Try.func65 (by kernel_rfl) rfl #[.pointer (some ⟨g,0,none⟩),.int .i64 (wrap64 ((x5_1.length:Int)+1))] rfl zq2 ?_;(with_reducible refine(spec_l1Cur_pick.calls g s0_0 x1001_1 x1002_1 (wrap64 ((x5_1.length:Int)+1)) t752 t753 t754 w0 _ ?side1 ?side2 A4.out).mono ?_);(case side1=>exact zk3 HI0);(case side2=>exact zk2 HB (IsS71.ge HI0.out));rintro e w14 ⟨rfl,hi,hb,hk⟩;refine⟨_,rfl,?_⟩;replace HO_5:=Aside0.mk (Kd.R_mono (Kd.R_keep (IsS71.apart (show IsS71 w0 _ g s0_0 x1001_1 x1002_1 from by exact zk3 HI0) (zq4 HO_5) (by decide)) hk (fun _ h=>h.2)) (fun _ h=>h.1));replace HK:=Aside0.mk (KeepBut.trans (by exact zk4 HK) hk (.inl rfl));replace HB:=Aside0.mk (hb);replace HI0:=Aside0.mk (hi);(try clear hb);(try clear hb2);(try clear hk);(try clear hi))|((with_reducible refine gate_dst (N:=19) rfl ?_);refine Kd.R_lit (Kd.int .i64) _ 3 ?hg (N:=19) ?hd (xs:=([] :List Int)) (inner:= []) (ok:=fun _=>True) (okp:=fun _=>True) ?hr ?hp (fun _ hk=>hk) trivial (Below.refl _ _) (Nat.le_refl _) (by simp) ?_;(case hd=>rfl);(case hg=>rfl);(case hr=>first|(go_simp;done)|(go_simp;rfl));(case hp=>exact(Reps.none _ _));intro v756 w15 ho16 hb hg_ hnew_;clear hg_ hnew_;(first|rw [← Ny755.out] at ho16|(simp only [Int.reduceToNat] at ho16;rw [← Ny755.out] at ho16));have HO757:=Aside0.mk (Kd.R_lower (Kd.R_new' ho16 (Kd.R_lt (zq4 HO_5))) (keep_size (w:=w) (g:=g) (row:=none) (by exact zk4 HK)));replace HO_5:=Aside0.mk (Kd.R_elder' (zq4 HO_5) (Kd.R_base ho16) hb);replace HK:=Aside0.mk (KeepBut.trans (by exact zk4 HK) (KeepBut.of_below hb g none) (.inl rfl));replace HB:=Aside0.mk (below_step (by exact zk2 HB (IsS71.ge HI0.out)) hb);replace HI0:=Aside0.mk (IsS71.below (by exact zk3 HI0) hb);clear hb ho16;have q17:(t752:Int)≤ ((x5_1.length:Int):Int):=of_decide_eq_true zq1;obtain⟨i017,hi017,_,hsz17,_⟩:=info_parts info3;have hroom17:x5_1.length≤co13:=(Kd.R_reads' HO_5.out).2.1;have hC17:Kd.C (Kd.int .i64) _ Ao13 x5_1.length x5_1:=(Kd.R_reads' HO_5.out).2.2;have q017:(0:Int)≤ (t752:Int):=of_decide_eq_true zq1;have hcut17:=cut_from (P:=Try.prog) 22 3 .i64 Try.underlying22 hi017 1 hsz17 Ao13 x5_1.length co13 t752 q017 q17;have hr17:=Kd.C_drop (m:=(t752:Int).toNat) (c:=co13) hC17 (by omega) hroom17;obtain⟨A17,hA17⟩ :∃ A1,A1= (if co13= (t752:Int).toNat then Ao13 else(Ao13:Option Addr).map (·.add ((t752:Int).toNat * 1))):=⟨_,rfl⟩;obtain⟨c17,hc17⟩ :∃ c1,c1=co13 - (t752:Int).toNat:=⟨_,rfl⟩;have hy17:y758.length=x5_1.length - (t752:Int).toNat:=(by rw [Ny758.out,List.length_drop]<;>omega);rw [show (x5_1).drop (t752:Int).toNat=y758 from Ny758.out.symm] at hr17;replace hr17:Kd.C (Kd.int .i64) _ A17 y758.length y758:=(by rw [hA17];exact hr17);rw [← hy17,← hA17,← hc17] at hcut17;have HR761:=Aside0.mk hr17;have HC761:=Aside0.mk (show y758.length≤c17 from by rw [hy17,hc17];exact Nat.sub_le_sub_right hroom17 _);clear hr17 hC17 hroom17 hi017 hsz17 hc17;have KY17:=Aside0.mk hy17;have KA17:=Aside0.mk hA17;clear hy17 hA17;have KL17:=Aside0.mk (show (t752:Int).toNat≤x5_1.length from by omega);replace q17:=eq_true q17)|((with_reducible refine gate_builtin (b:= .append) (xs:= #[.tmp 19,.tmp 22]) rfl ?_);at_builtin;refine Kd.R_append_rows (Kd.int .i64) w.heap.size rfl (.tmp 19) (.tmp 22) 22 3 (.int .i64 0) 8 rfl Try.underlying22 info3 rfl (by decide) (by omega) v756 y755 y758 _ _ _ (fun k_=>some k_≠ (.slice Ao13 x5_1.length co13:Value).ownBlock) (fun _=>False) rfl rfl ?aO ?aR (fun _ _ h=>h) (fun _ h=>h.elim) ?aF (Below.refl _ _) ?aS ?aL ?_;(case aR=>repeat(first|exact(by repeat(first|(with_reducible exact HR761.out)|(with_reducible refine Kd.C_alloc ?_ _)|(with_reducible refine Kd.C_drewN ?_ _)|(with_reducible refine Kd.C_drew ?_)|exact HR761.out))|(with_reducible refine Kd.C_alloc ?_ _)|(with_reducible refine Kd.C_drewN ?_ _)|(with_reducible refine Kd.C_drew ?_)));(case aF=>exact(fun k_ hk=>Kd.fresh' (Kd.R_lt (zq4 HO_5)) k_ hk));(case aO=>exact(by(with_reducible repeat(first|apply Kd.R_alloc|apply Kd.R_drewN|apply Kd.R_drew));exact Kd.R_mono HO757.out (fun _ hk=>hk.2)));(case aS=>exact(keep_size (w:=w) (g:=g) (row:=none) (by exact zk4 HK)));(case aL=>have:=LMc7.out;omega);intro v763 w18 ho hb hg hat;rw [← Ny762.out] at ho;have HO764:=Aside0.mk (ho);replace HB:=Aside0.mk (below_weaken (by exact zk2 HB (IsS71.ge HI0.out)) HL.out hb);replace HI0:=Aside0.mk (IsS71.grown (by exact zk3 HI0) hg (IsS71.own_ne HI0.out HO757.out (by decide)));replace HK:=Aside0.mk (KeepBut.trans (by exact zk4 HK) (KeepBut.of_grown hg g) (Kd.R_base2 HO757.out));replace HR761:=Aside0.mk ((show Kd.C (Kd.int .i64) w18 A17 y758.length y758 from by rw [Ny758.out,KA17.out];exact Kd.C_drop (m:=(t752:Int).toNat) (c:=co13) ((Kd.R_reads' (Kd.R_after (ok:=(fun _=>True)) (zq4 HO_5) hg hat)).2.2) KL17.out ((Kd.R_reads' (Kd.R_after (ok:=(fun _=>True)) (zq4 HO_5) hg hat)).2.1)));replace HO_5:=Aside0.mk (Kd.R_after (ok:=(fun _=>True)) (zq4 HO_5) hg hat);clear HO757;clear ho hb hg hat)|((with_reducible refine gate_dst (N:=24) rfl ?_);refine Kd.R_lit (Kd.int .i64) _ 3 ?hg (N:=24) ?hd (xs:=([] :List Int)) (inner:= []) (ok:=fun _=>True) (okp:=fun _=>True) ?hr ?hp (fun _ hk=>hk) trivial (Below.refl _ _) (Nat.le_refl _) (by simp) ?_;(case hd=>rfl);(case hg=>rfl);(case hr=>first|(go_simp;done)|(go_simp;rfl));(case hp=>exact(Reps.none _ _));intro v766 w19 ho20 hb hg_ hnew_;clear hg_ hnew_;(first|rw [← Ny765.out] at ho20|(simp only [Int.reduceToNat] at ho20;rw [← Ny765.out] at ho20));have HO767:=Aside0.mk (Kd.R_lower (Kd.R_new' (Kd.R_new' ho20 (Kd.R_lt (zq4 HO_5))) (Kd.R_lt (zq4 HO764))) (keep_size (w:=w) (g:=g) (row:=none) (by exact zk4 HK)));replace HO_5:=Aside0.mk (Kd.R_elder' (zq4 HO_5) (Kd.R_base ho20) hb);replace HO764:=Aside0.mk (Kd.R_elder' (zq4 HO764) (Kd.R_base ho20) hb);replace HR761:=Aside0.mk (Kd.C_below (by repeat(first|(with_reducible exact HR761.out)|(with_reducible refine Kd.C_alloc ?_ _)|(with_reducible refine Kd.C_drewN ?_ _)|(with_reducible refine Kd.C_drew ?_)|exact HR761.out)) hb);replace HK:=Aside0.mk (KeepBut.trans (by exact zk4 HK) (KeepBut.of_below hb g none) (.inl rfl));replace HB:=Aside0.mk (below_step (by exact zk2 HB (IsS71.ge HI0.out)) hb);replace HI0:=Aside0.mk (IsS71.below (by exact zk3 HI0) hb);clear hb ho20;have q21:(t752:Int)≤ ((x5_1.length:Int):Int):=of_decide_eq_true zq1;obtain⟨i021,hi021,_,hsz21,_⟩:=info_parts info3;have hroom21:x5_1.length≤co13:=(Kd.R_reads' HO_5.out).2.1;have hC21:Kd.C (Kd.int .i64) _ Ao13 x5_1.length x5_1:=(Kd.R_reads' HO_5.out).2.2;have hcut21:=cut_to (P:=Try.prog) 22 3 .i64 Try.underlying22 hi021 Ao13 x5_1.length co13 t752 (of_decide_eq_true zq1) q21 hroom21;have hr21:=Kd.C_take (m:=(t752:Int).toNat) hC21 (by omega);have hy21:y768.length= (t752:Int).toNat:=(by rw [Ny768.out,List.length_take];omega);rw [← Ny768.out] at hr21;rw [← hy21] at hcut21;have HR771:=Aside0.mk hr21;have HC771:=Aside0.mk (show y768.length≤co13 from by omega);clear hr21 hC21 hroom21 hi021 hsz21;have KY21:=Aside0.mk hy21;clear hy21;have KL21:=Aside0.mk (show (t752:Int).toNat≤x5_1.length from by omega);replace q21:=eq_true q21)|((with_reducible refine gate_builtin (b:= .append) (xs:= #[.tmp 24,.tmp 27]) rfl ?_);at_builtin;refine Kd.R_append_rows (Kd.int .i64) w.heap.size rfl (.tmp 24) (.tmp 27) 22 3 (.int .i64 0) 8 rfl Try.underlying22 info3 rfl (by decide) (by omega) v766 y765 y768 _ _ _ (fun k_=>some k_≠ (.slice Ao13 x5_1.length co13:Value).ownBlock∧some k_≠ (v763:Value).ownBlock) (fun _=>False) rfl rfl ?aO ?aR (fun _ _ h=>h) (fun _ h=>h.elim) ?aF (Below.refl _ _) ?aS ?aL ?_;(case aR=>repeat(first|exact(by repeat(first|(with_reducible exact HR771.out)|(with_reducible refine Kd.C_alloc ?_ _)|(with_reducible refine Kd.C_drewN ?_ _)|(with_reducible refine Kd.C_drew ?_)|exact HR771.out))|(with_reducible refine Kd.C_alloc ?_ _)|(with_reducible refine Kd.C_drewN ?_ _)|(with_reducible refine Kd.C_drew ?_)));(case aF=>exact(fun k_ hk=>⟨Kd.fresh' (Kd.R_lt (zq4 HO_5)) k_ hk,Kd.fresh' (Kd.R_lt (zq4 HO764)) k_ hk⟩));(case aO=>exact(by(with_reducible repeat(first|apply Kd.R_alloc|apply Kd.R_drewN|apply Kd.R_drew));exact Kd.R_mono HO767.out (fun _ hk=>⟨hk.1.2,hk.2⟩)));(case aS=>exact(keep_size (w:=w) (g:=g) (row:=none) (by exact zk4 HK)));(case aL=>have:=LMc10.out;omega);intro v773 w22 ho hb hg hat;rw [← Ny772.out] at ho;have HO774:=Aside0.mk (ho);replace HO764:=Aside0.mk (Kd.R_after (ok:=(fun k_=>some k_≠ (.slice Ao13 x5_1.length co13:Value).ownBlock)) (zq4 HO764) hg hat);replace HB:=Aside0.mk (below_weaken (by exact zk2 HB (IsS71.ge HI0.out)) HL.out hb);replace HI0:=Aside0.mk (IsS71.grown (by exact zk3 HI0) hg (IsS71.own_ne HI0.out HO767.out (by decide)));replace HK:=Aside0.mk (KeepBut.trans (by exact zk4 HK) (KeepBut.of_grown hg g) (Kd.R_base2 HO767.out));replace HR761:=Aside0.mk ((show Kd.C (Kd.int .i64) w22 A17 y758.length y758 from by rw [Ny758.out,KA17.out];exact Kd.C_drop (m:=(t752:Int).toNat) (c:=co13) ((Kd.R_reads' (Kd.R_after (ok:=(fun k_=>some k_≠ (v763:Value).ownBlock)) (by(with_reducible repeat(first|apply Kd.R_alloc|apply Kd.R_drewN|apply Kd.R_drew));exact Kd.R_mono HO_5.out (fun _ hk=>⟨hk.1.2,hk.2⟩)) hg hat)).2.2) KL17.out ((Kd.R_reads' (Kd.R_after (ok:=(fun k_=>some k_≠ (v763:Value).ownBlock)) (by(with_reducible repeat(first|apply Kd.R_alloc|apply Kd.R_drewN|apply Kd.R_drew));exact Kd.R_mono HO_5.out (fun _ hk=>⟨hk.1.2,hk.2⟩)) hg hat)).2.1)));replace HR771:=Aside0.mk ((show Kd.C (Kd.int .i64) w22 Ao13 y768.length y768 from by rw [Ny768.out];exact Kd.C_take (m:=(t752:Int).toNat) ((Kd.R_reads' (Kd.R_after (ok:=(fun k_=>some k_≠ (v763:Value).ownBlock)) (by(with_reducible repeat(first|apply Kd.R_alloc|apply Kd.R_drewN|apply Kd.R_drew));exact Kd.R_mono HO_5.out (fun _ hk=>⟨hk.1.2,hk.2⟩)) hg hat)).2.2) KL21.out));replace HO_5:=Aside0.mk (Kd.R_after (ok:=(fun k_=>some k_≠ (v763:Value).ownBlock)) (by(with_reducible repeat(first|apply Kd.R_alloc|apply Kd.R_drewN|apply Kd.R_drew));exact Kd.R_mono HO_5.out (fun _ hk=>⟨hk.1.2,hk.2⟩)) hg hat);clear HO767;clear ho hb hg hat)|((with_reducible refine gate_builtin (b:= .append) (xs:= #[.tmp 28,.tmp 30]) rfl ?_);at_builtin;refine Kd.R_append (Kd.int .i64) w.heap.size rfl (.tmp 28) (.tmp 30) 22 3 (.int .i64 0) 8 rfl Try.underlying22 info3 rfl (by decide) (by omega) v773 y772 x6_1 [.int .i64 x6_1] (fun k_=>some k_≠ (.slice Ao13 x5_1.length co13:Value).ownBlock∧some k_≠ (v763:Value).ownBlock) (fun _=>False) rfl rfl ?aP (fun _ hk=>hk.elim) ?aF ?aO (Below.refl _ _) ?aS ?aL ?_;(case aP=>exact rfl);(case aF=>exact(fun k_ hk=>⟨Kd.fresh' (Kd.R_lt (zq4 HO_5)) k_ hk,Kd.fresh' (Kd.R_lt (zq4 HO764)) k_ hk⟩));(case aO=>exact(zq4 HO774));(case aS=>exact(keep_size (w:=w) (g:=g) (row:=none) (by exact zk4 HK)));(case aL=>have:=LMc11.out;omega);intro v776 w23 ho hb hg hat;rw [← Ny775.out] at ho;have HO777:=Aside0.mk (ho);replace HO764:=Aside0.mk (Kd.R_after (ok:=(fun k_=>some k_≠ (.slice Ao13 x5_1.length co13:Value).ownBlock)) (zq4 HO764) hg hat);replace HB:=Aside0.mk (below_weaken (by exact zk2 HB (IsS71.ge HI0.out)) HL.out hb);replace HI0:=Aside0.mk (IsS71.grown (by exact zk3 HI0) hg (IsS71.own_ne HI0.out HO774.out (by decide)));replace HK:=Aside0.mk (KeepBut.trans (by exact zk4 HK) (KeepBut.of_grown hg g) (Kd.R_base2 HO774.out));replace HR761:=Aside0.mk ((show Kd.C (Kd.int .i64) w23 A17 y758.length y758 from by rw [Ny758.out,KA17.out];exact Kd.C_drop (m:=(t752:Int).toNat) (c:=co13) ((Kd.R_reads' (Kd.R_after (ok:=(fun k_=>some k_≠ (v763:Value).ownBlock)) (zq4 HO_5) hg hat)).2.2) KL17.out ((Kd.R_reads' (Kd.R_after (ok:=(fun k_=>some k_≠ (v763:Value).ownBlock)) (zq4 HO_5) hg hat)).2.1)));replace HR771:=Aside0.mk ((show Kd.C (Kd.int .i64) w23 Ao13 y768.length y768 from by rw [Ny768.out];exact Kd.C_take (m:=(t752:Int).toNat) ((Kd.R_reads' (Kd.R_after (ok:=(fun k_=>some k_≠ (v763:Value).ownBlock)) (zq4 HO_5) hg hat)).2.2) KL21.out));replace HO_5:=Aside0.mk (Kd.R_after (ok:=(fun k_=>some k_≠ (v763:Value).ownBlock)) (zq4 HO_5) hg hat);clear HO774;clear ho hb hg hat;obtain⟨Ao25,co25,eo25⟩:=Kd.R_slice HO764.out;subst eo25)|((with_reducible refine gate_builtin (b:= .append) (xs:= #[.tmp 31,.tmp 32]) rfl ?_);at_builtin;refine Kd.R_append_rows (Kd.int .i64) w.heap.size rfl (.tmp 31) (.tmp 32) 22 3 (.int .i64 0) 8 rfl Try.underlying22 info3 rfl (by decide) (by omega) v776 y775 y762 _ _ _ (fun k_=>some k_≠ (.slice Ao13 x5_1.length co13:Value).ownBlock∧some k_≠ (.slice Ao25 y762.length co25:Value).ownBlock) (fun _=>False) rfl rfl ?aO ?aR (fun _ _ h=>h) (fun _ h=>h.elim) ?aF (Below.refl _ _) ?aS ?aL ?_;(case aR=>exact zcc ((Kd.R_reads' HO764.out).2.2));(case aF=>exact(fun k_ hk=>⟨Kd.fresh' (Kd.R_lt (zq4 HO_5)) k_ hk,Kd.fresh' (Kd.R_lt (zq4 HO764)) k_ hk⟩));(case aO=>exact(zq4 HO777));(case aS=>exact(keep_size (w:=w) (g:=g) (row:=none) (by exact zk4 HK)));(case aL=>have:=LMc12.out;omega);intro v779 w24 ho hb hg hat;rw [← Ny778.out] at ho;have HO780:=Aside0.mk (ho);replace HO764:=Aside0.mk (Kd.R_after (ok:=(fun k_=>some k_≠ (.slice Ao13 x5_1.length co13:Value).ownBlock)) (zq4 HO764) hg hat);replace HB:=Aside0.mk (below_weaken (by exact zk2 HB (IsS71.ge HI0.out)) HL.out hb);replace HI0:=Aside0.mk (IsS71.grown (by exact zk3 HI0) hg (IsS71.own_ne HI0.out HO777.out (by decide)));replace HK:=Aside0.mk (KeepBut.trans (by exact zk4 HK) (KeepBut.of_grown hg g) (Kd.R_base2 HO777.out));replace HR761:=Aside0.mk ((show Kd.C (Kd.int .i64) w24 A17 y758.length y758 from by rw [Ny758.out,KA17.out];exact Kd.C_drop (m:=(t752:Int).toNat) (c:=co13) ((Kd.R_reads' (Kd.R_after (ok:=(fun k_=>some k_≠ (.slice Ao25 y762.length co25:Value).ownBlock)) (zq4 HO_5) hg hat)).2.2) KL17.out ((Kd.R_reads' (Kd.R_after (ok:=(fun k_=>some k_≠ (.slice Ao25 y762.length co25:Value).ownBlock)) (zq4 HO_5) hg hat)).2.1)));replace HR771:=Aside0.mk ((show Kd.C (Kd.int .i64) w24 Ao13 y768.length y768 from by rw [Ny768.out];exact Kd.C_take (m:=(t752:Int).toNat) ((Kd.R_reads' (Kd.R_after (ok:=(fun k_=>some k_≠ (.slice Ao25 y762.length co25:Value).ownBlock)) (zq4 HO_5) hg hat)).2.2) KL21.out));replace HO_5:=Aside0.mk (Kd.R_after (ok:=(fun k_=>some k_≠ (.slice Ao25 y762.length co25:Value).ownBlock)) (zq4 HO_5) hg hat);clear HO777;clear ho hb hg hat))
    go_roundg k1
    case measure=>have:=HK1.out;omega
    case rel=>exact⟨(y778),(wrap64 (x6_1+1)),(t753),(t754),zrs,H',⟨by have:=HK1.out;omega⟩,⟨by(with_reducible repeat(first|apply Kd.R_alloc|apply Kd.R_drewN|apply Kd.R_drew));exact Kd.R_mono HO780.out (fun _ hk=>trivial)⟩,⟨by exact zk3 HI0⟩,⟨by exact zk4 HK⟩,⟨by exact zk2 HB (IsS71.ge HI0.out)⟩⟩
   ·rw [if_neg c3] at H
    have c3b0:decide (x6_1<a1)=false:=decide_eq_false c3
    clear c3
    simp only [Option.some.injEq,Prod.mk.injEq] at H
    obtain⟨rfl,rfl,rfl⟩:=H
    go_wp2
    go_ret
    exact⟨_,zer,zdr HO_5,by exact zk3 HI0,by exact zk2 HB (IsS71.ge HI0.out),by exact zk4 HK⟩
def spec_l1Cur_one.f (s0_0:List Int) (s0_1:Int) (s0_2:Int) (a1:Int):Option (Bool × Int × Int):=(spec_l1Cur_pick.f s0_0 s0_1 s0_2 a1).bind fun bt781=>(some ((bt781.1==0),bt781.2.1,bt781.2.2))
set_option maxHeartbeats 8000000 in
set_option maxRecDepth 100000 in
theorem spec_l1Cur_one.calls (g:Nat) (s0_0:List Int) (s0_1:Int) (s0_2:Int) (a1:Int) (r1:Bool) (r2:Int) (r3:Int) (w0 w:World) (hI:IsS71 w0 w g s0_0 s0_1 s0_2) (hB:Below w0.heap.size w0 w) (h:spec_l1Cur_one.f s0_0 s0_1 s0_2 a1=some (r1,r2,r3)):
  Calls Try.prog 67 #[.pointer (some ⟨g,0,none⟩),.int .i64 a1] w fun e w'=>e= .returned (.bool r1)∧IsS71 w0 w' g s0_0 r2 r3∧Below w0.heap.size w0 w'∧KeepBut w w' g none:=by
 have HI0:=Aside0.mk hI
 have HK:=Aside0.mk (KeepBut.refl w g none)
 have HL:=Aside0.mk hB.size
 clear hI
 have HW0:=Aside0.mk hB.size
 have HB:=Aside0.mk hB
 clear hB
 have H:((spec_l1Cur_pick.f s0_0 s0_1 s0_2 a1).bind fun bt781=>(some ((bt781.1==0),bt781.2.1,bt781.2.2)))=some (r1,r2,r3):=h
 clear h
 replace H:=Option.bind_eq_some_iff.mp H
 obtain⟨⟨t781,t782,t783⟩,A30,H⟩:=H
 replace H:(some ((t781==0),t782,t783))=some (r1,r2,r3):=H
 have A3:=Aside0.mk A30
 clear A30
 simp only [Option.some.injEq,Prod.mk.injEq] at H
 obtain⟨rfl,rfl,rfl⟩:=H
 go_enter Try.func67,Try.ntmps67
 go_wp2_with (first|((with_reducible refine gate_callee (f:=65) rfl ?_);refine goesL_ (some 7) rfl rfl Try.func65 (by kernel_rfl) rfl #[.pointer (some ⟨g,0,none⟩),.int .i64 a1] rfl zq2 ?_;(with_reducible refine(spec_l1Cur_pick.calls g s0_0 s0_1 s0_2 a1 t781 t782 t783 w0 _ ?side1 ?side2 A3.out).mono ?_);(case side1=>exact zk3 HI0);(case side2=>exact zk2 HB (IsS71.ge HI0.out));rintro e w4 ⟨rfl,hi,hb,hk⟩;refine⟨_,rfl,?_⟩;replace HK:=Aside0.mk (KeepBut.trans (by exact zk4 HK) hk (.inl rfl));replace HB:=Aside0.mk (hb);replace HI0:=Aside0.mk (hi);(try clear hb);(try clear hb2);(try clear hk);(try clear hi)))
 go_ret
 exact⟨zer,by exact zk3 HI0,by exact zk2 HB (IsS71.ge HI0.out),by exact zk4 HK⟩
def spec_l1Cur_among.f (s0_0:List Int) (s0_1:Int) (s0_2:Int) (l1:List Int):Option (Int × Int × Int):=(spec_l1Cur_pick.f s0_0 s0_1 s0_2 (l1.length:Int)).bind fun bt784=>(if 0≤bt784.1 then(if bt784.1< (l1.length:Int) then(some (rd l1 bt784.1,bt784.2.1,bt784.2.2)) else(none)) else(none))
set_option maxHeartbeats 8000000 in
set_option maxRecDepth 100000 in
theorem spec_l1Cur_among.calls (g:Nat) (s0_0:List Int) (s0_1:Int) (s0_2:Int) (A1:Option Addr) (c1:Nat) (l1:List Int) (r1:Int) (r2:Int) (r3:Int) (w0 w:World) (hI:IsS71 w0 w g s0_0 s0_1 s0_2) (hB:Below w0.heap.size w0 w) (hr1:Kd.C (Kd.int .i64) w A1 l1.length l1) (hc1:l1.length≤c1) (hf1:∀ ad,A1=some ad→0<l1.length→ad.block≠g) (h:spec_l1Cur_among.f s0_0 s0_1 s0_2 l1=some (r1,r2,r3)):
  Calls Try.prog 73 #[.pointer (some ⟨g,0,none⟩),.slice A1 l1.length c1] w fun e w'=>e= .returned (.int .i64 r1)∧IsS71 w0 w' g s0_0 r2 r3∧Below w0.heap.size w0 w'∧KeepBut w w' g none:=by
 have HR1:=Aside0.mk hr1
 have HC1:=Aside0.mk hc1
 clear hr1 hc1
 have HI0:=Aside0.mk hI
 have HK:=Aside0.mk (KeepBut.refl w g none)
 have HL:=Aside0.mk hB.size
 clear hI
 have HW0:=Aside0.mk hB.size
 have HB:=Aside0.mk hB
 clear hB
 have H:((spec_l1Cur_pick.f s0_0 s0_1 s0_2 (l1.length:Int)).bind fun bt784=>(if 0≤bt784.1 then(if bt784.1< (l1.length:Int) then(some (rd l1 bt784.1,bt784.2.1,bt784.2.2)) else(none)) else(none)))=some (r1,r2,r3):=h
 clear h
 replace H:=Option.bind_eq_some_iff.mp H
 obtain⟨⟨t784,t785,t786⟩,A30,H⟩:=H
 replace H:(if 0≤t784 then(if t784< (l1.length:Int) then(some (rd l1 t784,t785,t786)) else(none)) else(none))=some (r1,r2,r3):=H
 have A3:=Aside0.mk A30
 clear A30
 by_cases c4: 0≤t784
 case neg=>exact znn c4 H
 rw [if_pos c4] at H
 have c4b0:decide (0≤t784)=true:=decide_eq_true c4
 clear c4
 by_cases c5:t784< (l1.length:Int)
 case neg=>exact znn c5 H
 rw [if_pos c5] at H
 have c5b0:decide (t784< (l1.length:Int))=true:=decide_eq_true c5
 clear c5
 simp only [Option.some.injEq,Prod.mk.injEq] at H
 obtain⟨rfl,rfl,rfl⟩:=H
 go_enter Try.func73,Try.ntmps73
 go_wp2_with (first|((with_reducible refine gate_callee (f:=65) rfl ?_);refine goesL_ (some 9) rfl rfl Try.func65 (by kernel_rfl) rfl #[.pointer (some ⟨g,0,none⟩),.int .i64 (l1.length:Int)] rfl zq2 ?_;(with_reducible refine(spec_l1Cur_pick.calls g s0_0 s0_1 s0_2 (l1.length:Int) t784 t785 t786 w0 _ ?side1 ?side2 A3.out).mono ?_);(case side1=>exact zk3 HI0);(case side2=>exact zk2 HB (IsS71.ge HI0.out));rintro e w6 ⟨rfl,hi,hb,hk⟩;refine⟨_,rfl,?_⟩;replace HK:=Aside0.mk (KeepBut.trans (by exact zk4 HK) hk (.inl rfl));replace HB:=Aside0.mk (hb);replace HI0:=Aside0.mk (hi);(try clear hb);(try clear hb2);(try clear hk);(try clear hi);have p787: 0≤ (t784:Int):=of_decide_eq_true zq1;have q787:t784< (l1.length:Int):=of_decide_eq_true zq1;obtain⟨ad787,e787,hx787_0⟩:=Kd.at_int HR1.out t784 p787 q787;cases e787;replace hx787_0:=keep_cell HK.out hx787_0 (by first|(rw [add_block];exact hf1 _ rfl (by omega))|exact hf1 _ rfl (by omega)|exact hf1 ad787 rfl (by omega));replace p787:=eq_true p787;replace q787:=eq_true q787))
 go_ret
 exact⟨zer,by exact zk3 HI0,by exact zk2 HB (IsS71.ge HI0.out),by exact zk4 HK⟩
mutual
def spec_l1Cur_serveWishes.j0:Nat→Int→Int→List Int→Int→Int→Option ((List (List Int)) × (List (List Int)) × List Int × Int × Int)
 | 0,_,_,_,_,_=>none
 |k+1,x4,x5,x1000,x1001,x1002=>spec_l1Cur_serveWishes.l0 k x4 x5 0 x1000 x1001 x1002 ([] :List (List Int))
def spec_l1Cur_serveWishes.l0:Nat→Int→Int→Int→List Int→Int→Int→List (List Int)→Option ((List (List Int)) × (List (List Int)) × List Int × Int × Int)
 | 0,_,_,_,_,_,_,_=>none
 |k+1,x4,x5,x6,x1000,x1001,x1002,x790000=>if x6<x4 then((spec_l1Cur_mixed.f k x1000 x1001 x1002 x5).bind fun bt799=>(if x790000.length< 5864062014805 then(spec_l1Cur_serveWishes.l0 k x4 x5 (wrap64 (x6+1)) x1000 bt799.2.1 bt799.2.2 (x790000++ [bt799.1])) else(none))) else(spec_l1Cur_serveWishes.l1 k x4 x5 0 x1000 x1001 x1002 x790000 ([] :List (List Int)) ([] :List Int))
def spec_l1Cur_serveWishes.l1:Nat→Int→Int→Int→List Int→Int→Int→List (List Int)→List (List Int)→List Int→Option ((List (List Int)) × (List (List Int)) × List Int × Int × Int)
 | 0,_,_,_,_,_,_,_,_,_=>none
 |k+1,x4,x5,x7,x1000,x1001,x1002,x790000,x790001,x790002=>if x7<x5 then((spec_l1Cur_mixed.f k x1000 x1001 x1002 x4).bind fun bt807=>(if x790001.length< 5864062014805 then((spec_l1Cur_pick.f x1000 bt807.2.1 bt807.2.2 3).bind fun bt815=>(if x790002.length< 17592186044416 then(spec_l1Cur_serveWishes.l1 k x4 x5 (wrap64 (x7+1)) x1000 bt815.2.1 bt815.2.2 x790000 (x790001++ [bt807.1]) (x790002++ [bt815.1])) else(none))) else(none))) else((spec_l1Cur_pick.f x1000 x1001 x1002 30).bind fun bt821=>(if bt821.1=0 then((spec_l1Cur_among.f x1000 bt821.2.1 bt821.2.2 (([(-1),8,9] :List Int))).bind fun bt827=>(if 0< (x790002.length:Int) then(some (x790000,x790001,(x790002.set (0:Int).toNat bt827.1),bt827.2.1,bt827.2.2)) else(none))) else(if bt821.1=1 then(if 0< (x790000.length:Int) then((spec_l1Cur_pick.f x1000 bt821.2.1 bt821.2.2 9).bind fun bt832=>(if 0< ((rd_L1 x790000 0).length:Int) then(some (x790000.set (0:Int).toNat ((rd_L1 x790000 0).set (0:Int).toNat bt832.1),x790001,x790002,bt832.2.1,bt832.2.2)) else(none))) else(none)) else(some (x790000,x790001,x790002,bt821.2.1,bt821.2.2)))))
end
def spec_l1Cur_serveWishes.f (k:Nat) (s0_0:List Int) (s0_1:Int) (s0_2:Int):Option ((List (List Int)) × (List (List Int)) × List Int × Int × Int):=(spec_l1Cur_pick.f s0_0 s0_1 s0_2 6).bind fun bt790=>((spec_l1Cur_pick.f s0_0 bt790.2.1 bt790.2.2 4).bind fun bt793=>((spec_l1Cur_one.f s0_0 bt793.2.1 bt793.2.2 20).bind fun bt796=>(if bt796.1=true then(spec_l1Cur_serveWishes.j0 k 8 8 s0_0 bt796.2.1 bt796.2.2) else(spec_l1Cur_serveWishes.j0 k (wrap64 (1+bt790.1)) (wrap64 (1+bt793.1)) s0_0 bt796.2.1 bt796.2.2))))
def spec_l1Cur_serveWishes.T10:Bool × List (List Nat × List Nat):=(true,[([],[]),([0],[0]),([],[]),([],[]),([2,3],[2,3]),([4],[4]),([1,5,4],[1,5]),([0,1,2,3,4,5,6],[]),([7,6,6,0,1,2,3,4,5,6],[6,7])])
def spec_l1Cur_serveWishes.B10:List Nat:= [0,1,0,0,12,28,63,127,255]
theorem spec_l1Cur_serveWishes.tab10:rtab .any (opsOf Try.f66 10)=spec_l1Cur_serveWishes.T10:=by kernel_rfl
theorem spec_l1Cur_serveWishes.bits10:waitsOk spec_l1Cur_serveWishes.T10.2 spec_l1Cur_serveWishes.B10=true:=by kernel_rfl
def spec_l1Cur_serveWishes.T14:Bool × List (List Nat × List Nat):=(true,[([],[]),([0],[0]),([],[]),([],[]),([2,3],[2,3]),([4],[4]),([1,5,4],[1,5]),([0,1,2,3,4,5,6],[]),([7,6,6,0,1,2,3,4,5,6],[6,7])])
def spec_l1Cur_serveWishes.B14:List Nat:= [0,1,0,0,12,28,63,127,255]
theorem spec_l1Cur_serveWishes.tab14:rtab .any (opsOf Try.f66 14)=spec_l1Cur_serveWishes.T14:=by kernel_rfl
theorem spec_l1Cur_serveWishes.bits14:waitsOk spec_l1Cur_serveWishes.T14.2 spec_l1Cur_serveWishes.B14=true:=by kernel_rfl
def spec_l1Cur_serveWishes.T15:Bool × List (List Nat × List Nat):=(true,[([],[]),([0],[0]),([],[]),([2],[2]),([3],[3]),([1,4,3],[1,4]),([0,1,2,3,4,5],[]),([6,5,5,0,1,2,3,4,5],[5,6])])
def spec_l1Cur_serveWishes.B15:List Nat:= [0,1,0,4,12,31,63,127]
theorem spec_l1Cur_serveWishes.tab15:rtab .any (opsOf Try.f66 15)=spec_l1Cur_serveWishes.T15:=by kernel_rfl
theorem spec_l1Cur_serveWishes.bits15:waitsOk spec_l1Cur_serveWishes.T15.2 spec_l1Cur_serveWishes.B15=true:=by kernel_rfl
def spec_l1Cur_serveWishes.T20:Bool × List (List Nat × List Nat):=(true,[([],[]),([0],[0]),([1],[1]),([2],[2]),([],[]),([4],[4]),([3,0,1,2,3,4,5],[3]),([6,5,5,0,1,2,3,4,5],[5,6])])
def spec_l1Cur_serveWishes.B20:List Nat:= [0,1,3,7,0,16,63,127]
theorem spec_l1Cur_serveWishes.tab20:rtab .any (opsOf Try.f66 20)=spec_l1Cur_serveWishes.T20:=by kernel_rfl
theorem spec_l1Cur_serveWishes.bits20:waitsOk spec_l1Cur_serveWishes.T20.2 spec_l1Cur_serveWishes.B20=true:=by kernel_rfl
theorem zk5 {q r1 r2 p:Prop} (b:Aside0 q) (b1:r1) (b2:r2) (h:q→r1→r2→p:=by intro z g1 g2;repeat(first|(with_reducible first|exact z|apply below_alloc|apply pw_below_drewN|apply below_drew1|refine below_set ?_ g1|refine below_set ?_ g2)|exact z)):p:=h b.out b1 b2
theorem zk6 {q r1 r2 r3 p:Prop} (b:Aside0 q) (b1:r1) (b2:r2) (b3:r3) (h:q→r1→r2→r3→p:=by intro z g1 g2 g3;repeat(first|(with_reducible first|exact z|apply below_alloc|apply pw_below_drewN|apply below_drew1|refine below_set ?_ g1|refine below_set ?_ g2|refine below_set ?_ g3)|exact z)):p:=h b.out b1 b2 b3
set_option maxHeartbeats 8000000 in
set_option maxRecDepth 100000 in
theorem spec_l1Cur_serveWishes.calls (k:Nat) (g:Nat) (s0_0:List Int) (s0_1:Int) (s0_2:Int) (r1:List (List Int)) (r2:List (List Int)) (r3:List Int) (r4:Int) (r5:Int) (w0 w:World) (hI:IsS71 w0 w g s0_0 s0_1 s0_2) (hB:Below w0.heap.size w0 w) (h:spec_l1Cur_serveWishes.f k s0_0 s0_1 s0_2=some (r1,r2,r3,r4,r5)):
  Calls Try.prog 66 #[.pointer (some ⟨g,0,none⟩)] w fun e w'=> ∃ v0_ v1_ v2_:Value,e= .returned (.agg #[v0_,v1_,v2_])∧Kd.S (Kd.slice 3 (Kd.int .i64)) 22 w' w.heap.size (fun k_=>some k_≠ (v1_:Value).ownBlock∧some k_≠ (v2_:Value).ownBlock) v0_ r1∧Kd.S (Kd.slice 3 (Kd.int .i64)) 22 w' w.heap.size (fun k_=>some k_≠ (v0_:Value).ownBlock∧some k_≠ (v2_:Value).ownBlock) v1_ r2∧Kd.R (Kd.int .i64) 3 w' w.heap.size (fun _=>True) v2_ r3∧IsS71 w0 w' g s0_0 r4 r5∧Below w0.heap.size w0 w'∧KeepBut w w' g none:=by
 have hu33:=Try.underlying33
 have HI0:=Aside0.mk hI
 have HK:=Aside0.mk (KeepBut.refl w g none)
 have HL:=Aside0.mk hB.size
 clear hI
 have HW0:=Aside0.mk hB.size
 have HB:=Aside0.mk hB
 clear hB
 have H:((spec_l1Cur_pick.f s0_0 s0_1 s0_2 6).bind fun bt790=>((spec_l1Cur_pick.f s0_0 bt790.2.1 bt790.2.2 4).bind fun bt793=>((spec_l1Cur_one.f s0_0 bt793.2.1 bt793.2.2 20).bind fun bt796=>(if bt796.1=true then(spec_l1Cur_serveWishes.j0 k 8 8 s0_0 bt796.2.1 bt796.2.2) else(spec_l1Cur_serveWishes.j0 k (wrap64 (1+bt790.1)) (wrap64 (1+bt793.1)) s0_0 bt796.2.1 bt796.2.2)))))=some (r1,r2,r3,r4,r5):=h
 clear h
 replace H:=Option.bind_eq_some_iff.mp H
 obtain⟨⟨t790,t791,t792⟩,A20,H⟩:=H
 replace H:((spec_l1Cur_pick.f s0_0 t791 t792 4).bind fun bt793=>((spec_l1Cur_one.f s0_0 bt793.2.1 bt793.2.2 20).bind fun bt796=>(if bt796.1=true then(spec_l1Cur_serveWishes.j0 k 8 8 s0_0 bt796.2.1 bt796.2.2) else(spec_l1Cur_serveWishes.j0 k (wrap64 (1+t790)) (wrap64 (1+bt793.1)) s0_0 bt796.2.1 bt796.2.2))))=some (r1,r2,r3,r4,r5):=H
 have A2:=Aside0.mk A20
 clear A20
 replace H:=Option.bind_eq_some_iff.mp H
 obtain⟨⟨t793,t794,t795⟩,A30,H⟩:=H
 replace H:((spec_l1Cur_one.f s0_0 t794 t795 20).bind fun bt796=>(if bt796.1=true then(spec_l1Cur_serveWishes.j0 k 8 8 s0_0 bt796.2.1 bt796.2.2) else(spec_l1Cur_serveWishes.j0 k (wrap64 (1+t790)) (wrap64 (1+t793)) s0_0 bt796.2.1 bt796.2.2)))=some (r1,r2,r3,r4,r5):=H
 have A3:=Aside0.mk A30
 clear A30
 replace H:=Option.bind_eq_some_iff.mp H
 obtain⟨⟨t796,t797,t798⟩,A40,H⟩:=H
 replace H:(if t796=true then(spec_l1Cur_serveWishes.j0 k 8 8 s0_0 t797 t798) else(spec_l1Cur_serveWishes.j0 k (wrap64 (1+t790)) (wrap64 (1+t793)) s0_0 t797 t798))=some (r1,r2,r3,r4,r5):=H
 have A4:=Aside0.mk A40
 clear A40
 have HC5:=Aside0.mk H
 clear H
 go_enter Try.func66,Try.ntmps66
 go_upto_if 15 with (first|((with_reducible refine gate_dst (N:=2) rfl ?_);refine box_event ?hg (N:=2) ?hd (cs:= #[.slice none 0 0,.slice none 0 0,.slice none 0 0]) (t:=33) ?hr ?_;(case hd=>rfl);(case hg=>rfl);(case hr=>first|(go_simp;done)|(go_simp;rfl));intro gb788 hg w6 hbox hb;have BK788:=Aside0.mk (hbox);have GW788:=Aside0.mk ((by rw [hg];exact(keep_size (w:=w) (g:=g) (row:=none) (by exact zk4 HK)):w.heap.size≤gb788));have GE788:=Aside0.mk ((Nat.le_trans HW0.out (by rw [hg];exact(keep_size (w:=w) (g:=g) (row:=none) (by exact zk4 HK)):w.heap.size≤gb788):w0.heap.size≤gb788));have NB0_788:=Aside0.mk ((by rw [hg];exact Nat.ne_of_lt (IsS71.lt (show IsS71 w0 _ g s0_0 s0_1 s0_2 from by exact zk3 HI0)):g≠gb788));have NB788_0:=Aside0.mk ((by rw [hg];exact Nat.ne_of_gt (IsS71.lt (show IsS71 w0 _ g s0_0 s0_1 s0_2 from by exact zk3 HI0)):gb788≠g));replace HK:=Aside0.mk (KeepBut.trans (by exact zk4 HK) (KeepBut.of_below hb g none) (.inl rfl));replace HB:=Aside0.mk (below_step (by exact zk2 HB (IsS71.ge HI0.out)) hb);replace HI0:=Aside0.mk (IsS71.below (by exact zk3 HI0) hb);clear hb hbox hg)|((with_reducible refine gate_dst (N:=3) rfl ?_);refine box_event ?hg (N:=3) ?hd (cs:= #[.slice none 0 0,.slice none 0 0,.slice none 0 0]) (t:=33) ?hr ?_;(case hd=>rfl);(case hg=>rfl);(case hr=>first|(go_simp;done)|(go_simp;rfl));intro gb789 hg w7 hbox hb;have BK789:=Aside0.mk (hbox);have GW789:=Aside0.mk ((by rw [hg];exact(keep_size (w:=w) (g:=g) (row:=none) (by repeat(first|(with_reducible first|exact HK.out|apply KeepBut.set_|apply keep_drewN|apply keep_drew|apply keep_alloc|refine keep_far ?_ GW788.out _)|exact HK.out))):w.heap.size≤gb789));have GE789:=Aside0.mk ((Nat.le_trans HW0.out (by rw [hg];exact(keep_size (w:=w) (g:=g) (row:=none) (by repeat(first|(with_reducible first|exact HK.out|apply KeepBut.set_|apply keep_drewN|apply keep_drew|apply keep_alloc|refine keep_far ?_ GW788.out _)|exact HK.out))):w.heap.size≤gb789):w0.heap.size≤gb789));have NB788_789:=Aside0.mk ((by rw [hg];exact Nat.ne_of_lt (blk_lt (g:=gb788) (o:= .cells #[.slice none 0 0,.slice none 0 0,.slice none 0 0] 33 (0,0)) (zq3 BK788)):gb788≠gb789));have NB789_788:=Aside0.mk ((by rw [hg];exact Nat.ne_of_gt (blk_lt (g:=gb788) (o:= .cells #[.slice none 0 0,.slice none 0 0,.slice none 0 0] 33 (0,0)) (zq3 BK788)):gb789≠gb788));have NB0_789:=Aside0.mk ((by rw [hg];exact Nat.ne_of_lt (IsS71.lt (show IsS71 w0 _ g s0_0 s0_1 s0_2 from by repeat(first|(with_reducible first|exact HI0.out|apply IsS71.alloc|apply IsS71.drewN|apply IsS71.drew|apply IsS71.set_1|apply IsS71.set_2|refine IsS71.far ?_ NB0_788.out _)|exact HI0.out))):g≠gb789));have NB789_0:=Aside0.mk ((by rw [hg];exact Nat.ne_of_gt (IsS71.lt (show IsS71 w0 _ g s0_0 s0_1 s0_2 from by repeat(first|(with_reducible first|exact HI0.out|apply IsS71.alloc|apply IsS71.drewN|apply IsS71.drew|apply IsS71.set_1|apply IsS71.set_2|refine IsS71.far ?_ NB0_788.out _)|exact HI0.out))):gb789≠g));replace BK788:=Aside0.mk (blk_below (g:=gb788) (o:= .cells #[.slice none 0 0,.slice none 0 0,.slice none 0 0] 33 (0,0)) (zq3 BK788) hb);replace HK:=Aside0.mk (KeepBut.trans (by repeat(first|(with_reducible first|exact HK.out|apply KeepBut.set_|apply keep_drewN|apply keep_drew|apply keep_alloc|refine keep_far ?_ GW788.out _)|exact HK.out)) (KeepBut.of_below hb g none) (.inl rfl));replace HB:=Aside0.mk (below_step (by exact zk5 HB (IsS71.ge HI0.out) GE788.out) hb);replace HI0:=Aside0.mk (IsS71.below (by repeat(first|(with_reducible first|exact HI0.out|apply IsS71.alloc|apply IsS71.drewN|apply IsS71.drew|apply IsS71.set_1|apply IsS71.set_2|refine IsS71.far ?_ NB0_788.out _)|exact HI0.out)) hb);clear hb hbox hg)|((with_reducible refine gate_callee (f:=65) rfl ?_);refine goesL_ (some 9) rfl rfl Try.func65 (by kernel_rfl) rfl #[.pointer (some ⟨g,0,none⟩),.int .i64 6] rfl zq2 ?_;(with_reducible refine(spec_l1Cur_pick.calls g s0_0 s0_1 s0_2 6 t790 t791 t792 w0 _ ?side1 ?side2 A2.out).mono ?_);(case side1=>repeat(first|(with_reducible first|exact HI0.out|apply IsS71.alloc|apply IsS71.drewN|apply IsS71.drew|apply IsS71.set_1|apply IsS71.set_2|refine IsS71.far ?_ NB0_788.out _|refine IsS71.far ?_ NB0_789.out _)|exact HI0.out));(case side2=>exact zk6 HB (IsS71.ge HI0.out) GE788.out GE789.out);rintro e w8 ⟨rfl,hi,hb,hk⟩;refine⟨_,rfl,?_⟩;replace BK788:=Aside0.mk (KeepBut.blk hk (g':=gb788) (o:= .cells #[.slice none 0 0,.slice none 0 0,.slice none 0 0] 33 (0,0)) (zq3 BK788) NB788_0.out (by simp));replace BK789:=Aside0.mk (KeepBut.blk hk (g':=gb789) (o:= .cells #[.slice none 0 0,.slice none 0 0,.slice none 0 0] 33 (0,0)) (zq3 BK789) NB789_0.out (by simp));replace HK:=Aside0.mk (KeepBut.trans (by repeat(first|(with_reducible first|exact HK.out|apply KeepBut.set_|apply keep_drewN|apply keep_drew|apply keep_alloc|refine keep_far ?_ GW788.out _|refine keep_far ?_ GW789.out _)|exact HK.out)) hk (.inl rfl));replace HB:=Aside0.mk (hb);replace HI0:=Aside0.mk (hi);(try clear hb);(try clear hb2);(try clear hk);(try clear hi))|((with_reducible refine gate_callee (f:=65) rfl ?_);refine goesL_ (some 12) rfl rfl Try.func65 (by kernel_rfl) rfl #[.pointer (some ⟨g,0,none⟩),.int .i64 4] rfl zq2 ?_;(with_reducible refine(spec_l1Cur_pick.calls g s0_0 t791 t792 4 t793 t794 t795 w0 _ ?side1 ?side2 A3.out).mono ?_);(case side1=>repeat(first|(with_reducible first|exact HI0.out|apply IsS71.alloc|apply IsS71.drewN|apply IsS71.drew|apply IsS71.set_1|apply IsS71.set_2|refine IsS71.far ?_ NB0_788.out _|refine IsS71.far ?_ NB0_789.out _)|exact HI0.out));(case side2=>exact zk6 HB (IsS71.ge HI0.out) GE788.out GE789.out);rintro e w9 ⟨rfl,hi,hb,hk⟩;refine⟨_,rfl,?_⟩;replace BK788:=Aside0.mk (KeepBut.blk hk (g':=gb788) (o:= .cells #[.slice none 0 0,.slice none 0 0,.slice none 0 0] 33 (0,0)) (zq3 BK788) NB788_0.out (by simp));replace BK789:=Aside0.mk (KeepBut.blk hk (g':=gb789) (o:= .cells #[.slice none 0 0,.slice none 0 0,.slice none 0 0] 33 (0,0)) (zq3 BK789) NB789_0.out (by simp));replace HK:=Aside0.mk (KeepBut.trans (by repeat(first|(with_reducible first|exact HK.out|apply KeepBut.set_|apply keep_drewN|apply keep_drew|apply keep_alloc|refine keep_far ?_ GW788.out _|refine keep_far ?_ GW789.out _)|exact HK.out)) hk (.inl rfl));replace HB:=Aside0.mk (hb);replace HI0:=Aside0.mk (hi);(try clear hb);(try clear hb2);(try clear hk);(try clear hi))|((with_reducible refine gate_callee (f:=67) rfl ?_);refine goesL_ (some 15) rfl rfl Try.func67 (by kernel_rfl) rfl #[.pointer (some ⟨g,0,none⟩),.int .i64 20] rfl zq2 ?_;(with_reducible refine(spec_l1Cur_one.calls g s0_0 t794 t795 20 t796 t797 t798 w0 _ ?side1 ?side2 A4.out).mono ?_);(case side1=>repeat(first|(with_reducible first|exact HI0.out|apply IsS71.alloc|apply IsS71.drewN|apply IsS71.drew|apply IsS71.set_1|apply IsS71.set_2|refine IsS71.far ?_ NB0_788.out _|refine IsS71.far ?_ NB0_789.out _)|exact HI0.out));(case side2=>exact zk6 HB (IsS71.ge HI0.out) GE788.out GE789.out);rintro e w10 ⟨rfl,hi,hb,hk⟩;refine⟨_,rfl,?_⟩;replace BK788:=Aside0.mk (KeepBut.blk hk (g':=gb788) (o:= .cells #[.slice none 0 0,.slice none 0 0,.slice none 0 0] 33 (0,0)) (zq3 BK788) NB788_0.out (by simp));replace BK789:=Aside0.mk (KeepBut.blk hk (g':=gb789) (o:= .cells #[.slice none 0 0,.slice none 0 0,.slice none 0 0] 33 (0,0)) (zq3 BK789) NB789_0.out (by simp));replace HK:=Aside0.mk (KeepBut.trans (by repeat(first|(with_reducible first|exact HK.out|apply KeepBut.set_|apply keep_drewN|apply keep_drew|apply keep_alloc|refine keep_far ?_ GW788.out _|refine keep_far ?_ GW789.out _)|exact HK.out)) hk (.inl rfl));replace HB:=Aside0.mk (hb);replace HI0:=Aside0.mk (hi);(try clear hb);(try clear hb2);(try clear hk);(try clear hi)))
 (try simp only [Act.put,List.setIfInBounds_toArray,List.set_cons_zero,List.set_cons_succ])
 go_cut [4,5] (fun v4 v5 wc=> ∃ (kq:Nat) (x4_4:Int) (x5_4:Int),v4= .int .i64 x4_4∧v5= .int .i64 x5_4∧Aside0 (spec_l1Cur_serveWishes.j0 kq x4_4 x5_4 s0_0 t797 t798=some (r1,r2,r3,r4,r5))∧Aside0 (kq≤k)∧Aside0 (wc.heap[gb788]?=some (.cells #[(.slice none 0 0),(.slice none 0 0),(.slice none 0 0)] 33 (0,0)))∧Aside0 (wc.heap[gb789]?=some (.cells #[(.slice none 0 0),(.slice none 0 0),(.slice none 0 0)] 33 (0,0)))∧Aside0 (IsS71 w0 wc g s0_0 t797 t798)∧Aside0 (KeepBut w wc g none)∧Aside0 (Below w0.heap.size w0 wc))
 case first=>
  have H:=HC5.out
  clear HC5
  by_cases c11:t796=true
  ·subst c11
   have H1:(spec_l1Cur_serveWishes.j0 k 8 8 s0_0 t797 t798)=some (r1,r2,r3,r4,r5):=by rw [if_pos rfl] at H;exact H
   clear H
   have H:=H1
   clear H1
   have H':=Aside0.mk H
   clear H
   go_wp2
   go_meet
   case rel=>exact⟨_,(8),(8),zrs,zrs,H',⟨by first|omega|exact Nat.le_refl _⟩,⟨by(with_reducible repeat(first|refine blk_drewN ?_ _|refine blk_drew ?_ |refine blk_alloc ?_ _));exact BK788.out⟩,⟨by(with_reducible repeat(first|refine blk_drewN ?_ _|refine blk_drew ?_ |refine blk_alloc ?_ _));exact BK789.out⟩,⟨by repeat(first|(with_reducible first|exact HI0.out|apply IsS71.alloc|apply IsS71.drewN|apply IsS71.drew|apply IsS71.set_1|apply IsS71.set_2|refine IsS71.far ?_ NB0_788.out _|refine IsS71.far ?_ NB0_789.out _)|exact HI0.out)⟩,⟨by repeat(first|(with_reducible first|exact HK.out|apply KeepBut.set_|apply keep_drewN|apply keep_drew|apply keep_alloc|refine keep_far ?_ GW788.out _|refine keep_far ?_ GW789.out _)|exact HK.out)⟩,⟨by exact zk6 HB (IsS71.ge HI0.out) GE788.out GE789.out⟩⟩
  ·replace c11:=Bool.eq_false_iff.mpr c11
   subst c11
   have H1:(spec_l1Cur_serveWishes.j0 k (wrap64 (1+t790)) (wrap64 (1+t793)) s0_0 t797 t798)=some (r1,r2,r3,r4,r5):=by rw [if_neg (show ¬ (false=true) by decide)] at H;exact H
   clear H
   have H:=H1
   clear H1
   have H':=Aside0.mk H
   clear H
   go_wp2
   go_meet
   case rel=>exact⟨_,(wrap64 (1+t790)),(wrap64 (1+t793)),zrs,zrs,H',⟨by first|omega|exact Nat.le_refl _⟩,⟨by(with_reducible repeat(first|refine blk_drewN ?_ _|refine blk_drew ?_ |refine blk_alloc ?_ _));exact BK788.out⟩,⟨by(with_reducible repeat(first|refine blk_drewN ?_ _|refine blk_drew ?_ |refine blk_alloc ?_ _));exact BK789.out⟩,⟨by repeat(first|(with_reducible first|exact HI0.out|apply IsS71.alloc|apply IsS71.drewN|apply IsS71.drew|apply IsS71.set_1|apply IsS71.set_2|refine IsS71.far ?_ NB0_788.out _|refine IsS71.far ?_ NB0_789.out _)|exact HI0.out)⟩,⟨by repeat(first|(with_reducible first|exact HK.out|apply KeepBut.set_|apply keep_drewN|apply keep_drew|apply keep_alloc|refine keep_far ?_ GW788.out _|refine keep_far ?_ GW789.out _)|exact HK.out)⟩,⟨by exact zk6 HB (IsS71.ge HI0.out) GE788.out GE789.out⟩⟩
 case rest=>
  clear HC5
  try clear c1
  try clear p2
  try clear c6
  try clear p6
  try clear c11
  obtain⟨kq,x4_4,x5_4,rfl,rfl,HA,HJ4,BK788,BK789,HI0,HK,HB⟩:=hcut
  cases kq with
  |zero=>exact absurd HA.out (by simp [spec_l1Cur_serveWishes.j0])
  |succ kj4=>
   have H:=HA.out
   clear HA
   simp only [spec_l1Cur_serveWishes.j0] at H
   have H':=Aside0.mk H
   clear H
   go_wp2
   go_loopg [6] kj4 (fun kq v6 w'=> ∃ (x6_2:Int) (x1001_2:Int) (x1002_2:Int) (x790000_2:List (List Int)) (u790000:Value),v6= .int .i64 x6_2∧Aside0 (spec_l1Cur_serveWishes.l0 kq x4_4 x5_4 x6_2 s0_0 x1001_2 x1002_2 x790000_2=some (r1,r2,r3,r4,r5))∧Aside0 (kq≤kj4)∧Aside0 (Kd.S (Kd.slice 3 (Kd.int .i64)) 22 w' w.heap.size (fun _=>True) u790000 x790000_2)∧Aside0 (w'.heap[gb788]?=some (.cells #[(.slice none 0 0),(.slice none 0 0),(.slice none 0 0)] 33 (0,0)))∧Aside0 (w'.heap[gb789]?=some (.cells #[u790000,(.slice none 0 0),(.slice none 0 0)] 33 (0,0)))∧Aside0 (IsS71 w0 w' g s0_0 x1001_2 x1002_2)∧Aside0 (KeepBut w w' g none)∧Aside0 (Below w0.heap.size w0 w'))
   case atStart=>exact⟨(0),(t797),(t798),(([] :List (List Int))),(.slice none 0 0),zrs,H',⟨Nat.le_refl _⟩,⟨by first|exact Kd.S_nil _ _ _ _ _|exact Kd.N_nil _ _ _ _ _|exact Kd.V_nil _ _ _ _ _|exact Kd.Q_nil _ _ _ _ _|exact Kd.R_nil _ _ _ _ _⟩,⟨by(with_reducible repeat(first|refine blk_drewN ?_ _|refine blk_drew ?_ |refine blk_alloc ?_ _));exact BK788.out⟩,⟨by(with_reducible repeat(first|refine blk_drewN ?_ _|refine blk_drew ?_ |refine blk_alloc ?_ _));exact BK789.out⟩,⟨by repeat(first|(with_reducible first|exact HI0.out|apply IsS71.alloc|apply IsS71.drewN|apply IsS71.drew|apply IsS71.set_1|apply IsS71.set_2|refine IsS71.far ?_ NB0_788.out _|refine IsS71.far ?_ NB0_789.out _)|exact HI0.out)⟩,⟨by repeat(first|(with_reducible first|exact HK.out|apply KeepBut.set_|apply keep_drewN|apply keep_drew|apply keep_alloc|refine keep_far ?_ GW788.out _|refine keep_far ?_ GW789.out _)|exact HK.out)⟩,⟨by exact zk6 HB (IsS71.ge HI0.out) GE788.out GE789.out⟩⟩
   case round=>
    clear H'
    try clear c1
    try clear p2
    try clear c6
    try clear p6
    try clear c11
    try clear p2
    try clear p6
    obtain⟨x6_2,x1001_2,x1002_2,x790000_2,u790000,rfl,HA,HK2,HO_790000,BK788,BK789,HI0,HK,HB⟩:=hrel
    cases gk with
    |zero=>exact absurd HA.out (by simp [spec_l1Cur_serveWishes.l0])
    |succ k2=>
     have H:=HA.out
     clear HA
     simp only [spec_l1Cur_serveWishes.l0] at H
     by_cases c12:x6_2<x4_4
     ·rw [if_pos c12] at H
      have c12b0:decide (x6_2<x4_4)=true:=decide_eq_true c12
      clear c12
      replace H:=Option.bind_eq_some_iff.mp H
      obtain⟨⟨t799,t802,t803⟩,A130,H⟩:=H
      replace H:(if x790000_2.length< 5864062014805 then(spec_l1Cur_serveWishes.l0 k2 x4_4 x5_4 (wrap64 (x6_2+1)) s0_0 t802 t803 (x790000_2++ [t799])) else(none))=some (r1,r2,r3,r4,r5):=H
      have A13:=Aside0.mk A130
      clear A130
      by_cases c14:x790000_2.length< 5864062014805
      case neg=>exact znn c14 H
      rw [if_pos c14] at H
      have LMc14:=Aside0.mk c14
      clear c14
      obtain⟨y804,hy804⟩ :∃ y_:List (List Int),y_= (x790000_2++ [t799]):=⟨_,rfl⟩
      replace H:(spec_l1Cur_serveWishes.l0 k2 x4_4 x5_4 (wrap64 (x6_2+1)) s0_0 t802 t803 y804)=some (r1,r2,r3,r4,r5):=zfh hy804 H
      have Ny804:=Aside0.mk hy804
      clear hy804
      have H':=Aside0.mk H
      clear H
      try go_wp2
      replace HO_790000:=Aside0.mk (Kd.S_drew HO_790000.out)
      replace BK788:=Aside0.mk (blk_drew BK788.out)
      replace BK789:=Aside0.mk (blk_drew BK789.out)
      replace HI0:=Aside0.mk (IsS71.drew HI0.out)
      replace HK:=Aside0.mk (keep_drew HK.out)
      replace HB:=Aside0.mk (below_drew1 HB.out)
      refine start_ (n:=9) (S:=fun w'=>w'.cell? ⟨gb789,0,none⟩=some (u790000)∧w'.cell? ⟨gb789,1,none⟩=some (.slice none 0 0)∧w'.cell? ⟨gb789,2,none⟩=some (.slice none 0 0)) (ds:= [8]) (mb' 9 0) (by kernel_rfl) rfl rfl ⟨(blk_cell BK789.out 0).trans rfl,(blk_cell BK789.out 1).trans rfl,(blk_cell BK789.out 2).trans rfl⟩ (fun hHeld=>?_);refine with_tabW spec_l1Cur_serveWishes.tab10 spec_l1Cur_serveWishes.bits10 (fun HT_ HW_=>?_)
      generalize wr.drew=w15 at HO_790000 BK788 BK789 HI0 HK HB hHeld ⊢
      refine zp1 HT_ 0 21 (mb' 9 1) rfl ?_
      refine zp1 HT_ 2 23 (mb' 9 5) rfl ?_
      refine zp1 HT_ 3 24 (mb' 9 13) rfl ?_
      refine zt1 HT_ HW_ (v:=?_) (a':=?_) 1 22 (mb' 9 15) rfl ?_ hHeld ?_ ?_;rotate_left;(rintro w' ⟨s0,s1,s2⟩;go_simp;with_reducible rfl);rotate_left;exact zpa
      refine one_ (i:=4) (N:=some 25) (mb' 9 31) rfl rfl (one_of HT_.out (by kernel_rfl)) (by decide) (fun K hK=>?_)
      refine goes_ Try.func64 (by kernel_rfl) rfl #[.pointer (some ⟨g,0,none⟩),.int .i64 x5_4] (by rfl) rfl rfl zq2 ?_
      with_reducible refine(spec_l1Cur_mixed.calls k2 g s0_0 x1001_2 x1002_2 x5_4 t799 t802 t803 w0 _ ?side1 ?side2 A13.out).mono ?_
      (case side1=>repeat(first|(with_reducible first|exact HI0.out|apply IsS71.alloc|apply IsS71.drewN|apply IsS71.drew|apply IsS71.set_1|apply IsS71.set_2|refine IsS71.far ?_ NB0_788.out _|refine IsS71.far ?_ NB0_789.out _)|exact HI0.out))
      (case side2=>exact zk6 HB (IsS71.ge HI0.out) GE788.out GE789.out)
      rintro e w16 ⟨v800,rfl,ho0,hi,hb,hk⟩
      refine⟨_,rfl,?_⟩
      have HO801:=Aside0.mk (Kd.R_lower ho0 (keep_size (w:=w) (g:=g) (row:=none) (by repeat(first|(with_reducible first|exact HK.out|apply KeepBut.set_|apply keep_drewN|apply keep_drew|apply keep_alloc|refine keep_far ?_ GW788.out _|refine keep_far ?_ GW789.out _)|exact HK.out))))
      replace HO_790000:=Aside0.mk (Kd.S_mono (Kd.S_told (Kd.S_oldK (IsS71.apartS (show IsS71 w0 _ g s0_0 x1001_2 x1002_2 from by repeat(first|(with_reducible first|exact HI0.out|apply IsS71.alloc|apply IsS71.drewN|apply IsS71.drew|apply IsS71.set_1|apply IsS71.set_2|refine IsS71.far ?_ NB0_788.out _|refine IsS71.far ?_ NB0_789.out _)|exact HI0.out)) (by(with_reducible repeat(first|apply Kd.S_alloc|apply Kd.S_drewN|apply Kd.S_drew));exact HO_790000.out) (by decide)) hk) (Kd.R_base ho0)) (fun _ h_=>h_.1))
      replace BK788:=Aside0.mk (KeepBut.blk hk (g':=gb788) (o:= .cells #[.slice none 0 0,.slice none 0 0,.slice none 0 0] 33 (0,0)) (zq3 BK788) NB788_0.out (by simp))
      replace BK789:=Aside0.mk (KeepBut.blk hk (g':=gb789) (o:= .cells #[u790000,.slice none 0 0,.slice none 0 0] 33 (0,0)) (zq3 BK789) NB789_0.out (by simp))
      replace HK:=Aside0.mk (KeepBut.trans (by repeat(first|(with_reducible first|exact HK.out|apply KeepBut.set_|apply keep_drewN|apply keep_drew|apply keep_alloc|refine keep_far ?_ GW788.out _|refine keep_far ?_ GW789.out _)|exact HK.out)) hk (.inl rfl))
      replace HB:=Aside0.mk (hb)
      replace HI0:=Aside0.mk (hi)
      (try clear hb)
      (try clear hb2)
      (try clear hk)
      (try clear hi)
      (try clear ho0)
      obtain⟨Ao18,co18,eo18⟩:=Kd.R_slice HO801.out
      (first|subst eo18|(injection eo18 with f1_ f2_ f3_;have f4_:=f1_.symm;have f5_:=f3_.symm;clear f1_ f2_ f3_;subst f4_;subst f5_))
      refine hK.out _ _ ⟨(blk_cell BK789.out 0).trans rfl,(blk_cell BK789.out 1).trans rfl,(blk_cell BK789.out 2).trans rfl⟩ (fun hHeld=>?_)
      clear hK K
      refine norm_ (a':=?_) ?_ ?_
      rotate_left
      ·show Act.put _ (some 25) _=_
       simp only [Act.put,List.setIfInBounds_toArray,List.set_cons_zero,List.set_cons_succ,i64_w,i32_w]
       rfl
      refine one_ (i:=5) (N:=some 26) (mb' 9 63) rfl rfl (one_of HT_.out (by kernel_rfl)) (by decide) (fun K hK=>?_)
      refine value_ (w1:=?_) (v:=?_) (by rfl) rfl ?_ ?_
      rotate_left 2
      ·go_simp
       constructor
       ·rfl
       ·rfl
      refine hK.out _ _ ⟨(blk_cell (blk_alloc BK789.out _) 0).trans rfl,(blk_cell (blk_alloc BK789.out _) 1).trans rfl,(blk_cell (blk_alloc BK789.out _) 2).trans rfl⟩ (fun hHeld=>?_)
      clear hK K
      refine norm_ (a':=?_) ?_ ?_
      rotate_left
      ·show Act.put _ (some 26) _=_
       simp only [Act.put,List.setIfInBounds_toArray,List.set_cons_zero,List.set_cons_succ,i64_w,i32_w]
       rfl
      refine one_ (i:=6) (N:=some 27) (mb' 9 127) rfl rfl (one_of HT_.out (by kernel_rfl)) (by decide) (fun K hK=>?_)
      refine Kd.S_append_step (Kd.slice 3 (Kd.int .i64)) w.heap.size (by rfl) (.tmp 22) (.tmp 26) 28 22 (.slice none 0 0) 24 rfl Try.underlying28 info22 rfl (by decide) (by omega) u790000 x790000_2 t799 [.slice Ao18 t799.length co18] (fun _=>True) (fun k_=>some k_= (.slice Ao18 t799.length co18:Value).ownBlock) rfl rfl ?aP (fun k_ hk_=>((Kd.R_mono (ok':=fun k_=>((fun _=>True)) k_∧some k_≠ (u790000:Value).ownBlock) (Kd.R_apart' (HO801.out) (Kd.S_typed HO_790000.out) (by decide)) (fun k_ hk=>⟨trivial,hk.2⟩))).1 k_ hk_.symm) ?aF ?aO (Below.refl _ _) ?aS ?aL ?_
      (case aP=>exact Kd.M_row (Kd.R_mono (Kd.R_tight rfl (Kd.R_mono (ok':=fun k_=>((fun _=>True)) k_∧some k_≠ (u790000:Value).ownBlock) (Kd.R_apart' (HO801.out) (Kd.S_typed HO_790000.out) (by decide)) (fun k_ hk=>⟨trivial,hk.2⟩))) (fun _ h_=>h_)))
      (case aF=>exact(fun _ _=>trivial))
      (case aO=>exact(by(with_reducible repeat(first|apply Kd.S_alloc|apply Kd.S_drewN|apply Kd.S_drew));exact Kd.S_mono HO_790000.out (fun k_ hk=>⟨trivial,fun e_=>hk.2 e_⟩)))
      (case aS=>exact(keep_size (w:=w) (g:=g) (row:=none) (by repeat(first|(with_reducible first|exact HK.out|apply KeepBut.set_|apply keep_drewN|apply keep_drew|apply keep_alloc|refine keep_far ?_ GW788.out _|refine keep_far ?_ GW789.out _)|exact HK.out))))
      (case aL=>have:=LMc14.out;omega)
      intro v805 w17 ho hb hg hat
      rw [← Ny804.out] at ho
      have HO806:=Aside0.mk (ho)
      replace BK788:=Aside0.mk (blk_grown (g:=gb788) (o:= .cells #[.slice none 0 0,.slice none 0 0,.slice none 0 0] 33 (0,0)) (zq3 BK788) hg (Kd.S_ne HO_790000.out BK788.out (by decide)))
      replace BK789:=Aside0.mk (blk_grown (g:=gb789) (o:= .cells #[u790000,.slice none 0 0,.slice none 0 0] 33 (0,0)) (zq3 BK789) hg (Kd.S_ne HO_790000.out BK789.out (by decide)))
      replace HB:=Aside0.mk (below_weaken (by exact zk6 HB (IsS71.ge HI0.out) GE788.out GE789.out) HL.out hb)
      replace HI0:=Aside0.mk (IsS71.grown (by repeat(first|(with_reducible first|exact HI0.out|apply IsS71.alloc|apply IsS71.drewN|apply IsS71.drew|apply IsS71.set_1|apply IsS71.set_2|refine IsS71.far ?_ NB0_788.out _|refine IsS71.far ?_ NB0_789.out _)|exact HI0.out)) hg (IsS71.own_neS HI0.out HO_790000.out (by decide)))
      replace HK:=Aside0.mk (KeepBut.trans (by repeat(first|(with_reducible first|exact HK.out|apply KeepBut.set_|apply keep_drewN|apply keep_drew|apply keep_alloc|refine keep_far ?_ GW788.out _|refine keep_far ?_ GW789.out _)|exact HK.out)) (KeepBut.of_grown hg g) (Kd.S_base2 HO_790000.out))
      clear HO_790000 HO801
      clear ho hb hg hat
      obtain⟨Ao19,co19,eo19⟩:=Kd.S_slice HO806.out
      (first|subst eo19|(injection eo19 with f1_ f2_ f3_;have f4_:=f1_.symm;have f5_:=f3_.symm;clear f1_ f2_ f3_;subst f4_;subst f5_))
      refine hK.out _ _ ⟨(blk_cell BK789.out 0).trans rfl,(blk_cell BK789.out 1).trans rfl,(blk_cell BK789.out 2).trans rfl⟩ (fun hHeld=>?_)
      clear hK K
      refine norm_ (a':=?_) ?_ ?_
      rotate_left
      ·show Act.put _ (some 27) _=_
       simp only [Act.put,List.setIfInBounds_toArray,List.set_cons_zero,List.set_cons_succ,i64_w,i32_w]
       rfl
      refine zp1 HT_ 7 28 (mb' 9 255) rfl ?_
      refine last_ (i:=8) (N:=none) (mb' 9 511) rfl rfl (one_of HT_.out (by kernel_rfl)) (by decide) (fun K hK=>?_)
      have hs20:w17.cell? ⟨gb789,0,none⟩=some (u790000):=(blk_cell BK789.out 0).trans rfl
      have hfs20:=blk_frozen BK789.out 0
      have hns20_0:=NB788_789.out
      have hms20_0:=NB789_788.out
      refine skip_ (w1:=?_) (by rfl) rfl ?_ ?_
      rotate_left
      ·go_simp
       rfl
      refine hK.out _ _ ?_
      clear hK K
      refine done_ (done_of HT_.out (by kernel_rfl)) ?_
      try go_wp2
      go_roundg k2
      case measure=>have:=HJ4.out;have:=HK2.out;omega
      case rel=>exact⟨(wrap64 (x6_2+1)),(t802),(t803),(y804),(.slice Ao19 y804.length co19),zrs,H',⟨by have:=HJ4.out;have:=HK2.out;omega⟩,⟨by(with_reducible repeat(first|apply Kd.S_alloc|apply Kd.S_drewN|apply Kd.S_drew));exact Kd.S_mono (Kd.S_far (p:=⟨gb789,0,none⟩) (Kd.S_types HO806.out BK789.out (by decide)) (fun _ hk=>hk.2) (.slice Ao19 y804.length co19)) (fun _ hk=>trivial)⟩,⟨by(with_reducible repeat(first|refine blk_drewN ?_ _|refine blk_drew ?_ |refine blk_alloc ?_ _));refine blk_far ?_ NB788_789.out _;(with_reducible repeat(first|refine blk_drewN ?_ _|refine blk_drew ?_ |refine blk_alloc ?_ _));exact BK788.out⟩,⟨by(with_reducible repeat(first|refine blk_drewN ?_ _|refine blk_drew ?_ |refine blk_alloc ?_ _));refine blk_put (cs:= #[u790000,.slice none 0 0,.slice none 0 0]) ?_ 0 _ rfl;(with_reducible repeat(first|refine blk_drewN ?_ _|refine blk_drew ?_ |refine blk_alloc ?_ _));exact BK789.out⟩,⟨by repeat(first|(with_reducible first|exact HI0.out|apply IsS71.alloc|apply IsS71.drewN|apply IsS71.drew|apply IsS71.set_1|apply IsS71.set_2|refine IsS71.far ?_ NB0_788.out _|refine IsS71.far ?_ NB0_789.out _)|exact HI0.out)⟩,⟨by repeat(first|(with_reducible first|exact HK.out|apply KeepBut.set_|apply keep_drewN|apply keep_drew|apply keep_alloc|refine keep_far ?_ GW788.out _|refine keep_far ?_ GW789.out _)|exact HK.out)⟩,⟨by exact zk6 HB (IsS71.ge HI0.out) GE788.out GE789.out⟩⟩
     ·rw [if_neg c12] at H
      have c12b0:decide (x6_2<x4_4)=false:=decide_eq_false c12
      clear c12
      have H':=Aside0.mk H
      clear H
      have hMw0:w.heap.size≤wr.heap.size:=keep_size (w:=w) (g:=g) (row:=none) HK.out
      have hM00:w0.heap.size≤wr.heap.size:=HB.out.size
      have o0_:=Aside0.mk (Kd.S_mono (Kd.S_bound HO_790000.out) (fun k_ hk=>(hk.2.2.1:k_<wr.heap.size)))
      obtain⟨M,hM⟩ :∃ M,M=wr.heap.size:=⟨_,rfl⟩
      have hMw:w.heap.size≤M:=by rw [hM];exact hMw0
      have hM0:w0.heap.size≤M:=by rw [hM];exact hM00
      rw [← hM] at o0_
      clear HO_790000 hMw0 hM00
      have HO_790000:=o0_
      clear o0_
      go_wp2
      go_loopg [7] k2 (fun kq v7 w'=> ∃ (x7_3:Int) (x1001_3:Int) (x1002_3:Int) (x790001_3:List (List Int)) (x790002_3:List Int) (u790001:Value) (u790002:Value),v7= .int .i64 x7_3∧Aside0 (spec_l1Cur_serveWishes.l1 kq x4_4 x5_4 x7_3 s0_0 x1001_3 x1002_3 x790000_2 x790001_3 x790002_3=some (r1,r2,r3,r4,r5))∧Aside0 (kq≤k2)∧Aside0 (Kd.S (Kd.slice 3 (Kd.int .i64)) 22 w' w.heap.size (fun k_=>some k_≠ (u790001:Value).ownBlock∧ (some k_≠ (u790002:Value).ownBlock∧k_<M)) u790000 x790000_2)∧Aside0 (Kd.S (Kd.slice 3 (Kd.int .i64)) 22 w' M (fun k_=>some k_≠ (u790000:Value).ownBlock∧some k_≠ (u790002:Value).ownBlock) u790001 x790001_3)∧Aside0 (Kd.R (Kd.int .i64) 3 w' w.heap.size (fun _=>True) u790002 x790002_3)∧Aside0 (w'.heap[gb788]?=some (.cells #[(.slice none 0 0),(.slice none 0 0),(.slice none 0 0)] 33 (0,0)))∧Aside0 (w'.heap[gb789]?=some (.cells #[u790000,u790001,u790002] 33 (0,0)))∧Aside0 (IsS71 w0 w' g s0_0 x1001_3 x1002_3)∧Aside0 (KeepBut w w' g none)∧Aside0 (Below w0.heap.size w0 w')∧Aside0 (M≤w'.heap.size))
      case atStart=>exact⟨(0),(x1001_2),(x1002_2),(([] :List (List Int))),(([] :List Int)),(.slice none 0 0),(.slice none 0 0),zrs,H',⟨Nat.le_refl _⟩,⟨by(with_reducible repeat(first|apply Kd.S_alloc|apply Kd.S_drewN|apply Kd.S_drew));exact Kd.S_mono HO_790000.out (fun _ hk=>⟨(by simp [Value.ownBlock]),(by simp [Value.ownBlock]),hk⟩)⟩,⟨by first|exact Kd.S_nil _ _ _ _ _|exact Kd.N_nil _ _ _ _ _|exact Kd.V_nil _ _ _ _ _|exact Kd.Q_nil _ _ _ _ _|exact Kd.R_nil _ _ _ _ _⟩,⟨by first|exact Kd.R_nil _ _ _ _ _|exact Kd.N_nil _ _ _ _ _|exact Kd.V_nil _ _ _ _ _|exact Kd.Q_nil _ _ _ _ _|exact Kd.S_nil _ _ _ _ _⟩,⟨by(with_reducible repeat(first|refine blk_drewN ?_ _|refine blk_drew ?_ |refine blk_alloc ?_ _));exact BK788.out⟩,⟨by(with_reducible repeat(first|refine blk_drewN ?_ _|refine blk_drew ?_ |refine blk_alloc ?_ _));exact BK789.out⟩,⟨by repeat(first|(with_reducible first|exact HI0.out|apply IsS71.alloc|apply IsS71.drewN|apply IsS71.drew|apply IsS71.set_1|apply IsS71.set_2|refine IsS71.far ?_ NB0_788.out _|refine IsS71.far ?_ NB0_789.out _)|exact HI0.out)⟩,⟨by repeat(first|(with_reducible first|exact HK.out|apply KeepBut.set_|apply keep_drewN|apply keep_drew|apply keep_alloc|refine keep_far ?_ GW788.out _|refine keep_far ?_ GW789.out _)|exact HK.out)⟩,⟨by exact zk6 HB (IsS71.ge HI0.out) GE788.out GE789.out⟩,⟨by rw [hM];exact Nat.le_refl _⟩⟩
      case round=>
       clear H'
       try clear c1
       try clear p2
       try clear c6
       try clear p6
       try clear c11
       try clear c12
       try clear c12b0
       try clear c14
       try clear p2
       try clear p6
       obtain⟨x7_3,x1001_3,x1002_3,x790001_3,x790002_3,u790001,u790002,rfl,HA,HK3,HO_790000,HO_790001,HO_790002,BK788,BK789,HI0,HK,HB,HMS⟩:=hrel
       cases gk with
       |zero=>exact absurd HA.out (by simp [spec_l1Cur_serveWishes.l1])
       |succ k3=>
        have H:=HA.out
        clear HA
        simp only [spec_l1Cur_serveWishes.l1] at H
        by_cases c21:x7_3<x5_4
        ·rw [if_pos c21] at H
         have c21b0:decide (x7_3<x5_4)=true:=decide_eq_true c21
         clear c21
         replace H:=Option.bind_eq_some_iff.mp H
         obtain⟨⟨t807,t810,t811⟩,A220,H⟩:=H
         replace H:(if x790001_3.length< 5864062014805 then((spec_l1Cur_pick.f s0_0 t810 t811 3).bind fun bt815=>(if x790002_3.length< 17592186044416 then(spec_l1Cur_serveWishes.l1 k3 x4_4 x5_4 (wrap64 (x7_3+1)) s0_0 bt815.2.1 bt815.2.2 x790000_2 (x790001_3++ [t807]) (x790002_3++ [bt815.1])) else(none))) else(none))=some (r1,r2,r3,r4,r5):=H
         have A22:=Aside0.mk A220
         clear A220
         by_cases c23:x790001_3.length< 5864062014805
         case neg=>exact znn c23 H
         rw [if_pos c23] at H
         have LMc23:=Aside0.mk c23
         clear c23
         obtain⟨y812,hy812⟩ :∃ y_:List (List Int),y_= (x790001_3++ [t807]):=⟨_,rfl⟩
         replace H:((spec_l1Cur_pick.f s0_0 t810 t811 3).bind fun bt815=>(if x790002_3.length< 17592186044416 then(spec_l1Cur_serveWishes.l1 k3 x4_4 x5_4 (wrap64 (x7_3+1)) s0_0 bt815.2.1 bt815.2.2 x790000_2 y812 (x790002_3++ [bt815.1])) else(none)))=some (r1,r2,r3,r4,r5):=zfh hy812 H
         have Ny812:=Aside0.mk hy812
         clear hy812
         replace H:=Option.bind_eq_some_iff.mp H
         obtain⟨⟨t815,t816,t817⟩,A240,H⟩:=H
         replace H:(if x790002_3.length< 17592186044416 then(spec_l1Cur_serveWishes.l1 k3 x4_4 x5_4 (wrap64 (x7_3+1)) s0_0 t816 t817 x790000_2 y812 (x790002_3++ [t815])) else(none))=some (r1,r2,r3,r4,r5):=H
         have A24:=Aside0.mk A240
         clear A240
         by_cases c25:x790002_3.length< 17592186044416
         case neg=>exact znn c25 H
         rw [if_pos c25] at H
         have LMc25:=Aside0.mk c25
         clear c25
         obtain⟨y818,hy818⟩ :∃ y_:List Int,y_= (x790002_3++ [t815]):=⟨_,rfl⟩
         replace H:(spec_l1Cur_serveWishes.l1 k3 x4_4 x5_4 (wrap64 (x7_3+1)) s0_0 t816 t817 x790000_2 y812 y818)=some (r1,r2,r3,r4,r5):=zfh hy818 H
         have Ny818:=Aside0.mk hy818
         clear hy818
         have H':=Aside0.mk H
         clear H
         try go_wp2
         replace HO_790000:=Aside0.mk (Kd.S_drew HO_790000.out)
         replace HO_790001:=Aside0.mk (Kd.S_drew HO_790001.out)
         replace HO_790002:=Aside0.mk (Kd.R_drew HO_790002.out)
         replace BK788:=Aside0.mk (blk_drew BK788.out)
         replace BK789:=Aside0.mk (blk_drew BK789.out)
         replace HI0:=Aside0.mk (IsS71.drew HI0.out)
         replace HK:=Aside0.mk (keep_drew HK.out)
         replace HB:=Aside0.mk (below_drew1 HB.out)
         refine start_ (n:=9) (S:=fun w'=>w'.cell? ⟨gb789,0,none⟩=some (u790000)∧w'.cell? ⟨gb789,1,none⟩=some (u790001)∧w'.cell? ⟨gb789,2,none⟩=some (u790002)) (ds:= [8]) (mb' 9 0) (by kernel_rfl) rfl rfl ⟨(blk_cell BK789.out 0).trans rfl,(blk_cell BK789.out 1).trans rfl,(blk_cell BK789.out 2).trans rfl⟩ (fun hHeld=>?_);refine with_tabW spec_l1Cur_serveWishes.tab14 spec_l1Cur_serveWishes.bits14 (fun HT_ HW_=>?_)
         replace HMS:=Aside0.mk (show M≤wr.drew.heap.size from HMS.out)
         generalize wr.drew=w26 at HO_790000 HO_790001 HO_790002 BK788 BK789 HI0 HK HB HMS hHeld ⊢
         refine zp1 HT_ 0 34 (mb' 9 1) rfl ?_
         refine zp1 HT_ 2 36 (mb' 9 5) rfl ?_
         refine zp1 HT_ 3 37 (mb' 9 13) rfl ?_
         refine zt1 HT_ HW_ (v:=?_) (a':=?_) 1 35 (mb' 9 15) rfl ?_ hHeld ?_ ?_;rotate_left;(rintro w' ⟨s0,s1,s2⟩;go_simp;with_reducible rfl);rotate_left;exact zpa
         refine one_ (i:=4) (N:=some 38) (mb' 9 31) rfl rfl (one_of HT_.out (by kernel_rfl)) (by decide) (fun K hK=>?_)
         refine goes_ Try.func64 (by kernel_rfl) rfl #[.pointer (some ⟨g,0,none⟩),.int .i64 x4_4] (by rfl) rfl rfl zq2 ?_
         with_reducible refine(spec_l1Cur_mixed.calls k3 g s0_0 x1001_3 x1002_3 x4_4 t807 t810 t811 w0 _ ?side1 ?side2 A22.out).mono ?_
         (case side1=>repeat(first|(with_reducible first|exact HI0.out|apply IsS71.alloc|apply IsS71.drewN|apply IsS71.drew|apply IsS71.set_1|apply IsS71.set_2|refine IsS71.far ?_ NB0_788.out _|refine IsS71.far ?_ NB0_789.out _)|exact HI0.out))
         (case side2=>exact zk6 HB (IsS71.ge HI0.out) GE788.out GE789.out)
         rintro e w27 ⟨v808,rfl,ho0,hi,hb,hk⟩
         refine⟨_,rfl,?_⟩
         have n0_:=Aside0.mk (Kd.S_mono (Kd.S_told (Kd.S_oldK (IsS71.apartS (show IsS71 w0 _ g s0_0 x1001_3 x1002_3 from by repeat(first|(with_reducible first|exact HI0.out|apply IsS71.alloc|apply IsS71.drewN|apply IsS71.drew|apply IsS71.set_1|apply IsS71.set_2|refine IsS71.far ?_ NB0_788.out _|refine IsS71.far ?_ NB0_789.out _)|exact HI0.out)) (by(with_reducible repeat(first|apply Kd.S_alloc|apply Kd.S_drewN|apply Kd.S_drew));exact HO_790000.out) (by decide)) hk) (Kd.R_base ho0)) (fun _ h_=>h_.1))
         have n1_:=Aside0.mk (Kd.S_mono (Kd.S_told (Kd.S_oldK (IsS71.apartS (show IsS71 w0 _ g s0_0 x1001_3 x1002_3 from by repeat(first|(with_reducible first|exact HI0.out|apply IsS71.alloc|apply IsS71.drewN|apply IsS71.drew|apply IsS71.set_1|apply IsS71.set_2|refine IsS71.far ?_ NB0_788.out _|refine IsS71.far ?_ NB0_789.out _)|exact HI0.out)) (by(with_reducible repeat(first|apply Kd.S_alloc|apply Kd.S_drewN|apply Kd.S_drew));exact HO_790001.out) (by decide)) hk) (Kd.R_base ho0)) (fun _ h_=>h_.1))
         have n2_:=Aside0.mk (Kd.R_mono (Kd.R_told (Kd.R_oldK (IsS71.apart (show IsS71 w0 _ g s0_0 x1001_3 x1002_3 from by repeat(first|(with_reducible first|exact HI0.out|apply IsS71.alloc|apply IsS71.drewN|apply IsS71.drew|apply IsS71.set_1|apply IsS71.set_2|refine IsS71.far ?_ NB0_788.out _|refine IsS71.far ?_ NB0_789.out _)|exact HI0.out)) (zq4 HO_790002) (by decide)) hk) (Kd.R_base ho0)) (fun _ h_=>h_.1))
         have n3_:=Aside0.mk (KeepBut.blk hk (g':=gb788) (o:= .cells #[.slice none 0 0,.slice none 0 0,.slice none 0 0] 33 (0,0)) (zq3 BK788) NB788_0.out (by simp))
         have n4_:=Aside0.mk (KeepBut.blk hk (g':=gb789) (o:= .cells #[u790000,u790001,u790002] 33 (0,0)) (zq3 BK789) NB789_0.out (by simp))
         have n5_:=Aside0.mk (Kd.R_lower (Kd.R_new' ho0 (Kd.R_lt (zq4 HO_790002))) HMS.out)
         have hm_:=Nat.le_trans HMS.out hk.1
         have n6_:=Aside0.mk (KeepBut.trans (by repeat(first|(with_reducible first|exact HK.out|apply KeepBut.set_|apply keep_drewN|apply keep_drew|apply keep_alloc|refine keep_far ?_ GW788.out _|refine keep_far ?_ GW789.out _)|exact HK.out)) hk (.inl rfl))
         have n7_:=Aside0.mk (hb)
         have n8_:=Aside0.mk (hi)
         clear HO_790000
         clear HO_790001
         clear HO_790002
         clear BK788
         clear BK789
         clear HK
         clear HB
         clear HI0
         have HO_790000:=n0_
         have HO_790001:=n1_
         have HO_790002:=n2_
         have BK788:=n3_
         have BK789:=n4_
         have HO809:=n5_
         have HK:=n6_
         have HB:=n7_
         have HI0:=n8_
         clear n0_ n1_ n2_ n3_ n4_ n5_ n6_ n7_ n8_
         (try clear hb)
         (try clear hb2)
         (try clear hk)
         (try clear hi)
         (try clear ho0)
         obtain⟨Ao29,co29,eo29⟩:=Kd.R_slice HO809.out
         (first|subst eo29|(injection eo29 with f1_ f2_ f3_;have f4_:=f1_.symm;have f5_:=f3_.symm;clear f1_ f2_ f3_;subst f4_;subst f5_))
         refine hK.out _ _ ⟨(blk_cell BK789.out 0).trans rfl,(blk_cell BK789.out 1).trans rfl,(blk_cell BK789.out 2).trans rfl⟩ (fun hHeld=>?_)
         clear hK K
         refine norm_ (a':=?_) ?_ ?_
         rotate_left
         ·show Act.put _ (some 38) _=_
          simp only [Act.put,List.setIfInBounds_toArray,List.set_cons_zero,List.set_cons_succ,i64_w,i32_w]
          rfl
         refine one_ (i:=5) (N:=some 39) (mb' 9 63) rfl rfl (one_of HT_.out (by kernel_rfl)) (by decide) (fun K hK=>?_)
         refine value_ (w1:=?_) (v:=?_) (by rfl) rfl ?_ ?_
         rotate_left 2
         ·go_simp
          constructor
          ·rfl
          ·rfl
         refine hK.out _ _ ⟨(blk_cell (blk_alloc BK789.out _) 0).trans rfl,(blk_cell (blk_alloc BK789.out _) 1).trans rfl,(blk_cell (blk_alloc BK789.out _) 2).trans rfl⟩ (fun hHeld=>?_)
         clear hK K
         refine norm_ (a':=?_) ?_ ?_
         rotate_left
         ·show Act.put _ (some 39) _=_
          simp only [Act.put,List.setIfInBounds_toArray,List.set_cons_zero,List.set_cons_succ,i64_w,i32_w]
          rfl
         refine one_ (i:=6) (N:=some 40) (mb' 9 127) rfl rfl (one_of HT_.out (by kernel_rfl)) (by decide) (fun K hK=>?_)
         refine Kd.S_append_step (Kd.slice 3 (Kd.int .i64)) M (by rfl) (.tmp 35) (.tmp 39) 28 22 (.slice none 0 0) 24 rfl Try.underlying28 info22 rfl (by decide) (by omega) u790001 x790001_3 t807 [.slice Ao29 t807.length co29] (fun k_=>some k_≠ (u790000:Value).ownBlock∧some k_≠ (u790002:Value).ownBlock) (fun k_=>some k_= (.slice Ao29 t807.length co29:Value).ownBlock) rfl rfl ?aP (fun k_ hk_=>((Kd.R_mono (ok':=fun k_=>((fun k_=>some k_≠ (u790000:Value).ownBlock∧some k_≠ (u790002:Value).ownBlock)) k_∧some k_≠ (u790001:Value).ownBlock) (Kd.R_apart' (Kd.R_apart' (HO809.out) (Kd.S_typed HO_790000.out) (by decide)) (Kd.S_typed HO_790001.out) (by decide)) (fun k_ hk=>⟨⟨hk.1.2,hk.1.1.2⟩,hk.2⟩))).1 k_ hk_.symm) ?aF ?aO (Below.refl _ _) ?aS ?aL ?_
         (case aP=>exact Kd.M_row (Kd.R_mono (Kd.R_tight rfl (Kd.R_mono (ok':=fun k_=>((fun k_=>some k_≠ (u790000:Value).ownBlock∧some k_≠ (u790002:Value).ownBlock)) k_∧some k_≠ (u790001:Value).ownBlock) (Kd.R_apart' (Kd.R_apart' (HO809.out) (Kd.S_typed HO_790000.out) (by decide)) (Kd.S_typed HO_790001.out) (by decide)) (fun k_ hk=>⟨⟨hk.1.2,hk.1.1.2⟩,hk.2⟩))) (fun _ h_=>h_)))
         (case aF=>exact(fun k_ hk=>⟨Kd.fresh' (Kd.S_lt (by(with_reducible repeat(first|apply Kd.S_alloc|apply Kd.S_drewN|apply Kd.S_drew));exact HO_790000.out)) k_ hk,Kd.fresh' (Kd.R_lt (zq4 HO_790002)) k_ hk⟩))
         (case aO=>exact(by(with_reducible repeat(first|apply Kd.S_alloc|apply Kd.S_drewN|apply Kd.S_drew));exact Kd.S_mono HO_790001.out (fun k_ hk=>⟨⟨hk.1.1,hk.1.2⟩,fun e_=>hk.2 e_⟩)))
         (case aS=>exact hm_)
         (case aL=>have:=LMc23.out;omega)
         intro v813 w28 ho hb hg hat
         rw [← Ny812.out] at ho
         have HO814:=Aside0.mk (ho)
         replace HO_790000:=Aside0.mk (Kd.S_after (ok:=(fun k_=>(some k_≠ (u790002:Value).ownBlock∧k_<M)∧some k_≠ (.slice Ao29 t807.length co29:Value).ownBlock)) (by(with_reducible repeat(first|apply Kd.S_alloc|apply Kd.S_drewN|apply Kd.S_drew));exact Kd.S_mono HO_790000.out (fun _ hk=>⟨⟨hk.1.2,hk.2⟩,hk.1.1⟩)) hg hat)
         replace HO_790002:=Aside0.mk (Kd.R_over' (zq4 HO_790002) (Kd.S_typed (by(with_reducible repeat(first|apply Kd.S_alloc|apply Kd.S_drewN|apply Kd.S_drew));exact HO_790001.out)) (by decide) hg)
         replace BK788:=Aside0.mk (blk_grown (g:=gb788) (o:= .cells #[.slice none 0 0,.slice none 0 0,.slice none 0 0] 33 (0,0)) (zq3 BK788) hg (Kd.S_ne HO_790001.out BK788.out (by decide)))
         replace BK789:=Aside0.mk (blk_grown (g:=gb789) (o:= .cells #[u790000,u790001,u790002] 33 (0,0)) (zq3 BK789) hg (Kd.S_ne HO_790001.out BK789.out (by decide)))
         replace HB:=Aside0.mk (below_weaken (by exact zk6 HB (IsS71.ge HI0.out) GE788.out GE789.out) hM0 hb)
         replace HI0:=Aside0.mk (IsS71.grown (by repeat(first|(with_reducible first|exact HI0.out|apply IsS71.alloc|apply IsS71.drewN|apply IsS71.drew|apply IsS71.set_1|apply IsS71.set_2|refine IsS71.far ?_ NB0_788.out _|refine IsS71.far ?_ NB0_789.out _)|exact HI0.out)) hg (IsS71.own_neS HI0.out HO_790001.out (by decide)))
         replace HK:=Aside0.mk (KeepBut.trans (by repeat(first|(with_reducible first|exact HK.out|apply KeepBut.set_|apply keep_drewN|apply keep_drew|apply keep_alloc|refine keep_far ?_ GW788.out _|refine keep_far ?_ GW789.out _)|exact HK.out)) (KeepBut.of_grown hg g) (Kd.S_base2 (Kd.S_lower HO_790001.out hMw)))
         clear HO_790001 HO809
         clear ho hb hg hat
         obtain⟨Ao30,co30,eo30⟩:=Kd.S_slice HO814.out
         (first|subst eo30|(injection eo30 with f1_ f2_ f3_;have f4_:=f1_.symm;have f5_:=f3_.symm;clear f1_ f2_ f3_;subst f4_;subst f5_))
         refine hK.out _ _ ⟨(blk_cell BK789.out 0).trans rfl,(blk_cell BK789.out 1).trans rfl,(blk_cell BK789.out 2).trans rfl⟩ (fun hHeld=>?_)
         clear hK K
         refine norm_ (a':=?_) ?_ ?_
         rotate_left
         ·show Act.put _ (some 40) _=_
          simp only [Act.put,List.setIfInBounds_toArray,List.set_cons_zero,List.set_cons_succ,i64_w,i32_w]
          rfl
         refine zp1 HT_ 7 41 (mb' 9 255) rfl ?_
         refine last_ (i:=8) (N:=none) (mb' 9 511) rfl rfl (one_of HT_.out (by kernel_rfl)) (by decide) (fun K hK=>?_)
         have hs31:w28.cell? ⟨gb789,1,none⟩=some (u790001):=(blk_cell BK789.out 1).trans rfl
         have hfs31:=blk_frozen BK789.out 1
         have hns31_0:=NB788_789.out
         have hms31_0:=NB789_788.out
         refine skip_ (w1:=?_) (by rfl) rfl ?_ ?_
         rotate_left
         ·go_simp
          rfl
         refine hK.out _ _ ?_
         clear hK K
         refine done_ (done_of HT_.out (by kernel_rfl)) ?_
         try go_wp2
         have n0_:Aside0 (Kd.S (Kd.slice 3 (Kd.int .i64)) 22 (w28.setCell ⟨gb789,1,none⟩ (.slice Ao30 y812.length co30)) w.heap.size (fun k_=>(some k_≠ (u790002:Value).ownBlock∧k_<M)∧some k_≠ (.slice Ao30 y812.length co30:Value).ownBlock) u790000 x790000_2):=⟨by(with_reducible repeat(first|apply Kd.S_alloc|apply Kd.S_drewN|apply Kd.S_drew));exact Kd.S_mono (Kd.S_far (p:=⟨gb789,1,none⟩) (Kd.S_types HO_790000.out BK789.out (by decide)) (fun _ hk=>hk.2) (.slice Ao30 y812.length co30)) (fun _ hk=>⟨hk.1.1.1,hk.1.2⟩)⟩
         have n1_:Aside0 (Kd.R (Kd.int .i64) 3 (w28.setCell ⟨gb789,1,none⟩ (.slice Ao30 y812.length co30)) w.heap.size (fun _=>True) u790002 x790002_3):=⟨by(with_reducible repeat(first|apply Kd.R_alloc|apply Kd.R_drewN|apply Kd.R_drew));exact Kd.R_mono (Kd.R_far (p:=⟨gb789,1,none⟩) (Kd.R_types HO_790002.out BK789.out (by decide)) (fun _ hk=>hk.2) (.slice Ao30 y812.length co30)) (fun _ hk=>trivial)⟩
         have n2_:Aside0 (Kd.S (Kd.slice 3 (Kd.int .i64)) 22 (w28.setCell ⟨gb789,1,none⟩ (.slice Ao30 y812.length co30)) M (fun k_=>some k_≠ (u790000:Value).ownBlock∧some k_≠ (u790002:Value).ownBlock) (.slice Ao30 y812.length co30) y812):=⟨by(with_reducible repeat(first|apply Kd.S_alloc|apply Kd.S_drewN|apply Kd.S_drew));exact Kd.S_mono (Kd.S_far (p:=⟨gb789,1,none⟩) (Kd.S_types HO814.out BK789.out (by decide)) (fun _ hk=>hk.2) (.slice Ao30 y812.length co30)) (fun _ hk=>⟨hk.1.1,hk.1.2⟩)⟩
         have n3_:Aside0 ((w28.setCell ⟨gb789,1,none⟩ (.slice Ao30 y812.length co30)).heap[gb788]?=some (.cells #[.slice none 0 0,.slice none 0 0,.slice none 0 0] 33 (0,0))):=⟨by(with_reducible repeat(first|refine blk_drewN ?_ _|refine blk_drew ?_ |refine blk_alloc ?_ _));refine blk_far ?_ NB788_789.out _;(with_reducible repeat(first|refine blk_drewN ?_ _|refine blk_drew ?_ |refine blk_alloc ?_ _));exact BK788.out⟩
         have n4_:Aside0 ((w28.setCell ⟨gb789,1,none⟩ (.slice Ao30 y812.length co30)).heap[gb789]?=some (.cells #[u790000,.slice Ao30 y812.length co30,u790002] 33 (0,0))):=⟨by(with_reducible repeat(first|refine blk_drewN ?_ _|refine blk_drew ?_ |refine blk_alloc ?_ _));refine blk_put (cs:= #[u790000,u790001,u790002]) ?_ 1 _ rfl;(with_reducible repeat(first|refine blk_drewN ?_ _|refine blk_drew ?_ |refine blk_alloc ?_ _));exact BK789.out⟩
         have n5_:Aside0 (IsS71 w0 (w28.setCell ⟨gb789,1,none⟩ (.slice Ao30 y812.length co30)) g s0_0 t810 t811):=⟨by repeat(first|(with_reducible first|exact HI0.out|apply IsS71.alloc|apply IsS71.drewN|apply IsS71.drew|apply IsS71.set_1|apply IsS71.set_2|refine IsS71.far ?_ NB0_788.out _|refine IsS71.far ?_ NB0_789.out _)|exact HI0.out)⟩
         have n6_:Aside0 (KeepBut w (w28.setCell ⟨gb789,1,none⟩ (.slice Ao30 y812.length co30)) g none):=⟨by repeat(first|(with_reducible first|exact HK.out|apply KeepBut.set_|apply keep_drewN|apply keep_drew|apply keep_alloc|refine keep_far ?_ GW788.out _|refine keep_far ?_ GW789.out _)|exact HK.out)⟩
         have n7_:Aside0 (Below w0.heap.size w0 (w28.setCell ⟨gb789,1,none⟩ (.slice Ao30 y812.length co30))):=⟨by exact zk6 HB (IsS71.ge HI0.out) GE788.out GE789.out⟩
         (try clear HO_790000)
         (try clear HO_790002)
         (try clear HO814)
         (try clear BK788)
         (try clear BK789)
         (try clear HI0)
         (try clear HK)
         (try clear HB)
         (try simp only [show ∀ (W_:World) (n_:Nat) (a_:Addr) (v_:Value),(World.drewN W_ n_).setCell a_ v_= (World.setCell W_ a_ v_).drewN n_ from fun _ _ _ _=>rfl])
         generalize (w28.setCell ⟨gb789,1,none⟩ (.slice Ao30 y812.length co30))=w32 at n0_ n1_ n2_ n3_ n4_ n5_ n6_ n7_ ⊢
         have HO_790000:=n0_
         have HO_790002:=n1_
         have HO814:=n2_
         have BK788:=n3_
         have BK789:=n4_
         have HI0:=n5_
         have HK:=n6_
         have HB:=n7_
         clear n0_ n1_ n2_ n3_ n4_ n5_ n6_ n7_
         replace HO_790000:=Aside0.mk (Kd.S_drew HO_790000.out)
         replace HO_790002:=Aside0.mk (Kd.R_drew HO_790002.out)
         replace HO814:=Aside0.mk (Kd.S_drew HO814.out)
         replace BK788:=Aside0.mk (blk_drew BK788.out)
         replace BK789:=Aside0.mk (blk_drew BK789.out)
         replace HI0:=Aside0.mk (IsS71.drew HI0.out)
         replace HK:=Aside0.mk (keep_drew HK.out)
         replace HB:=Aside0.mk (below_drew1 HB.out)
         refine start_ (n:=8) (S:=fun w'=>w'.cell? ⟨gb789,0,none⟩=some (u790000)∧w'.cell? ⟨gb789,1,none⟩=some (.slice Ao30 y812.length co30)∧w'.cell? ⟨gb789,2,none⟩=some (u790002)) (ds:= [7]) (mb' 8 0) (by kernel_rfl) rfl rfl ⟨(blk_cell BK789.out 0).trans rfl,(blk_cell BK789.out 1).trans rfl,(blk_cell BK789.out 2).trans rfl⟩ (fun hHeld=>?_);refine with_tabW spec_l1Cur_serveWishes.tab15 spec_l1Cur_serveWishes.bits15 (fun HT_ HW_=>?_)
         generalize w32.drew=w33 at HO_790000 HO_790002 HO814 BK788 BK789 HI0 HK HB hHeld ⊢
         refine zp1 HT_ 0 42 (mb' 8 1) rfl ?_
         refine zp1 HT_ 2 44 (mb' 8 5) rfl ?_
         refine zt1 HT_ HW_ (v:=?_) (a':=?_) 1 43 (mb' 8 7) rfl ?_ hHeld ?_ ?_;rotate_left;(rintro w' ⟨s0,s1,s2⟩;go_simp;with_reducible rfl);rotate_left;exact zpa
         refine one_ (i:=3) (N:=some 45) (mb' 8 15) rfl rfl (one_of HT_.out (by kernel_rfl)) (by decide) (fun K hK=>?_)
         refine goes_ Try.func65 (by kernel_rfl) rfl #[.pointer (some ⟨g,0,none⟩),.int .i64 3] (by rfl) rfl rfl zq2 ?_
         with_reducible refine(spec_l1Cur_pick.calls g s0_0 t810 t811 3 t815 t816 t817 w0 _ ?side1 ?side2 A24.out).mono ?_
         (case side1=>repeat(first|(with_reducible first|exact HI0.out|apply IsS71.alloc|apply IsS71.drewN|apply IsS71.drew|apply IsS71.set_1|apply IsS71.set_2|refine IsS71.far ?_ NB0_788.out _|refine IsS71.far ?_ NB0_789.out _)|exact HI0.out))
         (case side2=>exact zk6 HB (IsS71.ge HI0.out) GE788.out GE789.out)
         rintro e w34 ⟨rfl,hi,hb,hk⟩
         refine⟨_,rfl,?_⟩
         replace HO_790000:=Aside0.mk (Kd.S_mono (Kd.S_keep (IsS71.apartS (show IsS71 w0 _ g s0_0 t810 t811 from by repeat(first|(with_reducible first|exact HI0.out|apply IsS71.alloc|apply IsS71.drewN|apply IsS71.drew|apply IsS71.set_1|apply IsS71.set_2|refine IsS71.far ?_ NB0_788.out _|refine IsS71.far ?_ NB0_789.out _)|exact HI0.out)) (by(with_reducible repeat(first|apply Kd.S_alloc|apply Kd.S_drewN|apply Kd.S_drew));exact HO_790000.out) (by decide)) hk (fun _ h=>h.2)) (fun _ h=>h.1))
         replace HO_790002:=Aside0.mk (Kd.R_mono (Kd.R_keep (IsS71.apart (show IsS71 w0 _ g s0_0 t810 t811 from by repeat(first|(with_reducible first|exact HI0.out|apply IsS71.alloc|apply IsS71.drewN|apply IsS71.drew|apply IsS71.set_1|apply IsS71.set_2|refine IsS71.far ?_ NB0_788.out _|refine IsS71.far ?_ NB0_789.out _)|exact HI0.out)) (zq4 HO_790002) (by decide)) hk (fun _ h=>h.2)) (fun _ h=>h.1))
         replace BK788:=Aside0.mk (KeepBut.blk hk (g':=gb788) (o:= .cells #[.slice none 0 0,.slice none 0 0,.slice none 0 0] 33 (0,0)) (zq3 BK788) NB788_0.out (by simp))
         replace BK789:=Aside0.mk (KeepBut.blk hk (g':=gb789) (o:= .cells #[u790000,.slice Ao30 y812.length co30,u790002] 33 (0,0)) (zq3 BK789) NB789_0.out (by simp))
         replace HO814:=Aside0.mk (Kd.S_mono (Kd.S_keep (IsS71.apartS (show IsS71 w0 _ g s0_0 t810 t811 from by repeat(first|(with_reducible first|exact HI0.out|apply IsS71.alloc|apply IsS71.drewN|apply IsS71.drew|apply IsS71.set_1|apply IsS71.set_2|refine IsS71.far ?_ NB0_788.out _|refine IsS71.far ?_ NB0_789.out _)|exact HI0.out)) (by(with_reducible repeat(first|apply Kd.S_alloc|apply Kd.S_drewN|apply Kd.S_drew));exact HO814.out) (by decide)) hk (fun _ h=>h.2)) (fun _ h=>h.1))
         replace HK:=Aside0.mk (KeepBut.trans (by repeat(first|(with_reducible first|exact HK.out|apply KeepBut.set_|apply keep_drewN|apply keep_drew|apply keep_alloc|refine keep_far ?_ GW788.out _|refine keep_far ?_ GW789.out _)|exact HK.out)) hk (.inl rfl))
         replace HB:=Aside0.mk (hb)
         replace HI0:=Aside0.mk (hi)
         (try clear hb)
         (try clear hb2)
         (try clear hk)
         (try clear hi)
         refine hK.out _ _ ⟨(blk_cell BK789.out 0).trans rfl,(blk_cell BK789.out 1).trans rfl,(blk_cell BK789.out 2).trans rfl⟩ (fun hHeld=>?_)
         clear hK K
         refine norm_ (a':=?_) ?_ ?_
         rotate_left
         ·show Act.put _ (some 45) _=_
          simp only [Act.put,List.setIfInBounds_toArray,List.set_cons_zero,List.set_cons_succ,i64_w,i32_w]
          rfl
         refine one_ (i:=4) (N:=some 46) (mb' 8 31) rfl rfl (one_of HT_.out (by kernel_rfl)) (by decide) (fun K hK=>?_)
         refine value_ (w1:=?_) (v:=?_) (by rfl) rfl ?_ ?_
         rotate_left 2
         ·go_simp
          constructor
          ·rfl
          ·rfl
         refine hK.out _ _ ⟨(blk_cell (blk_alloc BK789.out _) 0).trans rfl,(blk_cell (blk_alloc BK789.out _) 1).trans rfl,(blk_cell (blk_alloc BK789.out _) 2).trans rfl⟩ (fun hHeld=>?_)
         clear hK K
         refine norm_ (a':=?_) ?_ ?_
         rotate_left
         ·show Act.put _ (some 46) _=_
          simp only [Act.put,List.setIfInBounds_toArray,List.set_cons_zero,List.set_cons_succ,i64_w,i32_w]
          rfl
         refine one_ (i:=5) (N:=some 47) (mb' 8 63) rfl rfl (one_of HT_.out (by kernel_rfl)) (by decide) (fun K hK=>?_)
         refine Kd.R_append_step (Kd.int .i64) w.heap.size (by rfl) (.tmp 43) (.tmp 46) 22 3 (.int .i64 0) 8 rfl Try.underlying22 info3 rfl (by decide) (by omega) u790002 x790002_3 t815 [.int .i64 t815] (fun _=>True) (fun _=>False) rfl rfl ?aP (fun _ hk=>hk.elim) ?aF ?aO (Below.refl _ _) ?aS ?aL ?_
         (case aP=>exact rfl)
         (case aF=>exact(fun _ _=>trivial))
         (case aO=>exact(zq4 HO_790002))
         (case aS=>exact(keep_size (w:=w) (g:=g) (row:=none) (by repeat(first|(with_reducible first|exact HK.out|apply KeepBut.set_|apply keep_drewN|apply keep_drew|apply keep_alloc|refine keep_far ?_ GW788.out _|refine keep_far ?_ GW789.out _)|exact HK.out))))
         (case aL=>have:=LMc25.out;omega)
         intro v819 w35 ho hb hg hat
         rw [← Ny818.out] at ho
         have HO820:=Aside0.mk (ho)
         replace HO_790000:=Aside0.mk (Kd.S_after (ok:=(fun k_=>some k_≠ (.slice Ao30 y812.length co30:Value).ownBlock∧k_<M)) (by(with_reducible repeat(first|apply Kd.S_alloc|apply Kd.S_drewN|apply Kd.S_drew));exact Kd.S_mono HO_790000.out (fun _ hk=>⟨⟨hk.2,hk.1.2⟩,hk.1.1⟩)) hg hat)
         replace BK788:=Aside0.mk (blk_grown (g:=gb788) (o:= .cells #[.slice none 0 0,.slice none 0 0,.slice none 0 0] 33 (0,0)) (zq3 BK788) hg (Kd.R_ne HO_790002.out BK788.out (by decide)))
         replace BK789:=Aside0.mk (blk_grown (g:=gb789) (o:= .cells #[u790000,.slice Ao30 y812.length co30,u790002] 33 (0,0)) (zq3 BK789) hg (Kd.R_ne HO_790002.out BK789.out (by decide)))
         replace HO814:=Aside0.mk (Kd.S_after (ok:=(fun k_=>some k_≠ (u790000:Value).ownBlock)) (by(with_reducible repeat(first|apply Kd.S_alloc|apply Kd.S_drewN|apply Kd.S_drew));exact HO814.out) hg hat)
         replace HB:=Aside0.mk (below_weaken (by exact zk6 HB (IsS71.ge HI0.out) GE788.out GE789.out) HL.out hb)
         replace HI0:=Aside0.mk (IsS71.grown (by repeat(first|(with_reducible first|exact HI0.out|apply IsS71.alloc|apply IsS71.drewN|apply IsS71.drew|apply IsS71.set_1|apply IsS71.set_2|refine IsS71.far ?_ NB0_788.out _|refine IsS71.far ?_ NB0_789.out _)|exact HI0.out)) hg (IsS71.own_ne HI0.out HO_790002.out (by decide)))
         replace HK:=Aside0.mk (KeepBut.trans (by repeat(first|(with_reducible first|exact HK.out|apply KeepBut.set_|apply keep_drewN|apply keep_drew|apply keep_alloc|refine keep_far ?_ GW788.out _|refine keep_far ?_ GW789.out _)|exact HK.out)) (KeepBut.of_grown hg g) (Kd.R_base2 HO_790002.out))
         clear HO_790002
         clear ho hb hg hat
         obtain⟨Ao36,co36,eo36⟩:=Kd.R_slice HO820.out
         (first|subst eo36|(injection eo36 with f1_ f2_ f3_;have f4_:=f1_.symm;have f5_:=f3_.symm;clear f1_ f2_ f3_;subst f4_;subst f5_))
         refine hK.out _ _ ⟨(blk_cell BK789.out 0).trans rfl,(blk_cell BK789.out 1).trans rfl,(blk_cell BK789.out 2).trans rfl⟩ (fun hHeld=>?_)
         clear hK K
         refine norm_ (a':=?_) ?_ ?_
         rotate_left
         ·show Act.put _ (some 47) _=_
          simp only [Act.put,List.setIfInBounds_toArray,List.set_cons_zero,List.set_cons_succ,i64_w,i32_w]
          rfl
         refine zp1 HT_ 6 48 (mb' 8 127) rfl ?_
         refine last_ (i:=7) (N:=none) (mb' 8 255) rfl rfl (one_of HT_.out (by kernel_rfl)) (by decide) (fun K hK=>?_)
         have hs37:w35.cell? ⟨gb789,2,none⟩=some (u790002):=(blk_cell BK789.out 2).trans rfl
         have hfs37:=blk_frozen BK789.out 2
         have hns37_0:=NB788_789.out
         have hms37_0:=NB789_788.out
         refine skip_ (w1:=?_) (by rfl) rfl ?_ ?_
         rotate_left
         ·go_simp
          rfl
         refine hK.out _ _ ?_
         clear hK K
         refine done_ (done_of HT_.out (by kernel_rfl)) ?_
         try go_wp2
         go_roundg k3
         case measure=>have:=HJ4.out;have:=HK2.out;have:=HK3.out;omega
         case rel=>exact⟨(wrap64 (x7_3+1)),(t816),(t817),(y812),(y818),(.slice Ao30 y812.length co30),(.slice Ao36 y818.length co36),zrs,H',⟨by have:=HJ4.out;have:=HK2.out;have:=HK3.out;omega⟩,⟨by(with_reducible repeat(first|apply Kd.S_alloc|apply Kd.S_drewN|apply Kd.S_drew));exact Kd.S_mono (Kd.S_far (p:=⟨gb789,2,none⟩) (Kd.S_types HO_790000.out BK789.out (by decide)) (fun _ hk=>hk.2) (.slice Ao36 y818.length co36)) (fun _ hk=>⟨hk.1.1.1,hk.1.2,hk.1.1.2⟩)⟩,⟨by(with_reducible repeat(first|apply Kd.S_alloc|apply Kd.S_drewN|apply Kd.S_drew));exact Kd.S_mono (Kd.S_far (p:=⟨gb789,2,none⟩) (Kd.S_types HO814.out BK789.out (by decide)) (fun _ hk=>hk.2) (.slice Ao36 y818.length co36)) (fun _ hk=>⟨hk.1.1,hk.1.2⟩)⟩,⟨by(with_reducible repeat(first|apply Kd.R_alloc|apply Kd.R_drewN|apply Kd.R_drew));exact Kd.R_mono (Kd.R_far (p:=⟨gb789,2,none⟩) (Kd.R_types HO820.out BK789.out (by decide)) (fun _ hk=>hk.2) (.slice Ao36 y818.length co36)) (fun _ hk=>trivial)⟩,⟨by(with_reducible repeat(first|refine blk_drewN ?_ _|refine blk_drew ?_ |refine blk_alloc ?_ _));refine blk_far ?_ NB788_789.out _;(with_reducible repeat(first|refine blk_drewN ?_ _|refine blk_drew ?_ |refine blk_alloc ?_ _));exact BK788.out⟩,⟨by(with_reducible repeat(first|refine blk_drewN ?_ _|refine blk_drew ?_ |refine blk_alloc ?_ _));refine blk_put (cs:= #[u790000,.slice Ao30 y812.length co30,u790002]) ?_ 2 _ rfl;(with_reducible repeat(first|refine blk_drewN ?_ _|refine blk_drew ?_ |refine blk_alloc ?_ _));exact BK789.out⟩,⟨by repeat(first|(with_reducible first|exact HI0.out|apply IsS71.alloc|apply IsS71.drewN|apply IsS71.drew|apply IsS71.set_1|apply IsS71.set_2|refine IsS71.far ?_ NB0_788.out _|refine IsS71.far ?_ NB0_789.out _)|exact HI0.out)⟩,⟨by repeat(first|(with_reducible first|exact HK.out|apply KeepBut.set_|apply keep_drewN|apply keep_drew|apply keep_alloc|refine keep_far ?_ GW788.out _|refine keep_far ?_ GW789.out _)|exact HK.out)⟩,⟨by exact zk6 HB (IsS71.ge HI0.out) GE788.out GE789.out⟩,⟨by
           have h_:=Kd.S_own HO814.out
           obtain⟨gz_,cz_,ez_,bz_,lz_,_⟩:=Kd.S_form HO814.out (by rw [Ny812.out];simp)
           have h2_:=Nat.le_trans bz_ (Nat.le_of_lt lz_)
           simpa only [World.size_setCell] using h2_⟩⟩
        ·rw [if_neg c21] at H
         have c21b0:decide (x7_3<x5_4)=false:=decide_eq_false c21
         clear c21
         replace H:=Option.bind_eq_some_iff.mp H
         obtain⟨⟨t821,t822,t823⟩,A380,H⟩:=H
         replace H:(if t821=0 then((spec_l1Cur_among.f s0_0 t822 t823 (([(-1),8,9] :List Int))).bind fun bt827=>(if 0< (x790002_3.length:Int) then(some (x790000_2,x790001_3,(x790002_3.set (0:Int).toNat bt827.1),bt827.2.1,bt827.2.2)) else(none))) else(if t821=1 then(if 0< (x790000_2.length:Int) then((spec_l1Cur_pick.f s0_0 t822 t823 9).bind fun bt832=>(if 0< ((rd_L1 x790000_2 0).length:Int) then(some (x790000_2.set (0:Int).toNat ((rd_L1 x790000_2 0).set (0:Int).toNat bt832.1),x790001_3,x790002_3,bt832.2.1,bt832.2.2)) else(none))) else(none)) else(some (x790000_2,x790001_3,x790002_3,t822,t823))))=some (r1,r2,r3,r4,r5):=H
         have A38:=Aside0.mk A380
         clear A380
         by_cases c39:t821=0
         ·have o0_:=Aside0.mk (Kd.S_mono (ok':=fun k_=>some k_≠ (u790001:Value).ownBlock∧some k_≠ (u790002:Value).ownBlock) HO_790000.out (fun _ hk=>⟨hk.1,hk.2.1⟩))
          have o1_:=Aside0.mk (Kd.S_lower HO_790001.out hMw)
          clear HO_790000 HO_790001
          have HO_790000:=o0_
          have HO_790001:=o1_
          clear o0_ o1_
          rw [if_pos c39] at H
          have c39b0:(t821==0)=true:=beq_iff_eq.mpr c39
          have c39b1:(t821 !=0)=false:=bne_eq_false_iff_eq.mpr c39
          clear c39
          obtain⟨y824,hy824⟩ :∃ y_:List Int,y_= (([(-1),8,9] :List Int)):=⟨_,rfl⟩
          replace H:((spec_l1Cur_among.f s0_0 t822 t823 y824).bind fun bt827=>(if 0< (x790002_3.length:Int) then(some (x790000_2,x790001_3,(x790002_3.set (0:Int).toNat bt827.1),bt827.2.1,bt827.2.2)) else(none)))=some (r1,r2,r3,r4,r5):=zfh hy824 H
          have Ny824:=Aside0.mk hy824
          clear hy824
          replace H:=Option.bind_eq_some_iff.mp H
          obtain⟨⟨t827,t828,t829⟩,A400,H⟩:=H
          replace H:(if 0< (x790002_3.length:Int) then(some (x790000_2,x790001_3,(x790002_3.set (0:Int).toNat t827),t828,t829)) else(none))=some (r1,r2,r3,r4,r5):=H
          have A40:=Aside0.mk A400
          clear A400
          by_cases c41: 0< (x790002_3.length:Int)
          case neg=>exact znn c41 H
          rw [if_pos c41] at H
          have c41b0:decide (0< (x790002_3.length:Int))=true:=decide_eq_true c41
          have c41b1:decide (0<x790002_3.length)=true:=decide_eq_true (by omega)
          clear c41
          obtain⟨y830,hy830⟩ :∃ y_:List Int,y_= (x790002_3.set (0:Int).toNat t827):=⟨_,rfl⟩
          replace H:(some (x790000_2,x790001_3,y830,t828,t829))=some (r1,r2,r3,r4,r5):=zfh hy830 H
          have Ny830:=Aside0.mk hy830
          clear hy830
          simp only [Option.some.injEq,Prod.mk.injEq] at H
          obtain⟨rfl,rfl,rfl,rfl,rfl⟩:=H
          try go_wp2_with (first|((with_reducible refine gate_callee (f:=65) rfl ?_);refine goesL_ (some 50) rfl rfl Try.func65 (by kernel_rfl) rfl #[.pointer (some ⟨g,0,none⟩),.int .i64 30] rfl zq2 ?_;(with_reducible refine(spec_l1Cur_pick.calls g s0_0 x1001_3 x1002_3 30 t821 t822 t823 w0 _ ?side1 ?side2 A38.out).mono ?_);(case side1=>repeat(first|(with_reducible first|exact HI0.out|apply IsS71.alloc|apply IsS71.drewN|apply IsS71.drew|apply IsS71.set_1|apply IsS71.set_2|refine IsS71.far ?_ NB0_788.out _|refine IsS71.far ?_ NB0_789.out _)|exact HI0.out));(case side2=>exact zk6 HB (IsS71.ge HI0.out) GE788.out GE789.out);rintro e w43 ⟨rfl,hi,hb,hk⟩;refine⟨_,rfl,?_⟩;replace HO_790000:=Aside0.mk (Kd.S_mono (Kd.S_keep (IsS71.apartS (show IsS71 w0 _ g s0_0 x1001_3 x1002_3 from by repeat(first|(with_reducible first|exact HI0.out|apply IsS71.alloc|apply IsS71.drewN|apply IsS71.drew|apply IsS71.set_1|apply IsS71.set_2|refine IsS71.far ?_ NB0_788.out _|refine IsS71.far ?_ NB0_789.out _)|exact HI0.out)) (by(with_reducible repeat(first|apply Kd.S_alloc|apply Kd.S_drewN|apply Kd.S_drew));exact HO_790000.out) (by decide)) hk (fun _ h=>h.2)) (fun _ h=>h.1));replace HO_790001:=Aside0.mk (Kd.S_mono (Kd.S_keep (IsS71.apartS (show IsS71 w0 _ g s0_0 x1001_3 x1002_3 from by repeat(first|(with_reducible first|exact HI0.out|apply IsS71.alloc|apply IsS71.drewN|apply IsS71.drew|apply IsS71.set_1|apply IsS71.set_2|refine IsS71.far ?_ NB0_788.out _|refine IsS71.far ?_ NB0_789.out _)|exact HI0.out)) (by(with_reducible repeat(first|apply Kd.S_alloc|apply Kd.S_drewN|apply Kd.S_drew));exact HO_790001.out) (by decide)) hk (fun _ h=>h.2)) (fun _ h=>h.1));replace HO_790002:=Aside0.mk (Kd.R_mono (Kd.R_keep (IsS71.apart (show IsS71 w0 _ g s0_0 x1001_3 x1002_3 from by repeat(first|(with_reducible first|exact HI0.out|apply IsS71.alloc|apply IsS71.drewN|apply IsS71.drew|apply IsS71.set_1|apply IsS71.set_2|refine IsS71.far ?_ NB0_788.out _|refine IsS71.far ?_ NB0_789.out _)|exact HI0.out)) (zq4 HO_790002) (by decide)) hk (fun _ h=>h.2)) (fun _ h=>h.1));replace BK788:=Aside0.mk (KeepBut.blk hk (g':=gb788) (o:= .cells #[.slice none 0 0,.slice none 0 0,.slice none 0 0] 33 (0,0)) (zq3 BK788) NB788_0.out (by simp));replace BK789:=Aside0.mk (KeepBut.blk hk (g':=gb789) (o:= .cells #[u790000,u790001,u790002] 33 (0,0)) (zq3 BK789) NB789_0.out (by simp));replace HK:=Aside0.mk (KeepBut.trans (by repeat(first|(with_reducible first|exact HK.out|apply KeepBut.set_|apply keep_drewN|apply keep_drew|apply keep_alloc|refine keep_far ?_ GW788.out _|refine keep_far ?_ GW789.out _)|exact HK.out)) hk (.inl rfl));replace HB:=Aside0.mk (hb);replace HI0:=Aside0.mk (hi);(try clear hb);(try clear hb2);(try clear hk);(try clear hi)))
          replace HO_790000:=Aside0.mk (Kd.S_drew HO_790000.out)
          replace HO_790001:=Aside0.mk (Kd.S_drew HO_790001.out)
          replace HO_790002:=Aside0.mk (Kd.R_drew HO_790002.out)
          replace BK788:=Aside0.mk (blk_drew BK788.out)
          replace BK789:=Aside0.mk (blk_drew BK789.out)
          replace HI0:=Aside0.mk (IsS71.drew HI0.out)
          replace HK:=Aside0.mk (keep_drew HK.out)
          replace HB:=Aside0.mk (below_drew1 HB.out)
          refine start_ (n:=7) (S:=fun w'=>w'.cell? ⟨gb789,0,none⟩=some (u790000)∧w'.cell? ⟨gb789,1,none⟩=some (u790001)∧w'.cell? ⟨gb789,2,none⟩=some (u790002)) (ds:= [6]) (mb' 7 0) (by kernel_rfl) rfl rfl ⟨(blk_cell BK789.out 0).trans rfl,(blk_cell BK789.out 1).trans rfl,(blk_cell BK789.out 2).trans rfl⟩ (fun hHeld=>?_)
          generalize w43.drew=w44 at HO_790000 HO_790001 HO_790002 BK788 BK789 HI0 HK HB hHeld ⊢
          refine pure_ (i:=0) (N:=some 53) (v:=?_) (a':=?_) (mb' 7 1) rfl rfl (by kernel_rfl) (fun _ _ _ h=>h) (Or.inl ⟨by rfl,?_⟩) ?_ ?_
          rotate_left
          ·intro w'
           go_simp
           with_reducible rfl
          rotate_left
          ·simp only [Act.put,List.setIfInBounds_toArray,List.set_cons_zero,List.set_cons_succ,i64_w,i32_w]
           rfl
          refine pure_ (i:=2) (N:=some 55) (v:=?_) (a':=?_) (mb' 7 5) rfl rfl (by kernel_rfl) (fun _ _ _ h=>h) (Or.inl ⟨by rfl,?_⟩) ?_ ?_
          rotate_left
          ·intro w'
           go_simp
           with_reducible rfl
          rotate_left
          ·simp only [Act.put,List.setIfInBounds_toArray,List.set_cons_zero,List.set_cons_succ,i64_w,i32_w]
           rfl
          refine take_ (i:=1) (N:=some 54) (v:=?_) (a':=?_) (mb' 7 7) rfl rfl (by kernel_rfl) (fun _ _ _ h=>h) (Or.inl ⟨by rfl,?_⟩) hHeld ?_ ?_
          rotate_left
          ·rintro w' ⟨s0,s1,s2⟩
           go_simp
           with_reducible rfl
          rotate_left
          ·simp only [Act.put,List.setIfInBounds_toArray,List.set_cons_zero,List.set_cons_succ,i64_w,i32_w]
           rfl
          refine one_ (i:=3) (N:=some 56) (mb' 7 15) rfl rfl (by kernel_rfl) (by decide) (fun K hK=>?_)
          refine Kd.R_lit_step (Kd.int .i64) _ 3 ?hg (N:=56) ?hd (xs:=([(-1),8,9] :List Int)) (inner:= [.int .i64 (-1),.int .i64 8,.int .i64 9]) (ok:=fun _=>True) (okp:=fun _=>True) ?hr ?hp (fun _ hk=>hk) trivial (Below.refl _ _) (Nat.le_refl _) (by simp) ?_;(case hd=>rfl);(case hg=>rfl);(case hr=>first|(go_simp;done)|(go_simp;rfl));(case hp=>exact(Reps.one (show Kd.M (Kd.int .i64) _ _ _ (-1) [.int .i64 (-1)] from rfl) (Reps.one (show Kd.M (Kd.int .i64) _ _ _ 8 [.int .i64 8] from rfl) (Reps.one (show Kd.M (Kd.int .i64) _ _ _ 9 [.int .i64 9] from rfl) (Reps.none _ _)))))
          intro v825 w45 ho46 hb hg_ hnew_
          clear hg_ hnew_
          (first|rw [← Ny824.out] at ho46|(simp only [Int.reduceToNat] at ho46;rw [← Ny824.out] at ho46))
          have HO826:=Aside0.mk (Kd.R_lower (Kd.R_new' ho46 (Kd.R_lt (zq4 HO_790002))) (keep_size (w:=w) (g:=g) (row:=none) (by repeat(first|(with_reducible first|exact HK.out|apply KeepBut.set_|apply keep_drewN|apply keep_drew|apply keep_alloc|refine keep_far ?_ GW788.out _|refine keep_far ?_ GW789.out _)|exact HK.out))))
          replace HO_790000:=Aside0.mk (Kd.S_elder' (by(with_reducible repeat(first|apply Kd.S_alloc|apply Kd.S_drewN|apply Kd.S_drew));exact HO_790000.out) (Kd.R_base ho46) hb)
          replace HO_790001:=Aside0.mk (Kd.S_elder' (by(with_reducible repeat(first|apply Kd.S_alloc|apply Kd.S_drewN|apply Kd.S_drew));exact HO_790001.out) (Kd.R_base ho46) hb)
          replace HO_790002:=Aside0.mk (Kd.R_elder' (zq4 HO_790002) (Kd.R_base ho46) hb)
          replace BK788:=Aside0.mk (blk_below (g:=gb788) (o:= .cells #[.slice none 0 0,.slice none 0 0,.slice none 0 0] 33 (0,0)) (zq3 BK788) hb)
          replace BK789:=Aside0.mk (blk_below (g:=gb789) (o:= .cells #[u790000,u790001,u790002] 33 (0,0)) (zq3 BK789) hb)
          replace HK:=Aside0.mk (KeepBut.trans (by repeat(first|(with_reducible first|exact HK.out|apply KeepBut.set_|apply keep_drewN|apply keep_drew|apply keep_alloc|refine keep_far ?_ GW788.out _|refine keep_far ?_ GW789.out _)|exact HK.out)) (KeepBut.of_below hb g none) (.inl rfl))
          replace HB:=Aside0.mk (below_step (by exact zk6 HB (IsS71.ge HI0.out) GE788.out GE789.out) hb)
          replace HI0:=Aside0.mk (IsS71.below (by repeat(first|(with_reducible first|exact HI0.out|apply IsS71.alloc|apply IsS71.drewN|apply IsS71.drew|apply IsS71.set_1|apply IsS71.set_2|refine IsS71.far ?_ NB0_788.out _|refine IsS71.far ?_ NB0_789.out _)|exact HI0.out)) hb)
          clear hb ho46
          obtain⟨Ao47,co47,eo47⟩:=Kd.R_slice HO826.out
          (first|subst eo47|(injection eo47 with f1_ f2_ f3_;have f4_:=f1_.symm;have f5_:=f3_.symm;clear f1_ f2_ f3_;subst f4_;subst f5_))
          refine hK.out _ _ ⟨(blk_cell BK789.out 0).trans rfl,(blk_cell BK789.out 1).trans rfl,(blk_cell BK789.out 2).trans rfl⟩ (fun hHeld=>?_)
          clear hK K
          refine norm_ (a':=?_) ?_ ?_
          rotate_left
          ·show Act.put _ (some 56) _=_
           simp only [Act.put,List.setIfInBounds_toArray,List.set_cons_zero,List.set_cons_succ,i64_w,i32_w]
           rfl
          refine one_ (i:=4) (N:=some 57) (mb' 7 31) rfl rfl (by kernel_rfl) (by decide) (fun K hK=>?_)
          refine goes_ Try.func73 (by kernel_rfl) rfl #[.pointer (some ⟨g,0,none⟩),.slice Ao47 y824.length co47] (by rfl) rfl rfl zq2 ?_
          with_reducible refine(spec_l1Cur_among.calls g s0_0 t822 t823 _ _ y824 t827 t828 t829 w0 _ ?side1 ?side2 ?side3 ?side4 ?side5 A40.out).mono ?_
          (case side1=>repeat(first|(with_reducible first|exact HI0.out|apply IsS71.alloc|apply IsS71.drewN|apply IsS71.drew|apply IsS71.set_1|apply IsS71.set_2|refine IsS71.far ?_ NB0_788.out _|refine IsS71.far ?_ NB0_789.out _)|exact HI0.out))
          (case side2=>exact zk6 HB (IsS71.ge HI0.out) GE788.out GE789.out)
          (case side3=>exact zcc ((Kd.R_reads' HO826.out).2.2))
          (case side4=>exact(Kd.R_reads' HO826.out).2.1)
          (case side5=>exact far_slice (IsS71.own_ne HI0.out HO826.out (by decide)))
          rintro e w48 ⟨rfl,hi,hb,hk⟩
          refine⟨_,rfl,?_⟩
          replace HO_790000:=Aside0.mk (Kd.S_mono (Kd.S_keep (IsS71.apartS (show IsS71 w0 _ g s0_0 t822 t823 from by repeat(first|(with_reducible first|exact HI0.out|apply IsS71.alloc|apply IsS71.drewN|apply IsS71.drew|apply IsS71.set_1|apply IsS71.set_2|refine IsS71.far ?_ NB0_788.out _|refine IsS71.far ?_ NB0_789.out _)|exact HI0.out)) (by(with_reducible repeat(first|apply Kd.S_alloc|apply Kd.S_drewN|apply Kd.S_drew));exact HO_790000.out) (by decide)) hk (fun _ h=>h.2)) (fun _ h=>h.1))
          replace HO_790001:=Aside0.mk (Kd.S_mono (Kd.S_keep (IsS71.apartS (show IsS71 w0 _ g s0_0 t822 t823 from by repeat(first|(with_reducible first|exact HI0.out|apply IsS71.alloc|apply IsS71.drewN|apply IsS71.drew|apply IsS71.set_1|apply IsS71.set_2|refine IsS71.far ?_ NB0_788.out _|refine IsS71.far ?_ NB0_789.out _)|exact HI0.out)) (by(with_reducible repeat(first|apply Kd.S_alloc|apply Kd.S_drewN|apply Kd.S_drew));exact HO_790001.out) (by decide)) hk (fun _ h=>h.2)) (fun _ h=>h.1))
          replace HO_790002:=Aside0.mk (Kd.R_mono (Kd.R_keep (IsS71.apart (show IsS71 w0 _ g s0_0 t822 t823 from by repeat(first|(with_reducible first|exact HI0.out|apply IsS71.alloc|apply IsS71.drewN|apply IsS71.drew|apply IsS71.set_1|apply IsS71.set_2|refine IsS71.far ?_ NB0_788.out _|refine IsS71.far ?_ NB0_789.out _)|exact HI0.out)) (zq4 HO_790002) (by decide)) hk (fun _ h=>h.2)) (fun _ h=>h.1))
          replace BK788:=Aside0.mk (KeepBut.blk hk (g':=gb788) (o:= .cells #[.slice none 0 0,.slice none 0 0,.slice none 0 0] 33 (0,0)) (zq3 BK788) NB788_0.out (by simp))
          replace BK789:=Aside0.mk (KeepBut.blk hk (g':=gb789) (o:= .cells #[u790000,u790001,u790002] 33 (0,0)) (zq3 BK789) NB789_0.out (by simp))
          replace HO826:=Aside0.mk (Kd.R_mono (Kd.R_keep (IsS71.apart (show IsS71 w0 _ g s0_0 t822 t823 from by repeat(first|(with_reducible first|exact HI0.out|apply IsS71.alloc|apply IsS71.drewN|apply IsS71.drew|apply IsS71.set_1|apply IsS71.set_2|refine IsS71.far ?_ NB0_788.out _|refine IsS71.far ?_ NB0_789.out _)|exact HI0.out)) (zq4 HO826) (by decide)) hk (fun _ h=>h.2)) (fun _ h=>h.1))
          replace HK:=Aside0.mk (KeepBut.trans (by repeat(first|(with_reducible first|exact HK.out|apply KeepBut.set_|apply keep_drewN|apply keep_drew|apply keep_alloc|refine keep_far ?_ GW788.out _|refine keep_far ?_ GW789.out _)|exact HK.out)) hk (.inl rfl))
          replace HB:=Aside0.mk (hb)
          replace HI0:=Aside0.mk (hi)
          (try clear hb)
          (try clear hb2)
          (try clear hk)
          (try clear hi)
          have p42: 0≤ (0:Int):=(by omega)
          have q42:(0:Int)< ((x790002_3.length:Int):Int):=of_decide_eq_true zq1
          have qi42:(0<x790002_3.length)=True:=eq_true (by omega)
          obtain⟨go42,co42,eo42,gb42,gl42,cl42,HG42⟩:=Kd.R_form HO_790002.out (by omega)
          (first|cases eo42|(injection eo42 with ea_ en_ ec_;(first|subst ea_|(injection ea_ with ea_;subst ea_));subst ec_;clear en_))
          have GB42:=Aside0.mk gb42
          have GG42:=Aside0.mk HG42
          clear gb42 gl42 HG42
          obtain⟨hx42_0,hf42_0⟩:=Kd.R_celln 0 HO_790002.out (0:Int) p42 q42
          (try rw [show ((0:Int)).toNat=0 from rfl] at hx42_0)
          (try simp only [Nat.reduceMul,Nat.zero_mul,Nat.zero_add,Nat.reduceAdd] at hx42_0)
          (try rw [show ((0:Int)).toNat=0 from rfl] at hf42_0)
          (try simp only [Nat.reduceMul,Nat.zero_mul,Nat.zero_add,Nat.reduceAdd] at hf42_0)
          replace p42:=eq_true p42
          replace q42:=eq_true q42
          have HN0_go42:=Aside0.mk (show g≠go42 from by have h_:=IsS71.own_ne HI0.out HO_790002.out (by decide);intro e_;exact h_ (by rw [e_];rfl))
          have HP49:=Kd.R_putn HO_790002.out (0:Int) t827
          rw [← Ny830.out] at HP49
          have HQ49:=Aside0.mk HP49
          clear HP49
          refine hK.out _ _ ⟨(blk_cell BK789.out 0).trans rfl,(blk_cell BK789.out 1).trans rfl,(blk_cell BK789.out 2).trans rfl⟩ (fun hHeld=>?_)
          clear hK K
          refine norm_ (a':=?_) ?_ ?_
          rotate_left
          ·show Act.put _ (some 57) _=_
           simp only [Act.put,List.setIfInBounds_toArray,List.set_cons_zero,List.set_cons_succ,i64_w,i32_w]
           rfl
          refine pure_ (i:=5) (N:=some 58) (v:=?_) (a':=?_) (mb' 7 63) rfl rfl (by kernel_rfl) (fun _ _ _ h=>h) (Or.inl ⟨by rfl,?_⟩) ?_ ?_
          rotate_left
          ·intro w'
           go_simp
           with_reducible rfl
          rotate_left
          ·simp only [Act.put,List.setIfInBounds_toArray,List.set_cons_zero,List.set_cons_succ,i64_w,i32_w]
           rfl
          refine last_ (i:=6) (N:=none) (mb' 7 127) rfl rfl (by kernel_rfl) (by decide) (fun K hK=>?_)
          refine skip_ (w1:=?_) (by rfl) rfl ?_ ?_
          rotate_left
          ·go_simp
           rfl
          refine hK.out _ _ ?_
          clear hK K
          refine done_ (by kernel_rfl) ?_
          have n0_:Aside0 (Kd.S (Kd.slice 3 (Kd.int .i64)) 22 (w48.setCell ⟨go42,0,none⟩ (.int .i64 t827)) w.heap.size (fun k_=>some k_≠ (u790001:Value).ownBlock∧some k_≠ (.slice (some ⟨go42,0,none⟩) x790002_3.length co42:Value).ownBlock∧some k_≠ (.slice Ao47 y824.length co47:Value).ownBlock) u790000 x790000_2):=⟨by(with_reducible repeat(first|apply Kd.S_alloc|apply Kd.S_drewN|apply Kd.S_drew));exact Kd.S_mono (Kd.S_far (p:=⟨go42,0,none⟩) (Kd.S_mono HO_790000.out (fun k_ hk=>(⟨hk,fun e_=>hk.1.2 (by rw [e_];rfl)⟩ :_∧k_≠go42))) (fun _ hk=>hk.2) (.int .i64 t827)) (fun _ hk=>⟨hk.1.1.1,⟨hk.1.1.2,hk.1.2⟩⟩)⟩
          have n1_:Aside0 (Kd.S (Kd.slice 3 (Kd.int .i64)) 22 (w48.setCell ⟨go42,0,none⟩ (.int .i64 t827)) w.heap.size (fun k_=>some k_≠ (u790000:Value).ownBlock∧some k_≠ (.slice (some ⟨go42,0,none⟩) x790002_3.length co42:Value).ownBlock∧some k_≠ (.slice Ao47 y824.length co47:Value).ownBlock) u790001 x790001_3):=⟨by(with_reducible repeat(first|apply Kd.S_alloc|apply Kd.S_drewN|apply Kd.S_drew));exact Kd.S_mono (Kd.S_far (p:=⟨go42,0,none⟩) (Kd.S_mono HO_790001.out (fun k_ hk=>(⟨hk,fun e_=>hk.1.2 (by rw [e_];rfl)⟩ :_∧k_≠go42))) (fun _ hk=>hk.2) (.int .i64 t827)) (fun _ hk=>⟨hk.1.1.1,⟨hk.1.1.2,hk.1.2⟩⟩)⟩
          have n2_:Aside0 (Kd.R (Kd.int .i64) 3 (w48.setCell ⟨go42,0,none⟩ (.int .i64 t827)) w.heap.size (fun k_=>some k_≠ (.slice Ao47 y824.length co47:Value).ownBlock) (.slice (some ⟨go42,0,none⟩) x790002_3.length co42) y830):=⟨by(with_reducible repeat(first|apply Kd.R_alloc|apply Kd.R_drewN|apply Kd.R_drew));exact Kd.R_mono HQ49.out (fun _ hk=>hk.2)⟩
          have n3_:Aside0 (Kd.R (Kd.int .i64) 3 (w48.setCell ⟨go42,0,none⟩ (.int .i64 t827)) w.heap.size (fun k_=>some k_≠ (.slice (some ⟨go42,0,none⟩) x790002_3.length co42:Value).ownBlock) (.slice Ao47 y824.length co47) y824):=⟨by(with_reducible repeat(first|apply Kd.R_alloc|apply Kd.R_drewN|apply Kd.R_drew));exact Kd.R_mono (Kd.R_far (p:=⟨go42,0,none⟩) (Kd.R_mono HO826.out (fun k_ hk=>(⟨hk,fun e_=>hk.2 (by rw [e_];rfl)⟩ :_∧k_≠go42))) (fun _ hk=>hk.2) (.int .i64 t827)) (fun _ hk=>hk.1.2)⟩
          have n4_:Aside0 ((w48.setCell ⟨go42,0,none⟩ (.int .i64 t827)).heap[gb788]?=some (.cells #[.slice none 0 0,.slice none 0 0,.slice none 0 0] 33 (0,0))):=⟨by(with_reducible repeat(first|refine blk_drewN ?_ _|refine blk_drew ?_ |refine blk_alloc ?_ _));refine blk_far ?_ (by have h_:=Kd.R_ne HO_790002.out BK788.out (by decide);intro e_;exact h_ (by rw [e_];rfl)) _;(with_reducible repeat(first|refine blk_drewN ?_ _|refine blk_drew ?_ |refine blk_alloc ?_ _));exact BK788.out⟩
          have n5_:Aside0 ((w48.setCell ⟨go42,0,none⟩ (.int .i64 t827)).heap[gb789]?=some (.cells #[u790000,u790001,.slice (some ⟨go42,0,none⟩) x790002_3.length co42] 33 (0,0))):=⟨by(with_reducible repeat(first|refine blk_drewN ?_ _|refine blk_drew ?_ |refine blk_alloc ?_ _));refine blk_far ?_ (by have h_:=Kd.R_ne HO_790002.out BK789.out (by decide);intro e_;exact h_ (by rw [e_];rfl)) _;(with_reducible repeat(first|refine blk_drewN ?_ _|refine blk_drew ?_ |refine blk_alloc ?_ _));exact BK789.out⟩
          have n6_:Aside0 (IsS71 w0 (w48.setCell ⟨go42,0,none⟩ (.int .i64 t827)) g s0_0 t828 t829):=⟨by repeat(first|(with_reducible first|exact HI0.out|apply IsS71.alloc|apply IsS71.drewN|apply IsS71.drew|apply IsS71.set_1|apply IsS71.set_2|refine IsS71.far ?_ HN0_go42.out _|refine IsS71.far ?_ NB0_788.out _|refine IsS71.far ?_ NB0_789.out _)|exact HI0.out)⟩
          have n7_:Aside0 (KeepBut w (w48.setCell ⟨go42,0,none⟩ (.int .i64 t827)) g none):=⟨by repeat(first|(with_reducible first|exact HK.out|apply KeepBut.set_|apply keep_drewN|apply keep_drew|apply keep_alloc|refine keep_far ?_ GB42.out _|refine keep_far ?_ GW788.out _|refine keep_far ?_ GW789.out _)|exact HK.out)⟩
          have n8_:Aside0 (Below w0.heap.size w0 (w48.setCell ⟨go42,0,none⟩ (.int .i64 t827))):=⟨by repeat(first|(with_reducible first|exact HB.out|apply below_alloc|apply pw_below_drewN|apply below_drew1|refine below_set ?_ (Nat.le_trans HL.out GB42.out)|refine below_set ?_ (IsS71.ge HI0.out)|refine below_set ?_ GE788.out|refine below_set ?_ GE789.out)|exact HB.out)⟩
          (try clear HO_790000)
          (try clear HO_790001)
          (try clear HO_790002)
          (try clear HO826)
          (try clear BK788)
          (try clear BK789)
          (try clear HI0)
          (try clear HK)
          (try clear HB)
          (try simp only [show ∀ (W_:World) (n_:Nat) (a_:Addr) (v_:Value),(World.drewN W_ n_).setCell a_ v_= (World.setCell W_ a_ v_).drewN n_ from fun _ _ _ _=>rfl])
          generalize (w48.setCell ⟨go42,0,none⟩ (.int .i64 t827))=w50 at n0_ n1_ n2_ n3_ n4_ n5_ n6_ n7_ n8_ ⊢
          have HO_790000:=n0_
          have HO_790001:=n1_
          have HO_790002:=n2_
          have HO826:=n3_
          have BK788:=n4_
          have BK789:=n5_
          have HI0:=n6_
          have HK:=n7_
          have HB:=n8_
          clear n0_ n1_ n2_ n3_ n4_ n5_ n6_ n7_ n8_
          have hnb51:=NB789_788.out
          have hnc51:=NB788_789.out
          have hnb52:=NB789_0.out
          have hnc52:=NB0_789.out
          have hcz53_0:=zcz BK789 0 (u790000)
          have hcz53_1:=zcz BK789 1 (u790001)
          have hcz53_2:=zcz BK789 2 (.slice (some ⟨go42,0,none⟩) x790002_3.length co42)
          have hfz53_0:=blk_frozen BK789.out 0
          have hfz53_1:=blk_frozen BK789.out 1
          have hfz53_2:=blk_frozen BK789.out 2
          obtain⟨Ao54,co54,eo54⟩:=Kd.S_slice HO_790000.out
          subst eo54
          have hnb55:=NB788_0.out
          have hnc55:=NB0_788.out
          have hcz56_0:=zcz BK788 0 (.slice none 0 0)
          have hcz56_1:=zcz BK788 1 (.slice none 0 0)
          have hcz56_2:=zcz BK788 2 (.slice none 0 0)
          have hfz56_0:=blk_frozen BK788.out 0
          have hfz56_1:=blk_frozen BK788.out 1
          have hfz56_2:=blk_frozen BK788.out 2
          obtain⟨Ao57,co57,eo57⟩:=Kd.S_slice HO_790001.out
          subst eo57
          try go_wp2
          refine bodyPost_ret (results_cell_row rfl _ _ gb788 33 #[.slice Ao54 x790000_2.length co54,.slice Ao57 x790001_3.length co57,.slice (some ⟨go42,0,none⟩) x790002_3.length co42] (0,0) _ rfl (by(with_reducible repeat(first|refine blk_drewN ?_ _|refine blk_drew ?_ |refine blk_alloc ?_ _));refine blk_put (cs:= #[.slice Ao54 x790000_2.length co54,.slice Ao57 x790001_3.length co57,.slice none 0 0]) ?_ 2 _ rfl;(with_reducible repeat(first|refine blk_drewN ?_ _|refine blk_drew ?_ |refine blk_alloc ?_ _));refine blk_put (cs:= #[.slice Ao54 x790000_2.length co54,.slice none 0 0,.slice none 0 0]) ?_ 1 _ rfl;(with_reducible repeat(first|refine blk_drewN ?_ _|refine blk_drew ?_ |refine blk_alloc ?_ _));refine blk_put (cs:= #[.slice none 0 0,.slice none 0 0,.slice none 0 0]) ?_ 0 _ rfl;(with_reducible repeat(first|refine blk_drewN ?_ _|refine blk_drew ?_ |refine blk_alloc ?_ _));exact BK788.out) Try.underlying33 rfl (by kernel_rfl)) rfl ?_
          exact⟨_,_,_,zer,by(with_reducible repeat(first|apply Kd.S_alloc|apply Kd.S_drewN|apply Kd.S_drew));exact Kd.S_mono (Kd.S_far (p:=⟨gb788,2,none⟩) (Kd.S_far (p:=⟨gb788,1,none⟩) (Kd.S_far (p:=⟨gb788,0,none⟩) (Kd.S_types HO_790000.out BK788.out (by decide)) (fun _ hk=>hk.2) (.slice Ao54 x790000_2.length co54)) (fun _ hk=>hk.2) (.slice Ao57 x790001_3.length co57)) (fun _ hk=>hk.2) (.slice (some ⟨go42,0,none⟩) x790002_3.length co42)) (fun _ hk=>⟨hk.1.1,hk.1.2.1⟩),by(with_reducible repeat(first|apply Kd.S_alloc|apply Kd.S_drewN|apply Kd.S_drew));exact Kd.S_mono (Kd.S_far (p:=⟨gb788,2,none⟩) (Kd.S_far (p:=⟨gb788,1,none⟩) (Kd.S_far (p:=⟨gb788,0,none⟩) (Kd.S_types HO_790001.out BK788.out (by decide)) (fun _ hk=>hk.2) (.slice Ao54 x790000_2.length co54)) (fun _ hk=>hk.2) (.slice Ao57 x790001_3.length co57)) (fun _ hk=>hk.2) (.slice (some ⟨go42,0,none⟩) x790002_3.length co42)) (fun _ hk=>⟨hk.1.1,hk.1.2.1⟩),by(with_reducible repeat(first|apply Kd.R_alloc|apply Kd.R_drewN|apply Kd.R_drew));exact Kd.R_mono (Kd.R_far (p:=⟨gb788,2,none⟩) (Kd.R_far (p:=⟨gb788,1,none⟩) (Kd.R_far (p:=⟨gb788,0,none⟩) (Kd.R_types HO_790002.out BK788.out (by decide)) (fun _ hk=>hk.2) (.slice Ao54 x790000_2.length co54)) (fun _ hk=>hk.2) (.slice Ao57 x790001_3.length co57)) (fun _ hk=>hk.2) (.slice (some ⟨go42,0,none⟩) x790002_3.length co42)) (fun _ hk=>trivial),by repeat(first|(with_reducible first|exact HI0.out|apply IsS71.alloc|apply IsS71.drewN|apply IsS71.drew|apply IsS71.set_1|apply IsS71.set_2|refine IsS71.far ?_ NB0_788.out _|refine IsS71.far ?_ NB0_789.out _)|exact HI0.out),by exact zk6 HB (IsS71.ge HI0.out) GE788.out GE789.out,by repeat(first|(with_reducible first|exact HK.out|apply KeepBut.set_|apply keep_drewN|apply keep_drew|apply keep_alloc|refine keep_far ?_ GW788.out _|refine keep_far ?_ GW789.out _)|exact HK.out)⟩
         ·rw [if_neg c39] at H
          have c39b0:(t821==0)=false:=beq_eq_false_iff_ne.mpr c39
          have c39b1:(t821 !=0)=true:=bne_iff_ne.mpr c39
          by_cases c58:t821=1
          ·rw [if_pos c58] at H
           have c58b0:(t821==1)=true:=beq_iff_eq.mpr c58
           have c58b1:(t821 !=1)=false:=bne_eq_false_iff_eq.mpr c58
           clear c58
           by_cases c59: 0< (x790000_2.length:Int)
           case neg=>exact znn c59 H
           rw [if_pos c59] at H
           have c59b0:decide (0< (x790000_2.length:Int))=true:=decide_eq_true c59
           have c59b1:decide (0<x790000_2.length)=true:=decide_eq_true (by omega)
           clear c59
           replace H:=Option.bind_eq_some_iff.mp H
           obtain⟨⟨t832,t833,t834⟩,A600,H⟩:=H
           replace H:(if 0< ((rd_L1 x790000_2 0).length:Int) then(some (x790000_2.set (0:Int).toNat ((rd_L1 x790000_2 0).set (0:Int).toNat t832),x790001_3,x790002_3,t833,t834)) else(none))=some (r1,r2,r3,r4,r5):=H
           have A60:=Aside0.mk A600
           clear A600
           by_cases c61: 0< ((rd_L1 x790000_2 0).length:Int)
           case neg=>exact znn c61 H
           rw [if_pos c61] at H
           have c61b0:decide (0< ((rd_L1 x790000_2 0).length:Int))=true:=decide_eq_true c61
           have c61b1:decide (0< (rd_L1 x790000_2 0).length)=true:=decide_eq_true (by omega)
           clear c61
           simp only [Option.some.injEq,Prod.mk.injEq] at H
           obtain⟨rfl,rfl,rfl,rfl,rfl⟩:=H
           try go_wp2_with (first|((with_reducible refine gate_callee (f:=65) rfl ?_);refine goesL_ (some 50) rfl rfl Try.func65 (by kernel_rfl) rfl #[.pointer (some ⟨g,0,none⟩),.int .i64 30] rfl zq2 ?_;(with_reducible refine(spec_l1Cur_pick.calls g s0_0 x1001_3 x1002_3 30 t821 t822 t823 w0 _ ?side1 ?side2 A38.out).mono ?_);(case side1=>repeat(first|(with_reducible first|exact HI0.out|apply IsS71.alloc|apply IsS71.drewN|apply IsS71.drew|apply IsS71.set_1|apply IsS71.set_2|refine IsS71.far ?_ NB0_788.out _|refine IsS71.far ?_ NB0_789.out _)|exact HI0.out));(case side2=>exact zk6 HB (IsS71.ge HI0.out) GE788.out GE789.out);rintro e w62 ⟨rfl,hi,hb,hk⟩;refine⟨_,rfl,?_⟩;replace HO_790000:=Aside0.mk (Kd.S_mono (Kd.S_keep (IsS71.apartS (show IsS71 w0 _ g s0_0 x1001_3 x1002_3 from by repeat(first|(with_reducible first|exact HI0.out|apply IsS71.alloc|apply IsS71.drewN|apply IsS71.drew|apply IsS71.set_1|apply IsS71.set_2|refine IsS71.far ?_ NB0_788.out _|refine IsS71.far ?_ NB0_789.out _)|exact HI0.out)) (by(with_reducible repeat(first|apply Kd.S_alloc|apply Kd.S_drewN|apply Kd.S_drew));exact HO_790000.out) (by decide)) hk (fun _ h=>h.2)) (fun _ h=>h.1));replace HO_790001:=Aside0.mk (Kd.S_mono (Kd.S_keep (IsS71.apartS (show IsS71 w0 _ g s0_0 x1001_3 x1002_3 from by repeat(first|(with_reducible first|exact HI0.out|apply IsS71.alloc|apply IsS71.drewN|apply IsS71.drew|apply IsS71.set_1|apply IsS71.set_2|refine IsS71.far ?_ NB0_788.out _|refine IsS71.far ?_ NB0_789.out _)|exact HI0.out)) (by(with_reducible repeat(first|apply Kd.S_alloc|apply Kd.S_drewN|apply Kd.S_drew));exact HO_790001.out) (by decide)) hk (fun _ h=>h.2)) (fun _ h=>h.1));replace HO_790002:=Aside0.mk (Kd.R_mono (Kd.R_keep (IsS71.apart (show IsS71 w0 _ g s0_0 x1001_3 x1002_3 from by repeat(first|(with_reducible first|exact HI0.out|apply IsS71.alloc|apply IsS71.drewN|apply IsS71.drew|apply IsS71.set_1|apply IsS71.set_2|refine IsS71.far ?_ NB0_788.out _|refine IsS71.far ?_ NB0_789.out _)|exact HI0.out)) (zq4 HO_790002) (by decide)) hk (fun _ h=>h.2)) (fun _ h=>h.1));replace BK788:=Aside0.mk (KeepBut.blk hk (g':=gb788) (o:= .cells #[.slice none 0 0,.slice none 0 0,.slice none 0 0] 33 (0,0)) (zq3 BK788) NB788_0.out (by simp));replace BK789:=Aside0.mk (KeepBut.blk hk (g':=gb789) (o:= .cells #[u790000,u790001,u790002] 33 (0,0)) (zq3 BK789) NB789_0.out (by simp));replace HK:=Aside0.mk (KeepBut.trans (by repeat(first|(with_reducible first|exact HK.out|apply KeepBut.set_|apply keep_drewN|apply keep_drew|apply keep_alloc|refine keep_far ?_ GW788.out _|refine keep_far ?_ GW789.out _)|exact HK.out)) hk (.inl rfl));replace HB:=Aside0.mk (hb);replace HI0:=Aside0.mk (hi);(try clear hb);(try clear hb2);(try clear hk);(try clear hi)))
           replace HO_790000:=Aside0.mk (Kd.S_drew HO_790000.out)
           replace HO_790001:=Aside0.mk (Kd.S_drew HO_790001.out)
           replace HO_790002:=Aside0.mk (Kd.R_drew HO_790002.out)
           replace BK788:=Aside0.mk (blk_drew BK788.out)
           replace BK789:=Aside0.mk (blk_drew BK789.out)
           replace HI0:=Aside0.mk (IsS71.drew HI0.out)
           replace HK:=Aside0.mk (keep_drew HK.out)
           replace HB:=Aside0.mk (below_drew1 HB.out)
           obtain⟨Ao64,co64,eo64⟩:=Kd.S_slice HO_790000.out
           (first|subst eo64|(injection eo64 with f1_ f2_ f3_;have f4_:=f1_.symm;have f5_:=f3_.symm;clear f1_ f2_ f3_;subst f4_;subst f5_))
           have p831: 0≤ (0:Int):=(by omega)
           have q831: 0< (x790000_2.length:Int):=of_decide_eq_true zq1
           obtain⟨ad831,A831_0,c831_0,e831,hx831_0,hl831_0,hi831_0⟩:=at_L1 (Kd.S_reads' HO_790000.out).2.2 0 p831 q831
           cases e831
           obtain⟨ce831,hce831,hMe831,hcc831⟩:=Kd.S_get HO_790000.out [] 0 p831 (by first|exact q831|exact of_decide_eq_true zq1|(have e_:=(Kd.S_reads' HO_790000.out).1;omega))
           obtain⟨ve831_0,rfl,ge831_0⟩:=hMe831
           have hv831_0:=hcc831 0 _ rfl
           rw [Nat.add_zero,show ((Kd.slice 3 (Kd.int .i64))).sz=1 from rfl,Nat.mul_one] at hv831_0
           replace hv831_0:=Option.some.inj (hv831_0.symm.trans hx831_0)
           rw [hv831_0] at ge831_0
           have HL831_0:=Aside0.mk (show Kd.R (Kd.int .i64) 3 _ _ _ _ (rd_L1 x790000_2 0) from ge831_0)
           clear hv831_0 ge831_0
           clear hcc831 hce831
           have qi831:(0<x790000_2.length)=True:=eq_true (by omega)
           (try rw [show ((0:Int)).toNat=0 from rfl] at hx831_0)
           (try rw [Addr.add_zero'] at hx831_0)
           have HR831_0:=Aside0.mk hi831_0
           have HC831_0:=Aside0.mk hl831_0
           clear hi831_0 hl831_0
           replace p831:=eq_true p831
           replace q831:=eq_true q831
           refine start_ (n:=8) (S:=fun w'=>w'.cell? ⟨gb789,0,none⟩=some (.slice (some ad831) x790000_2.length co64)∧w'.cell? ⟨gb789,1,none⟩=some (u790001)∧w'.cell? ⟨gb789,2,none⟩=some (u790002)∧w'.cell? ad831=some (.slice A831_0 (rd_L1 x790000_2 0).length c831_0)) (ds:= [7]) (mb' 8 0) (by kernel_rfl) rfl rfl ⟨(blk_cell BK789.out 0).trans rfl,(blk_cell BK789.out 1).trans rfl,(blk_cell BK789.out 2).trans rfl,hx831_0⟩ (fun hHeld=>?_);refine with_tabW spec_l1Cur_serveWishes.tab20 spec_l1Cur_serveWishes.bits20 (fun HT_ HW_=>?_)
           generalize w62.drew=w63 at HO_790000 HO_790001 HO_790002 BK788 BK789 HI0 HK HB HL831_0 HR831_0 hx831_0 hHeld ⊢
           refine zp1 HT_ 0 61 (mb' 8 1) rfl ?_
           refine zp1 HT_ 4 65 (mb' 8 17) rfl ?_
           refine zt1 HT_ HW_ (v:=?_) (a':=?_) 1 62 (mb' 8 19) rfl ?_ hHeld ?_ ?_;rotate_left;(rintro w' ⟨s0,s1,s2,s3⟩;go_simp;with_reducible rfl);rotate_left;exact zpa
           refine zp1 HT_ 2 63 (mb' 8 23) rfl ?_
           refine zt1 HT_ HW_ (v:=?_) (a':=?_) 3 64 (mb' 8 31) rfl ?_ hHeld ?_ ?_;rotate_left;(rintro w' ⟨s0,s1,s2,s3⟩;go_simp;with_reducible rfl);rotate_left;exact zpa
           refine one_ (i:=5) (N:=some 66) (mb' 8 63) rfl rfl (one_of HT_.out (by kernel_rfl)) (by decide) (fun K hK=>?_)
           refine goes_ Try.func65 (by kernel_rfl) rfl #[.pointer (some ⟨g,0,none⟩),.int .i64 9] (by rfl) rfl rfl zq2 ?_
           with_reducible refine(spec_l1Cur_pick.calls g s0_0 t822 t823 9 t832 t833 t834 w0 _ ?side1 ?side2 A60.out).mono ?_
           (case side1=>repeat(first|(with_reducible first|exact HI0.out|apply IsS71.alloc|apply IsS71.drewN|apply IsS71.drew|apply IsS71.set_1|apply IsS71.set_2|refine IsS71.far ?_ NB0_788.out _|refine IsS71.far ?_ NB0_789.out _)|exact HI0.out))
           (case side2=>exact zk6 HB (IsS71.ge HI0.out) GE788.out GE789.out)
           rintro e w65 ⟨rfl,hi,hb,hk⟩
           have HS3_:=keep_cell hk (hHeld.2.2.2) (by first|(rw [add_block];exact Kd.own_blk (IsS71.own_neS HI0.out HO_790000.out (by decide)))|(show (Addr.add _ _).block≠_;rw [add_block];exact Kd.own_blk (IsS71.own_neS HI0.out HO_790000.out (by decide)))|exact Kd.own_blk (IsS71.own_neS HI0.out HO_790000.out (by decide)))
           refine⟨_,rfl,?_⟩
           replace HO_790000:=Aside0.mk (Kd.S_mono (Kd.S_keep (IsS71.apartS (show IsS71 w0 _ g s0_0 t822 t823 from by repeat(first|(with_reducible first|exact HI0.out|apply IsS71.alloc|apply IsS71.drewN|apply IsS71.drew|apply IsS71.set_1|apply IsS71.set_2|refine IsS71.far ?_ NB0_788.out _|refine IsS71.far ?_ NB0_789.out _)|exact HI0.out)) (by(with_reducible repeat(first|apply Kd.S_alloc|apply Kd.S_drewN|apply Kd.S_drew));exact HO_790000.out) (by decide)) hk (fun _ h=>h.2)) (fun _ h=>h.1))
           replace HO_790001:=Aside0.mk (Kd.S_mono (Kd.S_keep (IsS71.apartS (show IsS71 w0 _ g s0_0 t822 t823 from by repeat(first|(with_reducible first|exact HI0.out|apply IsS71.alloc|apply IsS71.drewN|apply IsS71.drew|apply IsS71.set_1|apply IsS71.set_2|refine IsS71.far ?_ NB0_788.out _|refine IsS71.far ?_ NB0_789.out _)|exact HI0.out)) (by(with_reducible repeat(first|apply Kd.S_alloc|apply Kd.S_drewN|apply Kd.S_drew));exact HO_790001.out) (by decide)) hk (fun _ h=>h.2)) (fun _ h=>h.1))
           replace HO_790002:=Aside0.mk (Kd.R_mono (Kd.R_keep (IsS71.apart (show IsS71 w0 _ g s0_0 t822 t823 from by repeat(first|(with_reducible first|exact HI0.out|apply IsS71.alloc|apply IsS71.drewN|apply IsS71.drew|apply IsS71.set_1|apply IsS71.set_2|refine IsS71.far ?_ NB0_788.out _|refine IsS71.far ?_ NB0_789.out _)|exact HI0.out)) (zq4 HO_790002) (by decide)) hk (fun _ h=>h.2)) (fun _ h=>h.1))
           replace BK788:=Aside0.mk (KeepBut.blk hk (g':=gb788) (o:= .cells #[.slice none 0 0,.slice none 0 0,.slice none 0 0] 33 (0,0)) (zq3 BK788) NB788_0.out (by simp))
           replace BK789:=Aside0.mk (KeepBut.blk hk (g':=gb789) (o:= .cells #[.slice (some ad831) x790000_2.length co64,u790001,u790002] 33 (0,0)) (zq3 BK789) NB789_0.out (by simp))
           replace HL831_0:=Aside0.mk (Kd.R_mono (Kd.R_keep (IsS71.apart (show IsS71 w0 _ g s0_0 t822 t823 from by repeat(first|(with_reducible first|exact HI0.out|apply IsS71.alloc|apply IsS71.drewN|apply IsS71.drew|apply IsS71.set_1|apply IsS71.set_2|refine IsS71.far ?_ NB0_788.out _|refine IsS71.far ?_ NB0_789.out _)|exact HI0.out)) (zq4 HL831_0) (by decide)) hk (fun _ h=>h.2)) (fun _ h=>h.1))
           replace HK:=Aside0.mk (KeepBut.trans (by repeat(first|(with_reducible first|exact HK.out|apply KeepBut.set_|apply keep_drewN|apply keep_drew|apply keep_alloc|refine keep_far ?_ GW788.out _|refine keep_far ?_ GW789.out _)|exact HK.out)) hk (.inl rfl))
           replace HB:=Aside0.mk (hb)
           replace HI0:=Aside0.mk (hi)
           (try clear hb)
           (try clear hb2)
           (try clear hk)
           (try clear hi)
           obtain⟨gbr,cbr,ebr,gbr1,gbr2,cbr2,HGr⟩:=Kd.R_form HL831_0.out (by have h_:=qi831;have h2_:(0:Int)< ((rd_L1 x790000_2 0).length:Int):=of_decide_eq_true c61b0;omega)
           injection ebr with ea_ en_ ec_
           subst ea_
           clear en_ ec_
           obtain⟨hx835_0,hf835_0⟩:=Kd.R_celln 0 HL831_0.out (0:Int) (by omega) (of_decide_eq_true c61b0)
           rw [show ((0:Int)).toNat=0 from rfl] at hx835_0 hf835_0
           have hlen_:(0< (rd_L1 x790000_2 0).length)=True:=eq_true (of_decide_eq_true c61b1)
           have HOK_:=Aside0.mk (HL831_0.out.1 gbr rfl)
           have GBR:=Aside0.mk gbr1
           refine hK.out _ _ ⟨(blk_cell BK789.out 0).trans rfl,(blk_cell BK789.out 1).trans rfl,(blk_cell BK789.out 2).trans rfl,HS3_⟩ (fun hHeld=>?_)
           clear hK K
           refine norm_ (a':=?_) ?_ ?_
           rotate_left
           ·show Act.put _ (some 66) _=_
            simp only [Act.put,List.setIfInBounds_toArray,List.set_cons_zero,List.set_cons_succ,i64_w,i32_w]
            rfl
           refine zp1 HT_ 6 67 (mb' 8 127) rfl ?_
           refine last_ (i:=7) (N:=none) (mb' 8 255) rfl rfl (one_of HT_.out (by kernel_rfl)) (by decide) (fun K hK=>?_)
           refine skip_ (w1:=?_) (by rfl) rfl ?_ ?_
           rotate_left
           ·go_simp
            rfl
           refine hK.out _ _ ?_
           clear hK K
           refine done_ (done_of HT_.out (by kernel_rfl)) ?_
           have hgM:gbr<M:=HOK_.out.1.2.2
           have hne2:some gbr≠ (u790002:Value).ownBlock:=HOK_.out.1.2.1
           have n0_:Aside0 (Kd.S (Kd.slice 3 (Kd.int .i64)) 22 (w65.setCell ⟨gbr,0,none⟩ (.int .i64 t832)) w.heap.size (fun k_=>some k_≠ (u790001:Value).ownBlock∧some k_≠ (u790002:Value).ownBlock) (.slice (some ad831) x790000_2.length co64) (x790000_2.set (0:Int).toNat ((rd_L1 x790000_2 0).set (0:Int).toNat t832))):=⟨by
            obtain⟨gof,cof,eof,gbf,glf,HXf⟩:=Kd.S_form HO_790000.out (of_decide_eq_true c59b1)
            injection eof with ea_ en_ ec_
            injection ea_ with ea_
            subst ea_
            obtain⟨oki,cc,hcl,hM_,hcc,hfr,hoki,hH⟩:=Kd.S_elem HO_790000.out [] 0 (by omega) (of_decide_eq_true c59b0)
            obtain⟨rv,rfl,hR⟩:=hM_
            have hv:=hcc 0 _ rfl
            have hs:=HS3_
            rw [show (0:Int).toNat * (Kd.slice 3 (Kd.int .i64)).sz+0=0 from rfl] at hv
            have hrv:=Option.some.inj (hv.symm.trans hs)
            subst hrv
            have hR2:=Kd.R_putn hR (0:Int) t832
            have hoki_:=hR.1 gbr rfl
            have hH2:=Kd.H_step hH (w1:=(w65.setCell ⟨gbr,0,none⟩ (.int .i64 t832))) (fun q_ _ hn _=>Below.heap_setCell w65 ⟨gbr,0,none⟩ (.int .i64 t832) q_ (fun e_=>hn (by rw [e_];exact hoki_)))
            exact Kd.S_mono (Kd.H_back hH2 (okp:=oki) ⟨_,rfl,hR2⟩ (fun q_ hq_=>hq_)) (fun _ hk=>⟨hk.1,hk.2.1⟩)⟩
           have n1_:Aside0 (Kd.S (Kd.slice 3 (Kd.int .i64)) 22 (w65.setCell ⟨gbr,0,none⟩ (.int .i64 t832)) w.heap.size (fun k_=>some k_≠ ((.slice (some ad831) x790000_2.length co64):Value).ownBlock∧some k_≠ (u790002:Value).ownBlock) u790001 x790001_3):=⟨Kd.S_lower (Kd.S_mono (Kd.S_far (p:=⟨gbr,0,none⟩) (Kd.S_mono (Kd.S_bound HO_790001.out) (fun k_ hk=>(⟨hk.1,fun e_=>by have h_:=hk.2.1;omega⟩ :_∧k_≠gbr))) (fun _ hk=>hk.2) (.int .i64 t832)) (fun _ hk=>hk.1)) hMw⟩
           have n2_:Aside0 (Kd.R (Kd.int .i64) 3 (w65.setCell ⟨gbr,0,none⟩ (.int .i64 t832)) w.heap.size (fun _=>True) u790002 x790002_3):=⟨Kd.R_mono (Kd.R_far (p:=⟨gbr,0,none⟩) (Kd.R_far1 HO_790002.out rfl hne2) (fun _ hk=>hk.2) (.int .i64 t832)) (fun _ hk=>trivial)⟩
           have n4_:Aside0 ((w65.setCell ⟨gbr,0,none⟩ (.int .i64 t832)).heap[gb788]?=some (.cells #[.slice none 0 0,.slice none 0 0,.slice none 0 0] 33 (0,0))):=⟨by refine blk_far ?_ (by have h_:=Kd.R_ne HL831_0.out BK788.out (by decide);intro e_;exact h_ (by rw [e_];rfl)) _;exact BK788.out⟩
           have n5_:Aside0 ((w65.setCell ⟨gbr,0,none⟩ (.int .i64 t832)).heap[gb789]?=some (.cells #[.slice (some ad831) x790000_2.length co64,u790001,u790002] 33 (0,0))):=⟨by refine blk_far ?_ (by have h_:=Kd.R_ne HL831_0.out BK789.out (by decide);intro e_;exact h_ (by rw [e_];rfl)) _;exact BK789.out⟩
           have HN0_:=Aside0.mk (show g≠gbr from by have h_:=IsS71.own_ne HI0.out HL831_0.out (by decide);intro e_;exact h_ (by rw [e_];rfl))
           have n6_:Aside0 (IsS71 w0 (w65.setCell ⟨gbr,0,none⟩ (.int .i64 t832)) g s0_0 t833 t834):=⟨IsS71.far HI0.out HN0_.out _⟩
           have n7_:Aside0 (KeepBut w (w65.setCell ⟨gbr,0,none⟩ (.int .i64 t832)) g none):=⟨keep_far HK.out GBR.out _⟩
           have n8_:Aside0 (Below w0.heap.size w0 (w65.setCell ⟨gbr,0,none⟩ (.int .i64 t832))):=⟨below_set HB.out (Nat.le_trans HL.out GBR.out)⟩
           clear HO_790000 HO_790001 HO_790002 HL831_0 HR831_0 hx831_0 hHeld BK788 BK789 HI0 HK HB HS3_ hx835_0 hf835_0 HOK_ GBR gbr1 gbr2 HGr
           generalize (w65.setCell ⟨gbr,0,none⟩ (.int .i64 t832))=w66 at n0_ n1_ n2_ n4_ n5_ n6_ n7_ n8_ ⊢
           have HO_790000:=n0_
           have HO_790001:=n1_
           have HO_790002:=n2_
           have BK788:=n4_
           have BK789:=n5_
           have HI0:=n6_
           have HK:=n7_
           have HB:=n8_
           clear n0_ n1_ n2_ n4_ n5_ n6_ n7_ n8_
           have hnb66:=NB789_788.out
           have hnc66:=NB788_789.out
           have hnb67:=NB789_0.out
           have hnc67:=NB0_789.out
           have hcz68_0:=zcz BK789 0 (.slice (some ad831) x790000_2.length co64)
           have hcz68_1:=zcz BK789 1 (u790001)
           have hcz68_2:=zcz BK789 2 (u790002)
           have hfz68_0:=blk_frozen BK789.out 0
           have hfz68_1:=blk_frozen BK789.out 1
           have hfz68_2:=blk_frozen BK789.out 2
           have hnb69:=NB788_0.out
           have hnc69:=NB0_788.out
           have hcz70_0:=zcz BK788 0 (.slice none 0 0)
           have hcz70_1:=zcz BK788 1 (.slice none 0 0)
           have hcz70_2:=zcz BK788 2 (.slice none 0 0)
           have hfz70_0:=blk_frozen BK788.out 0
           have hfz70_1:=blk_frozen BK788.out 1
           have hfz70_2:=blk_frozen BK788.out 2
           obtain⟨Ao71,co71,eo71⟩:=Kd.S_slice HO_790001.out
           subst eo71
           obtain⟨Ao72,co72,eo72⟩:=Kd.R_slice HO_790002.out
           subst eo72
           try go_wp2
           refine bodyPost_ret (results_cell_row rfl _ _ gb788 33 #[.slice (some ad831) x790000_2.length co64,.slice Ao71 x790001_3.length co71,.slice Ao72 x790002_3.length co72] (0,0) _ rfl (by(with_reducible repeat(first|refine blk_drewN ?_ _|refine blk_drew ?_ |refine blk_alloc ?_ _));refine blk_put (cs:= #[.slice (some ad831) x790000_2.length co64,.slice Ao71 x790001_3.length co71,.slice none 0 0]) ?_ 2 _ rfl;(with_reducible repeat(first|refine blk_drewN ?_ _|refine blk_drew ?_ |refine blk_alloc ?_ _));refine blk_put (cs:= #[.slice (some ad831) x790000_2.length co64,.slice none 0 0,.slice none 0 0]) ?_ 1 _ rfl;(with_reducible repeat(first|refine blk_drewN ?_ _|refine blk_drew ?_ |refine blk_alloc ?_ _));refine blk_put (cs:= #[.slice none 0 0,.slice none 0 0,.slice none 0 0]) ?_ 0 _ rfl;(with_reducible repeat(first|refine blk_drewN ?_ _|refine blk_drew ?_ |refine blk_alloc ?_ _));exact BK788.out) Try.underlying33 rfl (by kernel_rfl)) rfl ?_
           exact⟨_,_,_,zer,by(with_reducible repeat(first|apply Kd.S_alloc|apply Kd.S_drewN|apply Kd.S_drew));exact Kd.S_mono (Kd.S_far (p:=⟨gb788,2,none⟩) (Kd.S_far (p:=⟨gb788,1,none⟩) (Kd.S_far (p:=⟨gb788,0,none⟩) (Kd.S_types HO_790000.out BK788.out (by decide)) (fun _ hk=>hk.2) (.slice (some ad831) x790000_2.length co64)) (fun _ hk=>hk.2) (.slice Ao71 x790001_3.length co71)) (fun _ hk=>hk.2) (.slice Ao72 x790002_3.length co72)) (fun _ hk=>⟨hk.1.1,hk.1.2⟩),by(with_reducible repeat(first|apply Kd.S_alloc|apply Kd.S_drewN|apply Kd.S_drew));exact Kd.S_mono (Kd.S_far (p:=⟨gb788,2,none⟩) (Kd.S_far (p:=⟨gb788,1,none⟩) (Kd.S_far (p:=⟨gb788,0,none⟩) (Kd.S_types HO_790001.out BK788.out (by decide)) (fun _ hk=>hk.2) (.slice (some ad831) x790000_2.length co64)) (fun _ hk=>hk.2) (.slice Ao71 x790001_3.length co71)) (fun _ hk=>hk.2) (.slice Ao72 x790002_3.length co72)) (fun _ hk=>⟨hk.1.1,hk.1.2⟩),by(with_reducible repeat(first|apply Kd.R_alloc|apply Kd.R_drewN|apply Kd.R_drew));exact Kd.R_mono (Kd.R_far (p:=⟨gb788,2,none⟩) (Kd.R_far (p:=⟨gb788,1,none⟩) (Kd.R_far (p:=⟨gb788,0,none⟩) (Kd.R_types HO_790002.out BK788.out (by decide)) (fun _ hk=>hk.2) (.slice (some ad831) x790000_2.length co64)) (fun _ hk=>hk.2) (.slice Ao71 x790001_3.length co71)) (fun _ hk=>hk.2) (.slice Ao72 x790002_3.length co72)) (fun _ hk=>trivial),by repeat(first|(with_reducible first|exact HI0.out|apply IsS71.alloc|apply IsS71.drewN|apply IsS71.drew|apply IsS71.set_1|apply IsS71.set_2|refine IsS71.far ?_ NB0_788.out _|refine IsS71.far ?_ NB0_789.out _)|exact HI0.out),by exact zk6 HB (IsS71.ge HI0.out) GE788.out GE789.out,by repeat(first|(with_reducible first|exact HK.out|apply KeepBut.set_|apply keep_drewN|apply keep_drew|apply keep_alloc|refine keep_far ?_ GW788.out _|refine keep_far ?_ GW789.out _)|exact HK.out)⟩
          ·have o0_:=Aside0.mk (Kd.S_mono (ok':=fun k_=>some k_≠ (u790001:Value).ownBlock∧some k_≠ (u790002:Value).ownBlock) HO_790000.out (fun _ hk=>⟨hk.1,hk.2.1⟩))
           have o1_:=Aside0.mk (Kd.S_lower HO_790001.out hMw)
           clear HO_790000 HO_790001
           have HO_790000:=o0_
           have HO_790001:=o1_
           clear o0_ o1_
           rw [if_neg c58] at H
           have c58b0:(t821==1)=false:=beq_eq_false_iff_ne.mpr c58
           have c58b1:(t821 !=1)=true:=bne_iff_ne.mpr c58
           simp only [Option.some.injEq,Prod.mk.injEq] at H
           obtain⟨rfl,rfl,rfl,rfl,rfl⟩:=H
           go_wp2_with (first|((with_reducible refine gate_callee (f:=65) rfl ?_);refine goesL_ (some 50) rfl rfl Try.func65 (by kernel_rfl) rfl #[.pointer (some ⟨g,0,none⟩),.int .i64 30] rfl zq2 ?_;(with_reducible refine(spec_l1Cur_pick.calls g s0_0 x1001_3 x1002_3 30 t821 t822 t823 w0 _ ?side1 ?side2 A38.out).mono ?_);(case side1=>repeat(first|(with_reducible first|exact HI0.out|apply IsS71.alloc|apply IsS71.drewN|apply IsS71.drew|apply IsS71.set_1|apply IsS71.set_2|refine IsS71.far ?_ NB0_788.out _|refine IsS71.far ?_ NB0_789.out _)|exact HI0.out));(case side2=>exact zk6 HB (IsS71.ge HI0.out) GE788.out GE789.out);rintro e w73 ⟨rfl,hi,hb,hk⟩;refine⟨_,rfl,?_⟩;replace HO_790000:=Aside0.mk (Kd.S_mono (Kd.S_keep (IsS71.apartS (show IsS71 w0 _ g s0_0 x1001_3 x1002_3 from by repeat(first|(with_reducible first|exact HI0.out|apply IsS71.alloc|apply IsS71.drewN|apply IsS71.drew|apply IsS71.set_1|apply IsS71.set_2|refine IsS71.far ?_ NB0_788.out _|refine IsS71.far ?_ NB0_789.out _)|exact HI0.out)) (by(with_reducible repeat(first|apply Kd.S_alloc|apply Kd.S_drewN|apply Kd.S_drew));exact HO_790000.out) (by decide)) hk (fun _ h=>h.2)) (fun _ h=>h.1));replace HO_790001:=Aside0.mk (Kd.S_mono (Kd.S_keep (IsS71.apartS (show IsS71 w0 _ g s0_0 x1001_3 x1002_3 from by repeat(first|(with_reducible first|exact HI0.out|apply IsS71.alloc|apply IsS71.drewN|apply IsS71.drew|apply IsS71.set_1|apply IsS71.set_2|refine IsS71.far ?_ NB0_788.out _|refine IsS71.far ?_ NB0_789.out _)|exact HI0.out)) (by(with_reducible repeat(first|apply Kd.S_alloc|apply Kd.S_drewN|apply Kd.S_drew));exact HO_790001.out) (by decide)) hk (fun _ h=>h.2)) (fun _ h=>h.1));replace HO_790002:=Aside0.mk (Kd.R_mono (Kd.R_keep (IsS71.apart (show IsS71 w0 _ g s0_0 x1001_3 x1002_3 from by repeat(first|(with_reducible first|exact HI0.out|apply IsS71.alloc|apply IsS71.drewN|apply IsS71.drew|apply IsS71.set_1|apply IsS71.set_2|refine IsS71.far ?_ NB0_788.out _|refine IsS71.far ?_ NB0_789.out _)|exact HI0.out)) (zq4 HO_790002) (by decide)) hk (fun _ h=>h.2)) (fun _ h=>h.1));replace BK788:=Aside0.mk (KeepBut.blk hk (g':=gb788) (o:= .cells #[.slice none 0 0,.slice none 0 0,.slice none 0 0] 33 (0,0)) (zq3 BK788) NB788_0.out (by simp));replace BK789:=Aside0.mk (KeepBut.blk hk (g':=gb789) (o:= .cells #[u790000,u790001,u790002] 33 (0,0)) (zq3 BK789) NB789_0.out (by simp));replace HK:=Aside0.mk (KeepBut.trans (by repeat(first|(with_reducible first|exact HK.out|apply KeepBut.set_|apply keep_drewN|apply keep_drew|apply keep_alloc|refine keep_far ?_ GW788.out _|refine keep_far ?_ GW789.out _)|exact HK.out)) hk (.inl rfl));replace HB:=Aside0.mk (hb);replace HI0:=Aside0.mk (hi);(try clear hb);(try clear hb2);(try clear hk);(try clear hi);have hnb74:=NB789_788.out;have hnc74:=NB788_789.out;have hnb75:=NB789_0.out;have hnc75:=NB0_789.out;have hcz76_0:=zcz BK789 0 (u790000);have hcz76_1:=zcz BK789 1 (u790001);have hcz76_2:=zcz BK789 2 (u790002);have hfz76_0:=blk_frozen BK789.out 0;have hfz76_1:=blk_frozen BK789.out 1;have hfz76_2:=blk_frozen BK789.out 2;obtain⟨Ao77,co77,eo77⟩:=Kd.S_slice HO_790000.out;subst eo77;have hnb78:=NB788_0.out;have hnc78:=NB0_788.out;have hcz79_0:=zcz BK788 0 (.slice none 0 0);have hcz79_1:=zcz BK788 1 (.slice none 0 0);have hcz79_2:=zcz BK788 2 (.slice none 0 0);have hfz79_0:=blk_frozen BK788.out 0;have hfz79_1:=blk_frozen BK788.out 1;have hfz79_2:=blk_frozen BK788.out 2;obtain⟨Ao80,co80,eo80⟩:=Kd.S_slice HO_790001.out;subst eo80;obtain⟨Ao81,co81,eo81⟩:=Kd.R_slice HO_790002.out;subst eo81))
           refine bodyPost_ret (results_cell_row rfl _ _ gb788 33 #[.slice Ao77 x790000_2.length co77,.slice Ao80 x790001_3.length co80,.slice Ao81 x790002_3.length co81] (0,0) _ rfl (by(with_reducible repeat(first|refine blk_drewN ?_ _|refine blk_drew ?_ |refine blk_alloc ?_ _));refine blk_put (cs:= #[.slice Ao77 x790000_2.length co77,.slice Ao80 x790001_3.length co80,.slice none 0 0]) ?_ 2 _ rfl;(with_reducible repeat(first|refine blk_drewN ?_ _|refine blk_drew ?_ |refine blk_alloc ?_ _));refine blk_put (cs:= #[.slice Ao77 x790000_2.length co77,.slice none 0 0,.slice none 0 0]) ?_ 1 _ rfl;(with_reducible repeat(first|refine blk_drewN ?_ _|refine blk_drew ?_ |refine blk_alloc ?_ _));refine blk_put (cs:= #[.slice none 0 0,.slice none 0 0,.slice none 0 0]) ?_ 0 _ rfl;(with_reducible repeat(first|refine blk_drewN ?_ _|refine blk_drew ?_ |refine blk_alloc ?_ _));exact BK788.out) Try.underlying33 rfl (by kernel_rfl)) rfl ?_
           exact⟨_,_,_,zer,by(with_reducible repeat(first|apply Kd.S_alloc|apply Kd.S_drewN|apply Kd.S_drew));exact Kd.S_mono (Kd.S_far (p:=⟨gb788,2,none⟩) (Kd.S_far (p:=⟨gb788,1,none⟩) (Kd.S_far (p:=⟨gb788,0,none⟩) (Kd.S_types HO_790000.out BK788.out (by decide)) (fun _ hk=>hk.2) (.slice Ao77 x790000_2.length co77)) (fun _ hk=>hk.2) (.slice Ao80 x790001_3.length co80)) (fun _ hk=>hk.2) (.slice Ao81 x790002_3.length co81)) (fun _ hk=>⟨hk.1.1,hk.1.2⟩),by(with_reducible repeat(first|apply Kd.S_alloc|apply Kd.S_drewN|apply Kd.S_drew));exact Kd.S_mono (Kd.S_far (p:=⟨gb788,2,none⟩) (Kd.S_far (p:=⟨gb788,1,none⟩) (Kd.S_far (p:=⟨gb788,0,none⟩) (Kd.S_types HO_790001.out BK788.out (by decide)) (fun _ hk=>hk.2) (.slice Ao77 x790000_2.length co77)) (fun _ hk=>hk.2) (.slice Ao80 x790001_3.length co80)) (fun _ hk=>hk.2) (.slice Ao81 x790002_3.length co81)) (fun _ hk=>⟨hk.1.1,hk.1.2⟩),by(with_reducible repeat(first|apply Kd.R_alloc|apply Kd.R_drewN|apply Kd.R_drew));exact Kd.R_mono (Kd.R_far (p:=⟨gb788,2,none⟩) (Kd.R_far (p:=⟨gb788,1,none⟩) (Kd.R_far (p:=⟨gb788,0,none⟩) (Kd.R_types HO_790002.out BK788.out (by decide)) (fun _ hk=>hk.2) (.slice Ao77 x790000_2.length co77)) (fun _ hk=>hk.2) (.slice Ao80 x790001_3.length co80)) (fun _ hk=>hk.2) (.slice Ao81 x790002_3.length co81)) (fun _ hk=>trivial),by repeat(first|(with_reducible first|exact HI0.out|apply IsS71.alloc|apply IsS71.drewN|apply IsS71.drew|apply IsS71.set_1|apply IsS71.set_2|refine IsS71.far ?_ NB0_788.out _|refine IsS71.far ?_ NB0_789.out _)|exact HI0.out),by exact zk6 HB (IsS71.ge HI0.out) GE788.out GE789.out,by repeat(first|(with_reducible first|exact HK.out|apply KeepBut.set_|apply keep_drewN|apply keep_drew|apply keep_alloc|refine keep_far ?_ GW788.out _|refine keep_far ?_ GW789.out _)|exact HK.out)⟩
end Go.Proofs.Ytoipbblhmcpneaa.P
