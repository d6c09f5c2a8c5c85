/- Functions, walks and plain lemmas that the law FnBothWays reaches, part 1. -/
import Derived.Test.YtpbnpepikkocmaaCFnBothWays0
import Derived.Below
import Derived.Deep.Draws
import Derived.Deep.AppendLies
import Derived.Maps.AppendAt
import Derived.OwnWalk
import Derived.Laws.BytesArg
import Derived.Laws.MakeOwn
import Derived.Laws.OwnMore
import Derived.Deep.OwnRows
import Derived.Tactics
import Derived.Lib.ConvBytes
import Derived.Laws.Slices
import Derived.WalkKit
import Derived.KernelRfl
import Derived.RowKit3
import Derived.Deep.LoopGhost
import Derived.Deep.QuietTactic
import Derived.BigQuiet
import Derived.WideLaws
import Derived.Deep.DeepCutAuto
import Derived.Deep.CutBlock
import Derived.Deep.RegionHeld3
import Derived.Laws.Rows
import Derived.Lib.AppendStr
import Derived.ArgAppend
import Derived.Laws.IdiomCopy
import Derived.OrdersHeld
import Derived.Laws.BitsLemmas
import Derived.RowKit
import Derived.WalkSpells
import Derived.Lib.SliceRun
import Derived.Shelf.Abstract
import Derived.ProofKit
import Derived.OpenShut
import Derived.ShutString
import Derived.ChangeOld
import Derived.SizedLaws
namespace Go.Proofs.Ytpbnpepikkocmaa.P
open Go.RowKit Go.Proofs.YtpbnpepikkocmaaW.PrintWords Go.Proofs.YtpbnpepikkocmaaW.PrintLast Go.Proofs.YtpbnpepikkocmaaW.PrintMore
attribute [local go_sem] max2_int min2_int max_two min_two max_three min_three max_four min_four   -- for this text's walks alone
set_option linter.unusedVariables false
set_option linter.unusedSimpArgs false
theorem info3:(Try.prog.info? 3).map (fun i=>(i.zero,i.size,i.bytes))=some (some (.int .i64 0),1,8):=by kernel_rfl
theorem info52:(Try.prog.info? 52).map (fun i=>(i.zero,i.size,i.bytes))=some (some (.agg #[(.int .i64 0),(.int .i64 0),(.int .i64 0)]),3,24):=by kernel_rfl
theorem info57:(Try.prog.info? 57).map (fun i=>(i.zero,i.size,i.bytes))=some (some (.agg #[(.int .i64 0),(.int .i64 0),(.int .i64 0)]),3,24):=by kernel_rfl
-- the values' own types
structure S52 where
 f0:Int
 f1:Int
 f2:Int
def z52:S52:=⟨(0:Int),(0:Int),(0:Int)⟩
def k52:Kd S52:=Kd.iso (Kd.pair (Kd.int .i64) (Kd.pair (Kd.int .i64) (Kd.int .i64))) (fun x:S52=>(x.f0,x.f1,x.f2))
theorem k52_open {w:World} {x:S52} {cs:List Value} (h:k52.K w x cs):cs= [.int .i64 x.f0,.int .i64 x.f1,.int .i64 x.f2]:=by
 obtain⟨_,_,rfl,rfl,⟨_,_,rfl,rfl,rfl⟩⟩:=h
 exact rfl
theorem k52_openM {w:World} {base:Nat} {ok:Nat→Prop} {x:S52} {cs:List Value} (h:k52.M w base ok x cs):cs= [.int .i64 x.f0,.int .i64 x.f1,.int .i64 x.f2]:=by
 obtain⟨_,_,rfl,rfl,⟨_,_,rfl,rfl,rfl⟩⟩:=h
 exact rfl
theorem k52_mkM (w:World) (base:Nat) (ok:Nat→Prop) (x:S52)  :k52.M w base ok x [.int .i64 x.f0,.int .i64 x.f1,.int .i64 x.f2]:=⟨[.int .i64 x.f0],[.int .i64 x.f1,.int .i64 x.f2],rfl,rfl,⟨[.int .i64 x.f1],[.int .i64 x.f2],rfl,rfl,rfl⟩⟩
def rd_T52 (xs:List S52) (i:Int):S52:=xs.getD i.toNat z52
theorem at_T52 {w:World} {A:Option Addr} {n:Nat} {xs:List S52} (h:Kd.C k52 w A n xs) (i:Int) (h0: 0≤i) (h1:i<n):∃ ad ,A=some ad∧w.cell? (ad.add (i.toNat * 3))=some (.int .i64 (rd_T52 xs i).f0)∧w.cell? ⟨(ad.add (i.toNat * 3)).block,(ad.add (i.toNat * 3)).off+1,none⟩=some (.int .i64 (rd_T52 xs i).f1)∧w.cell? ⟨(ad.add (i.toNat * 3)).block,(ad.add (i.toNat * 3)).off+2,none⟩=some (.int .i64 (rd_T52 xs i).f2):=by
 obtain⟨ad,c,e,_,hK,hc0⟩:=Kd.C_get h z52 i h0 h1
 have hc:∀ j u,c[j]?=some u→w.cell? (ad.add (i.toNat * 3+j))=some u:=hc0
 obtain rfl:=k52_open hK
 exact⟨ad,e,hc 0 _ rfl,by rw [← add_field _ _ 1 (by omega)];exact hc 1 _ rfl,by rw [← add_field _ _ 2 (by omega)];exact hc 2 _ rfl⟩
structure S57 where
 f0:Int
 f1:Int
 f2:Int
def z57:S57:=⟨(0:Int),(0:Int),(0:Int)⟩
def k57:Kd S57:=Kd.iso (Kd.pair (Kd.int .i64) (Kd.pair (Kd.int .i64) (Kd.int .i64))) (fun x:S57=>(x.f0,x.f1,x.f2))
theorem k57_open {w:World} {x:S57} {cs:List Value} (h:k57.K w x cs):cs= [.int .i64 x.f0,.int .i64 x.f1,.int .i64 x.f2]:=by
 obtain⟨_,_,rfl,rfl,⟨_,_,rfl,rfl,rfl⟩⟩:=h
 exact rfl
theorem k57_openM {w:World} {base:Nat} {ok:Nat→Prop} {x:S57} {cs:List Value} (h:k57.M w base ok x cs):cs= [.int .i64 x.f0,.int .i64 x.f1,.int .i64 x.f2]:=by
 obtain⟨_,_,rfl,rfl,⟨_,_,rfl,rfl,rfl⟩⟩:=h
 exact rfl
theorem k57_mkM (w:World) (base:Nat) (ok:Nat→Prop) (x:S57)  :k57.M w base ok x [.int .i64 x.f0,.int .i64 x.f1,.int .i64 x.f2]:=⟨[.int .i64 x.f0],[.int .i64 x.f1,.int .i64 x.f2],rfl,rfl,⟨[.int .i64 x.f1],[.int .i64 x.f2],rfl,rfl,rfl⟩⟩
def rd_T57 (xs:List S57) (i:Int):S57:=xs.getD i.toNat z57
theorem at_T57 {w:World} {A:Option Addr} {n:Nat} {xs:List S57} (h:Kd.C k57 w A n xs) (i:Int) (h0: 0≤i) (h1:i<n):∃ ad ,A=some ad∧w.cell? (ad.add (i.toNat * 3))=some (.int .i64 (rd_T57 xs i).f0)∧w.cell? ⟨(ad.add (i.toNat * 3)).block,(ad.add (i.toNat * 3)).off+1,none⟩=some (.int .i64 (rd_T57 xs i).f1)∧w.cell? ⟨(ad.add (i.toNat * 3)).block,(ad.add (i.toNat * 3)).off+2,none⟩=some (.int .i64 (rd_T57 xs i).f2):=by
 obtain⟨ad,c,e,_,hK,hc0⟩:=Kd.C_get h z57 i h0 h1
 have hc:∀ j u,c[j]?=some u→w.cell? (ad.add (i.toNat * 3+j))=some u:=hc0
 obtain rfl:=k57_open hK
 exact⟨ad,e,hc 0 _ rfl,by rw [← add_field _ _ 1 (by omega)];exact hc 1 _ rfl,by rw [← add_field _ _ 2 (by omega)];exact hc 2 _ rfl⟩
def spec_l1In.f (a0:Int) (a1:Int) (a2:Int):Option (Bool):=if a0≥a1 then(some (decide (a0≤a2))) else(some false)
set_option maxHeartbeats 8000000 in
set_option maxRecDepth 100000 in
theorem spec_l1In.calls (a0:Int) (a1:Int) (a2:Int) (r:Bool) (w:World) (h:spec_l1In.f a0 a1 a2=some r):
  Calls Try.prog 50 #[.int .i64 a0,.int .i64 a1,.int .i64 a2] w fun e w'=>e= .returned (.bool r)∧Drawn0 w w':=by
 have H:(if a0≥a1 then(some (decide (a0≤a2))) else(some false))=some r:=h
 clear h
 by_cases c4:a0≥a1
 ·rw [if_pos c4] at H
  have c4b0:decide (a1≤a0)=true:=decide_eq_true c4
  clear c4
  obtain rfl:=Option.some.inj H
  go_enter Try.func50,Try.ntmps50
  go_wp2
  go_ret
  exact⟨by first|rfl|(simp;done)|(simp [*];done),by repeat(first|exact Drawn0.refl _|apply Drawn0.step)⟩
 ·rw [if_neg c4] at H
  have c4b0:decide (a1≤a0)=false:=decide_eq_false c4
  clear c4
  obtain rfl:=Option.some.inj H
  go_enter Try.func50,Try.ntmps50
  go_wp2
  go_ret
  exact⟨by first|rfl|(simp;done)|(simp [*];done),by repeat(first|exact Drawn0.refl _|apply Drawn0.step)⟩
mutual
def spec_GoodEdges.l0:Nat→Int→List (S52)→List (S52)→Int→Int→Option (Bool)
 | 0,_,_,_,_,_=>none
 |k+1,x0,x1,x7,x8,x9=>if x9<x8 then(if 0≤x9 then(if x9< (x7.length:Int) then((spec_l1In.f ((rd_T52 x7 x9).f0) 0 (wrap64 (x0 - 1))).bind fun t104=>(if t104=true then((spec_l1In.f ((rd_T52 x7 x9).f1) 0 (wrap64 (x0 - 1))).bind fun t105=>(if t105=true then(if ((rd_T52 x7 x9).f0)≥ ((rd_T52 x7 x9).f1) then(spec_GoodEdges.j1 k x0 x1 x9 x7 x8 x9 true ((rd_T52 x7 x9).f0) ((rd_T52 x7 x9).f1) ((rd_T52 x7 x9).f2)) else((spec_l1In.f ((rd_T52 x7 x9).f2) 1 100).bind fun t106=>(spec_GoodEdges.j1 k x0 x1 x9 x7 x8 x9 (!t106) ((rd_T52 x7 x9).f0) ((rd_T52 x7 x9).f1) ((rd_T52 x7 x9).f2)))) else(spec_GoodEdges.j1 k x0 x1 x9 x7 x8 x9 true ((rd_T52 x7 x9).f0) ((rd_T52 x7 x9).f1) ((rd_T52 x7 x9).f2)))) else(spec_GoodEdges.j1 k x0 x1 x9 x7 x8 x9 true ((rd_T52 x7 x9).f0) ((rd_T52 x7 x9).f1) ((rd_T52 x7 x9).f2)))) else(none)) else(none)) else((spec_l1In.f x0 1 12).bind fun t101=>(if t101=true then(some (decide ((x1.length:Int)≤40))) else(some false)))
def spec_GoodEdges.j1:Nat→Int→List (S52)→Int→List (S52)→Int→Int→Bool→Int→Int→Int→Option (Bool)
 | 0,_,_,_,_,_,_,_,_,_,_=>none
 |k+1,x0,x1,x5,x7,x8,x9,x40,x104000,x104001,x104002=>if x40=true then(some false) else(if x5 > 0 then(if 0≤ (wrap64 (x5 - 1)) then(if (wrap64 (x5 - 1))< (x1.length:Int) then(if ((rd_T52 x1 (wrap64 (x5 - 1))).f0) > x104000 then(some false) else(if ((rd_T52 x1 (wrap64 (x5 - 1))).f0)=x104000 then(if ((rd_T52 x1 (wrap64 (x5 - 1))).f1)≥x104001 then(some false) else(spec_GoodEdges.l0 k x0 x1 x7 x8 (wrap64 (x9+1)))) else(spec_GoodEdges.l0 k x0 x1 x7 x8 (wrap64 (x9+1))))) else(none)) else(none)) else(spec_GoodEdges.l0 k x0 x1 x7 x8 (wrap64 (x9+1))))
end
def spec_GoodEdges.f (k:Nat) (a0:Int) (l1:List (S52)):Option (Bool):=spec_GoodEdges.l0 k a0 l1 l1 (l1.length:Int) 0
theorem zcz {w:World} {g t:Nat} {cells:Array Value} (b:Aside0 (w.heap[g]?=some (.cells cells t (0,0)))) (i:Nat) (v:Value) (h:cells[i]?=some v:=by rfl):w.cell? ⟨g,i,none⟩=some v:=(blk_cell b.out i).trans h
theorem zer {p:Prop} (h:p:=by first|rfl|(simp [errW_none,errW_some]<;>rfl)|(simp [*,errW_none,errW_some]<;>rfl)):p:=h
theorem zhx {w W:World} {a:Addr} {v:Value} (b:Aside0 (Below w.heap.size w W)) (h:w.cell? a=some v):W.cell? a=some v:=(b.out.cell (World.block_lt_of_cell? w _ h)).trans h
theorem zk1 {q p:Prop} (b:Aside0 q) (h:q→p:=by intro z;repeat(first|(with_reducible first|exact z|apply below_alloc|apply pw_below_drewN|apply below_drew1)|exact z)):p:=h b.out
theorem zk2 {q r1 p:Prop} (b:Aside0 q) (b1:r1) (h:q→r1→p:=by intro z g1;repeat(first|(with_reducible first|exact z|apply below_alloc|apply pw_below_drewN|apply below_drew1|refine below_set ?_ g1)|exact z)):p:=h b.out b1
theorem znn {α :Type} {c:Prop} [Decidable c] {x:Option α} {r: α} {q:Prop} (h:¬ c) (H:(if c then x else none)=some r):q:=by rw [if_neg h] at H;cases H
theorem zq1 {p:Prop} (h:p:=by first|(with_reducible assumption)|assumption):p:=h
theorem zrs {p:Prop} (h:p:=by first|rfl|(simp;done)|(simp [*];done)):p:=h
set_option maxHeartbeats 8000000 in
set_option maxRecDepth 100000 in
theorem spec_GoodEdges.calls (k:Nat) (a0:Int) (A1:Option Addr) (c1:Nat) (l1:List (S52)) (r:Bool) (w:World) (hr1:Kd.C k52 w A1 l1.length l1) (hc1:l1.length≤c1) (h:spec_GoodEdges.f k a0 l1=some r):
  Calls Try.prog 43 #[.int .i64 a0,.slice A1 l1.length c1] w fun e w'=>e= .returned (.bool r)∧Below w.heap.size w w':=by
 have hu52:=Try.underlying52
 have HR1:=Aside0.mk hr1
 have HC1:=Aside0.mk hc1
 clear hr1 hc1
 have HB:=Aside0.mk (Below.refl w.heap.size w)
 have H:(spec_GoodEdges.l0 k a0 l1 l1 (l1.length:Int) 0)=some r:=h
 clear h
 have H':=Aside0.mk H
 clear H
 go_enter Try.func43,Try.ntmps43
 go_wp2
 repeat(go_quiet (fail);try go_wp2)
 go_loopg [9] k (fun kq v9 w'=> ∃ (x9_1:Int),v9= .int .i64 x9_1∧Aside0 (spec_GoodEdges.l0 kq a0 l1 l1 (l1.length:Int) x9_1=some r)∧Aside0 (kq≤k)∧Aside0 (Below w.heap.size w w'))
 case atStart=>exact⟨(0),zrs,H',⟨Nat.le_refl _⟩,⟨by exact zk1 HB⟩⟩
 case round=>
  clear H'
  try clear c1
  try clear p2
  obtain⟨x9_1,rfl,HA,HK1,HB⟩:=hrel
  cases gk with
  |zero=>exact absurd HA.out (by simp [spec_GoodEdges.l0])
  |succ k1=>
   have H:=HA.out
   clear HA
   simp only [spec_GoodEdges.l0] at H
   by_cases c3:x9_1< (l1.length:Int)
   ·rw [if_pos c3] at H
    have c3b0:decide (x9_1< (l1.length:Int))=true:=decide_eq_true c3
    clear c3
    by_cases c4: 0≤x9_1
    case neg=>exact znn c4 H
    rw [if_pos c4] at H
    have c4b0:decide (0≤x9_1)=true:=decide_eq_true c4
    clear c4
    by_cases c5:x9_1< (l1.length:Int)
    case neg=>exact znn c5 H
    rw [if_pos c5] at H
    have c5b0:decide (x9_1< (l1.length:Int))=true:=decide_eq_true c5
    clear c5
    have HC6:=Aside0.mk H
    clear H
    have p102: 0≤ (x9_1:Int):=of_decide_eq_true zq1
    have q102:x9_1< (l1.length:Int):=of_decide_eq_true zq1
    obtain⟨ad102,e102,hx102_0,hx102_1,hx102_2⟩:=at_T52 HR1.out x9_1 p102 q102
    cases e102
    replace hx102_0:=zhx HB hx102_0
    replace hx102_1:=zhx HB hx102_1
    replace hx102_2:=zhx HB hx102_2
    replace p102:=eq_true p102
    replace q102:=eq_true q102
    go_upto_region 4 with (first|((with_reducible refine gate_dst (N:=6) rfl ?_);(try(refine gate_guard (by rfl) ?_;dsimp only));refine box_event ?hg (N:=6) ?hd (cs:= #[.int .i64 0,.int .i64 0,.int .i64 0]) (t:=52) ?hr ?_;(case hd=>rfl);(case hg=>rfl);(case hr=>first|(go_simp;done)|(go_simp;rfl));intro gb103 hg w7 hbox hb;have BK103:=Aside0.mk (hbox);have GW103:=Aside0.mk ((by rw [hg];exact(below_size (by exact zk1 HB)):w.heap.size≤gb103));have GE103:=GW103;replace HB:=Aside0.mk (below_step (by exact zk1 HB) hb);clear hb hbox hg;have hcz8_0:=zcz BK103 0 (.int .i64 0);have hcz8_1:=zcz BK103 1 (.int .i64 0);have hcz8_2:=zcz BK103 2 (.int .i64 0);have hfz8_0:=blk_frozen BK103.out 0;have hfz8_1:=blk_frozen BK103.out 1;have hfz8_2:=blk_frozen BK103.out 2))
    repeat(go_quiet (first|((with_reducible refine gate_dst (N:=6) rfl ?_);(try(refine gate_guard (by rfl) ?_;dsimp only));refine box_event ?hg (N:=6) ?hd (cs:= #[.int .i64 0,.int .i64 0,.int .i64 0]) (t:=52) ?hr ?_;(case hd=>rfl);(case hg=>rfl);(case hr=>first|(go_simp;done)|(go_simp;rfl));intro gb103 hg w7 hbox hb;have BK103:=Aside0.mk (hbox);have GW103:=Aside0.mk ((by rw [hg];exact(below_size (by exact zk1 HB)):w.heap.size≤gb103));have GE103:=GW103;replace HB:=Aside0.mk (below_step (by exact zk1 HB) hb);clear hb hbox hg;have hcz8_0:=zcz BK103 0 (.int .i64 0);have hcz8_1:=zcz BK103 1 (.int .i64 0);have hcz8_2:=zcz BK103 2 (.int .i64 0);have hfz8_0:=blk_frozen BK103.out 0;have hfz8_1:=blk_frozen BK103.out 1;have hfz8_2:=blk_frozen BK103.out 2));go_upto_region 4 with (first|((with_reducible refine gate_dst (N:=6) rfl ?_);(try(refine gate_guard (by rfl) ?_;dsimp only));refine box_event ?hg (N:=6) ?hd (cs:= #[.int .i64 0,.int .i64 0,.int .i64 0]) (t:=52) ?hr ?_;(case hd=>rfl);(case hg=>rfl);(case hr=>first|(go_simp;done)|(go_simp;rfl));intro gb103 hg w7 hbox hb;have BK103:=Aside0.mk (hbox);have GW103:=Aside0.mk ((by rw [hg];exact(below_size (by exact zk1 HB)):w.heap.size≤gb103));have GE103:=GW103;replace HB:=Aside0.mk (below_step (by exact zk1 HB) hb);clear hb hbox hg;have hcz8_0:=zcz BK103 0 (.int .i64 0);have hcz8_1:=zcz BK103 1 (.int .i64 0);have hcz8_2:=zcz BK103 2 (.int .i64 0);have hfz8_0:=blk_frozen BK103.out 0;have hfz8_1:=blk_frozen BK103.out 1;have hfz8_2:=blk_frozen BK103.out 2)))
    (try simp only [Act.put,List.setIfInBounds_toArray,List.set_cons_zero,List.set_cons_succ])
    go_cut [40] (fun v40 wc=> ∃ (kq:Nat) (x40_5:Bool),v40= .bool x40_5∧Aside0 (spec_GoodEdges.j1 kq a0 l1 x9_1 l1 (l1.length:Int) x9_1 x40_5 ((rd_T52 l1 x9_1).f0) ((rd_T52 l1 x9_1).f1) ((rd_T52 l1 x9_1).f2)=some r)∧Aside0 (kq≤k1)∧Aside0 (wc.heap[gb103]?=some (.cells #[.int .i64 ((rd_T52 l1 x9_1).f0),.int .i64 ((rd_T52 l1 x9_1).f1),.int .i64 ((rd_T52 l1 x9_1).f2)] 52 (0,0)))∧Aside0 (Below w.heap.size w wc))
    case first=>
     have H:=HC6.out
     clear HC6
     replace H:=Option.bind_eq_some_iff.mp H
     obtain⟨t104,A90,H⟩:=H
     replace H:(if t104=true then((spec_l1In.f ((rd_T52 l1 x9_1).f1) 0 (wrap64 (a0 - 1))).bind fun t105=>(if t105=true then(if ((rd_T52 l1 x9_1).f0)≥ ((rd_T52 l1 x9_1).f1) then(spec_GoodEdges.j1 k1 a0 l1 x9_1 l1 (l1.length:Int) x9_1 true ((rd_T52 l1 x9_1).f0) ((rd_T52 l1 x9_1).f1) ((rd_T52 l1 x9_1).f2)) else((spec_l1In.f ((rd_T52 l1 x9_1).f2) 1 100).bind fun t106=>(spec_GoodEdges.j1 k1 a0 l1 x9_1 l1 (l1.length:Int) x9_1 (!t106) ((rd_T52 l1 x9_1).f0) ((rd_T52 l1 x9_1).f1) ((rd_T52 l1 x9_1).f2)))) else(spec_GoodEdges.j1 k1 a0 l1 x9_1 l1 (l1.length:Int) x9_1 true ((rd_T52 l1 x9_1).f0) ((rd_T52 l1 x9_1).f1) ((rd_T52 l1 x9_1).f2)))) else(spec_GoodEdges.j1 k1 a0 l1 x9_1 l1 (l1.length:Int) x9_1 true ((rd_T52 l1 x9_1).f0) ((rd_T52 l1 x9_1).f1) ((rd_T52 l1 x9_1).f2)))=some r:=H
     have A9:=Aside0.mk A90
     clear A90
     by_cases c10:t104=true
     ·subst c10
      have H1:((spec_l1In.f ((rd_T52 l1 x9_1).f1) 0 (wrap64 (a0 - 1))).bind fun t105=>(if t105=true then(if ((rd_T52 l1 x9_1).f0)≥ ((rd_T52 l1 x9_1).f1) then(spec_GoodEdges.j1 k1 a0 l1 x9_1 l1 (l1.length:Int) x9_1 true ((rd_T52 l1 x9_1).f0) ((rd_T52 l1 x9_1).f1) ((rd_T52 l1 x9_1).f2)) else((spec_l1In.f ((rd_T52 l1 x9_1).f2) 1 100).bind fun t106=>(spec_GoodEdges.j1 k1 a0 l1 x9_1 l1 (l1.length:Int) x9_1 (!t106) ((rd_T52 l1 x9_1).f0) ((rd_T52 l1 x9_1).f1) ((rd_T52 l1 x9_1).f2)))) else(spec_GoodEdges.j1 k1 a0 l1 x9_1 l1 (l1.length:Int) x9_1 true ((rd_T52 l1 x9_1).f0) ((rd_T52 l1 x9_1).f1) ((rd_T52 l1 x9_1).f2))))=some r:=by rw [if_pos rfl] at H;exact H
      clear H
      have H:=H1
      clear H1
      replace H:=Option.bind_eq_some_iff.mp H
      obtain⟨t105,A110,H⟩:=H
      replace H:(if t105=true then(if ((rd_T52 l1 x9_1).f0)≥ ((rd_T52 l1 x9_1).f1) then(spec_GoodEdges.j1 k1 a0 l1 x9_1 l1 (l1.length:Int) x9_1 true ((rd_T52 l1 x9_1).f0) ((rd_T52 l1 x9_1).f1) ((rd_T52 l1 x9_1).f2)) else((spec_l1In.f ((rd_T52 l1 x9_1).f2) 1 100).bind fun t106=>(spec_GoodEdges.j1 k1 a0 l1 x9_1 l1 (l1.length:Int) x9_1 (!t106) ((rd_T52 l1 x9_1).f0) ((rd_T52 l1 x9_1).f1) ((rd_T52 l1 x9_1).f2)))) else(spec_GoodEdges.j1 k1 a0 l1 x9_1 l1 (l1.length:Int) x9_1 true ((rd_T52 l1 x9_1).f0) ((rd_T52 l1 x9_1).f1) ((rd_T52 l1 x9_1).f2)))=some r:=H
      have A11:=Aside0.mk A110
      clear A110
      by_cases c12:t105=true
      ·subst c12
       have H1:(if ((rd_T52 l1 x9_1).f0)≥ ((rd_T52 l1 x9_1).f1) then(spec_GoodEdges.j1 k1 a0 l1 x9_1 l1 (l1.length:Int) x9_1 true ((rd_T52 l1 x9_1).f0) ((rd_T52 l1 x9_1).f1) ((rd_T52 l1 x9_1).f2)) else((spec_l1In.f ((rd_T52 l1 x9_1).f2) 1 100).bind fun t106=>(spec_GoodEdges.j1 k1 a0 l1 x9_1 l1 (l1.length:Int) x9_1 (!t106) ((rd_T52 l1 x9_1).f0) ((rd_T52 l1 x9_1).f1) ((rd_T52 l1 x9_1).f2))))=some r:=by rw [if_pos rfl] at H;exact H
       clear H
       have H:=H1
       clear H1
       by_cases c13:((rd_T52 l1 x9_1).f0)≥ ((rd_T52 l1 x9_1).f1)
       ·rw [if_pos c13] at H
        have c13b0:decide (((rd_T52 l1 x9_1).f1)≤ ((rd_T52 l1 x9_1).f0))=true:=decide_eq_true c13
        clear c13
        (first|rw [c13b0]|(simp only [i64_w,i32_w];rw [c13b0])|skip)
        have H':=Aside0.mk H
        clear H
        have hcz14_0:=zcz BK103 0 (.int .i64 0)
        have hcz14_1:=zcz BK103 1 (.int .i64 0)
        have hcz14_2:=zcz BK103 2 (.int .i64 0)
        have hfz14_0:=blk_frozen BK103.out 0
        have hfz14_1:=blk_frozen BK103.out 1
        have hfz14_2:=blk_frozen BK103.out 2
        go_wp2_with (first|(go_at_call 50;(with_reducible refine(spec_l1In.calls ((rd_T52 l1 x9_1).f0) 0 (wrap64 (a0 - 1)) true _ A9.out).mono ?_);rintro e w' ⟨rfl,⟨nd,rfl⟩⟩;(try first|exact⟨rfl,_,World.drewN_drewN _ _ _⟩|exact⟨rfl,_,Eq.trans (World.drewN_drewN _ _ _) (congrArg (World.drewN _) (Nat.add_assoc _ _ _))⟩))|(go_at_call 50;(with_reducible refine(spec_l1In.calls ((rd_T52 l1 x9_1).f1) 0 (wrap64 (a0 - 1)) true _ A11.out).mono ?_);rintro e w' ⟨rfl,⟨nd,rfl⟩⟩;(try first|exact⟨rfl,_,World.drewN_drewN _ _ _⟩|exact⟨rfl,_,Eq.trans (World.drewN_drewN _ _ _) (congrArg (World.drewN _) (Nat.add_assoc _ _ _))⟩)))
        repeat(go_quiet (first|(go_at_call 50;(with_reducible refine(spec_l1In.calls ((rd_T52 l1 x9_1).f0) 0 (wrap64 (a0 - 1)) true _ A9.out).mono ?_);rintro e w' ⟨rfl,⟨nd,rfl⟩⟩;(try first|exact⟨rfl,_,World.drewN_drewN _ _ _⟩|exact⟨rfl,_,Eq.trans (World.drewN_drewN _ _ _) (congrArg (World.drewN _) (Nat.add_assoc _ _ _))⟩))|(go_at_call 50;(with_reducible refine(spec_l1In.calls ((rd_T52 l1 x9_1).f1) 0 (wrap64 (a0 - 1)) true _ A11.out).mono ?_);rintro e w' ⟨rfl,⟨nd,rfl⟩⟩;(try first|exact⟨rfl,_,World.drewN_drewN _ _ _⟩|exact⟨rfl,_,Eq.trans (World.drewN_drewN _ _ _) (congrArg (World.drewN _) (Nat.add_assoc _ _ _))⟩)));try go_wp2_with (first|(go_at_call 50;(with_reducible refine(spec_l1In.calls ((rd_T52 l1 x9_1).f0) 0 (wrap64 (a0 - 1)) true _ A9.out).mono ?_);rintro e w' ⟨rfl,⟨nd,rfl⟩⟩;(try first|exact⟨rfl,_,World.drewN_drewN _ _ _⟩|exact⟨rfl,_,Eq.trans (World.drewN_drewN _ _ _) (congrArg (World.drewN _) (Nat.add_assoc _ _ _))⟩))|(go_at_call 50;(with_reducible refine(spec_l1In.calls ((rd_T52 l1 x9_1).f1) 0 (wrap64 (a0 - 1)) true _ A11.out).mono ?_);rintro e w' ⟨rfl,⟨nd,rfl⟩⟩;(try first|exact⟨rfl,_,World.drewN_drewN _ _ _⟩|exact⟨rfl,_,Eq.trans (World.drewN_drewN _ _ _) (congrArg (World.drewN _) (Nat.add_assoc _ _ _))⟩))))
        go_meet
        case rel=>exact⟨_,(true),zrs,H',⟨by have:=HK1.out;first|omega|exact Nat.le_refl _⟩,⟨by(with_reducible repeat(first|refine blk_drewN ?_ _|refine blk_drew ?_ |refine blk_alloc ?_ _));refine blk_put (cs:= #[.int .i64 ((rd_T52 l1 x9_1).f0),.int .i64 ((rd_T52 l1 x9_1).f1),.int .i64 0]) ?_ 2 _ rfl;(with_reducible repeat(first|refine blk_drewN ?_ _|refine blk_drew ?_ |refine blk_alloc ?_ _));refine blk_put (cs:= #[.int .i64 ((rd_T52 l1 x9_1).f0),.int .i64 0,.int .i64 0]) ?_ 1 _ rfl;(with_reducible repeat(first|refine blk_drewN ?_ _|refine blk_drew ?_ |refine blk_alloc ?_ _));refine blk_put (cs:= #[.int .i64 0,.int .i64 0,.int .i64 0]) ?_ 0 _ rfl;(with_reducible repeat(first|refine blk_drewN ?_ _|refine blk_drew ?_ |refine blk_alloc ?_ _));exact BK103.out⟩,⟨by exact zk2 HB GE103.out⟩⟩
       ·rw [if_neg c13] at H
        have c13b0:decide (((rd_T52 l1 x9_1).f1)≤ ((rd_T52 l1 x9_1).f0))=false:=decide_eq_false c13
        clear c13
        (first|rw [c13b0]|(simp only [i64_w,i32_w];rw [c13b0])|skip)
        replace H:=Option.bind_eq_some_iff.mp H
        obtain⟨t106,A150,H⟩:=H
        replace H:(spec_GoodEdges.j1 k1 a0 l1 x9_1 l1 (l1.length:Int) x9_1 (!t106) ((rd_T52 l1 x9_1).f0) ((rd_T52 l1 x9_1).f1) ((rd_T52 l1 x9_1).f2))=some r:=H
        have A15:=Aside0.mk A150
        clear A150
        have H':=Aside0.mk H
        clear H
        have hcz16_0:=zcz BK103 0 (.int .i64 0)
        have hcz16_1:=zcz BK103 1 (.int .i64 0)
        have hcz16_2:=zcz BK103 2 (.int .i64 0)
        have hfz16_0:=blk_frozen BK103.out 0
        have hfz16_1:=blk_frozen BK103.out 1
        have hfz16_2:=blk_frozen BK103.out 2
        go_wp2_with (first|(go_at_call 50;(with_reducible refine(spec_l1In.calls ((rd_T52 l1 x9_1).f0) 0 (wrap64 (a0 - 1)) true _ A9.out).mono ?_);rintro e w' ⟨rfl,⟨nd,rfl⟩⟩;(try first|exact⟨rfl,_,World.drewN_drewN _ _ _⟩|exact⟨rfl,_,Eq.trans (World.drewN_drewN _ _ _) (congrArg (World.drewN _) (Nat.add_assoc _ _ _))⟩))|(go_at_call 50;(with_reducible refine(spec_l1In.calls ((rd_T52 l1 x9_1).f1) 0 (wrap64 (a0 - 1)) true _ A11.out).mono ?_);rintro e w' ⟨rfl,⟨nd,rfl⟩⟩;(try first|exact⟨rfl,_,World.drewN_drewN _ _ _⟩|exact⟨rfl,_,Eq.trans (World.drewN_drewN _ _ _) (congrArg (World.drewN _) (Nat.add_assoc _ _ _))⟩))|(go_at_call 50;(with_reducible refine(spec_l1In.calls ((rd_T52 l1 x9_1).f2) 1 100 t106 _ A15.out).mono ?_);rintro e w' ⟨rfl,⟨nd,rfl⟩⟩;(try first|exact⟨rfl,_,World.drewN_drewN _ _ _⟩|exact⟨rfl,_,Eq.trans (World.drewN_drewN _ _ _) (congrArg (World.drewN _) (Nat.add_assoc _ _ _))⟩)))
        repeat(go_quiet (first|(go_at_call 50;(with_reducible refine(spec_l1In.calls ((rd_T52 l1 x9_1).f0) 0 (wrap64 (a0 - 1)) true _ A9.out).mono ?_);rintro e w' ⟨rfl,⟨nd,rfl⟩⟩;(try first|exact⟨rfl,_,World.drewN_drewN _ _ _⟩|exact⟨rfl,_,Eq.trans (World.drewN_drewN _ _ _) (congrArg (World.drewN _) (Nat.add_assoc _ _ _))⟩))|(go_at_call 50;(with_reducible refine(spec_l1In.calls ((rd_T52 l1 x9_1).f1) 0 (wrap64 (a0 - 1)) true _ A11.out).mono ?_);rintro e w' ⟨rfl,⟨nd,rfl⟩⟩;(try first|exact⟨rfl,_,World.drewN_drewN _ _ _⟩|exact⟨rfl,_,Eq.trans (World.drewN_drewN _ _ _) (congrArg (World.drewN _) (Nat.add_assoc _ _ _))⟩))|(go_at_call 50;(with_reducible refine(spec_l1In.calls ((rd_T52 l1 x9_1).f2) 1 100 t106 _ A15.out).mono ?_);rintro e w' ⟨rfl,⟨nd,rfl⟩⟩;(try first|exact⟨rfl,_,World.drewN_drewN _ _ _⟩|exact⟨rfl,_,Eq.trans (World.drewN_drewN _ _ _) (congrArg (World.drewN _) (Nat.add_assoc _ _ _))⟩)));try go_wp2_with (first|(go_at_call 50;(with_reducible refine(spec_l1In.calls ((rd_T52 l1 x9_1).f0) 0 (wrap64 (a0 - 1)) true _ A9.out).mono ?_);rintro e w' ⟨rfl,⟨nd,rfl⟩⟩;(try first|exact⟨rfl,_,World.drewN_drewN _ _ _⟩|exact⟨rfl,_,Eq.trans (World.drewN_drewN _ _ _) (congrArg (World.drewN _) (Nat.add_assoc _ _ _))⟩))|(go_at_call 50;(with_reducible refine(spec_l1In.calls ((rd_T52 l1 x9_1).f1) 0 (wrap64 (a0 - 1)) true _ A11.out).mono ?_);rintro e w' ⟨rfl,⟨nd,rfl⟩⟩;(try first|exact⟨rfl,_,World.drewN_drewN _ _ _⟩|exact⟨rfl,_,Eq.trans (World.drewN_drewN _ _ _) (congrArg (World.drewN _) (Nat.add_assoc _ _ _))⟩))|(go_at_call 50;(with_reducible refine(spec_l1In.calls ((rd_T52 l1 x9_1).f2) 1 100 t106 _ A15.out).mono ?_);rintro e w' ⟨rfl,⟨nd,rfl⟩⟩;(try first|exact⟨rfl,_,World.drewN_drewN _ _ _⟩|exact⟨rfl,_,Eq.trans (World.drewN_drewN _ _ _) (congrArg (World.drewN _) (Nat.add_assoc _ _ _))⟩))))
        go_meet
        case rel=>exact⟨_,(!t106),zrs,H',⟨by have:=HK1.out;first|omega|exact Nat.le_refl _⟩,⟨by(with_reducible repeat(first|refine blk_drewN ?_ _|refine blk_drew ?_ |refine blk_alloc ?_ _));refine blk_put (cs:= #[.int .i64 ((rd_T52 l1 x9_1).f0),.int .i64 ((rd_T52 l1 x9_1).f1),.int .i64 0]) ?_ 2 _ rfl;(with_reducible repeat(first|refine blk_drewN ?_ _|refine blk_drew ?_ |refine blk_alloc ?_ _));refine blk_put (cs:= #[.int .i64 ((rd_T52 l1 x9_1).f0),.int .i64 0,.int .i64 0]) ?_ 1 _ rfl;(with_reducible repeat(first|refine blk_drewN ?_ _|refine blk_drew ?_ |refine blk_alloc ?_ _));refine blk_put (cs:= #[.int .i64 0,.int .i64 0,.int .i64 0]) ?_ 0 _ rfl;(with_reducible repeat(first|refine blk_drewN ?_ _|refine blk_drew ?_ |refine blk_alloc ?_ _));exact BK103.out⟩,⟨by exact zk2 HB GE103.out⟩⟩
      ·replace c12:=Bool.eq_false_iff.mpr c12
       subst c12
       have H1:(spec_GoodEdges.j1 k1 a0 l1 x9_1 l1 (l1.length:Int) x9_1 true ((rd_T52 l1 x9_1).f0) ((rd_T52 l1 x9_1).f1) ((rd_T52 l1 x9_1).f2))=some r:=by rw [if_neg (show ¬ (false=true) by decide)] at H;exact H
       clear H
       have H:=H1
       clear H1
       have H':=Aside0.mk H
       clear H
       have hcz17_0:=zcz BK103 0 (.int .i64 0)
       have hcz17_1:=zcz BK103 1 (.int .i64 0)
       have hcz17_2:=zcz BK103 2 (.int .i64 0)
       have hfz17_0:=blk_frozen BK103.out 0
       have hfz17_1:=blk_frozen BK103.out 1
       have hfz17_2:=blk_frozen BK103.out 2
       go_wp2_with (first|(go_at_call 50;(with_reducible refine(spec_l1In.calls ((rd_T52 l1 x9_1).f0) 0 (wrap64 (a0 - 1)) true _ A9.out).mono ?_);rintro e w' ⟨rfl,⟨nd,rfl⟩⟩;(try first|exact⟨rfl,_,World.drewN_drewN _ _ _⟩|exact⟨rfl,_,Eq.trans (World.drewN_drewN _ _ _) (congrArg (World.drewN _) (Nat.add_assoc _ _ _))⟩))|(go_at_call 50;(with_reducible refine(spec_l1In.calls ((rd_T52 l1 x9_1).f1) 0 (wrap64 (a0 - 1)) false _ A11.out).mono ?_);rintro e w' ⟨rfl,⟨nd,rfl⟩⟩;(try first|exact⟨rfl,_,World.drewN_drewN _ _ _⟩|exact⟨rfl,_,Eq.trans (World.drewN_drewN _ _ _) (congrArg (World.drewN _) (Nat.add_assoc _ _ _))⟩)))
       repeat(go_quiet (first|(go_at_call 50;(with_reducible refine(spec_l1In.calls ((rd_T52 l1 x9_1).f0) 0 (wrap64 (a0 - 1)) true _ A9.out).mono ?_);rintro e w' ⟨rfl,⟨nd,rfl⟩⟩;(try first|exact⟨rfl,_,World.drewN_drewN _ _ _⟩|exact⟨rfl,_,Eq.trans (World.drewN_drewN _ _ _) (congrArg (World.drewN _) (Nat.add_assoc _ _ _))⟩))|(go_at_call 50;(with_reducible refine(spec_l1In.calls ((rd_T52 l1 x9_1).f1) 0 (wrap64 (a0 - 1)) false _ A11.out).mono ?_);rintro e w' ⟨rfl,⟨nd,rfl⟩⟩;(try first|exact⟨rfl,_,World.drewN_drewN _ _ _⟩|exact⟨rfl,_,Eq.trans (World.drewN_drewN _ _ _) (congrArg (World.drewN _) (Nat.add_assoc _ _ _))⟩)));try go_wp2_with (first|(go_at_call 50;(with_reducible refine(spec_l1In.calls ((rd_T52 l1 x9_1).f0) 0 (wrap64 (a0 - 1)) true _ A9.out).mono ?_);rintro e w' ⟨rfl,⟨nd,rfl⟩⟩;(try first|exact⟨rfl,_,World.drewN_drewN _ _ _⟩|exact⟨rfl,_,Eq.trans (World.drewN_drewN _ _ _) (congrArg (World.drewN _) (Nat.add_assoc _ _ _))⟩))|(go_at_call 50;(with_reducible refine(spec_l1In.calls ((rd_T52 l1 x9_1).f1) 0 (wrap64 (a0 - 1)) false _ A11.out).mono ?_);rintro e w' ⟨rfl,⟨nd,rfl⟩⟩;(try first|exact⟨rfl,_,World.drewN_drewN _ _ _⟩|exact⟨rfl,_,Eq.trans (World.drewN_drewN _ _ _) (congrArg (World.drewN _) (Nat.add_assoc _ _ _))⟩))))
       go_meet
       case rel=>exact⟨_,(true),zrs,H',⟨by have:=HK1.out;first|omega|exact Nat.le_refl _⟩,⟨by(with_reducible repeat(first|refine blk_drewN ?_ _|refine blk_drew ?_ |refine blk_alloc ?_ _));refine blk_put (cs:= #[.int .i64 ((rd_T52 l1 x9_1).f0),.int .i64 ((rd_T52 l1 x9_1).f1),.int .i64 0]) ?_ 2 _ rfl;(with_reducible repeat(first|refine blk_drewN ?_ _|refine blk_drew ?_ |refine blk_alloc ?_ _));refine blk_put (cs:= #[.int .i64 ((rd_T52 l1 x9_1).f0),.int .i64 0,.int .i64 0]) ?_ 1 _ rfl;(with_reducible repeat(first|refine blk_drewN ?_ _|refine blk_drew ?_ |refine blk_alloc ?_ _));refine blk_put (cs:= #[.int .i64 0,.int .i64 0,.int .i64 0]) ?_ 0 _ rfl;(with_reducible repeat(first|refine blk_drewN ?_ _|refine blk_drew ?_ |refine blk_alloc ?_ _));exact BK103.out⟩,⟨by exact zk2 HB GE103.out⟩⟩
     ·replace c10:=Bool.eq_false_iff.mpr c10
      subst c10
      have H1:(spec_GoodEdges.j1 k1 a0 l1 x9_1 l1 (l1.length:Int) x9_1 true ((rd_T52 l1 x9_1).f0) ((rd_T52 l1 x9_1).f1) ((rd_T52 l1 x9_1).f2))=some r:=by rw [if_neg (show ¬ (false=true) by decide)] at H;exact H
      clear H
      have H:=H1
      clear H1
      have H':=Aside0.mk H
      clear H
      have hcz18_0:=zcz BK103 0 (.int .i64 0)
      have hcz18_1:=zcz BK103 1 (.int .i64 0)
      have hcz18_2:=zcz BK103 2 (.int .i64 0)
      have hfz18_0:=blk_frozen BK103.out 0
      have hfz18_1:=blk_frozen BK103.out 1
      have hfz18_2:=blk_frozen BK103.out 2
      go_wp2_with (first|(go_at_call 50;(with_reducible refine(spec_l1In.calls ((rd_T52 l1 x9_1).f0) 0 (wrap64 (a0 - 1)) false _ A9.out).mono ?_);rintro e w' ⟨rfl,⟨nd,rfl⟩⟩;(try first|exact⟨rfl,_,World.drewN_drewN _ _ _⟩|exact⟨rfl,_,Eq.trans (World.drewN_drewN _ _ _) (congrArg (World.drewN _) (Nat.add_assoc _ _ _))⟩)))
      repeat(go_quiet (first|(go_at_call 50;(with_reducible refine(spec_l1In.calls ((rd_T52 l1 x9_1).f0) 0 (wrap64 (a0 - 1)) false _ A9.out).mono ?_);rintro e w' ⟨rfl,⟨nd,rfl⟩⟩;(try first|exact⟨rfl,_,World.drewN_drewN _ _ _⟩|exact⟨rfl,_,Eq.trans (World.drewN_drewN _ _ _) (congrArg (World.drewN _) (Nat.add_assoc _ _ _))⟩)));try go_wp2_with (first|(go_at_call 50;(with_reducible refine(spec_l1In.calls ((rd_T52 l1 x9_1).f0) 0 (wrap64 (a0 - 1)) false _ A9.out).mono ?_);rintro e w' ⟨rfl,⟨nd,rfl⟩⟩;(try first|exact⟨rfl,_,World.drewN_drewN _ _ _⟩|exact⟨rfl,_,Eq.trans (World.drewN_drewN _ _ _) (congrArg (World.drewN _) (Nat.add_assoc _ _ _))⟩))))
      go_meet
      case rel=>exact⟨_,(true),zrs,H',⟨by have:=HK1.out;first|omega|exact Nat.le_refl _⟩,⟨by(with_reducible repeat(first|refine blk_drewN ?_ _|refine blk_drew ?_ |refine blk_alloc ?_ _));refine blk_put (cs:= #[.int .i64 ((rd_T52 l1 x9_1).f0),.int .i64 ((rd_T52 l1 x9_1).f1),.int .i64 0]) ?_ 2 _ rfl;(with_reducible repeat(first|refine blk_drewN ?_ _|refine blk_drew ?_ |refine blk_alloc ?_ _));refine blk_put (cs:= #[.int .i64 ((rd_T52 l1 x9_1).f0),.int .i64 0,.int .i64 0]) ?_ 1 _ rfl;(with_reducible repeat(first|refine blk_drewN ?_ _|refine blk_drew ?_ |refine blk_alloc ?_ _));refine blk_put (cs:= #[.int .i64 0,.int .i64 0,.int .i64 0]) ?_ 0 _ rfl;(with_reducible repeat(first|refine blk_drewN ?_ _|refine blk_drew ?_ |refine blk_alloc ?_ _));exact BK103.out⟩,⟨by exact zk2 HB GE103.out⟩⟩
    case rest=>
     clear HC6
     try clear c1
     try clear p1
     try clear q1
     try clear hx1
     try clear p2
     try clear c3
     try clear c3b0
     try clear c4
     try clear c4b0
     try clear c5
     try clear c5b0
     try clear p6
     try clear c10
     try clear p10
     try clear q10
     try clear hx10
     try clear c12
     try clear c13
     try clear c13b0
     try clear hcz14_0
     try clear hcz14_1
     try clear hcz14_2
     try clear hcz16_0
     try clear hcz16_1
     try clear hcz16_2
     try clear hcz17_0
     try clear hcz17_1
     try clear hcz17_2
     try clear hcz18_0
     try clear hcz18_1
     try clear hcz18_2
     try clear hcz8_0
     try clear hcz8_1
     try clear hcz8_2
     try clear hfz14_0
     try clear hfz14_1
     try clear hfz14_2
     try clear hfz16_0
     try clear hfz16_1
     try clear hfz16_2
     try clear hfz17_0
     try clear hfz17_1
     try clear hfz17_2
     try clear hfz18_0
     try clear hfz18_1
     try clear hfz18_2
     try clear hfz8_0
     try clear hfz8_1
     try clear hfz8_2
     try clear hx102_0
     try clear hx102_1
     try clear hx102_2
     try clear p102
     try clear p2
     try clear q102
     obtain⟨kq,x40_5,rfl,HA,HJ5,BK103,HB⟩:=hcut
     cases kq with
     |zero=>exact absurd HA.out (by simp [spec_GoodEdges.j1])
     |succ kj5=>
      have H:=HA.out
      clear HA
      simp only [spec_GoodEdges.j1] at H
      by_cases c19:x40_5=true
      ·subst c19
       have H1:(some false)=some r:=by rw [if_pos rfl] at H;exact H
       clear H
       have H:=H1
       clear H1
       obtain rfl:=Option.some.inj H
       go_wp2
       repeat(go_quiet (fail);try go_wp2)
       go_ret
       exact⟨zer,by exact zk2 HB GE103.out⟩
      ·replace c19:=Bool.eq_false_iff.mpr c19
       subst c19
       have H1:(if x9_1 > 0 then(if 0≤ (wrap64 (x9_1 - 1)) then(if (wrap64 (x9_1 - 1))< (l1.length:Int) then(if ((rd_T52 l1 (wrap64 (x9_1 - 1))).f0) > ((rd_T52 l1 x9_1).f0) then(some false) else(if ((rd_T52 l1 (wrap64 (x9_1 - 1))).f0)= ((rd_T52 l1 x9_1).f0) then(if ((rd_T52 l1 (wrap64 (x9_1 - 1))).f1)≥ ((rd_T52 l1 x9_1).f1) then(some false) else(spec_GoodEdges.l0 kj5 a0 l1 l1 (l1.length:Int) (wrap64 (x9_1+1)))) else(spec_GoodEdges.l0 kj5 a0 l1 l1 (l1.length:Int) (wrap64 (x9_1+1))))) else(none)) else(none)) else(spec_GoodEdges.l0 kj5 a0 l1 l1 (l1.length:Int) (wrap64 (x9_1+1))))=some r:=by rw [if_neg (show ¬ (false=true) by decide)] at H;exact H
       clear H
       have H:=H1
       clear H1
       by_cases c20:x9_1 > 0
       ·rw [if_pos c20] at H
        have c20b0:decide (0<x9_1)=true:=decide_eq_true c20
        clear c20
        obtain⟨ji21,hji21⟩ :∃ j_:Int,(wrap64 (x9_1 - 1))=j_:=⟨_,rfl⟩
        replace H:(if 0≤ (ji21) then(if (ji21)< (l1.length:Int) then(if ((rd_T52 l1 (ji21)).f0) > ((rd_T52 l1 x9_1).f0) then(some false) else(if ((rd_T52 l1 (ji21)).f0)= ((rd_T52 l1 x9_1).f0) then(if ((rd_T52 l1 (ji21)).f1)≥ ((rd_T52 l1 x9_1).f1) then(some false) else(spec_GoodEdges.l0 kj5 a0 l1 l1 (l1.length:Int) (wrap64 (x9_1+1)))) else(spec_GoodEdges.l0 kj5 a0 l1 l1 (l1.length:Int) (wrap64 (x9_1+1))))) else(none)) else(none))=some r:=by first|(rw [hji21] at H;exact H)|(simp only [hji21] at H ⊢;exact H)
        have hji21w:(IntKind.i64.wrap (x9_1 - 1))=ji21:=(i64_w _).trans hji21
        by_cases c22: 0≤ (ji21)
        case neg=>exact znn c22 H
        rw [if_pos c22] at H
        have c22b0:decide (0≤ (ji21))=true:=decide_eq_true c22
        clear c22
        by_cases c23:(ji21)< (l1.length:Int)
        case neg=>exact znn c23 H
        rw [if_pos c23] at H
        have c23b0:decide ((ji21)< (l1.length:Int))=true:=decide_eq_true c23
        clear c23
        by_cases c24:((rd_T52 l1 (ji21)).f0) > ((rd_T52 l1 x9_1).f0)
        ·rw [if_pos c24] at H
         have c24b0:decide (((rd_T52 l1 x9_1).f0)< ((rd_T52 l1 (ji21)).f0))=true:=decide_eq_true c24
         clear c24
         obtain rfl:=Option.some.inj H
         have p107: 0≤ ((ji21):Int):=of_decide_eq_true zq1
         have q107:(ji21)< (l1.length:Int):=of_decide_eq_true zq1
         obtain⟨ad107,e107,hx107_0,hx107_1,hx107_2⟩:=at_T52 HR1.out (ji21) p107 q107
         obtain rfl:ad102=ad107:=(by injection e107)
         replace hx107_0:=zhx HB hx107_0
         replace hx107_1:=zhx HB hx107_1
         replace hx107_2:=zhx HB hx107_2
         replace p107:=eq_true p107
         replace q107:=eq_true q107
         have hcz25_0:wc.cell? ⟨gb103,0,none⟩=some (.int .i64 ((rd_T52 l1 x9_1).f0)):=(blk_cell BK103.out 0).trans rfl
         have hcz25_1:wc.cell? ⟨gb103,1,none⟩=some (.int .i64 ((rd_T52 l1 x9_1).f1)):=(blk_cell BK103.out 1).trans rfl
         have hcz25_2:wc.cell? ⟨gb103,2,none⟩=some (.int .i64 ((rd_T52 l1 x9_1).f2)):=(blk_cell BK103.out 2).trans rfl
         have hfz25_0:=blk_frozen BK103.out 0
         have hfz25_1:=blk_frozen BK103.out 1
         have hfz25_2:=blk_frozen BK103.out 2
         go_wp2
         repeat(go_quiet (fail);try go_wp2)
         go_ret
         exact⟨by first|rfl|(simp [errW_none,errW_some]<;>rfl)|(simp only [← hji21];first|rfl|(simp [errW_none,errW_some]<;>rfl))|(simp [*,errW_none,errW_some]<;>rfl),by exact zk2 HB GE103.out⟩
        ·rw [if_neg c24] at H
         have c24b0:decide (((rd_T52 l1 x9_1).f0)< ((rd_T52 l1 (ji21)).f0))=false:=decide_eq_false c24
         clear c24
         by_cases c26:((rd_T52 l1 (ji21)).f0)= ((rd_T52 l1 x9_1).f0)
         ·rw [if_pos c26] at H
          have c26b0:(((rd_T52 l1 (ji21)).f0)== ((rd_T52 l1 x9_1).f0))=true:=beq_iff_eq.mpr c26
          have c26b1:(((rd_T52 l1 (ji21)).f0) != ((rd_T52 l1 x9_1).f0))=false:=bne_eq_false_iff_eq.mpr c26
          clear c26
          by_cases c27:((rd_T52 l1 (ji21)).f1)≥ ((rd_T52 l1 x9_1).f1)
          ·rw [if_pos c27] at H
           have c27b0:decide (((rd_T52 l1 x9_1).f1)≤ ((rd_T52 l1 (ji21)).f1))=true:=decide_eq_true c27
           clear c27
           obtain rfl:=Option.some.inj H
           have p107: 0≤ ((ji21):Int):=of_decide_eq_true zq1
           have q107:(ji21)< (l1.length:Int):=of_decide_eq_true zq1
           obtain⟨ad107,e107,hx107_0,hx107_1,hx107_2⟩:=at_T52 HR1.out (ji21) p107 q107
           obtain rfl:ad102=ad107:=(by injection e107)
           replace hx107_0:=zhx HB hx107_0
           replace hx107_1:=zhx HB hx107_1
           replace hx107_2:=zhx HB hx107_2
           replace p107:=eq_true p107
           replace q107:=eq_true q107
           have hcz28_0:wc.cell? ⟨gb103,0,none⟩=some (.int .i64 ((rd_T52 l1 x9_1).f0)):=(blk_cell BK103.out 0).trans rfl
           have hcz28_1:wc.cell? ⟨gb103,1,none⟩=some (.int .i64 ((rd_T52 l1 x9_1).f1)):=(blk_cell BK103.out 1).trans rfl
           have hcz28_2:wc.cell? ⟨gb103,2,none⟩=some (.int .i64 ((rd_T52 l1 x9_1).f2)):=(blk_cell BK103.out 2).trans rfl
           have hfz28_0:=blk_frozen BK103.out 0
           have hfz28_1:=blk_frozen BK103.out 1
           have hfz28_2:=blk_frozen BK103.out 2
           have p108: 0≤ ((ji21):Int):=of_decide_eq_true zq1
           have q108:(ji21)< (l1.length:Int):=of_decide_eq_true zq1
           obtain⟨ad108,e108,hx108_0,hx108_1,hx108_2⟩:=at_T52 HR1.out (ji21) p108 q108
           obtain rfl:ad102=ad108:=(by injection e108)
           replace hx108_0:=zhx HB hx108_0
           replace hx108_1:=zhx HB hx108_1
           replace hx108_2:=zhx HB hx108_2
           replace p108:=eq_true p108
           replace q108:=eq_true q108
           have p109: 0≤ ((ji21):Int):=of_decide_eq_true zq1
           have q109:(ji21)< (l1.length:Int):=of_decide_eq_true zq1
           obtain⟨ad109,e109,hx109_0,hx109_1,hx109_2⟩:=at_T52 HR1.out (ji21) p109 q109
           obtain rfl:ad102=ad109:=(by injection e109)
           replace hx109_0:=zhx HB hx109_0
           replace hx109_1:=zhx HB hx109_1
           replace hx109_2:=zhx HB hx109_2
           replace p109:=eq_true p109
           replace q109:=eq_true q109
           go_wp2
           repeat(go_quiet (fail);try go_wp2)
           go_ret
           exact⟨by first|rfl|(simp [errW_none,errW_some]<;>rfl)|(simp only [← hji21];first|rfl|(simp [errW_none,errW_some]<;>rfl))|(simp [*,errW_none,errW_some]<;>rfl),by exact zk2 HB GE103.out⟩
          ·rw [if_neg c27] at H
           have c27b0:decide (((rd_T52 l1 x9_1).f1)≤ ((rd_T52 l1 (ji21)).f1))=false:=decide_eq_false c27
           clear c27
           have H':=Aside0.mk H
           clear H
           have p107: 0≤ ((ji21):Int):=of_decide_eq_true zq1
           have q107:(ji21)< (l1.length:Int):=of_decide_eq_true zq1
           obtain⟨ad107,e107,hx107_0,hx107_1,hx107_2⟩:=at_T52 HR1.out (ji21) p107 q107
           obtain rfl:ad102=ad107:=(by injection e107)
           replace hx107_0:=zhx HB hx107_0
           replace hx107_1:=zhx HB hx107_1
           replace hx107_2:=zhx HB hx107_2
           replace p107:=eq_true p107
           replace q107:=eq_true q107
           have hcz29_0:wc.cell? ⟨gb103,0,none⟩=some (.int .i64 ((rd_T52 l1 x9_1).f0)):=(blk_cell BK103.out 0).trans rfl
           have hcz29_1:wc.cell? ⟨gb103,1,none⟩=some (.int .i64 ((rd_T52 l1 x9_1).f1)):=(blk_cell BK103.out 1).trans rfl
           have hcz29_2:wc.cell? ⟨gb103,2,none⟩=some (.int .i64 ((rd_T52 l1 x9_1).f2)):=(blk_cell BK103.out 2).trans rfl
           have hfz29_0:=blk_frozen BK103.out 0
           have hfz29_1:=blk_frozen BK103.out 1
           have hfz29_2:=blk_frozen BK103.out 2
           have p108: 0≤ ((ji21):Int):=of_decide_eq_true zq1
           have q108:(ji21)< (l1.length:Int):=of_decide_eq_true zq1
           obtain⟨ad108,e108,hx108_0,hx108_1,hx108_2⟩:=at_T52 HR1.out (ji21) p108 q108
           obtain rfl:ad102=ad108:=(by injection e108)
           replace hx108_0:=zhx HB hx108_0
           replace hx108_1:=zhx HB hx108_1
           replace hx108_2:=zhx HB hx108_2
           replace p108:=eq_true p108
           replace q108:=eq_true q108
           have p109: 0≤ ((ji21):Int):=of_decide_eq_true zq1
           have q109:(ji21)< (l1.length:Int):=of_decide_eq_true zq1
           obtain⟨ad109,e109,hx109_0,hx109_1,hx109_2⟩:=at_T52 HR1.out (ji21) p109 q109
           obtain rfl:ad102=ad109:=(by injection e109)
           replace hx109_0:=zhx HB hx109_0
           replace hx109_1:=zhx HB hx109_1
           replace hx109_2:=zhx HB hx109_2
           replace p109:=eq_true p109
           replace q109:=eq_true q109
           go_wp2
           repeat(go_quiet (fail);try go_wp2)
           go_roundg kj5
           case measure=>have:=HK1.out;have:=HJ5.out;omega
           case rel=>exact⟨(wrap64 (x9_1+1)),zrs,H',⟨by have:=HK1.out;have:=HJ5.out;omega⟩,⟨by exact zk2 HB GE103.out⟩⟩
         ·rw [if_neg c26] at H
          have c26b0:(((rd_T52 l1 (ji21)).f0)== ((rd_T52 l1 x9_1).f0))=false:=beq_eq_false_iff_ne.mpr c26
          have c26b1:(((rd_T52 l1 (ji21)).f0) != ((rd_T52 l1 x9_1).f0))=true:=bne_iff_ne.mpr c26
          have H':=Aside0.mk H
          clear H
          have p107: 0≤ ((ji21):Int):=of_decide_eq_true zq1
          have q107:(ji21)< (l1.length:Int):=of_decide_eq_true zq1
          obtain⟨ad107,e107,hx107_0,hx107_1,hx107_2⟩:=at_T52 HR1.out (ji21) p107 q107
          obtain rfl:ad102=ad107:=(by injection e107)
          replace hx107_0:=zhx HB hx107_0
          replace hx107_1:=zhx HB hx107_1
          replace hx107_2:=zhx HB hx107_2
          replace p107:=eq_true p107
          replace q107:=eq_true q107
          have hcz30_0:wc.cell? ⟨gb103,0,none⟩=some (.int .i64 ((rd_T52 l1 x9_1).f0)):=(blk_cell BK103.out 0).trans rfl
          have hcz30_1:wc.cell? ⟨gb103,1,none⟩=some (.int .i64 ((rd_T52 l1 x9_1).f1)):=(blk_cell BK103.out 1).trans rfl
          have hcz30_2:wc.cell? ⟨gb103,2,none⟩=some (.int .i64 ((rd_T52 l1 x9_1).f2)):=(blk_cell BK103.out 2).trans rfl
          have hfz30_0:=blk_frozen BK103.out 0
          have hfz30_1:=blk_frozen BK103.out 1
          have hfz30_2:=blk_frozen BK103.out 2
          have p108: 0≤ ((ji21):Int):=of_decide_eq_true zq1
          have q108:(ji21)< (l1.length:Int):=of_decide_eq_true zq1
          obtain⟨ad108,e108,hx108_0,hx108_1,hx108_2⟩:=at_T52 HR1.out (ji21) p108 q108
          obtain rfl:ad102=ad108:=(by injection e108)
          replace hx108_0:=zhx HB hx108_0
          replace hx108_1:=zhx HB hx108_1
          replace hx108_2:=zhx HB hx108_2
          replace p108:=eq_true p108
          replace q108:=eq_true q108
          go_wp2
          repeat(go_quiet (fail);try go_wp2)
          go_roundg kj5
          case measure=>have:=HK1.out;have:=HJ5.out;omega
          case rel=>exact⟨(wrap64 (x9_1+1)),zrs,H',⟨by have:=HK1.out;have:=HJ5.out;omega⟩,⟨by exact zk2 HB GE103.out⟩⟩
       ·rw [if_neg c20] at H
        have c20b0:decide (0<x9_1)=false:=decide_eq_false c20
        clear c20
        have H':=Aside0.mk H
        clear H
        go_wp2
        repeat(go_quiet (fail);try go_wp2)
        go_roundg kj5
        case measure=>have:=HK1.out;have:=HJ5.out;omega
        case rel=>exact⟨(wrap64 (x9_1+1)),zrs,H',⟨by have:=HK1.out;have:=HJ5.out;omega⟩,⟨by exact zk2 HB GE103.out⟩⟩
   ·rw [if_neg c3] at H
    have c3b0:decide (x9_1< (l1.length:Int))=false:=decide_eq_false c3
    clear c3
    replace H:=Option.bind_eq_some_iff.mp H
    obtain⟨t101,A310,H⟩:=H
    replace H:(if t101=true then(some (decide ((l1.length:Int)≤40))) else(some false))=some r:=H
    have A31:=Aside0.mk A310
    clear A310
    by_cases c32:t101=true
    ·subst c32
     have H1:(some (decide ((l1.length:Int)≤40)))=some r:=by rw [if_pos rfl] at H;exact H
     clear H
     have H:=H1
     clear H1
     obtain rfl:=Option.some.inj H
     go_wp2_with (first|(go_at_call 50;(with_reducible refine(spec_l1In.calls a0 1 12 true _ A31.out).mono ?_);rintro e w' ⟨rfl,⟨nd,rfl⟩⟩;(try first|exact⟨rfl,_,World.drewN_drewN _ _ _⟩|exact⟨rfl,_,Eq.trans (World.drewN_drewN _ _ _) (congrArg (World.drewN _) (Nat.add_assoc _ _ _))⟩)))
     repeat(go_quiet (first|(go_at_call 50;(with_reducible refine(spec_l1In.calls a0 1 12 true _ A31.out).mono ?_);rintro e w' ⟨rfl,⟨nd,rfl⟩⟩;(try first|exact⟨rfl,_,World.drewN_drewN _ _ _⟩|exact⟨rfl,_,Eq.trans (World.drewN_drewN _ _ _) (congrArg (World.drewN _) (Nat.add_assoc _ _ _))⟩)));try go_wp2_with (first|(go_at_call 50;(with_reducible refine(spec_l1In.calls a0 1 12 true _ A31.out).mono ?_);rintro e w' ⟨rfl,⟨nd,rfl⟩⟩;(try first|exact⟨rfl,_,World.drewN_drewN _ _ _⟩|exact⟨rfl,_,Eq.trans (World.drewN_drewN _ _ _) (congrArg (World.drewN _) (Nat.add_assoc _ _ _))⟩))))
     go_ret
     exact⟨zer,by exact zk1 HB⟩
    ·replace c32:=Bool.eq_false_iff.mpr c32
     subst c32
     have H1:(some false)=some r:=by rw [if_neg (show ¬ (false=true) by decide)] at H;exact H
     clear H
     have H:=H1
     clear H1
     obtain rfl:=Option.some.inj H
     go_wp2_with (first|(go_at_call 50;(with_reducible refine(spec_l1In.calls a0 1 12 false _ A31.out).mono ?_);rintro e w' ⟨rfl,⟨nd,rfl⟩⟩;(try first|exact⟨rfl,_,World.drewN_drewN _ _ _⟩|exact⟨rfl,_,Eq.trans (World.drewN_drewN _ _ _) (congrArg (World.drewN _) (Nat.add_assoc _ _ _))⟩)))
     repeat(go_quiet (first|(go_at_call 50;(with_reducible refine(spec_l1In.calls a0 1 12 false _ A31.out).mono ?_);rintro e w' ⟨rfl,⟨nd,rfl⟩⟩;(try first|exact⟨rfl,_,World.drewN_drewN _ _ _⟩|exact⟨rfl,_,Eq.trans (World.drewN_drewN _ _ _) (congrArg (World.drewN _) (Nat.add_assoc _ _ _))⟩)));try go_wp2_with (first|(go_at_call 50;(with_reducible refine(spec_l1In.calls a0 1 12 false _ A31.out).mono ?_);rintro e w' ⟨rfl,⟨nd,rfl⟩⟩;(try first|exact⟨rfl,_,World.drewN_drewN _ _ _⟩|exact⟨rfl,_,Eq.trans (World.drewN_drewN _ _ _) (congrArg (World.drewN _) (Nat.add_assoc _ _ _))⟩))))
     go_ret
     exact⟨zer,by exact zk1 HB⟩
def impl_in.f (a0:Int) (a1:Int) (a2:Int):Option (Bool):=if a0≥a1 then(some (decide (a0≤a2))) else(some false)
set_option maxHeartbeats 8000000 in
set_option maxRecDepth 100000 in
theorem impl_in.calls (a0:Int) (a1:Int) (a2:Int) (r:Bool) (w:World) (h:impl_in.f a0 a1 a2=some r):
  Calls Try.prog 54 #[.int .i64 a0,.int .i64 a1,.int .i64 a2] w fun e w'=>e= .returned (.bool r)∧Drawn0 w w':=by
 have H:(if a0≥a1 then(some (decide (a0≤a2))) else(some false))=some r:=h
 clear h
 by_cases c4:a0≥a1
 ·rw [if_pos c4] at H
  have c4b0:decide (a1≤a0)=true:=decide_eq_true c4
  clear c4
  obtain rfl:=Option.some.inj H
  go_enter Try.func54,Try.ntmps54
  go_wp2
  go_ret
  exact⟨by first|rfl|(simp;done)|(simp [*];done),by repeat(first|exact Drawn0.refl _|apply Drawn0.step)⟩
 ·rw [if_neg c4] at H
  have c4b0:decide (a1≤a0)=false:=decide_eq_false c4
  clear c4
  obtain rfl:=Option.some.inj H
  go_enter Try.func54,Try.ntmps54
  go_wp2
  go_ret
  exact⟨by first|rfl|(simp;done)|(simp [*];done),by repeat(first|exact Drawn0.refl _|apply Drawn0.step)⟩
def impl_isSpots.f (a0:Int):Option (Bool):=(impl_in.f a0 1 12).bind fun t138=>(some t138)
theorem zk3 {q r1 r2 p:Prop} (b:Aside0 q) (b1:r1) (b2:r2) (h:q→r1→r2→p:=by intro z g1 g2;repeat(first|(with_reducible first|exact z|apply below_alloc|apply pw_below_drewN|apply below_drew1|refine below_set ?_ g1|refine below_set ?_ g2)|exact z)):p:=h b.out b1 b2
theorem zq2 {p:Prop} (h:p:=by(try simp only [List.map_toArray,List.map_cons,List.map_nil]);first|done|rfl|(simp only [List.length_drop,List.length_take];rfl)):p:=h
theorem zq3 {q p:Prop} (b:Aside0 q) (h:q→p:=by intro z;(with_reducible repeat(first|refine blk_drewN ?_ _|refine blk_drew ?_ |refine blk_alloc ?_ _));exact z):p:=h b.out
set_option maxHeartbeats 8000000 in
set_option maxRecDepth 100000 in
theorem impl_isSpots.calls (a0:Int) (r:Bool) (w:World) (h:impl_isSpots.f a0=some r):
  Calls Try.prog 53 #[.int .i64 a0] w fun e w'=>e= .returned (.bool r)∧Drawn0 w w':=by
 have H:((impl_in.f a0 1 12).bind fun t138=>(some t138))=some r:=h
 clear h
 replace H:=Option.bind_eq_some_iff.mp H
 obtain⟨t138,A20,H⟩:=H
 replace H:(some t138)=some r:=H
 have A2:=Aside0.mk A20
 clear A20
 obtain rfl:=Option.some.inj H
 go_enter Try.func53,Try.ntmps53
 go_wp2_with (first|((with_reducible refine gate_callee (f:=54) rfl ?_);refine goesL_ (some 4) rfl rfl Try.func54 (by kernel_rfl) rfl #[.int .i64 a0,.int .i64 1,.int .i64 12] rfl zq2 ?_;(with_reducible refine(impl_in.calls a0 1 12 t138 _ A2.out).mono ?_);rintro e w' ⟨rfl,⟨nd,rfl⟩⟩;refine⟨_,rfl,?_⟩))
 go_ret
 exact⟨by first|rfl|(simp;done)|(simp [*];done),by repeat(first|exact Drawn0.refl _|apply Drawn0.step)⟩
def impl_byEnds.f (a0_0:Int) (a0_1:Int) (a0_2:Int) (a1_0:Int) (a1_1:Int) (a1_2:Int):Option (Int):=if a0_0=a1_0 then(some (wrap64 (a0_1 - a1_1))) else(some (wrap64 (a0_0 - a1_0)))
set_option maxHeartbeats 8000000 in
set_option maxRecDepth 100000 in
theorem impl_byEnds.calls (a0_0:Int) (a0_1:Int) (a0_2:Int) (a1_0:Int) (a1_1:Int) (a1_2:Int) (r:Int) (w:World) (h:impl_byEnds.f a0_0 a0_1 a0_2 a1_0 a1_1 a1_2=some r):
  Calls Try.prog 60 #[.agg #[.int .i64 a0_0,.int .i64 a0_1,.int .i64 a0_2],.agg #[.int .i64 a1_0,.int .i64 a1_1,.int .i64 a1_2]] w fun e w'=>e= .returned (.int .i64 r)∧Below w.heap.size w w':=by
 have hu52:=Try.underlying52
 have HB:=Aside0.mk (Below.refl w.heap.size w)
 have H:(if a0_0=a1_0 then(some (wrap64 (a0_1 - a1_1))) else(some (wrap64 (a0_0 - a1_0))))=some r:=h
 clear h
 by_cases c3:a0_0=a1_0
 ·rw [if_pos c3] at H
  have c3b0:(a0_0==a1_0)=true:=beq_iff_eq.mpr c3
  have c3b1:(a0_0 !=a1_0)=false:=bne_eq_false_iff_eq.mpr c3
  clear c3
  obtain rfl:=Option.some.inj H
  go_enter Try.func60,Try.ntmps60
  go_wp2_with (first|((with_reducible refine gate_dst (N:=2) rfl ?_);refine box_event ?hg (N:=2) ?hd (cs:= #[.int .i64 a0_0,.int .i64 a0_1,.int .i64 a0_2]) (t:=52) ?hr ?_;(case hd=>rfl);(case hg=>rfl);(case hr=>first|(go_simp;done)|(go_simp;rfl));intro gb139 hg w4 hbox hb;have BK139:=Aside0.mk (hbox);have GW139:=Aside0.mk ((by rw [hg];exact(below_size (by exact zk1 HB)):w.heap.size≤gb139));have GE139:=GW139;replace HB:=Aside0.mk (below_step (by exact zk1 HB) hb);clear hb hbox hg)|((with_reducible refine gate_dst (N:=3) rfl ?_);refine box_event ?hg (N:=3) ?hd (cs:= #[.int .i64 a1_0,.int .i64 a1_1,.int .i64 a1_2]) (t:=52) ?hr ?_;(case hd=>rfl);(case hg=>rfl);(case hr=>first|(go_simp;done)|(go_simp;rfl));intro gb140 hg w5 hbox hb;have BK140:=Aside0.mk (hbox);have GW140:=Aside0.mk ((by rw [hg];exact(below_size (by exact zk2 HB GE139.out)):w.heap.size≤gb140));have GE140:=GW140;have NB139_140:=Aside0.mk ((by rw [hg];exact Nat.ne_of_lt (blk_lt (g:=gb139) (o:= .cells #[.int .i64 a0_0,.int .i64 a0_1,.int .i64 a0_2] 52 (0,0)) (zq3 BK139)):gb139≠gb140));have NB140_139:=Aside0.mk ((by rw [hg];exact Nat.ne_of_gt (blk_lt (g:=gb139) (o:= .cells #[.int .i64 a0_0,.int .i64 a0_1,.int .i64 a0_2] 52 (0,0)) (zq3 BK139)):gb140≠gb139));replace BK139:=Aside0.mk (blk_below (g:=gb139) (o:= .cells #[.int .i64 a0_0,.int .i64 a0_1,.int .i64 a0_2] 52 (0,0)) (zq3 BK139) hb);replace HB:=Aside0.mk (below_step (by exact zk2 HB GE139.out) hb);clear hb hbox hg;have hnb6:=NB139_140.out;have hnc6:=NB140_139.out;have hcz7_0:=zcz BK139 0 (.int .i64 a0_0);have hcz7_1:=zcz BK139 1 (.int .i64 a0_1);have hcz7_2:=zcz BK139 2 (.int .i64 a0_2);have hfz7_0:=blk_frozen BK139.out 0;have hfz7_1:=blk_frozen BK139.out 1;have hfz7_2:=blk_frozen BK139.out 2;have hcz8_0:=zcz BK140 0 (.int .i64 a1_0);have hcz8_1:=zcz BK140 1 (.int .i64 a1_1);have hcz8_2:=zcz BK140 2 (.int .i64 a1_2);have hfz8_0:=blk_frozen BK140.out 0;have hfz8_1:=blk_frozen BK140.out 1;have hfz8_2:=blk_frozen BK140.out 2))
  go_ret
  exact⟨zer,by exact zk3 HB GE139.out GE140.out⟩
 ·rw [if_neg c3] at H
  have c3b0:(a0_0==a1_0)=false:=beq_eq_false_iff_ne.mpr c3
  have c3b1:(a0_0 !=a1_0)=true:=bne_iff_ne.mpr c3
  obtain rfl:=Option.some.inj H
  go_enter Try.func60,Try.ntmps60
  go_wp2_with (first|((with_reducible refine gate_dst (N:=2) rfl ?_);refine box_event ?hg (N:=2) ?hd (cs:= #[.int .i64 a0_0,.int .i64 a0_1,.int .i64 a0_2]) (t:=52) ?hr ?_;(case hd=>rfl);(case hg=>rfl);(case hr=>first|(go_simp;done)|(go_simp;rfl));intro gb139 hg w9 hbox hb;have BK139:=Aside0.mk (hbox);have GW139:=Aside0.mk ((by rw [hg];exact(below_size (by exact zk1 HB)):w.heap.size≤gb139));have GE139:=GW139;replace HB:=Aside0.mk (below_step (by exact zk1 HB) hb);clear hb hbox hg)|((with_reducible refine gate_dst (N:=3) rfl ?_);refine box_event ?hg (N:=3) ?hd (cs:= #[.int .i64 a1_0,.int .i64 a1_1,.int .i64 a1_2]) (t:=52) ?hr ?_;(case hd=>rfl);(case hg=>rfl);(case hr=>first|(go_simp;done)|(go_simp;rfl));intro gb140 hg w10 hbox hb;have BK140:=Aside0.mk (hbox);have GW140:=Aside0.mk ((by rw [hg];exact(below_size (by exact zk2 HB GE139.out)):w.heap.size≤gb140));have GE140:=GW140;have NB139_140:=Aside0.mk ((by rw [hg];exact Nat.ne_of_lt (blk_lt (g:=gb139) (o:= .cells #[.int .i64 a0_0,.int .i64 a0_1,.int .i64 a0_2] 52 (0,0)) (zq3 BK139)):gb139≠gb140));have NB140_139:=Aside0.mk ((by rw [hg];exact Nat.ne_of_gt (blk_lt (g:=gb139) (o:= .cells #[.int .i64 a0_0,.int .i64 a0_1,.int .i64 a0_2] 52 (0,0)) (zq3 BK139)):gb140≠gb139));replace BK139:=Aside0.mk (blk_below (g:=gb139) (o:= .cells #[.int .i64 a0_0,.int .i64 a0_1,.int .i64 a0_2] 52 (0,0)) (zq3 BK139) hb);replace HB:=Aside0.mk (below_step (by exact zk2 HB GE139.out) hb);clear hb hbox hg;have hnb11:=NB139_140.out;have hnc11:=NB140_139.out;have hcz12_0:=zcz BK139 0 (.int .i64 a0_0);have hcz12_1:=zcz BK139 1 (.int .i64 a0_1);have hcz12_2:=zcz BK139 2 (.int .i64 a0_2);have hfz12_0:=blk_frozen BK139.out 0;have hfz12_1:=blk_frozen BK139.out 1;have hfz12_2:=blk_frozen BK139.out 2;have hcz13_0:=zcz BK140 0 (.int .i64 a1_0);have hcz13_1:=zcz BK140 1 (.int .i64 a1_1);have hcz13_2:=zcz BK140 2 (.int .i64 a1_2);have hfz13_0:=blk_frozen BK140.out 0;have hfz13_1:=blk_frozen BK140.out 1;have hfz13_2:=blk_frozen BK140.out 2))
  go_ret
  exact⟨zer,by exact zk3 HB GE139.out GE140.out⟩
end Go.Proofs.Ytpbnpepikkocmaa.P
