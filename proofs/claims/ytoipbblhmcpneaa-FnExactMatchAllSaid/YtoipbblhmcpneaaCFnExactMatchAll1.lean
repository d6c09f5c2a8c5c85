/- Functions, walks and plain lemmas that the law FnExactMatchAll reaches, part 1. -/
import Derived.Test.YtoipbblhmcpneaaCFnExactMatchAll0
import Derived.WalkKit
import Derived.ProofKit
import Derived.OpenShut
import Derived.ChangeOld
import Derived.Below
import Derived.SizedLaws
import Derived.ChangeArms
import Derived.DataElems
import Derived.Deep.Draws
import Derived.Deep.AppendLies
import Derived.Maps.AppendAt
import Derived.OwnWalk
import Derived.Laws.BytesArg
import Derived.Laws.MakeOwn
import Derived.Laws.OwnMore
import Derived.Deep.OwnRows
import Derived.Tactics
import Derived.Lib.ConvBytes
import Derived.Laws.Slices
import Derived.KernelRfl
import Derived.RowKit3
import Derived.Deep.LoopGhost
import Derived.Deep.QuietTactic
import Derived.BigQuiet
import Derived.WideLaws
import Derived.Deep.DeepCutAuto
import Derived.Deep.CutBlock
import Derived.Deep.RegionHeld3
import Derived.Laws.Rows
import Derived.Lib.AppendStr
import Derived.ArgAppend
import Derived.Laws.IdiomCopy
import Derived.OrdersHeld
import Derived.Laws.BitsLemmas
import Derived.RowKit
import Derived.WalkSpells
import Derived.Lib.SliceRun
import Derived.Shelf.Abstract
import Derived.ShutString
namespace Go.Proofs.YtoipbblhmcpneaaOpen
open Go.ChangeShapes Go.WideShapes Go.ChangeAt Go.RowKit Go.Proofs.YtoipbblhmcpneaaW.PrintWords
variable {H : Type} {enc : TypeId × Value → H} {P : Program} {W : World}
/-- Whatever reads as data of type t reads by the kind d, and is as wf says. -/
def Opens {H : Type} (enc : TypeId × Value → H) (P : Program) (W : World) (t : TypeId) {α : Type} (d : Kd α) (wf : α → Prop) : Prop :=
 ∀ (fuel : Nat) (cs : List Value) (x : DataW H × List MemPlace), DataW.trod enc P W 0 (fun _ => true) true fuel t cs = some x → ∃ a, d.K W a cs ∧ wf a
theorem opens_int {t : TypeId} {k : IntKind} (hu : P.underlying t = some (.int k)) : Opens enc P W t (Kd.int k) (fun n => (Lit.int k n).wf = true) := by
 intro fuel cs x h
 obtain ⟨n, rfl, _, hw⟩ := DataW.trod_int hu h
 exact ⟨n, rfl, hw⟩
theorem list_of {α : Type} {Q : Nat → α → Prop} : ∀ (n : Nat), (∀ i, i < n → ∃ a, Q i a) → ∃ l : List α, l.length = n ∧ ∀ i a, l[i]? = some a → Q i a
 | 0, _ => ⟨[], rfl, fun i a h => by simp at h⟩
 | n + 1, h => by
  obtain ⟨l, hl, hq⟩ := list_of n (fun i hi => h i (by omega))
  obtain ⟨a, ha⟩ := h n (by omega)
  refine ⟨l ++ [a], by simp [hl], fun i b hb => ?_⟩
  by_cases hi : i < l.length
  ·rw [List.getElem?_append_left hi] at hb
   exact hq i b hb
  ·rw [List.getElem?_append_right (by omega)] at hb
   have hz : i - l.length = 0 := by
    by_cases hz : i - l.length = 0
    ·exact hz
    ·rw [List.getElem?_eq_none (by simp; omega)] at hb
     cases hb
   rw [hz] at hb
   simp only [List.getElem?_cons_zero, Option.some.injEq] at hb
   subst hb
   have : i = n := by omega
   subst this
   exact ha
theorem opens_slice {t e : TypeId} {α : Type} {d : Kd α} {wf : α → Prop} (hu : P.underlying t = some (.slice e)) (hc : P.cellsOf e = d.sz) (hd : Opens enc P W e d wf) :
  Opens enc P W t (Kd.slice e d) (fun l => l.length ≤ maxLen ∧ ∀ x ∈ l, wf x) := by
 intro fuel cs x h
 rcases DataW.trod_slice hu h with ⟨rfl, _⟩ | ⟨a, len, cap, elems, rest, n, _, rfl, _, _, hl, hm, hlen, hel, _, _⟩
 ·refine ⟨[], ⟨none, 0, rfl, Nat.le_refl _, rfl, by simp, fun hp => absurd hp (by simp)⟩, by simp, by simp⟩
 ·have each : ∀ i, i < len → ∃ b : α, (∃ c : List Value, c.length = d.sz ∧ d.K W b c ∧ ∀ j u, c[j]? = some u → W.cell? (a.add (i * d.sz + j)) = some u) ∧ wf b := by
   intro i hi
   have h1 := hel i hi
   have hi' : i < elems.length := by omega
   rw [List.getElem?_eq_getElem hi', Option.bind_eq_some_iff] at h1
   obtain ⟨c, hcs, ht⟩ := h1
   obtain ⟨b, hb, hwf⟩ := hd _ _ _ ht
   obtain ⟨_, hclen, hcell⟩ := World.cells?_some hcs
   refine ⟨b, ⟨c, by rw [hclen, hc], hb, fun j u hj => ?_⟩, hwf⟩
   have hj' : j < P.cellsOf e := by
    have := (List.getElem?_eq_some_iff.1 hj).1
    omega
   have h2 := hcell j hj'
   rw [Addr.add_add, hj, hc] at h2
   exact h2
  obtain ⟨l, hll, hq⟩ := list_of len each
  subst hll
  refine ⟨l, ⟨some a, cap, rfl, hl, rfl, ?_, fun _ => ⟨a, rfl, fun j p hj => ?_⟩⟩, ?_, fun y hy => ?_⟩
  ·have : cap ≤ 9223372036854775807 := by unfold maxLen at hm; exact hm
   omega
  ·obtain ⟨⟨c, h1, h2, h3⟩, _⟩ := hq j p hj
   exact ⟨c, h1, h2, h3⟩
  ·omega
  ·obtain ⟨j, hj⟩ := List.getElem?_of_mem hy
   exact (hq j y hj).2
theorem cut3 {cs : List Value} {a b c : Nat} (h : cs.length = a + (b + c)) : cs = cs.take a ++ ((cs.drop a).take b ++ (cs.drop (a + b)).take c) := by
 rw [List.take_of_length_le (by simp; omega : (cs.drop (a + b)).length ≤ c), ← List.drop_drop, List.take_append_drop, List.take_append_drop]
theorem opens_struct3 {t : TypeId} {f0 f1 f2 : Field} {α β γ S : Type} {d0 : Kd α} {d1 : Kd β} {d2 : Kd γ} {w0 : α → Prop} {w1 : β → Prop} {w2 : γ → Prop} {f : S → α × (β × γ)} (g : α × (β × γ) → S)
  (hu : P.underlying t = some (.struct #[f0, f1, f2])) (hg : ∀ x, f (g x) = x) (hC : P.cellsOf t = d0.sz + (d1.sz + d2.sz))
  (o0 : f0.offset = 0) (o1 : f1.offset = d0.sz) (o2 : f2.offset = d0.sz + d1.sz) (c0 : P.cellsOf f0.type = d0.sz) (c1 : P.cellsOf f1.type = d1.sz) (c2 : P.cellsOf f2.type = d2.sz)
  (h0 : Opens enc P W f0.type d0 w0) (h1 : Opens enc P W f1.type d1 w1) (h2 : Opens enc P W f2.type d2 w2) :
  Opens enc P W t (Kd.iso (Kd.pair d0 (Kd.pair d1 d2)) f) (fun s => w0 (f s).1 ∧ w1 (f s).2.1 ∧ w2 (f s).2.2) := by
 intro fuel cs x h
 obtain ⟨xs, n, _, _, hl, hlen, hf⟩ := DataW.trod_struct hu h
 have e0 := hf 0 f0 rfl
 have e1 := hf 1 f1 rfl
 have e2 := hf 2 f2 rfl
 have hlen2 : xs.length = 3 := hlen
 rw [List.getElem?_eq_getElem (by omega)] at e0 e1 e2
 obtain ⟨a, ha, wa⟩ := h0 _ _ _ e0
 obtain ⟨b, hb, wb⟩ := h1 _ _ _ e1
 obtain ⟨c, hc, wc⟩ := h2 _ _ _ e2
 rw [o0, c0, List.drop_zero] at ha
 rw [o1, c1] at hb
 rw [o2, c2] at hc
 refine ⟨g (a, (b, c)), ?_, ?_⟩
 ·show (Kd.pair d0 (Kd.pair d1 d2)).K W (f (g (a, (b, c)))) cs
  rw [hg]
  exact ⟨_, _, cut3 (by rw [hl, hC]), ha, ⟨_, _, rfl, hb, hc⟩⟩
 ·simp only [hg]
  exact ⟨wa, wb, wc⟩
end Go.Proofs.YtoipbblhmcpneaaOpen

namespace Go.Proofs.Ytoipbblhmcpneaa.P
open Go.RowKit Go.Proofs.YtoipbblhmcpneaaW.PrintWords
set_option linter.unusedVariables false
set_option linter.unusedSimpArgs false
theorem wrap_id {x : Int} (h0 : -9223372036854775808 ≤ x) (h1 : x ≤ 9223372036854775807) : wrap64 x = x := by unfold wrap64; omega
theorem Ev.succ {α : Type} {g : Nat → Option α} {r : α} (h : Ev (fun k => g (k + 1)) r) : Ev g r := Ev.step (fun _ => rfl) h
theorem Ev.some_ {α : Type} {r s : α} (h : r = s) : Ev (fun _ => some r) s := h ▸ Ev.now r
theorem getD_mid {α : Type} (d : α) (pre : List α) (x : α) (suf : List α) : (pre ++ x :: suf).getD ((pre.length : Int)).toNat d = x := by simp
theorem set_mid {α : Type} (pre : List α) (x y : α) (suf : List α) : (pre ++ x :: suf).set ((pre.length : Int)).toNat y = pre ++ y :: suf := by simp
theorem app_one {α : Type} (pre : List α) (x : α) (suf : List α) : pre ++ x :: suf = (pre ++ [x]) ++ suf := by simp
theorem len_mid {α : Type} (pre : List α) (x : α) (suf : List α) : ((pre ++ x :: suf).length : Int) = pre.length + suf.length + 1 := by simp; omega
theorem len_one {α : Type} (pre : List α) (x : α) : ((pre ++ [x]).length : Int) = pre.length + 1 := by simp
end Go.Proofs.Ytoipbblhmcpneaa.P

namespace Go.Proofs.Ytoipbblhmcpneaa.P
open Go.RowKit Go.Proofs.YtoipbblhmcpneaaW.PrintWords Go.Proofs.YtoipbblhmcpneaaW.PrintLast Go.Proofs.YtoipbblhmcpneaaW.PrintMore
attribute [local go_sem] max2_int min2_int max_two min_two max_three min_three max_four min_four   -- for this text's walks alone
set_option linter.unusedVariables false
set_option linter.unusedSimpArgs false
theorem call_args {P:Program} {f:FuncId} {a b:Array Value} {w:World} {Q:Ending→World→Prop} (e:a=b) (h:Calls P f a w Q):Calls P f b w Q:=e ▸ h
theorem info3:(Try.prog.info? 3).map (fun i=>(i.zero,i.size,i.bytes))=some (some (.int .i64 0),1,8):=by kernel_rfl
theorem info22:(Try.prog.info? 22).map (fun i=>(i.zero,i.size,i.bytes))=some (some (.slice none 0 0),1,24):=by kernel_rfl
-- the values' own types
def rd_L1 (xs:List (List Int)) (i:Int):(List Int):=xs.getD i.toNat ([] :List Int)
theorem at_L1 {w:World} {A:Option Addr} {n:Nat} {xs:List (List Int)} (h:Kd.C (Kd.slice 3 (Kd.int .i64)) w A n xs) (i:Int) (h0: 0≤i) (h1:i<n):∃ ad A0 c0,A=some ad∧w.cell? (ad.add i.toNat)=some (.slice A0 (rd_L1 xs i).length c0)∧ (rd_L1 xs i).length≤c0∧ (Kd.int .i64).C w A0 (rd_L1 xs i).length (rd_L1 xs i):=by
 obtain⟨ad,c,e,_,hK,hc0⟩:=Kd.C_get h ([] :List Int) i h0 h1
 have hc:∀ j u,c[j]?=some u→w.cell? (ad.add (i.toNat * 1+j))=some u:=hc0
 obtain⟨A0,c0,rfl,l0,g0⟩:=hK
 exact⟨ad,A0,c0,e,by have hq:=hc 0 _ rfl;rwa [Nat.mul_one,Nat.add_zero] at hq,l0,g0⟩
structure S30 where
 f0:(List (List Int))
 f1:(List (List Int))
 f2:(List Int)
def k30:Kd S30:=Kd.iso (Kd.pair (Kd.slice 22 (Kd.slice 3 (Kd.int .i64))) (Kd.pair (Kd.slice 22 (Kd.slice 3 (Kd.int .i64))) (Kd.slice 3 (Kd.int .i64)))) (fun x:S30=>(x.f0,x.f1,x.f2))
theorem k30_open {w:World} {x:S30} {cs:List Value} (h:k30.K w x cs):∃ A0 c0 A1 c1 A2 c2,cs= [.slice A0 x.f0.length c0,.slice A1 x.f1.length c1,.slice A2 x.f2.length c2]∧x.f0.length≤c0∧ (Kd.slice 3 (Kd.int .i64)).C w A0 x.f0.length x.f0∧x.f1.length≤c1∧ (Kd.slice 3 (Kd.int .i64)).C w A1 x.f1.length x.f1∧x.f2.length≤c2∧ (Kd.int .i64).C w A2 x.f2.length x.f2:=by
 obtain⟨_,_,rfl,⟨A0,c0,rfl,l0,g0⟩,⟨_,_,rfl,⟨A1,c1,rfl,l1,g1⟩,⟨A2,c2,rfl,l2,g2⟩⟩⟩:=h
 exact⟨A0,c0,A1,c1,A2,c2,rfl,l0,g0,l1,g1,l2,g2⟩
end Go.Proofs.Ytoipbblhmcpneaa.P

namespace Go.Proofs.Ytoipbblhmcpneaa.P
open Go.RowKit Go.Proofs.YtoipbblhmcpneaaW.PrintWords Go.Proofs.YtoipbblhmcpneaaW.PrintLast Go.Proofs.YtoipbblhmcpneaaW.PrintMore
attribute [local go_sem] max2_int min2_int max_two min_two max_three min_three max_four min_four   -- for this text's walks alone
set_option linter.unusedVariables false
set_option linter.unusedSimpArgs false
def spec_l1Has.l0:Nat→Int→List Int→Int→Int→Option (Bool)
 | 0,_,_,_,_=>none
 |k+1,x1,x7,x8,x9=>if x9<x8 then(if 0≤x9 then(if x9< (x7.length:Int) then(if (rd x7 x9)=x1 then(some true) else(spec_l1Has.l0 k x1 x7 x8 (wrap64 (x9+1)))) else(none)) else(none)) else(some false)
def spec_l1Has.f (k:Nat) (l0:List Int) (a1:Int):Option (Bool):=spec_l1Has.l0 k a1 l0 (l0.length:Int) 0
theorem zb0 {q p:Prop} (b:Aside0 q) (h:q→p:=by intro z;repeat(first|(with_reducible first|exact z|apply below_alloc|apply pw_below_drewN|apply below_drew1)|exact z)):p:=h b.out
theorem zq1 {p:Prop} (h:p:=by first|(with_reducible assumption)|assumption):p:=h
set_option maxHeartbeats 8000000 in
set_option maxRecDepth 100000 in
theorem spec_l1Has.calls (k:Nat) (A0:Option Addr) (c0:Nat) (l0:List Int) (a1:Int) (r:Bool) (w:World) (hr0:Kd.C (Kd.int .i64) w A0 l0.length l0) (hc0:l0.length≤c0) (h:spec_l1Has.f k l0 a1=some r):
  Calls Try.prog 43 #[.slice A0 l0.length c0,.int .i64 a1] w fun e w'=>e= .returned (.bool r)∧Drawn0 w w':=by
 have HR0:=Aside0.mk hr0
 have HC0:=Aside0.mk hc0
 clear hr0 hc0
 have H:(spec_l1Has.l0 k a1 l0 (l0.length:Int) 0)=some r:=h
 clear h
 have H':=Aside0.mk H
 clear H
 go_enter Try.func43,Try.ntmps43
 go_wp2
 go_loopg [9] k (fun kq v9 w'=> ∃ (x9_1:Int),v9= .int .i64 x9_1∧Aside0 (spec_l1Has.l0 kq a1 l0 (l0.length:Int) x9_1=some r)∧Aside0 (kq≤k)∧Drawn0 w w')
 case atStart=>exact⟨(0),(by first|rfl|(simp;done)|(simp [*];done)),H',⟨Nat.le_refl _⟩,by repeat(first|exact Drawn0.refl _|apply Drawn0.step)⟩
 case round=>
  clear H'
  try clear p2
  obtain⟨x9_1,rfl,HA,HK1,⟨m1,rfl⟩⟩:=hrel
  cases gk with
  |zero=>exact absurd HA.out (by simp [spec_l1Has.l0])
  |succ k1=>
   have H:=HA.out
   clear HA
   simp only [spec_l1Has.l0] at H
   by_cases c3:x9_1< (l0.length:Int)
   ·rw [if_pos c3] at H
    have c3b0:decide (x9_1< (l0.length:Int))=true:=decide_eq_true c3
    clear c3
    by_cases c4: 0≤x9_1
    ·rw [if_pos c4] at H
     have c4b0:decide (0≤x9_1)=true:=decide_eq_true c4
     clear c4
     by_cases c5:x9_1< (l0.length:Int)
     ·rw [if_pos c5] at H
      have c5b0:decide (x9_1< (l0.length:Int))=true:=decide_eq_true c5
      clear c5
      by_cases c6:(rd l0 x9_1)=a1
      ·rw [if_pos c6] at H
       have c6b0:((rd l0 x9_1)==a1)=true:=beq_iff_eq.mpr c6
       have c6b1:((rd l0 x9_1) !=a1)=false:=bne_eq_false_iff_eq.mpr c6
       clear c6
       obtain rfl:=Option.some.inj H
       have p101: 0≤ (x9_1:Int):=of_decide_eq_true zq1
       have q101:x9_1< (l0.length:Int):=of_decide_eq_true zq1
       obtain⟨ad101,e101,hx101_0⟩:=Kd.at_int HR0.out x9_1 p101 q101
       cases e101
       replace p101:=eq_true p101
       replace q101:=eq_true q101
       go_wp2
       go_ret
       exact⟨by first|rfl|(simp;done)|(simp [*];done),by repeat(first|exact Drawn0.refl _|apply Drawn0.step)⟩
      ·rw [if_neg c6] at H
       have c6b0:((rd l0 x9_1)==a1)=false:=beq_eq_false_iff_ne.mpr c6
       have c6b1:((rd l0 x9_1) !=a1)=true:=bne_iff_ne.mpr c6
       have H':=Aside0.mk H
       clear H
       have p101: 0≤ (x9_1:Int):=of_decide_eq_true zq1
       have q101:x9_1< (l0.length:Int):=of_decide_eq_true zq1
       obtain⟨ad101,e101,hx101_0⟩:=Kd.at_int HR0.out x9_1 p101 q101
       cases e101
       replace p101:=eq_true p101
       replace q101:=eq_true q101
       go_wp2
       go_roundg k1
       case measure=>have:=HK1.out;omega
       case rel=>exact⟨(wrap64 (x9_1+1)),(by first|rfl|(simp;done)|(simp [*];done)),H',⟨by have:=HK1.out;omega⟩,by repeat(first|exact Drawn0.refl _|apply Drawn0.step)⟩
     ·rw [if_neg c5] at H
      exact absurd H (by simp)
    ·rw [if_neg c4] at H
     exact absurd H (by simp)
   ·rw [if_neg c3] at H
    have c3b0:decide (x9_1< (l0.length:Int))=false:=decide_eq_false c3
    clear c3
    obtain rfl:=Option.some.inj H
    go_wp2
    go_ret
    exact⟨by first|rfl|(simp;done)|(simp [*];done),by repeat(first|exact Drawn0.refl _|apply Drawn0.step)⟩
def spec_l12Place.l0:Nat→List Int→Int→List Int→Int→Int→Option (Int)
 | 0,_,_,_,_,_=>none
 |k+1,x0,x1,x7,x8,x9=>if x9<x8 then(if 0≤x9 then(if x9< (x7.length:Int) then(if (rd x7 x9)=x1 then(some x9) else(spec_l12Place.l0 k x0 x1 x7 x8 (wrap64 (x9+1)))) else(none)) else(none)) else(some (x0.length:Int))
def spec_l12Place.f (k:Nat) (l0:List Int) (a1:Int):Option (Int):=spec_l12Place.l0 k l0 a1 l0 (l0.length:Int) 0
set_option maxHeartbeats 8000000 in
set_option maxRecDepth 100000 in
theorem spec_l12Place.calls (k:Nat) (A0:Option Addr) (c0:Nat) (l0:List Int) (a1:Int) (r:Int) (w:World) (hr0:Kd.C (Kd.int .i64) w A0 l0.length l0) (hc0:l0.length≤c0) (h:spec_l12Place.f k l0 a1=some r):
  Calls Try.prog 44 #[.slice A0 l0.length c0,.int .i64 a1] w fun e w'=>e= .returned (.int .i64 r)∧Drawn0 w w':=by
 have HR0:=Aside0.mk hr0
 have HC0:=Aside0.mk hc0
 clear hr0 hc0
 have H:(spec_l12Place.l0 k l0 a1 l0 (l0.length:Int) 0)=some r:=h
 clear h
 have H':=Aside0.mk H
 clear H
 go_enter Try.func44,Try.ntmps44
 go_wp2
 go_loopg [9] k (fun kq v9 w'=> ∃ (x9_1:Int),v9= .int .i64 x9_1∧Aside0 (spec_l12Place.l0 kq l0 a1 l0 (l0.length:Int) x9_1=some r)∧Aside0 (kq≤k)∧Drawn0 w w')
 case atStart=>exact⟨(0),(by first|rfl|(simp;done)|(simp [*];done)),H',⟨Nat.le_refl _⟩,by repeat(first|exact Drawn0.refl _|apply Drawn0.step)⟩
 case round=>
  clear H'
  try clear p2
  obtain⟨x9_1,rfl,HA,HK1,⟨m1,rfl⟩⟩:=hrel
  cases gk with
  |zero=>exact absurd HA.out (by simp [spec_l12Place.l0])
  |succ k1=>
   have H:=HA.out
   clear HA
   simp only [spec_l12Place.l0] at H
   by_cases c3:x9_1< (l0.length:Int)
   ·rw [if_pos c3] at H
    have c3b0:decide (x9_1< (l0.length:Int))=true:=decide_eq_true c3
    clear c3
    by_cases c4: 0≤x9_1
    ·rw [if_pos c4] at H
     have c4b0:decide (0≤x9_1)=true:=decide_eq_true c4
     clear c4
     by_cases c5:x9_1< (l0.length:Int)
     ·rw [if_pos c5] at H
      have c5b0:decide (x9_1< (l0.length:Int))=true:=decide_eq_true c5
      clear c5
      by_cases c6:(rd l0 x9_1)=a1
      ·rw [if_pos c6] at H
       have c6b0:((rd l0 x9_1)==a1)=true:=beq_iff_eq.mpr c6
       have c6b1:((rd l0 x9_1) !=a1)=false:=bne_eq_false_iff_eq.mpr c6
       clear c6
       obtain rfl:=Option.some.inj H
       have p102: 0≤ (x9_1:Int):=of_decide_eq_true zq1
       have q102:x9_1< (l0.length:Int):=of_decide_eq_true zq1
       obtain⟨ad102,e102,hx102_0⟩:=Kd.at_int HR0.out x9_1 p102 q102
       cases e102
       replace p102:=eq_true p102
       replace q102:=eq_true q102
       go_wp2
       go_ret
       exact⟨by first|rfl|(simp;done)|(simp [*];done),by repeat(first|exact Drawn0.refl _|apply Drawn0.step)⟩
      ·rw [if_neg c6] at H
       have c6b0:((rd l0 x9_1)==a1)=false:=beq_eq_false_iff_ne.mpr c6
       have c6b1:((rd l0 x9_1) !=a1)=true:=bne_iff_ne.mpr c6
       have H':=Aside0.mk H
       clear H
       have p102: 0≤ (x9_1:Int):=of_decide_eq_true zq1
       have q102:x9_1< (l0.length:Int):=of_decide_eq_true zq1
       obtain⟨ad102,e102,hx102_0⟩:=Kd.at_int HR0.out x9_1 p102 q102
       cases e102
       replace p102:=eq_true p102
       replace q102:=eq_true q102
       go_wp2
       go_roundg k1
       case measure=>have:=HK1.out;omega
       case rel=>exact⟨(wrap64 (x9_1+1)),(by first|rfl|(simp;done)|(simp [*];done)),H',⟨by have:=HK1.out;omega⟩,by repeat(first|exact Drawn0.refl _|apply Drawn0.step)⟩
     ·rw [if_neg c5] at H
      exact absurd H (by simp)
    ·rw [if_neg c4] at H
     exact absurd H (by simp)
   ·rw [if_neg c3] at H
    have c3b0:decide (x9_1< (l0.length:Int))=false:=decide_eq_false c3
    clear c3
    obtain rfl:=Option.some.inj H
    go_wp2
    go_ret
    exact⟨by first|rfl|(simp;done)|(simp [*];done),by repeat(first|exact Drawn0.refl _|apply Drawn0.step)⟩
def laws_toIntS.l0:Nat→List Int→List Int→Int→Option (List Int)
 | 0,_,_,_=>none
 |k+1,x0,x3,x4=>if x4< (x0.length:Int) then(if 0≤x4 then(if x4< (x3.length:Int) then(laws_toIntS.l0 k x0 (x3.set (x4:Int).toNat (rd x0 x4)) (wrap64 (x4+1))) else(none)) else(none)) else(some x3)
def laws_toIntS.f (k:Nat) (l0:List Int):Option (List Int):=if 0≤ (l0.length:Int) then(if ((l0.length:Int):Int).toNat≤35184372088832 then(laws_toIntS.l0 k l0 (List.replicate ((l0.length:Int):Int).toNat 0) 0) else(none)) else(none)
set_option maxHeartbeats 8000000 in
set_option maxRecDepth 100000 in
theorem laws_toIntS.calls (k:Nat) (A0:Option Addr) (c0:Nat) (l0:List Int) (r:List Int) (w:World) (hr0:Kd.C (Kd.int .i64) w A0 l0.length l0) (hc0:l0.length≤c0) (h:laws_toIntS.f k l0=some r):
  Calls Try.prog 14 #[.slice A0 l0.length c0] w fun e w'=> ∃ v0_:Value,e= .returned (v0_)∧Kd.R (Kd.int .i64) 3 w' w.heap.size (fun _=>True) v0_ r∧Below w.heap.size w w':=by
 have HR0:=Aside0.mk hr0
 have HC0:=Aside0.mk hc0
 clear hr0 hc0
 have HB:=Aside0.mk (Below.refl w.heap.size w)
 have H:(if 0≤ (l0.length:Int) then(if ((l0.length:Int):Int).toNat≤35184372088832 then(laws_toIntS.l0 k l0 (List.replicate ((l0.length:Int):Int).toNat 0) 0) else(none)) else(none))=some r:=h
 clear h
 by_cases c2: 0≤ (l0.length:Int)
 ·rw [if_pos c2] at H
  have c2b0:=eq_true c2
  have c2b1:decide (0≤ (l0.length:Int))=true:=decide_eq_true c2
  clear c2
  by_cases c3:((l0.length:Int):Int).toNat≤35184372088832
  ·rw [if_pos c3] at H
   have c3b0:=eq_true c3
   have c3b1:decide (((l0.length:Int):Int).toNat≤35184372088832)=true:=decide_eq_true c3
   clear c3
   obtain⟨y105,hy105⟩ :∃ y_:List Int,y_= (List.replicate ((l0.length:Int):Int).toNat 0):=⟨_,rfl⟩
   replace H:(laws_toIntS.l0 k l0 y105 0)=some r:=by first|(rw [hy105];with_reducible exact H)|(have H2_:=(Option.bind_some _ _).symm.trans H;rw [hy105];with_reducible exact H2_)|(have H2_:=(Option.bind_some _ _).symm.trans H;with_reducible exact H2_)|with_reducible exact H|(rw [hy105];exact H)|exact H
   have Ny105:=Aside0.mk hy105
   clear hy105
   have H':=Aside0.mk H
   clear H
   go_enter Try.func14,Try.ntmps14
   go_wp2_with (first|((with_reducible refine gate_dst (N:=7) rfl ?_);refine Kd.R_make (Kd.int .i64) _ 3 rfl (N:=7) rfl 22 _ _ rfl (l0.length:Int) rfl rfl Try.underlying22 (.int .i64 0) 8 info3 rfl (by decide) (by omega) 0 (ok:=fun _=>True) (okp:=fun _=>True) rfl (fun _ hk=>hk) trivial (of_decide_eq_true zq1) (Nat.le_trans (Nat.mul_le_mul_right _ (of_decide_eq_true zq1:(l0.length:Int).toNat≤35184372088832)) (by omega)) (Below.refl _ _) (Nat.le_refl _) ?_;intro v106 w4 ho5 hb hg_ hnew_;clear hg_ hnew_;(first|rw [← Ny105.out] at ho5|(simp only [Int.reduceToNat] at ho5;rw [← Ny105.out] at ho5));have n0_:=Aside0.mk (Kd.R_lower ho5 (below_size (zb0 HB)));have n1_:=Aside0.mk (below_step (zb0 HB) hb);clear HB;have HO107:=n0_;have HB:=n1_;clear n0_ n1_;clear hb ho5))
   go_loopg [4] k (fun kq v4 w'=> ∃ (x3_1:List Int) (x4_1:Int),v4= .int .i64 x4_1∧Aside0 (laws_toIntS.l0 kq l0 x3_1 x4_1=some r)∧Aside0 (kq≤k)∧Aside0 (Kd.R (Kd.int .i64) 3 w' w.heap.size (fun _=>True) v106 x3_1)∧Aside0 (Below w.heap.size w w'))
   case atStart=>exact⟨(y105),(0),(by first|rfl|(simp;done)|(simp [*];done)),H',⟨Nat.le_refl _⟩,⟨by(with_reducible repeat(first|apply Kd.R_alloc|apply Kd.R_drewN|apply Kd.R_drew));exact HO107.out⟩,⟨by repeat(first|(with_reducible first|exact HB.out|apply below_alloc|apply pw_below_drewN|apply below_drew1)|exact HB.out)⟩⟩
   case round=>
    clear H'
    try clear c1
    try clear c2
    try clear c2b0
    try clear c2b1
    try clear p2
    try clear c3
    try clear c3b0
    try clear c3b1
    obtain⟨x3_1,x4_1,rfl,HA,HK1,HO_3,HB⟩:=hrel
    cases gk with
    |zero=>exact absurd HA.out (by simp [laws_toIntS.l0])
    |succ k1=>
     have H:=HA.out
     clear HA
     simp only [laws_toIntS.l0] at H
     by_cases c6:x4_1< (l0.length:Int)
     ·rw [if_pos c6] at H
      have c6b0:decide (x4_1< (l0.length:Int))=true:=decide_eq_true c6
      clear c6
      by_cases c7: 0≤x4_1
      ·rw [if_pos c7] at H
       have c7b0:decide (0≤x4_1)=true:=decide_eq_true c7
       clear c7
       by_cases c8:x4_1< (x3_1.length:Int)
       ·rw [if_pos c8] at H
        have c8b0:decide (x4_1< (x3_1.length:Int))=true:=decide_eq_true c8
        clear c8
        obtain⟨y109,hy109⟩ :∃ y_:List Int,y_= (x3_1.set (x4_1:Int).toNat (rd l0 x4_1)):=⟨_,rfl⟩
        replace H:(laws_toIntS.l0 k1 l0 y109 (wrap64 (x4_1+1)))=some r:=by first|(rw [hy109];with_reducible exact H)|(have H2_:=(Option.bind_some _ _).symm.trans H;rw [hy109];with_reducible exact H2_)|(have H2_:=(Option.bind_some _ _).symm.trans H;with_reducible exact H2_)|with_reducible exact H|(rw [hy109];exact H)|exact H
        have Ny109:=Aside0.mk hy109
        clear hy109
        have H':=Aside0.mk H
        clear H
        have p108: 0≤ (x4_1:Int):=of_decide_eq_true zq1
        have q108:x4_1< (l0.length:Int):=of_decide_eq_true zq1
        obtain⟨ad108,e108,hx108_0⟩:=Kd.at_int HR0.out x4_1 p108 q108
        cases e108
        replace hx108_0:=(HB.out.cell (World.block_lt_of_cell? w _ hx108_0)).trans hx108_0
        replace p108:=eq_true p108
        replace q108:=eq_true q108
        have p9: 0≤ (x4_1:Int):=of_decide_eq_true zq1
        have q9:(x4_1:Int)< ((x3_1.length:Int):Int):=of_decide_eq_true zq1
        obtain⟨go9,co9,eo9,gb9,gl9,cl9,HG9⟩:=Kd.R_form HO_3.out (by omega)
        (first|cases eo9|(injection eo9 with ea_ en_ ec_;(first|subst ea_|(injection ea_ with ea_;subst ea_));subst ec_;clear en_))
        have GB9:=Aside0.mk gb9
        have GG9:=Aside0.mk HG9
        clear gb9 gl9 HG9
        obtain⟨hx9_0,hf9_0⟩:=Kd.R_celln 0 HO_3.out (x4_1:Int) p9 q9
        replace p9:=eq_true p9
        replace q9:=eq_true q9
        have HP10:=Kd.R_putg HO_3.out (x4_1:Int) (rd l0 x4_1)
        go_wp2_with (first|((with_reducible refine gate_store (t:=3) (p:=20) rfl ?_);refine store_event (t:=3) (p:=20) (v:=?vo_w11) (w1:=(wr.setCell ⟨go9,(x4_1:Int).toNat,none⟩ (.int .i64 (rd l0 x4_1)))) ?hg ?ho ?hn ?hr ?_;(case ho=>rfl);(case hg=>rfl);(case hn=>rfl);(case hr=>first|(go_simp;done)|(go_simp;rfl));intro w11 hw;have hg:wr.grownBy w11 (some go9):=(by rw [hw];exact HP10.2);have hp_:Kd.R (Kd.int .i64) 3 w11 w.heap.size (fun _=>True) (.slice (some ⟨go9,0,none⟩) x3_1.length co9) y109:=(by rw [hw,Ny109.out];exact HP10.1);clear HP10;have n0_:=Aside0.mk (hp_);have n1_:=Aside0.mk ((by rw [hw];exact below_set (HB.out) GB9.out:Below w.heap.size w w11));clear HO_3;clear HB;have HO_3:=n0_;have HB:=n1_;clear n0_ n1_;clear hg hw hp_))
        go_roundg k1
        case measure=>have:=HK1.out;omega
        case rel=>exact⟨(y109),(wrap64 (x4_1+1)),(by first|rfl|(simp;done)|(simp [*];done)),H',⟨by have:=HK1.out;omega⟩,⟨by(with_reducible repeat(first|apply Kd.R_alloc|apply Kd.R_drewN|apply Kd.R_drew));exact HO_3.out⟩,⟨by repeat(first|(with_reducible first|exact HB.out|apply below_alloc|apply pw_below_drewN|apply below_drew1)|exact HB.out)⟩⟩
       ·rw [if_neg c8] at H
        exact absurd H (by simp)
      ·rw [if_neg c7] at H
       exact absurd H (by simp)
     ·rw [if_neg c6] at H
      have c6b0:decide (x4_1< (l0.length:Int))=false:=decide_eq_false c6
      clear c6
      obtain rfl:=Option.some.inj H
      go_wp2
      go_ret
      exact⟨_,by first|rfl|(simp [errW_none,errW_some]<;>rfl)|(simp [*,errW_none,errW_some]<;>rfl),by(with_reducible repeat(first|apply Kd.R_alloc|apply Kd.R_drewN|apply Kd.R_drew));exact HO_3.out,by repeat(first|(with_reducible first|exact HB.out|apply below_alloc|apply pw_below_drewN|apply below_drew1)|exact HB.out)⟩
  ·rw [if_neg c3] at H
   exact absurd H (by simp)
 ·rw [if_neg c2] at H
  exact absurd H (by simp)
end Go.Proofs.Ytoipbblhmcpneaa.P

namespace Go.Proofs.Ytoipbblhmcpneaa.P
open Go.RowKit Go.Proofs.YtoipbblhmcpneaaW.PrintWords Go.Proofs.YtoipbblhmcpneaaW.PrintLast Go.Proofs.YtoipbblhmcpneaaW.PrintMore
attribute [local go_sem] max2_int min2_int max_two min_two max_three min_three max_four min_four   -- for this text's walks alone
set_option linter.unusedVariables false
set_option linter.unusedSimpArgs false
def slices_Index_int.l0:Nat→List Int→Int→Int→Int→Option (Int)
 | 0,_,_,_,_=>none
 |k+1,x0,x1,x7,x8=>if x8<x7 then(if 0≤x8 then(if x8< (x0.length:Int) then(if x1= (rd x0 x8) then(some x8) else(slices_Index_int.l0 k x0 x1 x7 (wrap64 (x8+1)))) else(none)) else(none)) else(some (-1))
def slices_Index_int.f (k:Nat) (l0:List Int) (a1:Int):Option (Int):=slices_Index_int.l0 k l0 a1 (l0.length:Int) 0
set_option maxHeartbeats 8000000 in
set_option maxRecDepth 100000 in
theorem slices_Index_int.calls (k:Nat) (A0:Option Addr) (c0:Nat) (l0:List Int) (a1:Int) (r:Int) (w:World) (hr0:Kd.C (Kd.int .i64) w A0 l0.length l0) (hc0:l0.length≤c0) (h:slices_Index_int.f k l0 a1=some r):
  Calls Try.prog 45 #[.slice A0 l0.length c0,.int .i64 a1] w fun e w'=>e= .returned (.int .i64 r)∧Drawn0 w w':=by
 have HR0:=Aside0.mk hr0
 have HC0:=Aside0.mk hc0
 clear hr0 hc0
 have H:(slices_Index_int.l0 k l0 a1 (l0.length:Int) 0)=some r:=h
 clear h
 have H':=Aside0.mk H
 clear H
 go_enter Try.func45,Try.ntmps45
 go_wp2
 go_loopg [8] k (fun kq v8 w'=> ∃ (x8_1:Int),v8= .int .i64 x8_1∧Aside0 (slices_Index_int.l0 kq l0 a1 (l0.length:Int) x8_1=some r)∧Aside0 (kq≤k)∧Drawn0 w w')
 case atStart=>exact⟨(0),(by first|rfl|(simp;done)|(simp [*];done)),H',⟨Nat.le_refl _⟩,by repeat(first|exact Drawn0.refl _|apply Drawn0.step)⟩
 case round=>
  clear H'
  try clear p2
  obtain⟨x8_1,rfl,HA,HK1,⟨m1,rfl⟩⟩:=hrel
  cases gk with
  |zero=>exact absurd HA.out (by simp [slices_Index_int.l0])
  |succ k1=>
   have H:=HA.out
   clear HA
   simp only [slices_Index_int.l0] at H
   by_cases c3:x8_1< (l0.length:Int)
   ·rw [if_pos c3] at H
    have c3b0:decide (x8_1< (l0.length:Int))=true:=decide_eq_true c3
    clear c3
    by_cases c4: 0≤x8_1
    ·rw [if_pos c4] at H
     have c4b0:decide (0≤x8_1)=true:=decide_eq_true c4
     clear c4
     by_cases c5:x8_1< (l0.length:Int)
     ·rw [if_pos c5] at H
      have c5b0:decide (x8_1< (l0.length:Int))=true:=decide_eq_true c5
      clear c5
      by_cases c6:a1= (rd l0 x8_1)
      ·rw [if_pos c6] at H
       have c6b0:(a1== (rd l0 x8_1))=true:=beq_iff_eq.mpr c6
       have c6b1:(a1 != (rd l0 x8_1))=false:=bne_eq_false_iff_eq.mpr c6
       clear c6
       obtain rfl:=Option.some.inj H
       have p110: 0≤ (x8_1:Int):=of_decide_eq_true zq1
       have q110:x8_1< (l0.length:Int):=of_decide_eq_true zq1
       obtain⟨ad110,e110,hx110_0⟩:=Kd.at_int HR0.out x8_1 p110 q110
       cases e110
       replace p110:=eq_true p110
       replace q110:=eq_true q110
       go_wp2
       go_ret
       exact⟨by first|rfl|(simp;done)|(simp [*];done),by repeat(first|exact Drawn0.refl _|apply Drawn0.step)⟩
      ·rw [if_neg c6] at H
       have c6b0:(a1== (rd l0 x8_1))=false:=beq_eq_false_iff_ne.mpr c6
       have c6b1:(a1 != (rd l0 x8_1))=true:=bne_iff_ne.mpr c6
       have H':=Aside0.mk H
       clear H
       have p110: 0≤ (x8_1:Int):=of_decide_eq_true zq1
       have q110:x8_1< (l0.length:Int):=of_decide_eq_true zq1
       obtain⟨ad110,e110,hx110_0⟩:=Kd.at_int HR0.out x8_1 p110 q110
       cases e110
       replace p110:=eq_true p110
       replace q110:=eq_true q110
       go_wp2
       go_roundg k1
       case measure=>have:=HK1.out;omega
       case rel=>exact⟨(wrap64 (x8_1+1)),(by first|rfl|(simp;done)|(simp [*];done)),H',⟨by have:=HK1.out;omega⟩,by repeat(first|exact Drawn0.refl _|apply Drawn0.step)⟩
     ·rw [if_neg c5] at H
      exact absurd H (by simp)
    ·rw [if_neg c4] at H
     exact absurd H (by simp)
   ·rw [if_neg c3] at H
    have c3b0:decide (x8_1< (l0.length:Int))=false:=decide_eq_false c3
    clear c3
    obtain rfl:=Option.some.inj H
    go_wp2
    go_ret
    exact⟨by first|rfl|(simp;done)|(simp [*];done),by repeat(first|exact Drawn0.refl _|apply Drawn0.step)⟩
def laws_eqIntS.l0:Nat→List Int→List Int→Int→Option (Bool)
 | 0,_,_,_=>none
 |k+1,x0,x1,x5=>if x5< (x0.length:Int) then(if 0≤x5 then(if x5< (x1.length:Int) then(if (rd x0 x5)= (rd x1 x5) then(laws_eqIntS.l0 k x0 x1 (wrap64 (x5+1))) else(some false)) else(none)) else(none)) else(some true)
def laws_eqIntS.f (k:Nat) (l0:List Int) (l1:List Int):Option (Bool):=if (l0.length:Int)= (l1.length:Int) then(laws_eqIntS.l0 k l0 l1 0) else(some false)
set_option maxHeartbeats 8000000 in
set_option maxRecDepth 100000 in
theorem laws_eqIntS.calls (k:Nat) (A0:Option Addr) (c0:Nat) (l0:List Int) (A1:Option Addr) (c1:Nat) (l1:List Int) (r:Bool) (w:World) (hr0:Kd.C (Kd.int .i64) w A0 l0.length l0) (hc0:l0.length≤c0) (hr1:Kd.C (Kd.int .i64) w A1 l1.length l1) (hc1:l1.length≤c1) (h:laws_eqIntS.f k l0 l1=some r):
  Calls Try.prog 16 #[.slice A0 l0.length c0,.slice A1 l1.length c1] w fun e w'=>e= .returned (.bool r)∧Drawn0 w w':=by
 have HR0:=Aside0.mk hr0
 have HC0:=Aside0.mk hc0
 clear hr0 hc0
 have HR1:=Aside0.mk hr1
 have HC1:=Aside0.mk hc1
 clear hr1 hc1
 have H:(if (l0.length:Int)= (l1.length:Int) then(laws_eqIntS.l0 k l0 l1 0) else(some false))=some r:=h
 clear h
 by_cases c3:(l0.length:Int)= (l1.length:Int)
 ·rw [if_pos c3] at H
  have c3b0:((l0.length:Int)== (l1.length:Int))=true:=beq_iff_eq.mpr c3
  have c3b1:((l0.length:Int) != (l1.length:Int))=false:=bne_eq_false_iff_eq.mpr c3
  have c3b2:(l0.length==l1.length)=true:=by first|simpa using c3|(simp at c3 ⊢;omega)
  clear c3
  have H':=Aside0.mk H
  clear H
  go_enter Try.func16,Try.ntmps16
  go_wp2
  repeat(go_quiet (fail);try go_wp2)
  go_loopg [5] k (fun kq v5 w'=> ∃ (x5_1:Int),v5= .int .i64 x5_1∧Aside0 (laws_eqIntS.l0 kq l0 l1 x5_1=some r)∧Aside0 (kq≤k)∧Drawn0 w w')
  case atStart=>exact⟨(0),(by first|rfl|(simp;done)|(simp [*];done)),H',⟨Nat.le_refl _⟩,by repeat(first|exact Drawn0.refl _|apply Drawn0.step)⟩
  case round=>
   clear H'
   try clear c1
   try clear p2
   try clear c3
   try clear c3b0
   try clear c3b1
   try clear c3b2
   obtain⟨x5_1,rfl,HA,HK1,⟨m1,rfl⟩⟩:=hrel
   cases gk with
   |zero=>exact absurd HA.out (by simp [laws_eqIntS.l0])
   |succ k1=>
    have H:=HA.out
    clear HA
    simp only [laws_eqIntS.l0] at H
    by_cases c4:x5_1< (l0.length:Int)
    ·rw [if_pos c4] at H
     have c4b0:decide (x5_1< (l0.length:Int))=true:=decide_eq_true c4
     clear c4
     by_cases c5: 0≤x5_1
     ·rw [if_pos c5] at H
      have c5b0:decide (0≤x5_1)=true:=decide_eq_true c5
      clear c5
      by_cases c6:x5_1< (l1.length:Int)
      ·rw [if_pos c6] at H
       have c6b0:decide (x5_1< (l1.length:Int))=true:=decide_eq_true c6
       clear c6
       by_cases c7:(rd l0 x5_1)= (rd l1 x5_1)
       ·rw [if_pos c7] at H
        have c7b0:((rd l0 x5_1)== (rd l1 x5_1))=true:=beq_iff_eq.mpr c7
        have c7b1:((rd l0 x5_1) != (rd l1 x5_1))=false:=bne_eq_false_iff_eq.mpr c7
        clear c7
        have H':=Aside0.mk H
        clear H
        have p112: 0≤ (x5_1:Int):=of_decide_eq_true zq1
        have q112:x5_1< (l0.length:Int):=of_decide_eq_true zq1
        obtain⟨ad112,e112,hx112_0⟩:=Kd.at_int HR0.out x5_1 p112 q112
        cases e112
        replace p112:=eq_true p112
        replace q112:=eq_true q112
        have p113: 0≤ (x5_1:Int):=of_decide_eq_true zq1
        have q113:x5_1< (l1.length:Int):=of_decide_eq_true zq1
        obtain⟨ad113,e113,hx113_0⟩:=Kd.at_int HR1.out x5_1 p113 q113
        cases e113
        replace p113:=eq_true p113
        replace q113:=eq_true q113
        go_wp2
        repeat(go_quiet (fail);try go_wp2)
        go_roundg k1
        case measure=>have:=HK1.out;omega
        case rel=>exact⟨(wrap64 (x5_1+1)),(by first|rfl|(simp;done)|(simp [*];done)),H',⟨by have:=HK1.out;omega⟩,by repeat(first|exact Drawn0.refl _|apply Drawn0.step)⟩
       ·rw [if_neg c7] at H
        have c7b0:((rd l0 x5_1)== (rd l1 x5_1))=false:=beq_eq_false_iff_ne.mpr c7
        have c7b1:((rd l0 x5_1) != (rd l1 x5_1))=true:=bne_iff_ne.mpr c7
        obtain rfl:=Option.some.inj H
        have p112: 0≤ (x5_1:Int):=of_decide_eq_true zq1
        have q112:x5_1< (l0.length:Int):=of_decide_eq_true zq1
        obtain⟨ad112,e112,hx112_0⟩:=Kd.at_int HR0.out x5_1 p112 q112
        cases e112
        replace p112:=eq_true p112
        replace q112:=eq_true q112
        have p113: 0≤ (x5_1:Int):=of_decide_eq_true zq1
        have q113:x5_1< (l1.length:Int):=of_decide_eq_true zq1
        obtain⟨ad113,e113,hx113_0⟩:=Kd.at_int HR1.out x5_1 p113 q113
        cases e113
        replace p113:=eq_true p113
        replace q113:=eq_true q113
        go_wp2
        repeat(go_quiet (fail);try go_wp2)
        go_ret
        exact⟨by first|rfl|(simp;done)|(simp [*];done),by repeat(first|exact Drawn0.refl _|apply Drawn0.step)⟩
      ·rw [if_neg c6] at H
       exact absurd H (by simp)
     ·rw [if_neg c5] at H
      exact absurd H (by simp)
    ·rw [if_neg c4] at H
     have c4b0:decide (x5_1< (l0.length:Int))=false:=decide_eq_false c4
     clear c4
     obtain rfl:=Option.some.inj H
     go_wp2
     repeat(go_quiet (fail);try go_wp2)
     go_ret
     exact⟨by first|rfl|(simp;done)|(simp [*];done),by repeat(first|exact Drawn0.refl _|apply Drawn0.step)⟩
 ·rw [if_neg c3] at H
  have c3b0:((l0.length:Int)== (l1.length:Int))=false:=beq_eq_false_iff_ne.mpr c3
  have c3b1:((l0.length:Int) != (l1.length:Int))=true:=bne_iff_ne.mpr c3
  have c3b2:(l0.length==l1.length)=false:=by first|simpa using c3|(simp at c3 ⊢;omega)
  obtain rfl:=Option.some.inj H
  go_enter Try.func16,Try.ntmps16
  go_wp2
  repeat(go_quiet (fail);try go_wp2)
  go_ret
  exact⟨by first|rfl|(simp;done)|(simp [*];done),by repeat(first|exact Drawn0.refl _|apply Drawn0.step)⟩
end Go.Proofs.Ytoipbblhmcpneaa.P

namespace Go.Proofs.Ytoipbblhmcpneaa.P
open Go.RowKit Go.Proofs.YtoipbblhmcpneaaW.PrintWords Go.Proofs.YtoipbblhmcpneaaW.PrintLast Go.Proofs.YtoipbblhmcpneaaW.PrintMore
attribute [local go_sem] max2_int min2_int max_two min_two max_three min_three max_four min_four   -- for this text's walks alone
set_option linter.unusedVariables false
set_option linter.unusedSimpArgs false
def laws_szIntS.f (l0:List Int) (a1:Int):Option (Int):=if (wrap64 (a1 - (l0.length:Int)))< 0 then(some (-1)) else(some (wrap64 (a1 - (l0.length:Int))))
set_option maxHeartbeats 8000000 in
set_option maxRecDepth 100000 in
theorem laws_szIntS.calls (A0:Option Addr) (c0:Nat) (l0:List Int) (a1:Int) (r:Int) (w:World) (hr0:Kd.C (Kd.int .i64) w A0 l0.length l0) (hc0:l0.length≤c0) (h:laws_szIntS.f l0 a1=some r):
  Calls Try.prog 47 #[.slice A0 l0.length c0,.int .i64 a1] w fun e w'=>e= .returned (.int .i64 r)∧Drawn0 w w':=by
 have HR0:=Aside0.mk hr0
 have HC0:=Aside0.mk hc0
 clear hr0 hc0
 have H:(if (wrap64 (a1 - (l0.length:Int)))< 0 then(some (-1)) else(some (wrap64 (a1 - (l0.length:Int)))))=some r:=h
 clear h
 by_cases c3:(wrap64 (a1 - (l0.length:Int)))< 0
 ·rw [if_pos c3] at H
  have c3b0:decide ((wrap64 (a1 - (l0.length:Int)))< 0)=true:=decide_eq_true c3
  clear c3
  obtain rfl:=Option.some.inj H
  go_enter Try.func47,Try.ntmps47
  go_wp2
  go_ret
  exact⟨by first|rfl|(simp;done)|(simp [*];done),by repeat(first|exact Drawn0.refl _|apply Drawn0.step)⟩
 ·rw [if_neg c3] at H
  have c3b0:decide ((wrap64 (a1 - (l0.length:Int)))< 0)=false:=decide_eq_false c3
  clear c3
  obtain rfl:=Option.some.inj H
  go_enter Try.func47,Try.ntmps47
  go_wp2
  go_ret
  exact⟨by first|rfl|(simp;done)|(simp [*];done),by repeat(first|exact Drawn0.refl _|apply Drawn0.step)⟩
def laws_szIntSS.l0:Nat→List (List Int)→Int→Int→Option (Int)
 | 0,_,_,_=>none
 |k+1,x0,x1,x5=>if x5< (x0.length:Int) then(if 0≤x5 then((laws_szIntS.f (rd_L1 x0 x5) x1).bind fun t129=>(if t129< 0 then(some (-1)) else(laws_szIntSS.l0 k x0 t129 (wrap64 (x5+1))))) else(none)) else(some x1)
def laws_szIntSS.f (k:Nat) (l0:List (List Int)) (a1:Int):Option (Int):=if (wrap64 (a1 - (l0.length:Int)))< 0 then(some (-1)) else(laws_szIntSS.l0 k l0 (wrap64 (a1 - (l0.length:Int))) 0)
theorem zb1 {q p q0:Prop} (b:Aside0 q) (b0:Aside0 q0) (h:q→q0→p:=by intro z z0;repeat(first|(with_reducible first|exact z|apply below_alloc|apply pw_below_drewN|apply below_drew1|refine below_set ?_ z0)|exact z)):p:=h b.out b0.out
theorem zq2 {p:Prop} (h:p:=by(try simp only [List.map_toArray,List.map_cons,List.map_nil]);first|done|rfl|(simp only [List.length_drop,List.length_take];rfl)):p:=h
set_option maxHeartbeats 8000000 in
set_option maxRecDepth 100000 in
theorem laws_szIntSS.calls (k:Nat) (A0:Option Addr) (c0:Nat) (l0:List (List Int)) (a1:Int) (r:Int) (w:World) (hr0:Kd.C (Kd.slice 3 (Kd.int .i64)) w A0 l0.length l0) (hc0:l0.length≤c0) (h:laws_szIntSS.f k l0 a1=some r):
  Calls Try.prog 46 #[.slice A0 l0.length c0,.int .i64 a1] w fun e w'=>e= .returned (.int .i64 r)∧Drawn0 w w':=by
 have HR0:=Aside0.mk hr0
 have HC0:=Aside0.mk hc0
 clear hr0 hc0
 have H:(if (wrap64 (a1 - (l0.length:Int)))< 0 then(some (-1)) else(laws_szIntSS.l0 k l0 (wrap64 (a1 - (l0.length:Int))) 0))=some r:=h
 clear h
 by_cases c3:(wrap64 (a1 - (l0.length:Int)))< 0
 ·rw [if_pos c3] at H
  have c3b0:decide ((wrap64 (a1 - (l0.length:Int)))< 0)=true:=decide_eq_true c3
  clear c3
  obtain rfl:=Option.some.inj H
  go_enter Try.func46,Try.ntmps46
  go_wp2
  go_ret
  exact⟨by first|rfl|(simp;done)|(simp [*];done),by repeat(first|exact Drawn0.refl _|apply Drawn0.step)⟩
 ·rw [if_neg c3] at H
  have c3b0:decide ((wrap64 (a1 - (l0.length:Int)))< 0)=false:=decide_eq_false c3
  clear c3
  have H':=Aside0.mk H
  clear H
  go_enter Try.func46,Try.ntmps46
  go_wp2
  go_loopg [1,5] k (fun kq v1 v5 w'=> ∃ (x1_1:Int) (x5_1:Int),v1= .int .i64 x1_1∧v5= .int .i64 x5_1∧Aside0 (laws_szIntSS.l0 kq l0 x1_1 x5_1=some r)∧Aside0 (kq≤k)∧Drawn0 w w')
  case atStart=>exact⟨(wrap64 (a1 - (l0.length:Int))),(0),(by first|rfl|(simp;done)|(simp [*];done)),(by first|rfl|(simp;done)|(simp [*];done)),H',⟨Nat.le_refl _⟩,by repeat(first|exact Drawn0.refl _|apply Drawn0.step)⟩
  case round=>
   clear H'
   try clear p2
   try clear c3
   try clear c3b0
   obtain⟨x1_1,x5_1,rfl,rfl,HA,HK1,⟨m1,rfl⟩⟩:=hrel
   cases gk with
   |zero=>exact absurd HA.out (by simp [laws_szIntSS.l0])
   |succ k1=>
    have H:=HA.out
    clear HA
    simp only [laws_szIntSS.l0] at H
    by_cases c4:x5_1< (l0.length:Int)
    ·rw [if_pos c4] at H
     have c4b0:decide (x5_1< (l0.length:Int))=true:=decide_eq_true c4
     clear c4
     by_cases c5: 0≤x5_1
     ·rw [if_pos c5] at H
      have c5b0:decide (0≤x5_1)=true:=decide_eq_true c5
      clear c5
      replace H:=Option.bind_eq_some_iff.mp H
      obtain⟨t129,A60,H⟩:=H
      replace H:(if t129< 0 then(some (-1)) else(laws_szIntSS.l0 k1 l0 t129 (wrap64 (x5_1+1))))=some r:=H
      have A6:=Aside0.mk A60
      clear A60
      by_cases c7:t129< 0
      ·rw [if_pos c7] at H
       have c7b0:decide (t129< 0)=true:=decide_eq_true c7
       clear c7
       obtain rfl:=Option.some.inj H
       have p128: 0≤ (x5_1:Int):=of_decide_eq_true zq1
       have q128:x5_1< (l0.length:Int):=of_decide_eq_true zq1
       obtain⟨ad128,A128_0,c128_0,e128,hx128_0,hl128_0,hi128_0⟩:=at_L1 HR0.out x5_1 p128 q128
       cases e128
       have HR128_0:=Aside0.mk hi128_0
       have HC128_0:=Aside0.mk hl128_0
       clear hi128_0 hl128_0
       replace p128:=eq_true p128
       replace q128:=eq_true q128
       go_wp2_with (first|((with_reducible refine gate_callee (f:=47) rfl ?_);refine goesL_ (some 23) rfl rfl Try.func47 (by kernel_rfl) rfl #[.slice A128_0 (rd_L1 l0 x5_1).length c128_0,.int .i64 x1_1] rfl zq2 ?_;(with_reducible refine(laws_szIntS.calls _ _ (rd_L1 l0 x5_1) x1_1 t129 _ ?side1 ?side2 A6.out).mono ?_);(case side1=>repeat(first|exact HR128_0.out|(with_reducible refine Kd.C_alloc ?_ _)|(with_reducible refine Kd.C_drewN ?_ _)|(with_reducible refine Kd.C_drew ?_)));(case side2=>exact HC128_0.out);rintro e w' ⟨rfl,⟨nd,rfl⟩⟩;refine⟨_,rfl,?_⟩))
       go_ret
       exact⟨by first|rfl|(simp;done)|(simp [*];done),by repeat(first|exact Drawn0.refl _|apply Drawn0.step)⟩
      ·rw [if_neg c7] at H
       have c7b0:decide (t129< 0)=false:=decide_eq_false c7
       clear c7
       have H':=Aside0.mk H
       clear H
       have p128: 0≤ (x5_1:Int):=of_decide_eq_true zq1
       have q128:x5_1< (l0.length:Int):=of_decide_eq_true zq1
       obtain⟨ad128,A128_0,c128_0,e128,hx128_0,hl128_0,hi128_0⟩:=at_L1 HR0.out x5_1 p128 q128
       cases e128
       have HR128_0:=Aside0.mk hi128_0
       have HC128_0:=Aside0.mk hl128_0
       clear hi128_0 hl128_0
       replace p128:=eq_true p128
       replace q128:=eq_true q128
       go_wp2_with (first|((with_reducible refine gate_callee (f:=47) rfl ?_);refine goesL_ (some 23) rfl rfl Try.func47 (by kernel_rfl) rfl #[.slice A128_0 (rd_L1 l0 x5_1).length c128_0,.int .i64 x1_1] rfl zq2 ?_;(with_reducible refine(laws_szIntS.calls _ _ (rd_L1 l0 x5_1) x1_1 t129 _ ?side1 ?side2 A6.out).mono ?_);(case side1=>repeat(first|exact HR128_0.out|(with_reducible refine Kd.C_alloc ?_ _)|(with_reducible refine Kd.C_drewN ?_ _)|(with_reducible refine Kd.C_drew ?_)));(case side2=>exact HC128_0.out);rintro e w' ⟨rfl,⟨nd,rfl⟩⟩;refine⟨_,rfl,?_⟩))
       go_roundg k1
       case measure=>have:=HK1.out;omega
       case rel=>exact⟨(t129),(wrap64 (x5_1+1)),(by first|rfl|(simp;done)|(simp [*];done)),(by first|rfl|(simp;done)|(simp [*];done)),H',⟨by have:=HK1.out;omega⟩,by repeat(first|exact Drawn0.refl _|apply Drawn0.step)⟩
     ·rw [if_neg c5] at H
      exact absurd H (by simp)
    ·rw [if_neg c4] at H
     have c4b0:decide (x5_1< (l0.length:Int))=false:=decide_eq_false c4
     clear c4
     obtain rfl:=Option.some.inj H
     go_wp2
     go_ret
     exact⟨by first|rfl|(simp;done)|(simp [*];done),by repeat(first|exact Drawn0.refl _|apply Drawn0.step)⟩
def laws_szWishes.f (k:Nat) (l0_0:List (List Int)) (l0_1:List (List Int)) (l0_2:List Int) (a1:Int):Option (Int):=(laws_szIntSS.f k l0_0 a1).bind fun t131=>(if t131< 0 then(some (-1)) else((laws_szIntSS.f k l0_1 t131).bind fun t132=>(if t132< 0 then(some (-1)) else((laws_szIntS.f l0_2 t132).bind fun t133=>(if t133< 0 then(some (-1)) else(some t133))))))
set_option maxHeartbeats 8000000 in
set_option maxRecDepth 100000 in
theorem laws_szWishes.calls (k:Nat) (A0_0:Option Addr) (c0_0:Nat) (l0_0:List (List Int)) (A0_1:Option Addr) (c0_1:Nat) (l0_1:List (List Int)) (A0_2:Option Addr) (c0_2:Nat) (l0_2:List Int) (a1:Int) (r:Int) (w:World) (hr0_0:Kd.C (Kd.slice 3 (Kd.int .i64)) w A0_0 l0_0.length l0_0) (hc0_0:l0_0.length≤c0_0) (hr0_1:Kd.C (Kd.slice 3 (Kd.int .i64)) w A0_1 l0_1.length l0_1) (hc0_1:l0_1.length≤c0_1) (hr0_2:Kd.C (Kd.int .i64) w A0_2 l0_2.length l0_2) (hc0_2:l0_2.length≤c0_2) (h:laws_szWishes.f k l0_0 l0_1 l0_2 a1=some r):
  Calls Try.prog 17 #[.agg #[.slice A0_0 l0_0.length c0_0,.slice A0_1 l0_1.length c0_1,.slice A0_2 l0_2.length c0_2],.int .i64 a1] w fun e w'=>e= .returned (.int .i64 r)∧Below w.heap.size w w':=by
 have hu30:=Try.underlying30
 have HR0_0:=Aside0.mk hr0_0
 have HC0_0:=Aside0.mk hc0_0
 clear hr0_0 hc0_0
 have HR0_1:=Aside0.mk hr0_1
 have HC0_1:=Aside0.mk hc0_1
 clear hr0_1 hc0_1
 have HR0_2:=Aside0.mk hr0_2
 have HC0_2:=Aside0.mk hc0_2
 clear hr0_2 hc0_2
 have HB:=Aside0.mk (Below.refl w.heap.size w)
 have H:((laws_szIntSS.f k l0_0 a1).bind fun t131=>(if t131< 0 then(some (-1)) else((laws_szIntSS.f k l0_1 t131).bind fun t132=>(if t132< 0 then(some (-1)) else((laws_szIntS.f l0_2 t132).bind fun t133=>(if t133< 0 then(some (-1)) else(some t133)))))))=some r:=h
 clear h
 replace H:=Option.bind_eq_some_iff.mp H
 obtain⟨t131,A30,H⟩:=H
 replace H:(if t131< 0 then(some (-1)) else((laws_szIntSS.f k l0_1 t131).bind fun t132=>(if t132< 0 then(some (-1)) else((laws_szIntS.f l0_2 t132).bind fun t133=>(if t133< 0 then(some (-1)) else(some t133))))))=some r:=H
 have A3:=Aside0.mk A30
 clear A30
 by_cases c4:t131< 0
 ·rw [if_pos c4] at H
  have c4b0:decide (t131< 0)=true:=decide_eq_true c4
  clear c4
  obtain rfl:=Option.some.inj H
  go_enter Try.func17,Try.ntmps17
  go_wp2_with (first|((with_reducible refine gate_dst (N:=2) rfl ?_);refine box_event ?hg (N:=2) ?hd (cs:= #[.slice A0_0 l0_0.length c0_0,.slice A0_1 l0_1.length c0_1,.slice A0_2 l0_2.length c0_2]) (t:=30) ?hr ?_;(case hd=>rfl);(case hg=>rfl);(case hr=>first|(go_simp;done)|(go_simp;rfl));intro gb130 hg w5 hbox hb;have n0_:=Aside0.mk (below_step (zb0 HB) hb);have n1_:=Aside0.mk (hbox);have n2_:=Aside0.mk ((by rw [hg];exact(below_size (zb0 HB)):w.heap.size≤gb130));have n3_:=Aside0.mk ((by rw [hg];exact(below_size (zb0 HB)):w.heap.size≤gb130));clear HB;have HB:=n0_;have BK130:=n1_;have GW130:=n2_;have GE130:=n3_;clear n0_ n1_ n2_ n3_;clear hb hbox hg;have hcz6_0:w5.cell? ⟨gb130,0,none⟩=some (.slice A0_0 l0_0.length c0_0):=(blk_cell BK130.out 0).trans rfl;have hcz6_1:w5.cell? ⟨gb130,1,none⟩=some (.slice A0_1 l0_1.length c0_1):=(blk_cell BK130.out 1).trans rfl;have hcz6_2:w5.cell? ⟨gb130,2,none⟩=some (.slice A0_2 l0_2.length c0_2):=(blk_cell BK130.out 2).trans rfl;have hfz6_0:=blk_frozen BK130.out 0;have hfz6_1:=blk_frozen BK130.out 1;have hfz6_2:=blk_frozen BK130.out 2)|((with_reducible refine gate_callee (f:=46) rfl ?_);refine goesL_ (some 8) rfl rfl Try.func46 (by kernel_rfl) rfl #[.slice A0_0 l0_0.length c0_0,.int .i64 a1] rfl zq2 ?_;(with_reducible refine(laws_szIntSS.calls k _ _ l0_0 a1 t131 _ ?side1 ?side2 A3.out).mono ?_);(case side1=>repeat(first|exact(Kd.C_below HR0_0.out HB.out)|(with_reducible refine Kd.C_alloc ?_ _)|(with_reducible refine Kd.C_drewN ?_ _)|(with_reducible refine Kd.C_drew ?_)));(case side2=>exact HC0_0.out);rintro e w' ⟨rfl,⟨nd,rfl⟩⟩;refine⟨_,rfl,?_⟩))
  go_ret
  exact⟨by first|rfl|(simp [errW_none,errW_some]<;>rfl)|(simp [*,errW_none,errW_some]<;>rfl),by repeat(first|(with_reducible first|exact HB.out|apply below_alloc|apply pw_below_drewN|apply below_drew1|refine below_set ?_ GE130.out)|exact HB.out)⟩
 ·rw [if_neg c4] at H
  have c4b0:decide (t131< 0)=false:=decide_eq_false c4
  clear c4
  replace H:=Option.bind_eq_some_iff.mp H
  obtain⟨t132,A70,H⟩:=H
  replace H:(if t132< 0 then(some (-1)) else((laws_szIntS.f l0_2 t132).bind fun t133=>(if t133< 0 then(some (-1)) else(some t133))))=some r:=H
  have A7:=Aside0.mk A70
  clear A70
  by_cases c8:t132< 0
  ·rw [if_pos c8] at H
   have c8b0:decide (t132< 0)=true:=decide_eq_true c8
   clear c8
   obtain rfl:=Option.some.inj H
   go_enter Try.func17,Try.ntmps17
   go_wp2_with (first|((with_reducible refine gate_dst (N:=2) rfl ?_);refine box_event ?hg (N:=2) ?hd (cs:= #[.slice A0_0 l0_0.length c0_0,.slice A0_1 l0_1.length c0_1,.slice A0_2 l0_2.length c0_2]) (t:=30) ?hr ?_;(case hd=>rfl);(case hg=>rfl);(case hr=>first|(go_simp;done)|(go_simp;rfl));intro gb130 hg w9 hbox hb;have n0_:=Aside0.mk (below_step (zb0 HB) hb);have n1_:=Aside0.mk (hbox);have n2_:=Aside0.mk ((by rw [hg];exact(below_size (zb0 HB)):w.heap.size≤gb130));have n3_:=Aside0.mk ((by rw [hg];exact(below_size (zb0 HB)):w.heap.size≤gb130));clear HB;have HB:=n0_;have BK130:=n1_;have GW130:=n2_;have GE130:=n3_;clear n0_ n1_ n2_ n3_;clear hb hbox hg;have hcz10_0:w9.cell? ⟨gb130,0,none⟩=some (.slice A0_0 l0_0.length c0_0):=(blk_cell BK130.out 0).trans rfl;have hcz10_1:w9.cell? ⟨gb130,1,none⟩=some (.slice A0_1 l0_1.length c0_1):=(blk_cell BK130.out 1).trans rfl;have hcz10_2:w9.cell? ⟨gb130,2,none⟩=some (.slice A0_2 l0_2.length c0_2):=(blk_cell BK130.out 2).trans rfl;have hfz10_0:=blk_frozen BK130.out 0;have hfz10_1:=blk_frozen BK130.out 1;have hfz10_2:=blk_frozen BK130.out 2)|((with_reducible refine gate_callee (f:=46) rfl ?_);refine goesL_ (some 8) rfl rfl Try.func46 (by kernel_rfl) rfl #[.slice A0_0 l0_0.length c0_0,.int .i64 a1] rfl zq2 ?_;(with_reducible refine(laws_szIntSS.calls k _ _ l0_0 a1 t131 _ ?side1 ?side2 A3.out).mono ?_);(case side1=>repeat(first|exact(Kd.C_below HR0_0.out HB.out)|(with_reducible refine Kd.C_alloc ?_ _)|(with_reducible refine Kd.C_drewN ?_ _)|(with_reducible refine Kd.C_drew ?_)));(case side2=>exact HC0_0.out);rintro e w' ⟨rfl,⟨nd,rfl⟩⟩;refine⟨_,rfl,?_⟩)|((with_reducible refine gate_callee (f:=46) rfl ?_);refine goesL_ (some 14) rfl rfl Try.func46 (by kernel_rfl) rfl #[.slice A0_1 l0_1.length c0_1,.int .i64 t131] rfl zq2 ?_;(with_reducible refine(laws_szIntSS.calls k _ _ l0_1 t131 t132 _ ?side1 ?side2 A7.out).mono ?_);(case side1=>repeat(first|exact(Kd.C_below HR0_1.out (zb1 HB GE130))|(with_reducible refine Kd.C_alloc ?_ _)|(with_reducible refine Kd.C_drewN ?_ _)|(with_reducible refine Kd.C_drew ?_)));(case side2=>exact HC0_1.out);rintro e w' ⟨rfl,⟨nd,rfl⟩⟩;refine⟨_,rfl,?_⟩))
   go_ret
   exact⟨by first|rfl|(simp [errW_none,errW_some]<;>rfl)|(simp [*,errW_none,errW_some]<;>rfl),by repeat(first|(with_reducible first|exact HB.out|apply below_alloc|apply pw_below_drewN|apply below_drew1|refine below_set ?_ GE130.out)|exact HB.out)⟩
  ·rw [if_neg c8] at H
   have c8b0:decide (t132< 0)=false:=decide_eq_false c8
   clear c8
   replace H:=Option.bind_eq_some_iff.mp H
   obtain⟨t133,A110,H⟩:=H
   replace H:(if t133< 0 then(some (-1)) else(some t133))=some r:=H
   have A11:=Aside0.mk A110
   clear A110
   by_cases c12:t133< 0
   ·rw [if_pos c12] at H
    have c12b0:decide (t133< 0)=true:=decide_eq_true c12
    clear c12
    obtain rfl:=Option.some.inj H
    go_enter Try.func17,Try.ntmps17
    go_wp2_with (first|((with_reducible refine gate_dst (N:=2) rfl ?_);refine box_event ?hg (N:=2) ?hd (cs:= #[.slice A0_0 l0_0.length c0_0,.slice A0_1 l0_1.length c0_1,.slice A0_2 l0_2.length c0_2]) (t:=30) ?hr ?_;(case hd=>rfl);(case hg=>rfl);(case hr=>first|(go_simp;done)|(go_simp;rfl));intro gb130 hg w13 hbox hb;have n0_:=Aside0.mk (below_step (zb0 HB) hb);have n1_:=Aside0.mk (hbox);have n2_:=Aside0.mk ((by rw [hg];exact(below_size (zb0 HB)):w.heap.size≤gb130));have n3_:=Aside0.mk ((by rw [hg];exact(below_size (zb0 HB)):w.heap.size≤gb130));clear HB;have HB:=n0_;have BK130:=n1_;have GW130:=n2_;have GE130:=n3_;clear n0_ n1_ n2_ n3_;clear hb hbox hg;have hcz14_0:w13.cell? ⟨gb130,0,none⟩=some (.slice A0_0 l0_0.length c0_0):=(blk_cell BK130.out 0).trans rfl;have hcz14_1:w13.cell? ⟨gb130,1,none⟩=some (.slice A0_1 l0_1.length c0_1):=(blk_cell BK130.out 1).trans rfl;have hcz14_2:w13.cell? ⟨gb130,2,none⟩=some (.slice A0_2 l0_2.length c0_2):=(blk_cell BK130.out 2).trans rfl;have hfz14_0:=blk_frozen BK130.out 0;have hfz14_1:=blk_frozen BK130.out 1;have hfz14_2:=blk_frozen BK130.out 2)|((with_reducible refine gate_callee (f:=46) rfl ?_);refine goesL_ (some 8) rfl rfl Try.func46 (by kernel_rfl) rfl #[.slice A0_0 l0_0.length c0_0,.int .i64 a1] rfl zq2 ?_;(with_reducible refine(laws_szIntSS.calls k _ _ l0_0 a1 t131 _ ?side1 ?side2 A3.out).mono ?_);(case side1=>repeat(first|exact(Kd.C_below HR0_0.out HB.out)|(with_reducible refine Kd.C_alloc ?_ _)|(with_reducible refine Kd.C_drewN ?_ _)|(with_reducible refine Kd.C_drew ?_)));(case side2=>exact HC0_0.out);rintro e w' ⟨rfl,⟨nd,rfl⟩⟩;refine⟨_,rfl,?_⟩)|((with_reducible refine gate_callee (f:=46) rfl ?_);refine goesL_ (some 14) rfl rfl Try.func46 (by kernel_rfl) rfl #[.slice A0_1 l0_1.length c0_1,.int .i64 t131] rfl zq2 ?_;(with_reducible refine(laws_szIntSS.calls k _ _ l0_1 t131 t132 _ ?side1 ?side2 A7.out).mono ?_);(case side1=>repeat(first|exact(Kd.C_below HR0_1.out (zb1 HB GE130))|(with_reducible refine Kd.C_alloc ?_ _)|(with_reducible refine Kd.C_drewN ?_ _)|(with_reducible refine Kd.C_drew ?_)));(case side2=>exact HC0_1.out);rintro e w' ⟨rfl,⟨nd,rfl⟩⟩;refine⟨_,rfl,?_⟩)|((with_reducible refine gate_callee (f:=47) rfl ?_);refine goesL_ (some 20) rfl rfl Try.func47 (by kernel_rfl) rfl #[.slice A0_2 l0_2.length c0_2,.int .i64 t132] rfl zq2 ?_;(with_reducible refine(laws_szIntS.calls _ _ l0_2 t132 t133 _ ?side1 ?side2 A11.out).mono ?_);(case side1=>repeat(first|exact(Kd.C_below HR0_2.out (zb1 HB GE130))|(with_reducible refine Kd.C_alloc ?_ _)|(with_reducible refine Kd.C_drewN ?_ _)|(with_reducible refine Kd.C_drew ?_)));(case side2=>exact HC0_2.out);rintro e w' ⟨rfl,⟨nd,rfl⟩⟩;refine⟨_,rfl,?_⟩))
    go_ret
    exact⟨by first|rfl|(simp [errW_none,errW_some]<;>rfl)|(simp [*,errW_none,errW_some]<;>rfl),by repeat(first|(with_reducible first|exact HB.out|apply below_alloc|apply pw_below_drewN|apply below_drew1|refine below_set ?_ GE130.out)|exact HB.out)⟩
   ·rw [if_neg c12] at H
    have c12b0:decide (t133< 0)=false:=decide_eq_false c12
    clear c12
    obtain rfl:=Option.some.inj H
    go_enter Try.func17,Try.ntmps17
    go_wp2_with (first|((with_reducible refine gate_dst (N:=2) rfl ?_);refine box_event ?hg (N:=2) ?hd (cs:= #[.slice A0_0 l0_0.length c0_0,.slice A0_1 l0_1.length c0_1,.slice A0_2 l0_2.length c0_2]) (t:=30) ?hr ?_;(case hd=>rfl);(case hg=>rfl);(case hr=>first|(go_simp;done)|(go_simp;rfl));intro gb130 hg w15 hbox hb;have n0_:=Aside0.mk (below_step (zb0 HB) hb);have n1_:=Aside0.mk (hbox);have n2_:=Aside0.mk ((by rw [hg];exact(below_size (zb0 HB)):w.heap.size≤gb130));have n3_:=Aside0.mk ((by rw [hg];exact(below_size (zb0 HB)):w.heap.size≤gb130));clear HB;have HB:=n0_;have BK130:=n1_;have GW130:=n2_;have GE130:=n3_;clear n0_ n1_ n2_ n3_;clear hb hbox hg;have hcz16_0:w15.cell? ⟨gb130,0,none⟩=some (.slice A0_0 l0_0.length c0_0):=(blk_cell BK130.out 0).trans rfl;have hcz16_1:w15.cell? ⟨gb130,1,none⟩=some (.slice A0_1 l0_1.length c0_1):=(blk_cell BK130.out 1).trans rfl;have hcz16_2:w15.cell? ⟨gb130,2,none⟩=some (.slice A0_2 l0_2.length c0_2):=(blk_cell BK130.out 2).trans rfl;have hfz16_0:=blk_frozen BK130.out 0;have hfz16_1:=blk_frozen BK130.out 1;have hfz16_2:=blk_frozen BK130.out 2)|((with_reducible refine gate_callee (f:=46) rfl ?_);refine goesL_ (some 8) rfl rfl Try.func46 (by kernel_rfl) rfl #[.slice A0_0 l0_0.length c0_0,.int .i64 a1] rfl zq2 ?_;(with_reducible refine(laws_szIntSS.calls k _ _ l0_0 a1 t131 _ ?side1 ?side2 A3.out).mono ?_);(case side1=>repeat(first|exact(Kd.C_below HR0_0.out HB.out)|(with_reducible refine Kd.C_alloc ?_ _)|(with_reducible refine Kd.C_drewN ?_ _)|(with_reducible refine Kd.C_drew ?_)));(case side2=>exact HC0_0.out);rintro e w' ⟨rfl,⟨nd,rfl⟩⟩;refine⟨_,rfl,?_⟩)|((with_reducible refine gate_callee (f:=46) rfl ?_);refine goesL_ (some 14) rfl rfl Try.func46 (by kernel_rfl) rfl #[.slice A0_1 l0_1.length c0_1,.int .i64 t131] rfl zq2 ?_;(with_reducible refine(laws_szIntSS.calls k _ _ l0_1 t131 t132 _ ?side1 ?side2 A7.out).mono ?_);(case side1=>repeat(first|exact(Kd.C_below HR0_1.out (zb1 HB GE130))|(with_reducible refine Kd.C_alloc ?_ _)|(with_reducible refine Kd.C_drewN ?_ _)|(with_reducible refine Kd.C_drew ?_)));(case side2=>exact HC0_1.out);rintro e w' ⟨rfl,⟨nd,rfl⟩⟩;refine⟨_,rfl,?_⟩)|((with_reducible refine gate_callee (f:=47) rfl ?_);refine goesL_ (some 20) rfl rfl Try.func47 (by kernel_rfl) rfl #[.slice A0_2 l0_2.length c0_2,.int .i64 t132] rfl zq2 ?_;(with_reducible refine(laws_szIntS.calls _ _ l0_2 t132 t133 _ ?side1 ?side2 A11.out).mono ?_);(case side1=>repeat(first|exact(Kd.C_below HR0_2.out (zb1 HB GE130))|(with_reducible refine Kd.C_alloc ?_ _)|(with_reducible refine Kd.C_drewN ?_ _)|(with_reducible refine Kd.C_drew ?_)));(case side2=>exact HC0_2.out);rintro e w' ⟨rfl,⟨nd,rfl⟩⟩;refine⟨_,rfl,?_⟩))
    go_ret
    exact⟨by first|rfl|(simp [errW_none,errW_some]<;>rfl)|(simp [*,errW_none,errW_some]<;>rfl),by repeat(first|(with_reducible first|exact HB.out|apply below_alloc|apply pw_below_drewN|apply below_drew1|refine below_set ?_ GE130.out)|exact HB.out)⟩
def spec_l1In.f (a0:Int) (a1:Int) (a2:Int):Option (Bool):=if a0≥a1 then(some (decide (a0≤a2))) else(some false)
set_option maxHeartbeats 8000000 in
set_option maxRecDepth 100000 in
theorem spec_l1In.calls (a0:Int) (a1:Int) (a2:Int) (r:Bool) (w:World) (h:spec_l1In.f a0 a1 a2=some r):
  Calls Try.prog 49 #[.int .i64 a0,.int .i64 a1,.int .i64 a2] w fun e w'=>e= .returned (.bool r)∧Drawn0 w w':=by
 have H:(if a0≥a1 then(some (decide (a0≤a2))) else(some false))=some r:=h
 clear h
 by_cases c4:a0≥a1
 ·rw [if_pos c4] at H
  have c4b0:decide (a1≤a0)=true:=decide_eq_true c4
  clear c4
  obtain rfl:=Option.some.inj H
  go_enter Try.func49,Try.ntmps49
  go_wp2
  go_ret
  exact⟨by first|rfl|(simp;done)|(simp [*];done),by repeat(first|exact Drawn0.refl _|apply Drawn0.step)⟩
 ·rw [if_neg c4] at H
  have c4b0:decide (a1≤a0)=false:=decide_eq_false c4
  clear c4
  obtain rfl:=Option.some.inj H
  go_enter Try.func49,Try.ntmps49
  go_wp2
  go_ret
  exact⟨by first|rfl|(simp;done)|(simp [*];done),by repeat(first|exact Drawn0.refl _|apply Drawn0.step)⟩
end Go.Proofs.Ytoipbblhmcpneaa.P

namespace Go.Proofs.Ytoipbblhmcpneaa.P
open Go.RowKit Go.Proofs.YtoipbblhmcpneaaW.PrintWords Go.Proofs.YtoipbblhmcpneaaW.PrintLast Go.Proofs.YtoipbblhmcpneaaW.PrintMore
attribute [local go_sem] max2_int min2_int max_two min_two max_three min_three max_four min_four   -- for this text's walks alone
set_option linter.unusedVariables false
set_option linter.unusedSimpArgs false
def spec_l12All.l0:Nat→List Int→Int→List Int→Int→Int→Option (Bool)
 | 0,_,_,_,_,_=>none
 |k+1,x0,x1,x7,x8,x9=>if x9<x8 then(if 0≤x9 then(if x9< (x7.length:Int) then((spec_l1In.f (rd x7 x9) 0 (wrap64 (x1 - 1))).bind fun t135=>(if t135=true then(if x9≤ (x0.length:Int) then((spec_l1Has.f k (x0.take (x9:Int).toNat) (rd x7 x9)).bind fun t137=>(if t137=true then(some false) else(spec_l12All.l0 k x0 x1 x7 x8 (wrap64 (x9+1))))) else(none)) else(some false))) else(none)) else(none)) else(some ((x0.length:Int)==x1))
def spec_l12All.f (k:Nat) (l0:List Int) (a1:Int):Option (Bool):=spec_l12All.l0 k l0 a1 l0 (l0.length:Int) 0
set_option maxHeartbeats 8000000 in
set_option maxRecDepth 100000 in
theorem spec_l12All.calls (k:Nat) (A0:Option Addr) (c0:Nat) (l0:List Int) (a1:Int) (r:Bool) (w:World) (hr0:Kd.C (Kd.int .i64) w A0 l0.length l0) (hc0:l0.length≤c0) (h:spec_l12All.f k l0 a1=some r):
  Calls Try.prog 48 #[.slice A0 l0.length c0,.int .i64 a1] w fun e w'=>e= .returned (.bool r)∧Drawn0 w w':=by
 have HR0:=Aside0.mk hr0
 have HC0:=Aside0.mk hc0
 clear hr0 hc0
 have H:(spec_l12All.l0 k l0 a1 l0 (l0.length:Int) 0)=some r:=h
 clear h
 have H':=Aside0.mk H
 clear H
 go_enter Try.func48,Try.ntmps48
 go_wp2
 go_loopg [9] k (fun kq v9 w'=> ∃ (x9_1:Int),v9= .int .i64 x9_1∧Aside0 (spec_l12All.l0 kq l0 a1 l0 (l0.length:Int) x9_1=some r)∧Aside0 (kq≤k)∧Drawn0 w w')
 case atStart=>exact⟨(0),(by first|rfl|(simp;done)|(simp [*];done)),H',⟨Nat.le_refl _⟩,by repeat(first|exact Drawn0.refl _|apply Drawn0.step)⟩
 case round=>
  clear H'
  try clear p2
  obtain⟨x9_1,rfl,HA,HK1,⟨m1,rfl⟩⟩:=hrel
  cases gk with
  |zero=>exact absurd HA.out (by simp [spec_l12All.l0])
  |succ k1=>
   have H:=HA.out
   clear HA
   simp only [spec_l12All.l0] at H
   by_cases c3:x9_1< (l0.length:Int)
   ·rw [if_pos c3] at H
    have c3b0:decide (x9_1< (l0.length:Int))=true:=decide_eq_true c3
    clear c3
    by_cases c4: 0≤x9_1
    ·rw [if_pos c4] at H
     have c4b0:decide (0≤x9_1)=true:=decide_eq_true c4
     clear c4
     by_cases c5:x9_1< (l0.length:Int)
     ·rw [if_pos c5] at H
      have c5b0:decide (x9_1< (l0.length:Int))=true:=decide_eq_true c5
      clear c5
      replace H:=Option.bind_eq_some_iff.mp H
      obtain⟨t135,A60,H⟩:=H
      replace H:(if t135=true then(if x9_1≤ (l0.length:Int) then((spec_l1Has.f k1 (l0.take (x9_1:Int).toNat) (rd l0 x9_1)).bind fun t137=>(if t137=true then(some false) else(spec_l12All.l0 k1 l0 a1 l0 (l0.length:Int) (wrap64 (x9_1+1))))) else(none)) else(some false))=some r:=H
      have A6:=Aside0.mk A60
      clear A60
      by_cases c7:t135=true
      ·subst c7
       have H1:(if x9_1≤ (l0.length:Int) then((spec_l1Has.f k1 (l0.take (x9_1:Int).toNat) (rd l0 x9_1)).bind fun t137=>(if t137=true then(some false) else(spec_l12All.l0 k1 l0 a1 l0 (l0.length:Int) (wrap64 (x9_1+1))))) else(none))=some r:=by rw [if_pos rfl] at H;exact H
       clear H
       have H:=H1
       clear H1
       have c8b0:=eq_true (of_decide_eq_true zq1: 0≤x9_1)
       by_cases c9:x9_1≤ (l0.length:Int)
       ·rw [if_pos c9] at H
        have c9b0:=eq_true c9
        have c9b1:decide (x9_1≤ (l0.length:Int))=true:=decide_eq_true c9
        clear c9
        replace H:=Option.bind_eq_some_iff.mp H
        obtain⟨t137,A100,H⟩:=H
        replace H:(if t137=true then(some false) else(spec_l12All.l0 k1 l0 a1 l0 (l0.length:Int) (wrap64 (x9_1+1))))=some r:=H
        have A10:=Aside0.mk A100
        clear A100
        by_cases c11:t137=true
        ·subst c11
         have H1:(some false)=some r:=by rw [if_pos rfl] at H;exact H
         clear H
         have H:=H1
         clear H1
         obtain rfl:=Option.some.inj H
         have p134: 0≤ (x9_1:Int):=of_decide_eq_true zq1
         have q134:x9_1< (l0.length:Int):=of_decide_eq_true zq1
         obtain⟨ad134,e134,hx134_0⟩:=Kd.at_int HR0.out x9_1 p134 q134
         cases e134
         replace p134:=eq_true p134
         replace q134:=eq_true q134
         go_wp2_with (first|((with_reducible refine gate_callee (f:=49) rfl ?_);refine goesL_ (some 17) rfl rfl Try.func49 (by kernel_rfl) rfl #[.int .i64 (rd l0 x9_1),.int .i64 0,.int .i64 (wrap64 (a1 - 1))] rfl zq2 ?_;(with_reducible refine(spec_l1In.calls (rd l0 x9_1) 0 (wrap64 (a1 - 1)) true _ A6.out).mono ?_);rintro e w' ⟨rfl,⟨nd,rfl⟩⟩;refine⟨_,rfl,?_⟩;obtain⟨i012,hi012,_,hsz12,_⟩:=info_parts info3;obtain⟨hcut12,hA12,hC12⟩:=print_take_of (P:=Try.prog) (Value.int .i64) 0 22 3 .i64 Try.underlying22 hi012 hsz12 (some ad134) c0 l0 x9_1 (of_decide_eq_true zq1) (of_decide_eq_true zq1) HC0.out;have HR136:=Aside0.mk (Kd.C_of_reads (h1:=fun _=>rfl) (hA12 _ (Kd.reads_of_C HR0.out)));have HC136:=Aside0.mk hC12;clear hA12 hC12 hi012 hsz12)|(go_at_call 43;refine call_args (a:= #[.slice ?_ (l0.take (x9_1:Int).toNat).length ?_,?_]) (by rw [show (l0.take (x9_1:Int).toNat).length= (x9_1:Int).toNat from by rw [List.length_take];have h_:(x9_1:Int)≤ (l0.length:Int):=of_decide_eq_true zq1;omega]) ?_;(with_reducible refine(spec_l1Has.calls k1 _ _ (l0.take (x9_1:Int).toNat) (rd l0 x9_1) true _ ?side1 ?side2 A10.out).mono ?_);(case side1=>repeat(first|exact HR136.out|(with_reducible refine Kd.C_alloc ?_ _)|(with_reducible refine Kd.C_drewN ?_ _)|(with_reducible refine Kd.C_drew ?_)));(case side2=>exact HC136.out);rintro e w' ⟨rfl,⟨nd,rfl⟩⟩))
         go_ret
         exact⟨by first|rfl|(simp;done)|(simp [*];done),by repeat(first|exact Drawn0.refl _|apply Drawn0.step)⟩
        ·replace c11:=Bool.eq_false_iff.mpr c11
         subst c11
         have H1:(spec_l12All.l0 k1 l0 a1 l0 (l0.length:Int) (wrap64 (x9_1+1)))=some r:=by rw [if_neg (show ¬ (false=true) by decide)] at H;exact H
         clear H
         have H:=H1
         clear H1
         have H':=Aside0.mk H
         clear H
         have p134: 0≤ (x9_1:Int):=of_decide_eq_true zq1
         have q134:x9_1< (l0.length:Int):=of_decide_eq_true zq1
         obtain⟨ad134,e134,hx134_0⟩:=Kd.at_int HR0.out x9_1 p134 q134
         cases e134
         replace p134:=eq_true p134
         replace q134:=eq_true q134
         go_wp2_with (first|((with_reducible refine gate_callee (f:=49) rfl ?_);refine goesL_ (some 17) rfl rfl Try.func49 (by kernel_rfl) rfl #[.int .i64 (rd l0 x9_1),.int .i64 0,.int .i64 (wrap64 (a1 - 1))] rfl zq2 ?_;(with_reducible refine(spec_l1In.calls (rd l0 x9_1) 0 (wrap64 (a1 - 1)) true _ A6.out).mono ?_);rintro e w' ⟨rfl,⟨nd,rfl⟩⟩;refine⟨_,rfl,?_⟩;obtain⟨i013,hi013,_,hsz13,_⟩:=info_parts info3;obtain⟨hcut13,hA13,hC13⟩:=print_take_of (P:=Try.prog) (Value.int .i64) 0 22 3 .i64 Try.underlying22 hi013 hsz13 (some ad134) c0 l0 x9_1 (of_decide_eq_true zq1) (of_decide_eq_true zq1) HC0.out;have HR136:=Aside0.mk (Kd.C_of_reads (h1:=fun _=>rfl) (hA13 _ (Kd.reads_of_C HR0.out)));have HC136:=Aside0.mk hC13;clear hA13 hC13 hi013 hsz13)|(go_at_call 43;refine call_args (a:= #[.slice ?_ (l0.take (x9_1:Int).toNat).length ?_,?_]) (by rw [show (l0.take (x9_1:Int).toNat).length= (x9_1:Int).toNat from by rw [List.length_take];have h_:(x9_1:Int)≤ (l0.length:Int):=of_decide_eq_true zq1;omega]) ?_;(with_reducible refine(spec_l1Has.calls k1 _ _ (l0.take (x9_1:Int).toNat) (rd l0 x9_1) false _ ?side1 ?side2 A10.out).mono ?_);(case side1=>repeat(first|exact HR136.out|(with_reducible refine Kd.C_alloc ?_ _)|(with_reducible refine Kd.C_drewN ?_ _)|(with_reducible refine Kd.C_drew ?_)));(case side2=>exact HC136.out);rintro e w' ⟨rfl,⟨nd,rfl⟩⟩))
         go_roundg k1
         case measure=>have:=HK1.out;omega
         case rel=>exact⟨(wrap64 (x9_1+1)),(by first|rfl|(simp;done)|(simp [*];done)),H',⟨by have:=HK1.out;omega⟩,by repeat(first|exact Drawn0.refl _|apply Drawn0.step)⟩
       ·rw [if_neg c9] at H
        exact absurd H (by simp)
      ·replace c7:=Bool.eq_false_iff.mpr c7
       subst c7
       have H1:(some false)=some r:=by rw [if_neg (show ¬ (false=true) by decide)] at H;exact H
       clear H
       have H:=H1
       clear H1
       obtain rfl:=Option.some.inj H
       have p134: 0≤ (x9_1:Int):=of_decide_eq_true zq1
       have q134:x9_1< (l0.length:Int):=of_decide_eq_true zq1
       obtain⟨ad134,e134,hx134_0⟩:=Kd.at_int HR0.out x9_1 p134 q134
       cases e134
       replace p134:=eq_true p134
       replace q134:=eq_true q134
       go_wp2_with (first|((with_reducible refine gate_callee (f:=49) rfl ?_);refine goesL_ (some 17) rfl rfl Try.func49 (by kernel_rfl) rfl #[.int .i64 (rd l0 x9_1),.int .i64 0,.int .i64 (wrap64 (a1 - 1))] rfl zq2 ?_;(with_reducible refine(spec_l1In.calls (rd l0 x9_1) 0 (wrap64 (a1 - 1)) false _ A6.out).mono ?_);rintro e w' ⟨rfl,⟨nd,rfl⟩⟩;refine⟨_,rfl,?_⟩))
       go_ret
       exact⟨by first|rfl|(simp;done)|(simp [*];done),by repeat(first|exact Drawn0.refl _|apply Drawn0.step)⟩
     ·rw [if_neg c5] at H
      exact absurd H (by simp)
    ·rw [if_neg c4] at H
     exact absurd H (by simp)
   ·rw [if_neg c3] at H
    have c3b0:decide (x9_1< (l0.length:Int))=false:=decide_eq_false c3
    clear c3
    obtain rfl:=Option.some.inj H
    go_wp2
    go_ret
    exact⟨by first|rfl|(simp;done)|(simp [*];done),by repeat(first|exact Drawn0.refl _|apply Drawn0.step)⟩
def spec_l1All.l0:Nat→Int→Int→List Int→Int→Int→Option (Bool)
 | 0,_,_,_,_,_=>none
 |k+1,x1,x2,x9,x10,x11=>if x11<x10 then(if 0≤x11 then(if x11< (x9.length:Int) then((spec_l1In.f (rd x9 x11) x1 x2).bind fun t139=>(if t139=true then(spec_l1All.l0 k x1 x2 x9 x10 (wrap64 (x11+1))) else(some false))) else(none)) else(none)) else(some true)
def spec_l1All.f (k:Nat) (l0:List Int) (a1:Int) (a2:Int):Option (Bool):=spec_l1All.l0 k a1 a2 l0 (l0.length:Int) 0
set_option maxHeartbeats 8000000 in
set_option maxRecDepth 100000 in
theorem spec_l1All.calls (k:Nat) (A0:Option Addr) (c0:Nat) (l0:List Int) (a1:Int) (a2:Int) (r:Bool) (w:World) (hr0:Kd.C (Kd.int .i64) w A0 l0.length l0) (hc0:l0.length≤c0) (h:spec_l1All.f k l0 a1 a2=some r):
  Calls Try.prog 50 #[.slice A0 l0.length c0,.int .i64 a1,.int .i64 a2] w fun e w'=>e= .returned (.bool r)∧Drawn0 w w':=by
 have HR0:=Aside0.mk hr0
 have HC0:=Aside0.mk hc0
 clear hr0 hc0
 have H:(spec_l1All.l0 k a1 a2 l0 (l0.length:Int) 0)=some r:=h
 clear h
 have H':=Aside0.mk H
 clear H
 go_enter Try.func50,Try.ntmps50
 go_wp2
 go_loopg [11] k (fun kq v11 w'=> ∃ (x11_1:Int),v11= .int .i64 x11_1∧Aside0 (spec_l1All.l0 kq a1 a2 l0 (l0.length:Int) x11_1=some r)∧Aside0 (kq≤k)∧Drawn0 w w')
 case atStart=>exact⟨(0),(by first|rfl|(simp;done)|(simp [*];done)),H',⟨Nat.le_refl _⟩,by repeat(first|exact Drawn0.refl _|apply Drawn0.step)⟩
 case round=>
  clear H'
  try clear p2
  obtain⟨x11_1,rfl,HA,HK1,⟨m1,rfl⟩⟩:=hrel
  cases gk with
  |zero=>exact absurd HA.out (by simp [spec_l1All.l0])
  |succ k1=>
   have H:=HA.out
   clear HA
   simp only [spec_l1All.l0] at H
   by_cases c4:x11_1< (l0.length:Int)
   ·rw [if_pos c4] at H
    have c4b0:decide (x11_1< (l0.length:Int))=true:=decide_eq_true c4
    clear c4
    by_cases c5: 0≤x11_1
    ·rw [if_pos c5] at H
     have c5b0:decide (0≤x11_1)=true:=decide_eq_true c5
     clear c5
     by_cases c6:x11_1< (l0.length:Int)
     ·rw [if_pos c6] at H
      have c6b0:decide (x11_1< (l0.length:Int))=true:=decide_eq_true c6
      clear c6
      replace H:=Option.bind_eq_some_iff.mp H
      obtain⟨t139,A70,H⟩:=H
      replace H:(if t139=true then(spec_l1All.l0 k1 a1 a2 l0 (l0.length:Int) (wrap64 (x11_1+1))) else(some false))=some r:=H
      have A7:=Aside0.mk A70
      clear A70
      by_cases c8:t139=true
      ·subst c8
       have H1:(spec_l1All.l0 k1 a1 a2 l0 (l0.length:Int) (wrap64 (x11_1+1)))=some r:=by rw [if_pos rfl] at H;exact H
       clear H
       have H:=H1
       clear H1
       have H':=Aside0.mk H
       clear H
       have p138: 0≤ (x11_1:Int):=of_decide_eq_true zq1
       have q138:x11_1< (l0.length:Int):=of_decide_eq_true zq1
       obtain⟨ad138,e138,hx138_0⟩:=Kd.at_int HR0.out x11_1 p138 q138
       cases e138
       replace p138:=eq_true p138
       replace q138:=eq_true q138
       go_wp2_with (first|((with_reducible refine gate_callee (f:=49) rfl ?_);refine goesL_ (some 18) rfl rfl Try.func49 (by kernel_rfl) rfl #[.int .i64 (rd l0 x11_1),.int .i64 a1,.int .i64 a2] rfl zq2 ?_;(with_reducible refine(spec_l1In.calls (rd l0 x11_1) a1 a2 true _ A7.out).mono ?_);rintro e w' ⟨rfl,⟨nd,rfl⟩⟩;refine⟨_,rfl,?_⟩))
       go_roundg k1
       case measure=>have:=HK1.out;omega
       case rel=>exact⟨(wrap64 (x11_1+1)),(by first|rfl|(simp;done)|(simp [*];done)),H',⟨by have:=HK1.out;omega⟩,by repeat(first|exact Drawn0.refl _|apply Drawn0.step)⟩
      ·replace c8:=Bool.eq_false_iff.mpr c8
       subst c8
       have H1:(some false)=some r:=by rw [if_neg (show ¬ (false=true) by decide)] at H;exact H
       clear H
       have H:=H1
       clear H1
       obtain rfl:=Option.some.inj H
       have p138: 0≤ (x11_1:Int):=of_decide_eq_true zq1
       have q138:x11_1< (l0.length:Int):=of_decide_eq_true zq1
       obtain⟨ad138,e138,hx138_0⟩:=Kd.at_int HR0.out x11_1 p138 q138
       cases e138
       replace p138:=eq_true p138
       replace q138:=eq_true q138
       go_wp2_with (first|((with_reducible refine gate_callee (f:=49) rfl ?_);refine goesL_ (some 18) rfl rfl Try.func49 (by kernel_rfl) rfl #[.int .i64 (rd l0 x11_1),.int .i64 a1,.int .i64 a2] rfl zq2 ?_;(with_reducible refine(spec_l1In.calls (rd l0 x11_1) a1 a2 false _ A7.out).mono ?_);rintro e w' ⟨rfl,⟨nd,rfl⟩⟩;refine⟨_,rfl,?_⟩))
       go_ret
       exact⟨by first|rfl|(simp;done)|(simp [*];done),by repeat(first|exact Drawn0.refl _|apply Drawn0.step)⟩
     ·rw [if_neg c6] at H
      exact absurd H (by simp)
    ·rw [if_neg c5] at H
     exact absurd H (by simp)
   ·rw [if_neg c4] at H
    have c4b0:decide (x11_1< (l0.length:Int))=false:=decide_eq_false c4
    clear c4
    obtain rfl:=Option.some.inj H
    go_wp2
    go_ret
    exact⟨by first|rfl|(simp;done)|(simp [*];done),by repeat(first|exact Drawn0.refl _|apply Drawn0.step)⟩
end Go.Proofs.Ytoipbblhmcpneaa.P

namespace Go.Proofs.Ytoipbblhmcpneaa.P
open Go.RowKit Go.Proofs.YtoipbblhmcpneaaW.PrintWords Go.Proofs.YtoipbblhmcpneaaW.PrintLast Go.Proofs.YtoipbblhmcpneaaW.PrintMore
attribute [local go_sem] max2_int min2_int max_two min_two max_three min_three max_four min_four   -- for this text's walks alone
set_option linter.unusedVariables false
set_option linter.unusedSimpArgs false
mutual
def spec_GoodWishes.l0:Nat→Int→Int→List (List Int)→Int→Int→List (List Int)→List (List Int)→List Int→Option (Bool)
 | 0,_,_,_,_,_,_,_,_=>none
 |k+1,x3,x4,x16,x17,x18,x141000,x141001,x141002=>if x18<x17 then(if 0≤x18 then(if x18< (x16.length:Int) then((spec_l12All.f k (rd_L1 x16 x18) x4).bind fun t142=>(if t142=true then(spec_GoodWishes.l0 k x3 x4 x16 x17 (wrap64 (x18+1)) x141000 x141001 x141002) else(some false))) else(none)) else(none)) else(spec_GoodWishes.l1 k x3 x4 x141001 (x141001.length:Int) 0 x141000 x141001 x141002)
def spec_GoodWishes.l1:Nat→Int→Int→List (List Int)→Int→Int→List (List Int)→List (List Int)→List Int→Option (Bool)
 | 0,_,_,_,_,_,_,_,_=>none
 |k+1,x3,x4,x28,x29,x30,x141000,x141001,x141002=>if x30<x29 then(if 0≤x30 then(if x30< (x28.length:Int) then((spec_l12All.f k (rd_L1 x28 x30) x3).bind fun t144=>(if t144=true then(spec_GoodWishes.l1 k x3 x4 x28 x29 (wrap64 (x30+1)) x141000 x141001 x141002) else(some false))) else(none)) else(none)) else((spec_l1In.f x3 1 8).bind fun t145=>(if t145=true then((spec_l1In.f x4 1 8).bind fun t146=>(if t146=true then(if (x141002.length:Int)=x4 then((spec_l1All.f k x141002 0 8).bind fun t147=>(some t147)) else(some false)) else(some false))) else(some false)))
end
def spec_GoodWishes.f (k:Nat) (l0_0:List (List Int)) (l0_1:List (List Int)) (l0_2:List Int):Option (Bool):=spec_GoodWishes.l0 k (l0_0.length:Int) (l0_1.length:Int) l0_0 (l0_0.length:Int) 0 l0_0 l0_1 l0_2
set_option maxHeartbeats 8000000 in
set_option maxRecDepth 100000 in
theorem spec_GoodWishes.calls (k:Nat) (A0_0:Option Addr) (c0_0:Nat) (l0_0:List (List Int)) (A0_1:Option Addr) (c0_1:Nat) (l0_1:List (List Int)) (A0_2:Option Addr) (c0_2:Nat) (l0_2:List Int) (r:Bool) (w:World) (hr0_0:Kd.C (Kd.slice 3 (Kd.int .i64)) w A0_0 l0_0.length l0_0) (hc0_0:l0_0.length≤c0_0) (hr0_1:Kd.C (Kd.slice 3 (Kd.int .i64)) w A0_1 l0_1.length l0_1) (hc0_1:l0_1.length≤c0_1) (hr0_2:Kd.C (Kd.int .i64) w A0_2 l0_2.length l0_2) (hc0_2:l0_2.length≤c0_2) (h:spec_GoodWishes.f k l0_0 l0_1 l0_2=some r):
  Calls Try.prog 18 #[.agg #[.slice A0_0 l0_0.length c0_0,.slice A0_1 l0_1.length c0_1,.slice A0_2 l0_2.length c0_2]] w fun e w'=>e= .returned (.bool r)∧Below w.heap.size w w':=by
 have hu33:=Try.underlying33
 have HR0_0:=Aside0.mk hr0_0
 have HC0_0:=Aside0.mk hc0_0
 clear hr0_0 hc0_0
 have HR0_1:=Aside0.mk hr0_1
 have HC0_1:=Aside0.mk hc0_1
 clear hr0_1 hc0_1
 have HR0_2:=Aside0.mk hr0_2
 have HC0_2:=Aside0.mk hc0_2
 clear hr0_2 hc0_2
 have HB:=Aside0.mk (Below.refl w.heap.size w)
 have H:(spec_GoodWishes.l0 k (l0_0.length:Int) (l0_1.length:Int) l0_0 (l0_0.length:Int) 0 l0_0 l0_1 l0_2)=some r:=h
 clear h
 have H':=Aside0.mk H
 clear H
 go_enter Try.func18,Try.ntmps18
 go_wp2_with (first|((with_reducible refine gate_dst (N:=1) rfl ?_);(try(refine gate_guard (by rfl) ?_;dsimp only));refine box_event ?hg (N:=1) ?hd (cs:= #[.slice A0_0 l0_0.length c0_0,.slice A0_1 l0_1.length c0_1,.slice A0_2 l0_2.length c0_2]) (t:=33) ?hr ?_;(case hd=>rfl);(case hg=>rfl);(case hr=>first|(go_simp;done)|(go_simp;rfl));intro gb140 hg w2 hbox hb;have n0_:=Aside0.mk (below_step (zb0 HB) hb);have n1_:=Aside0.mk (hbox);have n2_:=Aside0.mk ((by rw [hg];exact(below_size (zb0 HB)):w.heap.size≤gb140));have n3_:=Aside0.mk ((by rw [hg];exact(below_size (zb0 HB)):w.heap.size≤gb140));clear HB;have HB:=n0_;have BK140:=n1_;have GW140:=n2_;have GE140:=n3_;clear n0_ n1_ n2_ n3_;clear hb hbox hg;have hcz3_0:w2.cell? ⟨gb140,0,none⟩=some (.slice A0_0 l0_0.length c0_0):=(blk_cell BK140.out 0).trans rfl;have hcz3_1:w2.cell? ⟨gb140,1,none⟩=some (.slice A0_1 l0_1.length c0_1):=(blk_cell BK140.out 1).trans rfl;have hcz3_2:w2.cell? ⟨gb140,2,none⟩=some (.slice A0_2 l0_2.length c0_2):=(blk_cell BK140.out 2).trans rfl;have hfz3_0:=blk_frozen BK140.out 0;have hfz3_1:=blk_frozen BK140.out 1;have hfz3_2:=blk_frozen BK140.out 2))
 go_loopg [18] k (fun kq v18 w'=> ∃ (x18_1:Int),v18= .int .i64 x18_1∧Aside0 (spec_GoodWishes.l0 kq (l0_0.length:Int) (l0_1.length:Int) l0_0 (l0_0.length:Int) x18_1 l0_0 l0_1 l0_2=some r)∧Aside0 (kq≤k)∧Aside0 (w'.heap[gb140]?=some (.cells #[(.slice A0_0 l0_0.length c0_0),(.slice A0_1 l0_1.length c0_1),(.slice A0_2 l0_2.length c0_2)] 33 (0,0)))∧Aside0 (Below w.heap.size w w'))
 case atStart=>exact⟨(0),(by first|rfl|(simp;done)|(simp [*];done)),H',⟨Nat.le_refl _⟩,⟨by(with_reducible repeat(first|refine blk_drewN ?_ _|refine blk_drew ?_ |refine blk_alloc ?_ _));exact BK140.out⟩,⟨by repeat(first|(with_reducible first|exact HB.out|apply below_alloc|apply pw_below_drewN|apply below_drew1|refine below_set ?_ GE140.out)|exact HB.out)⟩⟩
 case round=>
  clear H'
  try clear c1
  try clear p2
  try clear hcz3_0
  try clear hcz3_1
  try clear hcz3_2
  try clear hfz3_0
  try clear hfz3_1
  try clear hfz3_2
  obtain⟨x18_1,rfl,HA,HK1,BK140,HB⟩:=hrel
  cases gk with
  |zero=>exact absurd HA.out (by simp [spec_GoodWishes.l0])
  |succ k1=>
   have H:=HA.out
   clear HA
   simp only [spec_GoodWishes.l0] at H
   by_cases c4:x18_1< (l0_0.length:Int)
   ·rw [if_pos c4] at H
    have c4b0:decide (x18_1< (l0_0.length:Int))=true:=decide_eq_true c4
    clear c4
    by_cases c5: 0≤x18_1
    ·rw [if_pos c5] at H
     have c5b0:decide (0≤x18_1)=true:=decide_eq_true c5
     clear c5
     by_cases c6:x18_1< (l0_0.length:Int)
     ·rw [if_pos c6] at H
      have c6b0:decide (x18_1< (l0_0.length:Int))=true:=decide_eq_true c6
      clear c6
      replace H:=Option.bind_eq_some_iff.mp H
      obtain⟨t142,A70,H⟩:=H
      replace H:(if t142=true then(spec_GoodWishes.l0 k1 (l0_0.length:Int) (l0_1.length:Int) l0_0 (l0_0.length:Int) (wrap64 (x18_1+1)) l0_0 l0_1 l0_2) else(some false))=some r:=H
      have A7:=Aside0.mk A70
      clear A70
      by_cases c8:t142=true
      ·subst c8
       have H1:(spec_GoodWishes.l0 k1 (l0_0.length:Int) (l0_1.length:Int) l0_0 (l0_0.length:Int) (wrap64 (x18_1+1)) l0_0 l0_1 l0_2)=some r:=by rw [if_pos rfl] at H;exact H
       clear H
       have H:=H1
       clear H1
       have H':=Aside0.mk H
       clear H
       have p141: 0≤ (x18_1:Int):=of_decide_eq_true zq1
       have q141:x18_1< (l0_0.length:Int):=of_decide_eq_true zq1
       obtain⟨ad141,A141_0,c141_0,e141,hx141_0,hl141_0,hi141_0⟩:=at_L1 HR0_0.out x18_1 p141 q141
       cases e141
       replace hx141_0:=(HB.out.cell (World.block_lt_of_cell? w _ hx141_0)).trans hx141_0
       have HR141_0:=Aside0.mk hi141_0
       have HC141_0:=Aside0.mk hl141_0
       clear hi141_0 hl141_0
       replace p141:=eq_true p141
       replace q141:=eq_true q141
       go_wp2_with (first|((with_reducible refine gate_callee (f:=48) rfl ?_);refine goesL_ (some 24) rfl rfl Try.func48 (by kernel_rfl) rfl #[.slice A141_0 (rd_L1 l0_0 x18_1).length c141_0,.int .i64 (l0_1.length:Int)] rfl zq2 ?_;(with_reducible refine(spec_l12All.calls k1 _ _ (rd_L1 l0_0 x18_1) (l0_1.length:Int) true _ ?side1 ?side2 A7.out).mono ?_);(case side1=>repeat(first|exact(Kd.C_below HR141_0.out HB.out)|(with_reducible refine Kd.C_alloc ?_ _)|(with_reducible refine Kd.C_drewN ?_ _)|(with_reducible refine Kd.C_drew ?_)));(case side2=>exact HC141_0.out);rintro e w' ⟨rfl,⟨nd,rfl⟩⟩;refine⟨_,rfl,?_⟩))
       go_roundg k1
       case measure=>have:=HK1.out;omega
       case rel=>exact⟨(wrap64 (x18_1+1)),(by first|rfl|(simp;done)|(simp [*];done)),H',⟨by have:=HK1.out;omega⟩,⟨by(with_reducible repeat(first|refine blk_drewN ?_ _|refine blk_drew ?_ |refine blk_alloc ?_ _));exact BK140.out⟩,⟨by repeat(first|(with_reducible first|exact HB.out|apply below_alloc|apply pw_below_drewN|apply below_drew1|refine below_set ?_ GE140.out)|exact HB.out)⟩⟩
      ·replace c8:=Bool.eq_false_iff.mpr c8
       subst c8
       have H1:(some false)=some r:=by rw [if_neg (show ¬ (false=true) by decide)] at H;exact H
       clear H
       have H:=H1
       clear H1
       obtain rfl:=Option.some.inj H
       have p141: 0≤ (x18_1:Int):=of_decide_eq_true zq1
       have q141:x18_1< (l0_0.length:Int):=of_decide_eq_true zq1
       obtain⟨ad141,A141_0,c141_0,e141,hx141_0,hl141_0,hi141_0⟩:=at_L1 HR0_0.out x18_1 p141 q141
       cases e141
       replace hx141_0:=(HB.out.cell (World.block_lt_of_cell? w _ hx141_0)).trans hx141_0
       have HR141_0:=Aside0.mk hi141_0
       have HC141_0:=Aside0.mk hl141_0
       clear hi141_0 hl141_0
       replace p141:=eq_true p141
       replace q141:=eq_true q141
       go_wp2_with (first|((with_reducible refine gate_callee (f:=48) rfl ?_);refine goesL_ (some 24) rfl rfl Try.func48 (by kernel_rfl) rfl #[.slice A141_0 (rd_L1 l0_0 x18_1).length c141_0,.int .i64 (l0_1.length:Int)] rfl zq2 ?_;(with_reducible refine(spec_l12All.calls k1 _ _ (rd_L1 l0_0 x18_1) (l0_1.length:Int) false _ ?side1 ?side2 A7.out).mono ?_);(case side1=>repeat(first|exact(Kd.C_below HR141_0.out HB.out)|(with_reducible refine Kd.C_alloc ?_ _)|(with_reducible refine Kd.C_drewN ?_ _)|(with_reducible refine Kd.C_drew ?_)));(case side2=>exact HC141_0.out);rintro e w' ⟨rfl,⟨nd,rfl⟩⟩;refine⟨_,rfl,?_⟩))
       go_ret
       exact⟨by first|rfl|(simp [errW_none,errW_some]<;>rfl)|(simp [*,errW_none,errW_some]<;>rfl),by repeat(first|(with_reducible first|exact HB.out|apply below_alloc|apply pw_below_drewN|apply below_drew1|refine below_set ?_ GE140.out)|exact HB.out)⟩
     ·rw [if_neg c6] at H
      exact absurd H (by simp)
    ·rw [if_neg c5] at H
     exact absurd H (by simp)
   ·rw [if_neg c4] at H
    have c4b0:decide (x18_1< (l0_0.length:Int))=false:=decide_eq_false c4
    clear c4
    have H':=Aside0.mk H
    clear H
    have hcz9_0:wr.cell? ⟨gb140,0,none⟩=some (.slice A0_0 l0_0.length c0_0):=(blk_cell BK140.out 0).trans rfl
    have hcz9_1:wr.cell? ⟨gb140,1,none⟩=some (.slice A0_1 l0_1.length c0_1):=(blk_cell BK140.out 1).trans rfl
    have hcz9_2:wr.cell? ⟨gb140,2,none⟩=some (.slice A0_2 l0_2.length c0_2):=(blk_cell BK140.out 2).trans rfl
    have hfz9_0:=blk_frozen BK140.out 0
    have hfz9_1:=blk_frozen BK140.out 1
    have hfz9_2:=blk_frozen BK140.out 2
    go_wp2
    go_loopg [30] k1 (fun kq v30 w'=> ∃ (x30_2:Int),v30= .int .i64 x30_2∧Aside0 (spec_GoodWishes.l1 kq (l0_0.length:Int) (l0_1.length:Int) l0_1 (l0_1.length:Int) x30_2 l0_0 l0_1 l0_2=some r)∧Aside0 (kq≤k1)∧Aside0 (w'.heap[gb140]?=some (.cells #[(.slice A0_0 l0_0.length c0_0),(.slice A0_1 l0_1.length c0_1),(.slice A0_2 l0_2.length c0_2)] 33 (0,0)))∧Aside0 (Below w.heap.size w w'))
    case atStart=>exact⟨(0),(by first|rfl|(simp;done)|(simp [*];done)),H',⟨Nat.le_refl _⟩,⟨by(with_reducible repeat(first|refine blk_drewN ?_ _|refine blk_drew ?_ |refine blk_alloc ?_ _));exact BK140.out⟩,⟨by repeat(first|(with_reducible first|exact HB.out|apply below_alloc|apply pw_below_drewN|apply below_drew1|refine below_set ?_ GE140.out)|exact HB.out)⟩⟩
    case round=>
     clear H'
     try clear c1
     try clear p1
     try clear q1
     try clear hx1
     try clear p2
     try clear c4
     try clear c4b0
     try clear c5
     try clear c5b0
     try clear c6
     try clear c6b0
     try clear p6
     try clear c8
     try clear hcz3_0
     try clear hcz3_1
     try clear hcz3_2
     try clear hcz9_0
     try clear hcz9_1
     try clear hcz9_2
     try clear hfz3_0
     try clear hfz3_1
     try clear hfz3_2
     try clear hfz9_0
     try clear hfz9_1
     try clear hfz9_2
     try clear hx141_0
     try clear p141
     try clear p2
     try clear q141
     obtain⟨x30_2,rfl,HA,HK2,BK140,HB⟩:=hrel
     cases gk with
     |zero=>exact absurd HA.out (by simp [spec_GoodWishes.l1])
     |succ k2=>
      have H:=HA.out
      clear HA
      simp only [spec_GoodWishes.l1] at H
      by_cases c10:x30_2< (l0_1.length:Int)
      ·rw [if_pos c10] at H
       have c10b0:decide (x30_2< (l0_1.length:Int))=true:=decide_eq_true c10
       clear c10
       by_cases c11: 0≤x30_2
       ·rw [if_pos c11] at H
        have c11b0:decide (0≤x30_2)=true:=decide_eq_true c11
        clear c11
        by_cases c12:x30_2< (l0_1.length:Int)
        ·rw [if_pos c12] at H
         have c12b0:decide (x30_2< (l0_1.length:Int))=true:=decide_eq_true c12
         clear c12
         replace H:=Option.bind_eq_some_iff.mp H
         obtain⟨t144,A130,H⟩:=H
         replace H:(if t144=true then(spec_GoodWishes.l1 k2 (l0_0.length:Int) (l0_1.length:Int) l0_1 (l0_1.length:Int) (wrap64 (x30_2+1)) l0_0 l0_1 l0_2) else(some false))=some r:=H
         have A13:=Aside0.mk A130
         clear A130
         by_cases c14:t144=true
         ·subst c14
          have H1:(spec_GoodWishes.l1 k2 (l0_0.length:Int) (l0_1.length:Int) l0_1 (l0_1.length:Int) (wrap64 (x30_2+1)) l0_0 l0_1 l0_2)=some r:=by rw [if_pos rfl] at H;exact H
          clear H
          have H:=H1
          clear H1
          have H':=Aside0.mk H
          clear H
          have p143: 0≤ (x30_2:Int):=of_decide_eq_true zq1
          have q143:x30_2< (l0_1.length:Int):=of_decide_eq_true zq1
          obtain⟨ad143,A143_0,c143_0,e143,hx143_0,hl143_0,hi143_0⟩:=at_L1 HR0_1.out x30_2 p143 q143
          cases e143
          replace hx143_0:=(HB.out.cell (World.block_lt_of_cell? w _ hx143_0)).trans hx143_0
          have HR143_0:=Aside0.mk hi143_0
          have HC143_0:=Aside0.mk hl143_0
          clear hi143_0 hl143_0
          replace p143:=eq_true p143
          replace q143:=eq_true q143
          go_wp2_with (first|((with_reducible refine gate_callee (f:=48) rfl ?_);refine goesL_ (some 36) rfl rfl Try.func48 (by kernel_rfl) rfl #[.slice A143_0 (rd_L1 l0_1 x30_2).length c143_0,.int .i64 (l0_0.length:Int)] rfl zq2 ?_;(with_reducible refine(spec_l12All.calls k2 _ _ (rd_L1 l0_1 x30_2) (l0_0.length:Int) true _ ?side1 ?side2 A13.out).mono ?_);(case side1=>repeat(first|exact(Kd.C_below HR143_0.out HB.out)|(with_reducible refine Kd.C_alloc ?_ _)|(with_reducible refine Kd.C_drewN ?_ _)|(with_reducible refine Kd.C_drew ?_)));(case side2=>exact HC143_0.out);rintro e w' ⟨rfl,⟨nd,rfl⟩⟩;refine⟨_,rfl,?_⟩))
          go_roundg k2
          case measure=>have:=HK1.out;have:=HK2.out;omega
          case rel=>exact⟨(wrap64 (x30_2+1)),(by first|rfl|(simp;done)|(simp [*];done)),H',⟨by have:=HK1.out;have:=HK2.out;omega⟩,⟨by(with_reducible repeat(first|refine blk_drewN ?_ _|refine blk_drew ?_ |refine blk_alloc ?_ _));exact BK140.out⟩,⟨by repeat(first|(with_reducible first|exact HB.out|apply below_alloc|apply pw_below_drewN|apply below_drew1|refine below_set ?_ GE140.out)|exact HB.out)⟩⟩
         ·replace c14:=Bool.eq_false_iff.mpr c14
          subst c14
          have H1:(some false)=some r:=by rw [if_neg (show ¬ (false=true) by decide)] at H;exact H
          clear H
          have H:=H1
          clear H1
          obtain rfl:=Option.some.inj H
          have p143: 0≤ (x30_2:Int):=of_decide_eq_true zq1
          have q143:x30_2< (l0_1.length:Int):=of_decide_eq_true zq1
          obtain⟨ad143,A143_0,c143_0,e143,hx143_0,hl143_0,hi143_0⟩:=at_L1 HR0_1.out x30_2 p143 q143
          cases e143
          replace hx143_0:=(HB.out.cell (World.block_lt_of_cell? w _ hx143_0)).trans hx143_0
          have HR143_0:=Aside0.mk hi143_0
          have HC143_0:=Aside0.mk hl143_0
          clear hi143_0 hl143_0
          replace p143:=eq_true p143
          replace q143:=eq_true q143
          go_wp2_with (first|((with_reducible refine gate_callee (f:=48) rfl ?_);refine goesL_ (some 36) rfl rfl Try.func48 (by kernel_rfl) rfl #[.slice A143_0 (rd_L1 l0_1 x30_2).length c143_0,.int .i64 (l0_0.length:Int)] rfl zq2 ?_;(with_reducible refine(spec_l12All.calls k2 _ _ (rd_L1 l0_1 x30_2) (l0_0.length:Int) false _ ?side1 ?side2 A13.out).mono ?_);(case side1=>repeat(first|exact(Kd.C_below HR143_0.out HB.out)|(with_reducible refine Kd.C_alloc ?_ _)|(with_reducible refine Kd.C_drewN ?_ _)|(with_reducible refine Kd.C_drew ?_)));(case side2=>exact HC143_0.out);rintro e w' ⟨rfl,⟨nd,rfl⟩⟩;refine⟨_,rfl,?_⟩))
          go_ret
          exact⟨by first|rfl|(simp [errW_none,errW_some]<;>rfl)|(simp [*,errW_none,errW_some]<;>rfl),by repeat(first|(with_reducible first|exact HB.out|apply below_alloc|apply pw_below_drewN|apply below_drew1|refine below_set ?_ GE140.out)|exact HB.out)⟩
        ·rw [if_neg c12] at H
         exact absurd H (by simp)
       ·rw [if_neg c11] at H
        exact absurd H (by simp)
      ·rw [if_neg c10] at H
       have c10b0:decide (x30_2< (l0_1.length:Int))=false:=decide_eq_false c10
       clear c10
       replace H:=Option.bind_eq_some_iff.mp H
       obtain⟨t145,A150,H⟩:=H
       replace H:(if t145=true then((spec_l1In.f (l0_1.length:Int) 1 8).bind fun t146=>(if t146=true then(if (l0_2.length:Int)= (l0_1.length:Int) then((spec_l1All.f k2 l0_2 0 8).bind fun t147=>(some t147)) else(some false)) else(some false))) else(some false))=some r:=H
       have A15:=Aside0.mk A150
       clear A150
       by_cases c16:t145=true
       ·subst c16
        have H1:((spec_l1In.f (l0_1.length:Int) 1 8).bind fun t146=>(if t146=true then(if (l0_2.length:Int)= (l0_1.length:Int) then((spec_l1All.f k2 l0_2 0 8).bind fun t147=>(some t147)) else(some false)) else(some false)))=some r:=by rw [if_pos rfl] at H;exact H
        clear H
        have H:=H1
        clear H1
        replace H:=Option.bind_eq_some_iff.mp H
        obtain⟨t146,A170,H⟩:=H
        replace H:(if t146=true then(if (l0_2.length:Int)= (l0_1.length:Int) then((spec_l1All.f k2 l0_2 0 8).bind fun t147=>(some t147)) else(some false)) else(some false))=some r:=H
        have A17:=Aside0.mk A170
        clear A170
        by_cases c18:t146=true
        ·subst c18
         have H1:(if (l0_2.length:Int)= (l0_1.length:Int) then((spec_l1All.f k2 l0_2 0 8).bind fun t147=>(some t147)) else(some false))=some r:=by rw [if_pos rfl] at H;exact H
         clear H
         have H:=H1
         clear H1
         by_cases c19:(l0_2.length:Int)= (l0_1.length:Int)
         ·rw [if_pos c19] at H
          have c19b0:((l0_2.length:Int)== (l0_1.length:Int))=true:=beq_iff_eq.mpr c19
          have c19b1:((l0_2.length:Int) != (l0_1.length:Int))=false:=bne_eq_false_iff_eq.mpr c19
          have c19b2:(l0_2.length==l0_1.length)=true:=by first|simpa using c19|(simp at c19 ⊢;omega)
          clear c19
          replace H:=Option.bind_eq_some_iff.mp H
          obtain⟨t147,A200,H⟩:=H
          replace H:(some t147)=some r:=H
          have A20:=Aside0.mk A200
          clear A200
          obtain rfl:=Option.some.inj H
          go_wp2_with (first|((with_reducible refine gate_callee (f:=49) rfl ?_);refine goesL_ (some 40) rfl rfl Try.func49 (by kernel_rfl) rfl #[.int .i64 (l0_0.length:Int),.int .i64 1,.int .i64 8] rfl zq2 ?_;(with_reducible refine(spec_l1In.calls (l0_0.length:Int) 1 8 true _ A15.out).mono ?_);rintro e w' ⟨rfl,⟨nd,rfl⟩⟩;refine⟨_,rfl,?_⟩)|(go_at_call 49;(with_reducible refine(spec_l1In.calls (l0_1.length:Int) 1 8 true _ A17.out).mono ?_);rintro e w' ⟨rfl,⟨nd,rfl⟩⟩;have hcz21_0:wr.cell? ⟨gb140,0,none⟩=some (.slice A0_0 l0_0.length c0_0):=(blk_cell BK140.out 0).trans rfl;have hcz21_1:wr.cell? ⟨gb140,1,none⟩=some (.slice A0_1 l0_1.length c0_1):=(blk_cell BK140.out 1).trans rfl;have hcz21_2:wr.cell? ⟨gb140,2,none⟩=some (.slice A0_2 l0_2.length c0_2):=(blk_cell BK140.out 2).trans rfl;have hfz21_0:=blk_frozen BK140.out 0;have hfz21_1:=blk_frozen BK140.out 1;have hfz21_2:=blk_frozen BK140.out 2)|(go_at_call 50;(with_reducible refine(spec_l1All.calls k2 _ _ l0_2 0 8 t147 _ ?side1 ?side2 A20.out).mono ?_);(case side1=>repeat(first|exact(Kd.C_below HR0_2.out (zb1 HB GE140))|(with_reducible refine Kd.C_alloc ?_ _)|(with_reducible refine Kd.C_drewN ?_ _)|(with_reducible refine Kd.C_drew ?_)));(case side2=>exact HC0_2.out);rintro e w' ⟨rfl,⟨nd,rfl⟩⟩))
          go_ret
          exact⟨by first|rfl|(simp [errW_none,errW_some]<;>rfl)|(simp [*,errW_none,errW_some]<;>rfl),by repeat(first|(with_reducible first|exact HB.out|apply below_alloc|apply pw_below_drewN|apply below_drew1|refine below_set ?_ GE140.out)|exact HB.out)⟩
         ·rw [if_neg c19] at H
          have c19b0:((l0_2.length:Int)== (l0_1.length:Int))=false:=beq_eq_false_iff_ne.mpr c19
          have c19b1:((l0_2.length:Int) != (l0_1.length:Int))=true:=bne_iff_ne.mpr c19
          have c19b2:(l0_2.length==l0_1.length)=false:=by first|simpa using c19|(simp at c19 ⊢;omega)
          obtain rfl:=Option.some.inj H
          go_wp2_with (first|((with_reducible refine gate_callee (f:=49) rfl ?_);refine goesL_ (some 40) rfl rfl Try.func49 (by kernel_rfl) rfl #[.int .i64 (l0_0.length:Int),.int .i64 1,.int .i64 8] rfl zq2 ?_;(with_reducible refine(spec_l1In.calls (l0_0.length:Int) 1 8 true _ A15.out).mono ?_);rintro e w' ⟨rfl,⟨nd,rfl⟩⟩;refine⟨_,rfl,?_⟩)|(go_at_call 49;(with_reducible refine(spec_l1In.calls (l0_1.length:Int) 1 8 true _ A17.out).mono ?_);rintro e w' ⟨rfl,⟨nd,rfl⟩⟩;have hcz22_0:wr.cell? ⟨gb140,0,none⟩=some (.slice A0_0 l0_0.length c0_0):=(blk_cell BK140.out 0).trans rfl;have hcz22_1:wr.cell? ⟨gb140,1,none⟩=some (.slice A0_1 l0_1.length c0_1):=(blk_cell BK140.out 1).trans rfl;have hcz22_2:wr.cell? ⟨gb140,2,none⟩=some (.slice A0_2 l0_2.length c0_2):=(blk_cell BK140.out 2).trans rfl;have hfz22_0:=blk_frozen BK140.out 0;have hfz22_1:=blk_frozen BK140.out 1;have hfz22_2:=blk_frozen BK140.out 2))
          go_ret
          exact⟨by first|rfl|(simp [errW_none,errW_some]<;>rfl)|(simp [*,errW_none,errW_some]<;>rfl),by repeat(first|(with_reducible first|exact HB.out|apply below_alloc|apply pw_below_drewN|apply below_drew1|refine below_set ?_ GE140.out)|exact HB.out)⟩
        ·replace c18:=Bool.eq_false_iff.mpr c18
         subst c18
         have H1:(some false)=some r:=by rw [if_neg (show ¬ (false=true) by decide)] at H;exact H
         clear H
         have H:=H1
         clear H1
         obtain rfl:=Option.some.inj H
         go_wp2_with (first|((with_reducible refine gate_callee (f:=49) rfl ?_);refine goesL_ (some 40) rfl rfl Try.func49 (by kernel_rfl) rfl #[.int .i64 (l0_0.length:Int),.int .i64 1,.int .i64 8] rfl zq2 ?_;(with_reducible refine(spec_l1In.calls (l0_0.length:Int) 1 8 true _ A15.out).mono ?_);rintro e w' ⟨rfl,⟨nd,rfl⟩⟩;refine⟨_,rfl,?_⟩)|(go_at_call 49;(with_reducible refine(spec_l1In.calls (l0_1.length:Int) 1 8 false _ A17.out).mono ?_);rintro e w' ⟨rfl,⟨nd,rfl⟩⟩))
         go_ret
         exact⟨by first|rfl|(simp [errW_none,errW_some]<;>rfl)|(simp [*,errW_none,errW_some]<;>rfl),by repeat(first|(with_reducible first|exact HB.out|apply below_alloc|apply pw_below_drewN|apply below_drew1|refine below_set ?_ GE140.out)|exact HB.out)⟩
       ·replace c16:=Bool.eq_false_iff.mpr c16
        subst c16
        have H1:(some false)=some r:=by rw [if_neg (show ¬ (false=true) by decide)] at H;exact H
        clear H
        have H:=H1
        clear H1
        obtain rfl:=Option.some.inj H
        go_wp2_with (first|((with_reducible refine gate_callee (f:=49) rfl ?_);refine goesL_ (some 40) rfl rfl Try.func49 (by kernel_rfl) rfl #[.int .i64 (l0_0.length:Int),.int .i64 1,.int .i64 8] rfl zq2 ?_;(with_reducible refine(spec_l1In.calls (l0_0.length:Int) 1 8 false _ A15.out).mono ?_);rintro e w' ⟨rfl,⟨nd,rfl⟩⟩;refine⟨_,rfl,?_⟩))
        go_ret
        exact⟨by first|rfl|(simp [errW_none,errW_some]<;>rfl)|(simp [*,errW_none,errW_some]<;>rfl),by repeat(first|(with_reducible first|exact HB.out|apply below_alloc|apply pw_below_drewN|apply below_drew1|refine below_set ?_ GE140.out)|exact HB.out)⟩
def laws_toIntSS.l0:Nat→List (List Int)→List (List Int)→Int→Option ((List (List Int)))
 | 0,_,_,_=>none
 |k+1,x0,x3,x4=>if x4< (x0.length:Int) then(if 0≤x4 then((laws_toIntS.f k (rd_L1 x0 x4)).bind fun t152=>(if x4< (x3.length:Int) then(laws_toIntSS.l0 k x0 (x3.set (x4:Int).toNat t152) (wrap64 (x4+1))) else(none))) else(none)) else(some x3)
def laws_toIntSS.f (k:Nat) (l0:List (List Int)):Option ((List (List Int))):=if 0≤ (l0.length:Int) then(if ((l0.length:Int):Int).toNat≤11728124029610 then(laws_toIntSS.l0 k l0 (List.replicate ((l0.length:Int):Int).toNat []) 0) else(none)) else(none)
set_option maxHeartbeats 8000000 in
set_option maxRecDepth 100000 in
theorem laws_toIntSS.calls (k:Nat) (A0:Option Addr) (c0:Nat) (l0:List (List Int)) (r:List (List Int)) (w:World) (hr0:Kd.C (Kd.slice 3 (Kd.int .i64)) w A0 l0.length l0) (hc0:l0.length≤c0) (h:laws_toIntSS.f k l0=some r):
  Calls Try.prog 51 #[.slice A0 l0.length c0] w fun e w'=> ∃ v0_:Value,e= .returned (v0_)∧Kd.S (Kd.slice 3 (Kd.int .i64)) 22 w' w.heap.size (fun _=>True) v0_ r∧Below w.heap.size w w':=by
 have HR0:=Aside0.mk hr0
 have HC0:=Aside0.mk hc0
 clear hr0 hc0
 have HB:=Aside0.mk (Below.refl w.heap.size w)
 have H:(if 0≤ (l0.length:Int) then(if ((l0.length:Int):Int).toNat≤11728124029610 then(laws_toIntSS.l0 k l0 (List.replicate ((l0.length:Int):Int).toNat []) 0) else(none)) else(none))=some r:=h
 clear h
 by_cases c2: 0≤ (l0.length:Int)
 ·rw [if_pos c2] at H
  have c2b0:=eq_true c2
  have c2b1:decide (0≤ (l0.length:Int))=true:=decide_eq_true c2
  clear c2
  by_cases c3:((l0.length:Int):Int).toNat≤11728124029610
  ·rw [if_pos c3] at H
   have c3b0:=eq_true c3
   have c3b1:decide (((l0.length:Int):Int).toNat≤11728124029610)=true:=decide_eq_true c3
   clear c3
   obtain⟨y148,hy148⟩ :∃ y_:List (List Int),y_= (List.replicate ((l0.length:Int):Int).toNat []):=⟨_,rfl⟩
   replace H:(laws_toIntSS.l0 k l0 y148 0)=some r:=by first|(rw [hy148];with_reducible exact H)|(have H2_:=(Option.bind_some _ _).symm.trans H;rw [hy148];with_reducible exact H2_)|(have H2_:=(Option.bind_some _ _).symm.trans H;with_reducible exact H2_)|with_reducible exact H|(rw [hy148];exact H)|exact H
   have Ny148:=Aside0.mk hy148
   clear hy148
   have H':=Aside0.mk H
   clear H
   go_enter Try.func51,Try.ntmps51
   go_wp2_with (first|((with_reducible refine gate_dst (N:=7) rfl ?_);refine Kd.S_make (Kd.slice 3 (Kd.int .i64)) _ 22 rfl (N:=7) rfl 28 _ _ rfl (l0.length:Int) rfl rfl Try.underlying28 (.slice none 0 0) 24 info22 rfl (by decide) (by omega) [] (ok:=fun _=>True) (okp:=fun _=>True) ⟨_,rfl,Kd.R_nil _ _ _ _ _⟩ (fun _ hk=>hk) trivial (of_decide_eq_true zq1) (Nat.le_trans (Nat.mul_le_mul_right _ (of_decide_eq_true zq1:(l0.length:Int).toNat≤11728124029610)) (by omega)) (Below.refl _ _) (Nat.le_refl _) ?_;intro v149 w4 ho5 hb hg_ hnew_;clear hg_ hnew_;(first|rw [← Ny148.out] at ho5|(simp only [Int.reduceToNat] at ho5;rw [← Ny148.out] at ho5));have n0_:=Aside0.mk (Kd.S_lower ho5 (below_size (zb0 HB)));have n1_:=Aside0.mk (below_step (zb0 HB) hb);clear HB;have HO150:=n0_;have HB:=n1_;clear n0_ n1_;clear hb ho5))
   go_loopg [4] k (fun kq v4 w'=> ∃ (x3_1:List (List Int)) (x4_1:Int),v4= .int .i64 x4_1∧Aside0 (laws_toIntSS.l0 kq l0 x3_1 x4_1=some r)∧Aside0 (kq≤k)∧Aside0 (Kd.S (Kd.slice 3 (Kd.int .i64)) 22 w' w.heap.size (fun _=>True) v149 x3_1)∧Aside0 (Below w.heap.size w w'))
   case atStart=>exact⟨(y148),(0),(by first|rfl|(simp;done)|(simp [*];done)),H',⟨Nat.le_refl _⟩,⟨by(with_reducible repeat(first|apply Kd.S_alloc|apply Kd.S_drewN|apply Kd.S_drew));exact HO150.out⟩,⟨by repeat(first|(with_reducible first|exact HB.out|apply below_alloc|apply pw_below_drewN|apply below_drew1)|exact HB.out)⟩⟩
   case round=>
    clear H'
    try clear c2
    try clear c2b0
    try clear c2b1
    try clear p2
    try clear c3
    try clear c3b0
    try clear c3b1
    try clear c5
    obtain⟨x3_1,x4_1,rfl,HA,HK1,HO_3,HB⟩:=hrel
    cases gk with
    |zero=>exact absurd HA.out (by simp [laws_toIntSS.l0])
    |succ k1=>
     have H:=HA.out
     clear HA
     simp only [laws_toIntSS.l0] at H
     by_cases c6:x4_1< (l0.length:Int)
     ·rw [if_pos c6] at H
      have c6b0:decide (x4_1< (l0.length:Int))=true:=decide_eq_true c6
      clear c6
      by_cases c7: 0≤x4_1
      ·rw [if_pos c7] at H
       have c7b0:decide (0≤x4_1)=true:=decide_eq_true c7
       clear c7
       replace H:=Option.bind_eq_some_iff.mp H
       obtain⟨t152,A80,H⟩:=H
       replace H:(if x4_1< (x3_1.length:Int) then(laws_toIntSS.l0 k1 l0 (x3_1.set (x4_1:Int).toNat t152) (wrap64 (x4_1+1))) else(none))=some r:=H
       have A8:=Aside0.mk A80
       clear A80
       by_cases c9:x4_1< (x3_1.length:Int)
       ·rw [if_pos c9] at H
        have c9b0:decide (x4_1< (x3_1.length:Int))=true:=decide_eq_true c9
        clear c9
        obtain⟨y155,hy155⟩ :∃ y_:List (List Int),y_= (x3_1.set (x4_1:Int).toNat t152):=⟨_,rfl⟩
        replace H:(laws_toIntSS.l0 k1 l0 y155 (wrap64 (x4_1+1)))=some r:=by first|(rw [hy155];with_reducible exact H)|(have H2_:=(Option.bind_some _ _).symm.trans H;rw [hy155];with_reducible exact H2_)|(have H2_:=(Option.bind_some _ _).symm.trans H;with_reducible exact H2_)|with_reducible exact H|(rw [hy155];exact H)|exact H
        have Ny155:=Aside0.mk hy155
        clear hy155
        have H':=Aside0.mk H
        clear H
        have p151: 0≤ (x4_1:Int):=of_decide_eq_true zq1
        have q151:x4_1< (l0.length:Int):=of_decide_eq_true zq1
        obtain⟨ad151,A151_0,c151_0,e151,hx151_0,hl151_0,hi151_0⟩:=at_L1 HR0.out x4_1 p151 q151
        cases e151
        replace hx151_0:=(HB.out.cell (World.block_lt_of_cell? w _ hx151_0)).trans hx151_0
        have HR151_0:=Aside0.mk hi151_0
        have HC151_0:=Aside0.mk hl151_0
        clear hi151_0 hl151_0
        replace p151:=eq_true p151
        replace q151:=eq_true q151
        go_wp2_with (first|((with_reducible refine gate_callee (f:=14) rfl ?_);refine goesL_ (some 20) rfl rfl Try.func14 (by kernel_rfl) rfl #[.slice A151_0 (rd_L1 l0 x4_1).length c151_0] rfl zq2 ?_;(with_reducible refine(laws_toIntS.calls k1 _ _ (rd_L1 l0 x4_1) t152 _ ?side1 ?side2 A8.out).mono ?_);(case side1=>repeat(first|exact(Kd.C_below HR151_0.out HB.out)|(with_reducible refine Kd.C_alloc ?_ _)|(with_reducible refine Kd.C_drewN ?_ _)|(with_reducible refine Kd.C_drew ?_)));(case side2=>exact HC151_0.out);rintro e w11 ⟨v153,rfl,ho0,hb⟩;refine⟨_,rfl,?_⟩;have n0_:=Aside0.mk (Kd.S_elder' (by(with_reducible repeat(first|apply Kd.S_alloc|apply Kd.S_drewN|apply Kd.S_drew));exact HO_3.out) (Kd.R_base ho0) hb);have n1_:=Aside0.mk (Kd.R_lower ho0 (below_size (zb0 HB)));have n2_:=Aside0.mk (below_step (zb0 HB) hb);clear HO_3;clear HB;have HO_3:=n0_;have HO154:=n1_;have HB:=n2_;clear n0_ n1_ n2_;(try clear hb);(try clear hb2);(try clear hk);(try clear hi);(try clear ho0);have p10: 0≤ (x4_1:Int):=of_decide_eq_true zq1;have q10:(x4_1:Int)< ((x3_1.length:Int):Int):=of_decide_eq_true zq1;obtain⟨go10,co10,eo10,gb10,gl10,cl10,HG10⟩:=Kd.S_form HO_3.out (by omega);(first|cases eo10|(injection eo10 with ea_ en_ ec_;(first|subst ea_|(injection ea_ with ea_;subst ea_));subst ec_;clear en_));have GB10:=Aside0.mk gb10;have GG10:=Aside0.mk HG10;clear gb10 gl10 HG10;obtain⟨_,ce10,hcl10,hM10,hcc10,hfr10,_,_⟩:=Kd.S_elem HO_3.out [] (x4_1:Int) p10 q10;obtain⟨ve10_0,rfl,ge10_0⟩:=hM10;have hx10_0:=hcc10 0 _ rfl;have hf10_0:=hfr10 0;(try simp only [show ((Kd.slice 3 (Kd.int .i64))).sz=1 from rfl,Nat.mul_one,Nat.add_zero] at hx10_0);(try simp only [show ((Kd.slice 3 (Kd.int .i64))).sz=1 from rfl,Nat.mul_one,Nat.add_zero] at hf10_0);clear hcl10 hcc10 hfr10;(try clear hM10);replace p10:=eq_true p10;replace q10:=eq_true q10;have n_:=Aside0.mk (Kd.S_mono (ok':=(fun k_=>some k_≠ (v153:Value).ownBlock)) HO_3.out (fun k_ hk=>hk.2));clear HO_3;have HO_3:=n_;clear n_;have HX12:=Aside0.mk (show Kd.S (Kd.slice 3 (Kd.int .i64)) 22 w11 w.heap.size (fun k_=>((fun _=>True)) k_∧ ¬ ((fun k_=>some k_= (v153:Value).ownBlock)) k_) (.slice (some ⟨go10,0,none⟩) x3_1.length co10) x3_1 from (by(with_reducible repeat(first|apply Kd.S_alloc|apply Kd.S_drewN|apply Kd.S_drew));exact Kd.S_mono HO_3.out (fun k_ hk=>⟨trivial,fun e_=>hk e_⟩)));obtain⟨oki12,ce12,hcl12,hM12,hcc12,hfr12,hoki12,hH12⟩:=Kd.S_elem HX12.out [] (x4_1:Int) (of_decide_eq_true zq1) (by have h_:(x4_1:Int)< ((x3_1.length:Int):Int):=of_decide_eq_true zq1;first|exact h_|(have e_:=(Kd.S_reads' HO_3.out).1;omega)|simpa using h_);obtain⟨ve12_0,rfl,ge12_0⟩:=hM12;have HP12:=Kd.S_seg hH12 (of_decide_eq_true zq1) (by have h_:(x4_1:Int)< ((x3_1.length:Int):Int):=of_decide_eq_true zq1;first|exact h_|(have e_:=(Kd.S_reads' HO_3.out).1;omega)|simpa using h_) (seg:= [v153]) (j:=0) (show 1≤1 from by decide) (x':=t152) (Kd.M_row (Kd.R_mono (Kd.R_tight rfl (Kd.R_mono (ok':=fun k_=>((fun _=>True)) k_∧k_≠go10) (Kd.R_apart' (HO154.out) (Kd.S_typed HO_3.out) (by decide)) (fun k_ hk=>⟨trivial,fun e_=>(hk.2) (by rw [e_];rfl)⟩))) (fun _ h_=>Or.inr (h_)))) (fun _ hk=>hk) (fun k_ hk_=>((Kd.R_mono (ok':=fun k_=>((fun _=>True)) k_∧k_≠go10) (Kd.R_apart' (HO154.out) (Kd.S_typed HO_3.out) (by decide)) (fun k_ hk=>⟨trivial,fun e_=>(hk.2) (by rw [e_];rfl)⟩))).1 k_ hk_.symm);have hx12_0:=hcc12 0 _ rfl;(try simp only [show ((Kd.slice 3 (Kd.int .i64))).sz=1 from rfl,Nat.mul_one,Nat.add_zero] at hx12_0);have hf12_0:=hfr12 0;(try simp only [show ((Kd.slice 3 (Kd.int .i64))).sz=1 from rfl,Nat.mul_one,Nat.add_zero] at hf12_0);clear hcl12 hcc12 hfr12;(try clear hM12);clear hoki12 hH12;(try simp only [show ((Kd.slice 3 (Kd.int .i64))).sz=1 from rfl,Nat.mul_one,Nat.add_zero] at HP12))|((with_reducible refine gate_store (t:=22) (p:=21) rfl ?_);obtain⟨sA_,sc_,sv_⟩:=Kd.R_slice HO154.out;subst sv_;refine store_event (t:=22) (p:=21) (v:=?vo_w13) (w1:=(w11.setCell ⟨go10,(x4_1:Int).toNat,none⟩ ((Value.slice sA_ t152.length sc_)))) ?hg ?ho ?hn ?hr ?_;(case ho=>rfl);(case hg=>rfl);(case hn=>rfl);(case hr=>first|(go_simp;done)|(go_simp;rfl));intro w13 hw;have hg:w11.grownBy w13 (some go10):=(by rw [hw];exact HP12.2);have hp_:Kd.S (Kd.slice 3 (Kd.int .i64)) 22 w13 w.heap.size (fun _=>True) (.slice (some ⟨go10,0,none⟩) x3_1.length co10) y155:=(by rw [hw,Ny155.out];exact HP12.1);clear HP12;have n0_:=Aside0.mk (hp_);have n1_:=Aside0.mk ((by rw [hw];exact below_set (HB.out) GB10.out:Below w.heap.size w w13));clear HO_3;clear HB;clear HO154;have HO_3:=n0_;have HB:=n1_;clear n0_ n1_;clear hg hw hp_))
        go_roundg k1
        case measure=>have:=HK1.out;omega
        case rel=>exact⟨(y155),(wrap64 (x4_1+1)),(by first|rfl|(simp;done)|(simp [*];done)),H',⟨by have:=HK1.out;omega⟩,⟨by(with_reducible repeat(first|apply Kd.S_alloc|apply Kd.S_drewN|apply Kd.S_drew));exact HO_3.out⟩,⟨by repeat(first|(with_reducible first|exact HB.out|apply below_alloc|apply pw_below_drewN|apply below_drew1)|exact HB.out)⟩⟩
       ·rw [if_neg c9] at H
        exact absurd H (by simp)
      ·rw [if_neg c7] at H
       exact absurd H (by simp)
     ·rw [if_neg c6] at H
      have c6b0:decide (x4_1< (l0.length:Int))=false:=decide_eq_false c6
      clear c6
      obtain rfl:=Option.some.inj H
      go_wp2
      go_ret
      exact⟨_,by first|rfl|(simp [errW_none,errW_some]<;>rfl)|(simp [*,errW_none,errW_some]<;>rfl),by(with_reducible repeat(first|apply Kd.S_alloc|apply Kd.S_drewN|apply Kd.S_drew));exact HO_3.out,by repeat(first|(with_reducible first|exact HB.out|apply below_alloc|apply pw_below_drewN|apply below_drew1)|exact HB.out)⟩
  ·rw [if_neg c3] at H
   exact absurd H (by simp)
 ·rw [if_neg c2] at H
  exact absurd H (by simp)
end Go.Proofs.Ytoipbblhmcpneaa.P

namespace Go.Proofs.Ytoipbblhmcpneaa.P
open Go.RowKit Go.Proofs.YtoipbblhmcpneaaW.PrintWords Go.Proofs.YtoipbblhmcpneaaW.PrintLast Go.Proofs.YtoipbblhmcpneaaW.PrintMore
attribute [local go_sem] max2_int min2_int max_two min_two max_three min_three max_four min_four   -- for this text's walks alone
set_option linter.unusedVariables false
set_option linter.unusedSimpArgs false
def spec_l12Has.l0:Nat→Int→List Int→List Int→Int→Int→Option (List Int)
 | 0,_,_,_,_,_=>none
 |k+1,x1,x5,x8,x9,x10=>if x10<x9 then(if 0≤x10 then(if x10< (x8.length:Int) then(if (rd x8 x10)=x1 then(if x5.length< 17592186044416 then(spec_l12Has.l0 k x1 (x5++ [x10]) x8 x9 (wrap64 (x10+1))) else(none)) else(spec_l12Has.l0 k x1 x5 x8 x9 (wrap64 (x10+1)))) else(none)) else(none)) else(some x5)
def spec_l12Has.f (k:Nat) (l0:List Int) (a1:Int):Option (List Int):=spec_l12Has.l0 k a1 ([] :List Int) l0 (l0.length:Int) 0
theorem zq4 {q p:Prop} (b:Aside0 q) (h:q→p:=by intro z;(with_reducible repeat(first|apply Kd.R_alloc|apply Kd.R_drewN|apply Kd.R_drew));exact z):p:=h b.out
set_option maxHeartbeats 8000000 in
set_option maxRecDepth 100000 in
theorem spec_l12Has.calls (k:Nat) (A0:Option Addr) (c0:Nat) (l0:List Int) (a1:Int) (r:List Int) (w:World) (hr0:Kd.C (Kd.int .i64) w A0 l0.length l0) (hc0:l0.length≤c0) (h:spec_l12Has.f k l0 a1=some r):
  Calls Try.prog 55 #[.slice A0 l0.length c0,.int .i64 a1] w fun e w'=> ∃ v0_:Value,e= .returned (v0_)∧Kd.R (Kd.int .i64) 3 w' w.heap.size (fun _=>True) v0_ r∧Below w.heap.size w w':=by
 have HR0:=Aside0.mk hr0
 have HC0:=Aside0.mk hc0
 clear hr0 hc0
 have HB:=Aside0.mk (Below.refl w.heap.size w)
 have H:(spec_l12Has.l0 k a1 ([] :List Int) l0 (l0.length:Int) 0)=some r:=h
 clear h
 have H':=Aside0.mk H
 clear H
 go_enter Try.func55,Try.ntmps55
 go_wp2
 go_loopg [5,10] k (fun kq v5 v10 w'=> ∃ (x5_1:List Int) (x10_1:Int),v10= .int .i64 x10_1∧Aside0 (spec_l12Has.l0 kq a1 x5_1 l0 (l0.length:Int) x10_1=some r)∧Aside0 (kq≤k)∧Aside0 (Kd.R (Kd.int .i64) 3 w' w.heap.size (fun _=>True) v5 x5_1)∧Aside0 (Below w.heap.size w w'))
 case atStart=>exact⟨(([] :List Int)),(0),(by first|rfl|(simp;done)|(simp [*];done)),H',⟨Nat.le_refl _⟩,⟨by first|exact Kd.R_nil _ _ _ _ _|exact Kd.N_nil _ _ _ _ _|exact Kd.V_nil _ _ _ _ _|exact Kd.Q_nil _ _ _ _ _|exact Kd.S_nil _ _ _ _ _⟩,⟨by repeat(first|(with_reducible first|exact HB.out|apply below_alloc|apply pw_below_drewN|apply below_drew1)|exact HB.out)⟩⟩
 case round=>
  clear H'
  try clear p2
  obtain⟨x5_1,x10_1,rfl,HA,HK1,HO_5,HB⟩:=hrel
  cases gk with
  |zero=>exact absurd HA.out (by simp [spec_l12Has.l0])
  |succ k1=>
   have H:=HA.out
   clear HA
   simp only [spec_l12Has.l0] at H
   by_cases c3:x10_1< (l0.length:Int)
   ·rw [if_pos c3] at H
    have c3b0:decide (x10_1< (l0.length:Int))=true:=decide_eq_true c3
    clear c3
    by_cases c4: 0≤x10_1
    ·rw [if_pos c4] at H
     have c4b0:decide (0≤x10_1)=true:=decide_eq_true c4
     clear c4
     by_cases c5:x10_1< (l0.length:Int)
     ·rw [if_pos c5] at H
      have c5b0:decide (x10_1< (l0.length:Int))=true:=decide_eq_true c5
      clear c5
      by_cases c6:(rd l0 x10_1)=a1
      ·rw [if_pos c6] at H
       have c6b0:((rd l0 x10_1)==a1)=true:=beq_iff_eq.mpr c6
       have c6b1:((rd l0 x10_1) !=a1)=false:=bne_eq_false_iff_eq.mpr c6
       clear c6
       by_cases c7:x5_1.length< 17592186044416
       ·rw [if_pos c7] at H
        have LMc7:=Aside0.mk c7
        clear c7
        obtain⟨y223,hy223⟩ :∃ y_:List Int,y_= (x5_1++ [x10_1]):=⟨_,rfl⟩
        replace H:(spec_l12Has.l0 k1 a1 y223 l0 (l0.length:Int) (wrap64 (x10_1+1)))=some r:=by first|(rw [hy223];with_reducible exact H)|(have H2_:=(Option.bind_some _ _).symm.trans H;rw [hy223];with_reducible exact H2_)|(have H2_:=(Option.bind_some _ _).symm.trans H;with_reducible exact H2_)|with_reducible exact H|(rw [hy223];exact H)|exact H
        have Ny223:=Aside0.mk hy223
        clear hy223
        have H':=Aside0.mk H
        clear H
        have p222: 0≤ (x10_1:Int):=of_decide_eq_true zq1
        have q222:x10_1< (l0.length:Int):=of_decide_eq_true zq1
        obtain⟨ad222,e222,hx222_0⟩:=Kd.at_int HR0.out x10_1 p222 q222
        cases e222
        replace hx222_0:=(HB.out.cell (World.block_lt_of_cell? w _ hx222_0)).trans hx222_0
        replace p222:=eq_true p222
        replace q222:=eq_true q222
        go_wp2_with (first|((with_reducible refine gate_builtin (b:= .append) (xs:= #[.tmp 18,.tmp 20]) rfl ?_);at_builtin;refine Kd.R_append (Kd.int .i64) (w0:=w) w.heap.size rfl (.tmp 18) (.tmp 20) 22 3 (.int .i64 0) 8 rfl Try.underlying22 info3 rfl (by decide) (by omega) u5 x5_1 x10_1 [.int .i64 x10_1] (fun _=>True) (fun _=>False) rfl rfl ?aP (fun _ hk=>hk.elim) ?aF ?aO ?aB ?aS ?aL ?_;(case aP=>exact rfl);(case aB=>exact(zb0 HB));(case aF=>exact(fun _ _=>trivial));(case aO=>exact(zq4 HO_5));(case aS=>exact(below_size (zb0 HB)));(case aL=>have:=LMc7.out;omega);intro v224 w8 ho hb hg hat;rw [← Ny223.out] at ho;have n0_:=Aside0.mk (hb);have n1_:=Aside0.mk (ho);clear HB;clear HO_5;have HB:=n0_;have HO225:=n1_;clear n0_ n1_;clear ho hb hg hat))
        go_roundg k1
        case measure=>have:=HK1.out;omega
        case rel=>exact⟨(y223),(wrap64 (x10_1+1)),(by first|rfl|(simp;done)|(simp [*];done)),H',⟨by have:=HK1.out;omega⟩,⟨by(with_reducible repeat(first|apply Kd.R_alloc|apply Kd.R_drewN|apply Kd.R_drew));exact HO225.out⟩,⟨by repeat(first|(with_reducible first|exact HB.out|apply below_alloc|apply pw_below_drewN|apply below_drew1)|exact HB.out)⟩⟩
       ·rw [if_neg c7] at H
        exact absurd H (by simp)
      ·rw [if_neg c6] at H
       have c6b0:((rd l0 x10_1)==a1)=false:=beq_eq_false_iff_ne.mpr c6
       have c6b1:((rd l0 x10_1) !=a1)=true:=bne_iff_ne.mpr c6
       have H':=Aside0.mk H
       clear H
       have p222: 0≤ (x10_1:Int):=of_decide_eq_true zq1
       have q222:x10_1< (l0.length:Int):=of_decide_eq_true zq1
       obtain⟨ad222,e222,hx222_0⟩:=Kd.at_int HR0.out x10_1 p222 q222
       cases e222
       replace hx222_0:=(HB.out.cell (World.block_lt_of_cell? w _ hx222_0)).trans hx222_0
       replace p222:=eq_true p222
       replace q222:=eq_true q222
       go_wp2
       go_roundg k1
       case measure=>have:=HK1.out;omega
       case rel=>exact⟨(x5_1),(wrap64 (x10_1+1)),(by first|rfl|(simp;done)|(simp [*];done)),H',⟨by have:=HK1.out;omega⟩,⟨by(with_reducible repeat(first|apply Kd.R_alloc|apply Kd.R_drewN|apply Kd.R_drew));exact HO_5.out⟩,⟨by repeat(first|(with_reducible first|exact HB.out|apply below_alloc|apply pw_below_drewN|apply below_drew1)|exact HB.out)⟩⟩
     ·rw [if_neg c5] at H
      exact absurd H (by simp)
    ·rw [if_neg c4] at H
     exact absurd H (by simp)
   ·rw [if_neg c3] at H
    have c3b0:decide (x10_1< (l0.length:Int))=false:=decide_eq_false c3
    clear c3
    obtain rfl:=Option.some.inj H
    go_wp2
    go_ret
    exact⟨_,by first|rfl|(simp [errW_none,errW_some]<;>rfl)|(simp [*,errW_none,errW_some]<;>rfl),by(with_reducible repeat(first|apply Kd.R_alloc|apply Kd.R_drewN|apply Kd.R_drew));exact HO_5.out,by repeat(first|(with_reducible first|exact HB.out|apply below_alloc|apply pw_below_drewN|apply below_drew1)|exact HB.out)⟩
end Go.Proofs.Ytoipbblhmcpneaa.P

namespace Go.Proofs.Ytoipbblhmcpneaa.P
open Go.RowKit Go.Proofs.YtoipbblhmcpneaaW.PrintWords Go.Proofs.YtoipbblhmcpneaaW.PrintLast Go.Proofs.YtoipbblhmcpneaaW.PrintMore
attribute [local go_sem] max2_int min2_int max_two min_two max_three min_three max_four min_four   -- for this text's walks alone
set_option linter.unusedVariables false
set_option linter.unusedSimpArgs false
def impl_loads.l0:Nat→List Int→List Int→Int→Int→Option (List Int)
 | 0,_,_,_,_=>none
 |k+1,x5,x12,x13,x14=>if x14<x13 then(if 0≤x14 then(if x14< (x12.length:Int) then(if (rd x12 x14)≥0 then(if 0≤ (rd x12 x14) then(if (rd x12 x14)< (x5.length:Int) then(impl_loads.l0 k (x5.set ((rd x12 x14):Int).toNat (wrap64 ((rd x5 (rd x12 x14))+1))) x12 x13 (wrap64 (x14+1))) else(none)) else(none)) else(impl_loads.l0 k x5 x12 x13 (wrap64 (x14+1)))) else(none)) else(none)) else(some x5)
def impl_loads.f (k:Nat) (l0_0:List (List Int)) (l0_1:List (List Int)) (l0_2:List Int) (l1:List Int):Option (List Int):=if 0≤ (l0_1.length:Int) then(if ((l0_1.length:Int):Int).toNat≤35184372088832 then(impl_loads.l0 k (List.replicate ((l0_1.length:Int):Int).toNat 0) l1 (l1.length:Int) 0) else(none)) else(none)
theorem zq3 {q p:Prop} (b:Aside0 q) (h:q→p:=by intro z;(with_reducible repeat(first|refine blk_drewN ?_ _|refine blk_drew ?_ |refine blk_alloc ?_ _));exact z):p:=h b.out
set_option maxHeartbeats 8000000 in
set_option maxRecDepth 100000 in
theorem impl_loads.calls (k:Nat) (A0_0:Option Addr) (c0_0:Nat) (l0_0:List (List Int)) (A0_1:Option Addr) (c0_1:Nat) (l0_1:List (List Int)) (A0_2:Option Addr) (c0_2:Nat) (l0_2:List Int) (A1:Option Addr) (c1:Nat) (l1:List Int) (r:List Int) (w:World) (hr0_0:Kd.C (Kd.slice 3 (Kd.int .i64)) w A0_0 l0_0.length l0_0) (hc0_0:l0_0.length≤c0_0) (hr0_1:Kd.C (Kd.slice 3 (Kd.int .i64)) w A0_1 l0_1.length l0_1) (hc0_1:l0_1.length≤c0_1) (hr0_2:Kd.C (Kd.int .i64) w A0_2 l0_2.length l0_2) (hc0_2:l0_2.length≤c0_2) (hr1:Kd.C (Kd.int .i64) w A1 l1.length l1) (hc1:l1.length≤c1) (h:impl_loads.f k l0_0 l0_1 l0_2 l1=some r):
  Calls Try.prog 56 #[.agg #[.slice A0_0 l0_0.length c0_0,.slice A0_1 l0_1.length c0_1,.slice A0_2 l0_2.length c0_2],.slice A1 l1.length c1] w fun e w'=> ∃ v0_:Value,e= .returned (v0_)∧Kd.R (Kd.int .i64) 3 w' w.heap.size (fun _=>True) v0_ r∧Below w.heap.size w w':=by
 have hu33:=Try.underlying33
 have HR0_0:=Aside0.mk hr0_0
 have HC0_0:=Aside0.mk hc0_0
 clear hr0_0 hc0_0
 have HR0_1:=Aside0.mk hr0_1
 have HC0_1:=Aside0.mk hc0_1
 clear hr0_1 hc0_1
 have HR0_2:=Aside0.mk hr0_2
 have HC0_2:=Aside0.mk hc0_2
 clear hr0_2 hc0_2
 have HR1:=Aside0.mk hr1
 have HC1:=Aside0.mk hc1
 clear hr1 hc1
 have HB:=Aside0.mk (Below.refl w.heap.size w)
 have H:(if 0≤ (l0_1.length:Int) then(if ((l0_1.length:Int):Int).toNat≤35184372088832 then(impl_loads.l0 k (List.replicate ((l0_1.length:Int):Int).toNat 0) l1 (l1.length:Int) 0) else(none)) else(none))=some r:=h
 clear h
 by_cases c3: 0≤ (l0_1.length:Int)
 ·rw [if_pos c3] at H
  have c3b0:=eq_true c3
  have c3b1:decide (0≤ (l0_1.length:Int))=true:=decide_eq_true c3
  clear c3
  by_cases c4:((l0_1.length:Int):Int).toNat≤35184372088832
  ·rw [if_pos c4] at H
   have c4b0:=eq_true c4
   have c4b1:decide (((l0_1.length:Int):Int).toNat≤35184372088832)=true:=decide_eq_true c4
   clear c4
   obtain⟨y234,hy234⟩ :∃ y_:List Int,y_= (List.replicate ((l0_1.length:Int):Int).toNat 0):=⟨_,rfl⟩
   replace H:(impl_loads.l0 k y234 l1 (l1.length:Int) 0)=some r:=by first|(rw [hy234];with_reducible exact H)|(have H2_:=(Option.bind_some _ _).symm.trans H;rw [hy234];with_reducible exact H2_)|(have H2_:=(Option.bind_some _ _).symm.trans H;with_reducible exact H2_)|with_reducible exact H|(rw [hy234];exact H)|exact H
   have Ny234:=Aside0.mk hy234
   clear hy234
   have H':=Aside0.mk H
   clear H
   go_enter Try.func56,Try.ntmps56
   go_wp2_with (first|((with_reducible refine gate_dst (N:=2) rfl ?_);refine box_event ?hg (N:=2) ?hd (cs:= #[.slice A0_0 l0_0.length c0_0,.slice A0_1 l0_1.length c0_1,.slice A0_2 l0_2.length c0_2]) (t:=33) ?hr ?_;(case hd=>rfl);(case hg=>rfl);(case hr=>first|(go_simp;done)|(go_simp;rfl));intro gb233 hg w5 hbox hb;have n0_:=Aside0.mk (below_step (zb0 HB) hb);have n1_:=Aside0.mk (hbox);have n2_:=Aside0.mk ((by rw [hg];exact(below_size (zb0 HB)):w.heap.size≤gb233));have n3_:=Aside0.mk ((by rw [hg];exact(below_size (zb0 HB)):w.heap.size≤gb233));clear HB;have HB:=n0_;have BK233:=n1_;have GW233:=n2_;have GE233:=n3_;clear n0_ n1_ n2_ n3_;clear hb hbox hg;have hcz6_0:w5.cell? ⟨gb233,0,none⟩=some (.slice A0_0 l0_0.length c0_0):=(blk_cell BK233.out 0).trans rfl;have hcz6_1:w5.cell? ⟨gb233,1,none⟩=some (.slice A0_1 l0_1.length c0_1):=(blk_cell BK233.out 1).trans rfl;have hcz6_2:w5.cell? ⟨gb233,2,none⟩=some (.slice A0_2 l0_2.length c0_2):=(blk_cell BK233.out 2).trans rfl;have hfz6_0:=blk_frozen BK233.out 0;have hfz6_1:=blk_frozen BK233.out 1;have hfz6_2:=blk_frozen BK233.out 2)|((with_reducible refine gate_dst (N:=11) rfl ?_);refine Kd.R_make (Kd.int .i64) _ 3 rfl (N:=11) rfl 22 _ _ rfl (l0_1.length:Int) rfl rfl Try.underlying22 (.int .i64 0) 8 info3 rfl (by decide) (by omega) 0 (ok:=fun _=>True) (okp:=fun _=>True) rfl (fun _ hk=>hk) trivial (of_decide_eq_true zq1) (Nat.le_trans (Nat.mul_le_mul_right _ (of_decide_eq_true zq1:(l0_1.length:Int).toNat≤35184372088832)) (by omega)) (Below.refl _ _) (Nat.le_refl _) ?_;intro v235 w7 ho8 hb hg_ hnew_;clear hg_ hnew_;(first|rw [← Ny234.out] at ho8|(simp only [Int.reduceToNat] at ho8;rw [← Ny234.out] at ho8));have n0_:=Aside0.mk (Kd.R_lower ho8 (below_size (zb1 HB GE233)));have n1_:=Aside0.mk (blk_below (g:=gb233) (o:= .cells #[.slice A0_0 l0_0.length c0_0,.slice A0_1 l0_1.length c0_1,.slice A0_2 l0_2.length c0_2] 33 (0,0)) (zq3 BK233) hb);have n2_:=Aside0.mk (below_step (zb1 HB GE233) hb);clear BK233;clear HB;have HO236:=n0_;have BK233:=n1_;have HB:=n2_;clear n0_ n1_ n2_;clear hb ho8))
   go_loopg [14] k (fun kq v14 w'=> ∃ (x5_1:List Int) (x14_1:Int),v14= .int .i64 x14_1∧Aside0 (impl_loads.l0 kq x5_1 l1 (l1.length:Int) x14_1=some r)∧Aside0 (kq≤k)∧Aside0 (Kd.R (Kd.int .i64) 3 w' w.heap.size (fun _=>True) v235 x5_1)∧Aside0 (w'.heap[gb233]?=some (.cells #[(.slice A0_0 l0_0.length c0_0),(.slice A0_1 l0_1.length c0_1),(.slice A0_2 l0_2.length c0_2)] 33 (0,0)))∧Aside0 (Below w.heap.size w w'))
   case atStart=>exact⟨(y234),(0),(by first|rfl|(simp;done)|(simp [*];done)),H',⟨Nat.le_refl _⟩,⟨by(with_reducible repeat(first|apply Kd.R_alloc|apply Kd.R_drewN|apply Kd.R_drew));exact HO236.out⟩,⟨by(with_reducible repeat(first|refine blk_drewN ?_ _|refine blk_drew ?_ |refine blk_alloc ?_ _));exact BK233.out⟩,⟨by repeat(first|(with_reducible first|exact HB.out|apply below_alloc|apply pw_below_drewN|apply below_drew1|refine below_set ?_ GE233.out)|exact HB.out)⟩⟩
   case round=>
    clear H'
    try clear c1
    try clear p2
    try clear c3
    try clear c3b0
    try clear c3b1
    try clear c4
    try clear c4b0
    try clear c4b1
    try clear c5
    try clear hcz6_0
    try clear hcz6_1
    try clear hcz6_2
    try clear hfz6_0
    try clear hfz6_1
    try clear hfz6_2
    obtain⟨x5_1,x14_1,rfl,HA,HK1,HO_5,BK233,HB⟩:=hrel
    cases gk with
    |zero=>exact absurd HA.out (by simp [impl_loads.l0])
    |succ k1=>
     have H:=HA.out
     clear HA
     simp only [impl_loads.l0] at H
     by_cases c9:x14_1< (l1.length:Int)
     ·rw [if_pos c9] at H
      have c9b0:decide (x14_1< (l1.length:Int))=true:=decide_eq_true c9
      clear c9
      by_cases c10: 0≤x14_1
      ·rw [if_pos c10] at H
       have c10b0:decide (0≤x14_1)=true:=decide_eq_true c10
       clear c10
       by_cases c11:x14_1< (l1.length:Int)
       ·rw [if_pos c11] at H
        have c11b0:decide (x14_1< (l1.length:Int))=true:=decide_eq_true c11
        clear c11
        by_cases c12:(rd l1 x14_1)≥0
        ·rw [if_pos c12] at H
         have c12b0:decide (0≤ (rd l1 x14_1))=true:=decide_eq_true c12
         clear c12
         by_cases c13: 0≤ (rd l1 x14_1)
         ·rw [if_pos c13] at H
          have c13b0:decide (0≤ (rd l1 x14_1))=true:=decide_eq_true c13
          clear c13
          by_cases c14:(rd l1 x14_1)< (x5_1.length:Int)
          ·rw [if_pos c14] at H
           have c14b0:decide ((rd l1 x14_1)< (x5_1.length:Int))=true:=decide_eq_true c14
           clear c14
           obtain⟨y239,hy239⟩ :∃ y_:List Int,y_= (x5_1.set ((rd l1 x14_1):Int).toNat (wrap64 ((rd x5_1 (rd l1 x14_1))+1))):=⟨_,rfl⟩
           replace H:(impl_loads.l0 k1 y239 l1 (l1.length:Int) (wrap64 (x14_1+1)))=some r:=by first|(rw [hy239];with_reducible exact H)|(have H2_:=(Option.bind_some _ _).symm.trans H;rw [hy239];with_reducible exact H2_)|(have H2_:=(Option.bind_some _ _).symm.trans H;with_reducible exact H2_)|with_reducible exact H|(rw [hy239];exact H)|exact H
           have Ny239:=Aside0.mk hy239
           clear hy239
           have H':=Aside0.mk H
           clear H
           have p237: 0≤ (x14_1:Int):=of_decide_eq_true zq1
           have q237:x14_1< (l1.length:Int):=of_decide_eq_true zq1
           obtain⟨ad237,e237,hx237_0⟩:=Kd.at_int HR1.out x14_1 p237 q237
           cases e237
           replace hx237_0:=(HB.out.cell (World.block_lt_of_cell? w _ hx237_0)).trans hx237_0
           replace p237:=eq_true p237
           replace q237:=eq_true q237
           obtain⟨Ao16,co16,eo16⟩:=Kd.R_slice HO_5.out
           subst eo16
           have p238: 0≤ ((rd l1 x14_1):Int):=of_decide_eq_true zq1
           have q238:(rd l1 x14_1)< (x5_1.length:Int):=of_decide_eq_true zq1
           obtain⟨ad238,e238,hx238_0⟩:=Kd.at_int (Kd.R_reads' HO_5.out).2.2 (rd l1 x14_1) p238 q238
           cases e238
           replace p238:=eq_true p238
           replace q238:=eq_true q238
           have p15: 0≤ ((rd l1 x14_1):Int):=of_decide_eq_true zq1
           have q15:((rd l1 x14_1):Int)< ((x5_1.length:Int):Int):=of_decide_eq_true zq1
           obtain⟨go15,co15,eo15,gb15,gl15,cl15,HG15⟩:=Kd.R_form HO_5.out (by omega)
           (first|cases eo15|(injection eo15 with ea_ en_ ec_;(first|subst ea_|(injection ea_ with ea_;subst ea_));subst ec_;clear en_))
           have GB15:=Aside0.mk gb15
           have GG15:=Aside0.mk HG15
           clear gb15 gl15 HG15
           (first|simp only [add_plain] at hx238_0|skip)
           obtain⟨hx15_0,hf15_0⟩:=Kd.R_celln 0 HO_5.out ((rd l1 x14_1):Int) p15 q15
           replace p15:=eq_true p15
           replace q15:=eq_true q15
           have HP17:=Kd.R_putg HO_5.out ((rd l1 x14_1):Int) (wrap64 ((rd x5_1 (rd l1 x14_1))+1))
           go_wp2_with (first|((with_reducible refine gate_store (t:=3) (p:=25) rfl ?_);refine store_event (t:=3) (p:=25) (v:=?vo_w18) (w1:=(wr.setCell ⟨go15,((rd l1 x14_1):Int).toNat,none⟩ (.int .i64 (wrap64 ((rd x5_1 (rd l1 x14_1))+1))))) ?hg ?ho ?hn ?hr ?_;(case ho=>rfl);(case hg=>rfl);(case hn=>rfl);(case hr=>first|(go_simp;done)|(go_simp;rfl));intro w18 hw;have hg:wr.grownBy w18 (some go15):=(by rw [hw];exact HP17.2);have hp_:Kd.R (Kd.int .i64) 3 w18 w.heap.size (fun _=>True) (.slice (some ⟨go15,0,none⟩) x5_1.length co16) y239:=(by rw [hw,Ny239.out];exact HP17.1);clear HP17;have n0_:=Aside0.mk (hp_);have n1_:=Aside0.mk (blk_grown (g:=gb233) (o:= .cells #[.slice A0_0 l0_0.length c0_0,.slice A0_1 l0_1.length c0_1,.slice A0_2 l0_2.length c0_2] 33 (0,0)) (zq3 BK233) hg (Kd.R_ne HO_5.out BK233.out (by decide)));have n2_:=Aside0.mk ((by rw [hw];exact below_set (HB.out) GB15.out:Below w.heap.size w w18));clear HO_5;clear BK233;clear HB;have HO_5:=n0_;have BK233:=n1_;have HB:=n2_;clear n0_ n1_ n2_;clear hg hw hp_))
           go_roundg k1
           case measure=>have:=HK1.out;omega
           case rel=>exact⟨(y239),(wrap64 (x14_1+1)),(by first|rfl|(simp;done)|(simp [*];done)),H',⟨by have:=HK1.out;omega⟩,⟨by(with_reducible repeat(first|apply Kd.R_alloc|apply Kd.R_drewN|apply Kd.R_drew));exact HO_5.out⟩,⟨by(with_reducible repeat(first|refine blk_drewN ?_ _|refine blk_drew ?_ |refine blk_alloc ?_ _));exact BK233.out⟩,⟨by repeat(first|(with_reducible first|exact HB.out|apply below_alloc|apply pw_below_drewN|apply below_drew1|refine below_set ?_ GE233.out)|exact HB.out)⟩⟩
          ·rw [if_neg c14] at H
           exact absurd H (by simp)
         ·rw [if_neg c13] at H
          exact absurd H (by simp)
        ·rw [if_neg c12] at H
         have c12b0:decide (0≤ (rd l1 x14_1))=false:=decide_eq_false c12
         clear c12
         have H':=Aside0.mk H
         clear H
         have p237: 0≤ (x14_1:Int):=of_decide_eq_true zq1
         have q237:x14_1< (l1.length:Int):=of_decide_eq_true zq1
         obtain⟨ad237,e237,hx237_0⟩:=Kd.at_int HR1.out x14_1 p237 q237
         cases e237
         replace hx237_0:=(HB.out.cell (World.block_lt_of_cell? w _ hx237_0)).trans hx237_0
         replace p237:=eq_true p237
         replace q237:=eq_true q237
         go_wp2
         go_roundg k1
         case measure=>have:=HK1.out;omega
         case rel=>exact⟨(x5_1),(wrap64 (x14_1+1)),(by first|rfl|(simp;done)|(simp [*];done)),H',⟨by have:=HK1.out;omega⟩,⟨by(with_reducible repeat(first|apply Kd.R_alloc|apply Kd.R_drewN|apply Kd.R_drew));exact HO_5.out⟩,⟨by(with_reducible repeat(first|refine blk_drewN ?_ _|refine blk_drew ?_ |refine blk_alloc ?_ _));exact BK233.out⟩,⟨by repeat(first|(with_reducible first|exact HB.out|apply below_alloc|apply pw_below_drewN|apply below_drew1|refine below_set ?_ GE233.out)|exact HB.out)⟩⟩
       ·rw [if_neg c11] at H
        exact absurd H (by simp)
      ·rw [if_neg c10] at H
       exact absurd H (by simp)
     ·rw [if_neg c9] at H
      have c9b0:decide (x14_1< (l1.length:Int))=false:=decide_eq_false c9
      clear c9
      obtain rfl:=Option.some.inj H
      go_wp2
      go_ret
      exact⟨_,by first|rfl|(simp [errW_none,errW_some]<;>rfl)|(simp [*,errW_none,errW_some]<;>rfl),by(with_reducible repeat(first|apply Kd.R_alloc|apply Kd.R_drewN|apply Kd.R_drew));exact HO_5.out,by repeat(first|(with_reducible first|exact HB.out|apply below_alloc|apply pw_below_drewN|apply below_drew1|refine below_set ?_ GE233.out)|exact HB.out)⟩
  ·rw [if_neg c4] at H
   exact absurd H (by simp)
 ·rw [if_neg c3] at H
  exact absurd H (by simp)
end Go.Proofs.Ytoipbblhmcpneaa.P

namespace Go.Proofs.Ytoipbblhmcpneaa.P
open Go.RowKit Go.Proofs.YtoipbblhmcpneaaW.PrintWords Go.Proofs.YtoipbblhmcpneaaW.PrintLast Go.Proofs.YtoipbblhmcpneaaW.PrintMore
attribute [local go_sem] max2_int min2_int max_two min_two max_three min_three max_four min_four   -- for this text's walks alone
set_option linter.unusedVariables false
set_option linter.unusedSimpArgs false
def laws_toWishes.f (k:Nat) (l0_0:List (List Int)) (l0_1:List (List Int)) (l0_2:List Int):Option ((List (List Int)) × (List (List Int)) × List Int):=(laws_toIntSS.f k l0_0).bind fun t159=>((laws_toIntSS.f k l0_1).bind fun t162=>((laws_toIntS.f k l0_2).bind fun t165=>(some (t159,t162,t165))))
theorem zb2 {q p q0 q1:Prop} (b:Aside0 q) (b0:Aside0 q0) (b1:Aside0 q1) (h:q→q0→q1→p:=by intro z z0 z1;repeat(first|(with_reducible first|exact z|apply below_alloc|apply pw_below_drewN|apply below_drew1|refine below_set ?_ z0|refine below_set ?_ z1)|exact z)):p:=h b.out b0.out b1.out
theorem zb3 {q p q0 q1 q2:Prop} (b:Aside0 q) (b0:Aside0 q0) (b1:Aside0 q1) (b2:Aside0 q2) (h:q→q0→q1→q2→p:=by intro z z0 z1 z2;repeat(first|(with_reducible first|exact z|apply below_alloc|apply pw_below_drewN|apply below_drew1|refine below_set ?_ z0|refine below_set ?_ z1|refine below_set ?_ z2)|exact z)):p:=h b.out b0.out b1.out b2.out
set_option maxHeartbeats 8000000 in
set_option maxRecDepth 100000 in
theorem laws_toWishes.calls (k:Nat) (A0_0:Option Addr) (c0_0:Nat) (l0_0:List (List Int)) (A0_1:Option Addr) (c0_1:Nat) (l0_1:List (List Int)) (A0_2:Option Addr) (c0_2:Nat) (l0_2:List Int) (r1:List (List Int)) (r2:List (List Int)) (r3:List Int) (w:World) (hr0_0:Kd.C (Kd.slice 3 (Kd.int .i64)) w A0_0 l0_0.length l0_0) (hc0_0:l0_0.length≤c0_0) (hr0_1:Kd.C (Kd.slice 3 (Kd.int .i64)) w A0_1 l0_1.length l0_1) (hc0_1:l0_1.length≤c0_1) (hr0_2:Kd.C (Kd.int .i64) w A0_2 l0_2.length l0_2) (hc0_2:l0_2.length≤c0_2) (h:laws_toWishes.f k l0_0 l0_1 l0_2=some (r1,r2,r3)):
  Calls Try.prog 19 #[.agg #[.slice A0_0 l0_0.length c0_0,.slice A0_1 l0_1.length c0_1,.slice A0_2 l0_2.length c0_2]] w fun e w'=> ∃ v0_ v1_ v2_:Value,e= .returned (.agg #[v0_,v1_,v2_])∧Kd.S (Kd.slice 3 (Kd.int .i64)) 22 w' w.heap.size (fun k_=>some k_≠ (v1_:Value).ownBlock∧some k_≠ (v2_:Value).ownBlock) v0_ r1∧Kd.S (Kd.slice 3 (Kd.int .i64)) 22 w' w.heap.size (fun k_=>some k_≠ (v0_:Value).ownBlock∧some k_≠ (v2_:Value).ownBlock) v1_ r2∧Kd.R (Kd.int .i64) 3 w' w.heap.size (fun _=>True) v2_ r3∧Below w.heap.size w w':=by
 have hu30:=Try.underlying30
 have hu33:=Try.underlying33
 have HR0_0:=Aside0.mk hr0_0
 have HC0_0:=Aside0.mk hc0_0
 clear hr0_0 hc0_0
 have HR0_1:=Aside0.mk hr0_1
 have HC0_1:=Aside0.mk hc0_1
 clear hr0_1 hc0_1
 have HR0_2:=Aside0.mk hr0_2
 have HC0_2:=Aside0.mk hc0_2
 clear hr0_2 hc0_2
 have HB:=Aside0.mk (Below.refl w.heap.size w)
 have H:((laws_toIntSS.f k l0_0).bind fun t159=>((laws_toIntSS.f k l0_1).bind fun t162=>((laws_toIntS.f k l0_2).bind fun t165=>(some (t159,t162,t165)))))=some (r1,r2,r3):=h
 clear h
 replace H:=Option.bind_eq_some_iff.mp H
 obtain⟨t159,A20,H⟩:=H
 replace H:((laws_toIntSS.f k l0_1).bind fun t162=>((laws_toIntS.f k l0_2).bind fun t165=>(some (t159,t162,t165))))=some (r1,r2,r3):=H
 have A2:=Aside0.mk A20
 clear A20
 replace H:=Option.bind_eq_some_iff.mp H
 obtain⟨t162,A30,H⟩:=H
 replace H:((laws_toIntS.f k l0_2).bind fun t165=>(some (t159,t162,t165)))=some (r1,r2,r3):=H
 have A3:=Aside0.mk A30
 clear A30
 replace H:=Option.bind_eq_some_iff.mp H
 obtain⟨t165,A40,H⟩:=H
 replace H:(some (t159,t162,t165))=some (r1,r2,r3):=H
 have A4:=Aside0.mk A40
 clear A40
 simp only [Option.some.injEq,Prod.mk.injEq] at H
 obtain⟨rfl,rfl,rfl⟩:=H
 go_enter Try.func19,Try.ntmps19
 go_wp2_with (first|((with_reducible refine gate_dst (N:=1) rfl ?_);refine box_event ?hg (N:=1) ?hd (cs:= #[.slice A0_0 l0_0.length c0_0,.slice A0_1 l0_1.length c0_1,.slice A0_2 l0_2.length c0_2]) (t:=30) ?hr ?_;(case hd=>rfl);(case hg=>rfl);(case hr=>first|(go_simp;done)|(go_simp;rfl));intro gb156 hg w5 hbox hb;have n0_:=Aside0.mk (below_step (zb0 HB) hb);have n1_:=Aside0.mk (hbox);have n2_:=Aside0.mk ((by rw [hg];exact(below_size (zb0 HB)):w.heap.size≤gb156));have n3_:=Aside0.mk ((by rw [hg];exact(below_size (zb0 HB)):w.heap.size≤gb156));clear HB;have HB:=n0_;have BK156:=n1_;have GW156:=n2_;have GE156:=n3_;clear n0_ n1_ n2_ n3_;clear hb hbox hg)|((with_reducible refine gate_dst (N:=2) rfl ?_);refine box_event ?hg (N:=2) ?hd (cs:= #[.slice none 0 0,.slice none 0 0,.slice none 0 0]) (t:=33) ?hr ?_;(case hd=>rfl);(case hg=>rfl);(case hr=>first|(go_simp;done)|(go_simp;rfl));intro gb157 hg w6 hbox hb;have n0_:=Aside0.mk (blk_below (g:=gb156) (o:= .cells #[.slice A0_0 l0_0.length c0_0,.slice A0_1 l0_1.length c0_1,.slice A0_2 l0_2.length c0_2] 30 (0,0)) (zq3 BK156) hb);have n1_:=Aside0.mk (below_step (zb1 HB GE156) hb);have n2_:=Aside0.mk (hbox);have n3_:=Aside0.mk ((by rw [hg];exact(below_size (zb1 HB GE156)):w.heap.size≤gb157));have n4_:=Aside0.mk ((by rw [hg];exact(below_size (zb1 HB GE156)):w.heap.size≤gb157));have n5_:=Aside0.mk ((by rw [hg];exact Nat.ne_of_lt (blk_lt (g:=gb156) (o:= .cells #[.slice A0_0 l0_0.length c0_0,.slice A0_1 l0_1.length c0_1,.slice A0_2 l0_2.length c0_2] 30 (0,0)) (zq3 BK156)):gb156≠gb157));have n6_:=Aside0.mk ((by rw [hg];exact Nat.ne_of_gt (blk_lt (g:=gb156) (o:= .cells #[.slice A0_0 l0_0.length c0_0,.slice A0_1 l0_1.length c0_1,.slice A0_2 l0_2.length c0_2] 30 (0,0)) (zq3 BK156)):gb157≠gb156));clear BK156;clear HB;have BK156:=n0_;have HB:=n1_;have BK157:=n2_;have GW157:=n3_;have GE157:=n4_;have NB156_157:=n5_;have NB157_156:=n6_;clear n0_ n1_ n2_ n3_ n4_ n5_ n6_;clear hb hbox hg)|((with_reducible refine gate_dst (N:=3) rfl ?_);refine box_event ?hg (N:=3) ?hd (cs:= #[.slice none 0 0,.slice none 0 0,.slice none 0 0]) (t:=33) ?hr ?_;(case hd=>rfl);(case hg=>rfl);(case hr=>first|(go_simp;done)|(go_simp;rfl));intro gb158 hg w7 hbox hb;have n0_:=Aside0.mk (blk_below (g:=gb156) (o:= .cells #[.slice A0_0 l0_0.length c0_0,.slice A0_1 l0_1.length c0_1,.slice A0_2 l0_2.length c0_2] 30 (0,0)) (zq3 BK156) hb);have n1_:=Aside0.mk (blk_below (g:=gb157) (o:= .cells #[.slice none 0 0,.slice none 0 0,.slice none 0 0] 33 (0,0)) (zq3 BK157) hb);have n2_:=Aside0.mk (below_step (zb2 HB GE156 GE157) hb);have n3_:=Aside0.mk (hbox);have n4_:=Aside0.mk ((by rw [hg];exact(below_size (zb2 HB GE156 GE157)):w.heap.size≤gb158));have n5_:=Aside0.mk ((by rw [hg];exact(below_size (zb2 HB GE156 GE157)):w.heap.size≤gb158));have n6_:=Aside0.mk ((by rw [hg];exact Nat.ne_of_lt (blk_lt (g:=gb156) (o:= .cells #[.slice A0_0 l0_0.length c0_0,.slice A0_1 l0_1.length c0_1,.slice A0_2 l0_2.length c0_2] 30 (0,0)) (zq3 BK156)):gb156≠gb158));have n7_:=Aside0.mk ((by rw [hg];exact Nat.ne_of_gt (blk_lt (g:=gb156) (o:= .cells #[.slice A0_0 l0_0.length c0_0,.slice A0_1 l0_1.length c0_1,.slice A0_2 l0_2.length c0_2] 30 (0,0)) (zq3 BK156)):gb158≠gb156));have n8_:=Aside0.mk ((by rw [hg];exact Nat.ne_of_lt (blk_lt (g:=gb157) (o:= .cells #[.slice none 0 0,.slice none 0 0,.slice none 0 0] 33 (0,0)) (zq3 BK157)):gb157≠gb158));have n9_:=Aside0.mk ((by rw [hg];exact Nat.ne_of_gt (blk_lt (g:=gb157) (o:= .cells #[.slice none 0 0,.slice none 0 0,.slice none 0 0] 33 (0,0)) (zq3 BK157)):gb158≠gb157));clear BK156;clear BK157;clear HB;have BK156:=n0_;have BK157:=n1_;have HB:=n2_;have BK158:=n3_;have GW158:=n4_;have GE158:=n5_;have NB156_158:=n6_;have NB158_156:=n7_;have NB157_158:=n8_;have NB158_157:=n9_;clear n0_ n1_ n2_ n3_ n4_ n5_ n6_ n7_ n8_ n9_;clear hb hbox hg;have hnb8:=NB156_157.out;have hnc8:=NB157_156.out;have hnb9:=NB156_158.out;have hnc9:=NB158_156.out;have hcz10_0:w7.cell? ⟨gb156,0,none⟩=some (.slice A0_0 l0_0.length c0_0):=(blk_cell BK156.out 0).trans rfl;have hcz10_1:w7.cell? ⟨gb156,1,none⟩=some (.slice A0_1 l0_1.length c0_1):=(blk_cell BK156.out 1).trans rfl;have hcz10_2:w7.cell? ⟨gb156,2,none⟩=some (.slice A0_2 l0_2.length c0_2):=(blk_cell BK156.out 2).trans rfl;have hfz10_0:=blk_frozen BK156.out 0;have hfz10_1:=blk_frozen BK156.out 1;have hfz10_2:=blk_frozen BK156.out 2)|((with_reducible refine gate_callee (f:=51) rfl ?_);refine goesL_ (some 6) rfl rfl Try.func51 (by kernel_rfl) rfl #[.slice A0_0 l0_0.length c0_0] rfl zq2 ?_;(with_reducible refine(laws_toIntSS.calls k _ _ l0_0 t159 _ ?side1 ?side2 A2.out).mono ?_);(case side1=>repeat(first|exact(Kd.C_below HR0_0.out HB.out)|(with_reducible refine Kd.C_alloc ?_ _)|(with_reducible refine Kd.C_drewN ?_ _)|(with_reducible refine Kd.C_drew ?_)));(case side2=>exact HC0_0.out);rintro e w11 ⟨v160,rfl,ho0,hb⟩;refine⟨_,rfl,?_⟩;have n0_:=Aside0.mk (Kd.S_lower ho0 (below_size (zb3 HB GE156 GE157 GE158)));have n1_:=Aside0.mk (blk_below (g:=gb156) (o:= .cells #[.slice A0_0 l0_0.length c0_0,.slice A0_1 l0_1.length c0_1,.slice A0_2 l0_2.length c0_2] 30 (0,0)) (zq3 BK156) hb);have n2_:=Aside0.mk (blk_below (g:=gb157) (o:= .cells #[.slice none 0 0,.slice none 0 0,.slice none 0 0] 33 (0,0)) (zq3 BK157) hb);have n3_:=Aside0.mk (blk_below (g:=gb158) (o:= .cells #[.slice none 0 0,.slice none 0 0,.slice none 0 0] 33 (0,0)) (zq3 BK158) hb);have n4_:=Aside0.mk (below_step (zb3 HB GE156 GE157 GE158) hb);clear BK156;clear BK157;clear BK158;clear HB;have HO161:=n0_;have BK156:=n1_;have BK157:=n2_;have BK158:=n3_;have HB:=n4_;clear n0_ n1_ n2_ n3_ n4_;(try clear hb);(try clear hb2);(try clear hk);(try clear hi);(try clear ho0);obtain⟨Ao12,co12,eo12⟩:=Kd.S_slice HO161.out;subst eo12;have hnb13:=NB158_157.out;have hnc13:=NB157_158.out;have hcz14_0:w11.cell? ⟨gb158,0,none⟩=some (.slice none 0 0):=(blk_cell BK158.out 0).trans rfl;have hcz14_1:w11.cell? ⟨gb158,1,none⟩=some (.slice none 0 0):=(blk_cell BK158.out 1).trans rfl;have hcz14_2:w11.cell? ⟨gb158,2,none⟩=some (.slice none 0 0):=(blk_cell BK158.out 2).trans rfl;have hfz14_0:=blk_frozen BK158.out 0;have hfz14_1:=blk_frozen BK158.out 1;have hfz14_2:=blk_frozen BK158.out 2;have hcz15_0:w11.cell? ⟨gb156,0,none⟩=some (.slice A0_0 l0_0.length c0_0):=(blk_cell BK156.out 0).trans rfl;have hcz15_1:w11.cell? ⟨gb156,1,none⟩=some (.slice A0_1 l0_1.length c0_1):=(blk_cell BK156.out 1).trans rfl;have hcz15_2:w11.cell? ⟨gb156,2,none⟩=some (.slice A0_2 l0_2.length c0_2):=(blk_cell BK156.out 2).trans rfl;have hfz15_0:=blk_frozen BK156.out 0;have hfz15_1:=blk_frozen BK156.out 1;have hfz15_2:=blk_frozen BK156.out 2)|((with_reducible refine gate_callee (f:=51) rfl ?_);refine goesL_ (some 10) rfl rfl Try.func51 (by kernel_rfl) rfl #[.slice A0_1 l0_1.length c0_1] rfl zq2 ?_;(with_reducible refine(laws_toIntSS.calls k _ _ l0_1 t162 _ ?side1 ?side2 A3.out).mono ?_);(case side1=>exact Kd.C_below HR0_1.out (zb3 HB GE156 GE157 GE158));(case side2=>exact HC0_1.out);rintro e w16 ⟨v163,rfl,ho0,hb⟩;refine⟨_,rfl,?_⟩;have n0_:=Aside0.mk (Kd.S_elder' (by(with_reducible repeat(first|apply Kd.S_alloc|apply Kd.S_drewN|apply Kd.S_drew));exact(Kd.S_mono (Kd.S_far (p:=⟨gb158,0,none⟩) (Kd.S_types HO161.out BK158.out (by decide)) (fun _ hk=>hk.2) (.slice Ao12 t159.length co12)) (fun _ h_=>h_.1))) (Kd.S_base ho0) hb);have n1_:=Aside0.mk (Kd.S_lower (Kd.S_new' ho0 (Kd.S_lt (by(with_reducible repeat(first|apply Kd.S_alloc|apply Kd.S_drewN|apply Kd.S_drew));exact(Kd.S_mono (Kd.S_far (p:=⟨gb158,0,none⟩) (Kd.S_types HO161.out BK158.out (by decide)) (fun _ hk=>hk.2) (.slice Ao12 t159.length co12)) (fun _ h_=>h_.1))))) (below_size (zb3 HB GE156 GE157 GE158)));have n2_:=Aside0.mk (blk_below (g:=gb156) (o:= .cells #[.slice A0_0 l0_0.length c0_0,.slice A0_1 l0_1.length c0_1,.slice A0_2 l0_2.length c0_2] 30 (0,0)) (by(with_reducible repeat(first|refine blk_drewN ?_ _|refine blk_drew ?_ |refine blk_alloc ?_ _));refine blk_far ?_ NB156_158.out _;(with_reducible repeat(first|refine blk_drewN ?_ _|refine blk_drew ?_ |refine blk_alloc ?_ _));exact BK156.out) hb);have n3_:=Aside0.mk (blk_below (g:=gb157) (o:= .cells #[.slice none 0 0,.slice none 0 0,.slice none 0 0] 33 (0,0)) (by(with_reducible repeat(first|refine blk_drewN ?_ _|refine blk_drew ?_ |refine blk_alloc ?_ _));refine blk_far ?_ NB157_158.out _;(with_reducible repeat(first|refine blk_drewN ?_ _|refine blk_drew ?_ |refine blk_alloc ?_ _));exact BK157.out) hb);have n4_:=Aside0.mk (blk_below (g:=gb158) (o:= .cells #[.slice Ao12 t159.length co12,.slice none 0 0,.slice none 0 0] 33 (0,0)) (by(with_reducible repeat(first|refine blk_drewN ?_ _|refine blk_drew ?_ |refine blk_alloc ?_ _));refine blk_put (cs:= #[.slice none 0 0,.slice none 0 0,.slice none 0 0]) ?_ 0 _ rfl;(with_reducible repeat(first|refine blk_drewN ?_ _|refine blk_drew ?_ |refine blk_alloc ?_ _));exact BK158.out) hb);have n5_:=Aside0.mk (below_step (zb3 HB GE156 GE157 GE158) hb);clear HO161;clear BK156;clear BK157;clear BK158;clear HB;have HO161:=n0_;have HO164:=n1_;have BK156:=n2_;have BK157:=n3_;have BK158:=n4_;have HB:=n5_;clear n0_ n1_ n2_ n3_ n4_ n5_;(try clear hb);(try clear hb2);(try clear hk);(try clear hi);(try clear ho0);obtain⟨Ao17,co17,eo17⟩:=Kd.S_slice HO164.out;subst eo17;have hcz18_0:w16.cell? ⟨gb158,0,none⟩=some (.slice Ao12 t159.length co12):=(blk_cell BK158.out 0).trans rfl;have hcz18_1:w16.cell? ⟨gb158,1,none⟩=some (.slice none 0 0):=(blk_cell BK158.out 1).trans rfl;have hcz18_2:w16.cell? ⟨gb158,2,none⟩=some (.slice none 0 0):=(blk_cell BK158.out 2).trans rfl;have hfz18_0:=blk_frozen BK158.out 0;have hfz18_1:=blk_frozen BK158.out 1;have hfz18_2:=blk_frozen BK158.out 2;have hcz19_0:w16.cell? ⟨gb156,0,none⟩=some (.slice A0_0 l0_0.length c0_0):=(blk_cell BK156.out 0).trans rfl;have hcz19_1:w16.cell? ⟨gb156,1,none⟩=some (.slice A0_1 l0_1.length c0_1):=(blk_cell BK156.out 1).trans rfl;have hcz19_2:w16.cell? ⟨gb156,2,none⟩=some (.slice A0_2 l0_2.length c0_2):=(blk_cell BK156.out 2).trans rfl;have hfz19_0:=blk_frozen BK156.out 0;have hfz19_1:=blk_frozen BK156.out 1;have hfz19_2:=blk_frozen BK156.out 2)|((with_reducible refine gate_callee (f:=14) rfl ?_);refine goesL_ (some 14) rfl rfl Try.func14 (by kernel_rfl) rfl #[.slice A0_2 l0_2.length c0_2] rfl zq2 ?_;(with_reducible refine(laws_toIntS.calls k _ _ l0_2 t165 _ ?side1 ?side2 A4.out).mono ?_);(case side1=>exact Kd.C_below HR0_2.out (zb3 HB GE156 GE157 GE158));(case side2=>exact HC0_2.out);rintro e w20 ⟨v166,rfl,ho0,hb⟩;refine⟨_,rfl,?_⟩;have n0_:=Aside0.mk (Kd.S_elder' (by(with_reducible repeat(first|apply Kd.S_alloc|apply Kd.S_drewN|apply Kd.S_drew));exact(Kd.S_mono (Kd.S_far (p:=⟨gb158,1,none⟩) (Kd.S_types HO161.out BK158.out (by decide)) (fun _ hk=>hk.2) (.slice Ao17 t162.length co17)) (fun _ h_=>h_.1))) (Kd.R_base ho0) hb);have n1_:=Aside0.mk (Kd.S_elder' (by(with_reducible repeat(first|apply Kd.S_alloc|apply Kd.S_drewN|apply Kd.S_drew));exact(Kd.S_mono (Kd.S_far (p:=⟨gb158,1,none⟩) (Kd.S_types HO164.out BK158.out (by decide)) (fun _ hk=>hk.2) (.slice Ao17 t162.length co17)) (fun _ h_=>h_.1))) (Kd.R_base ho0) hb);have n2_:=Aside0.mk (Kd.R_lower ho0 (below_size (zb3 HB GE156 GE157 GE158)));have n3_:=Aside0.mk (blk_below (g:=gb156) (o:= .cells #[.slice A0_0 l0_0.length c0_0,.slice A0_1 l0_1.length c0_1,.slice A0_2 l0_2.length c0_2] 30 (0,0)) (by(with_reducible repeat(first|refine blk_drewN ?_ _|refine blk_drew ?_ |refine blk_alloc ?_ _));refine blk_far ?_ NB156_158.out _;(with_reducible repeat(first|refine blk_drewN ?_ _|refine blk_drew ?_ |refine blk_alloc ?_ _));exact BK156.out) hb);have n4_:=Aside0.mk (blk_below (g:=gb157) (o:= .cells #[.slice none 0 0,.slice none 0 0,.slice none 0 0] 33 (0,0)) (by(with_reducible repeat(first|refine blk_drewN ?_ _|refine blk_drew ?_ |refine blk_alloc ?_ _));refine blk_far ?_ NB157_158.out _;(with_reducible repeat(first|refine blk_drewN ?_ _|refine blk_drew ?_ |refine blk_alloc ?_ _));exact BK157.out) hb);have n5_:=Aside0.mk (blk_below (g:=gb158) (o:= .cells #[.slice Ao12 t159.length co12,.slice Ao17 t162.length co17,.slice none 0 0] 33 (0,0)) (by(with_reducible repeat(first|refine blk_drewN ?_ _|refine blk_drew ?_ |refine blk_alloc ?_ _));refine blk_put (cs:= #[.slice Ao12 t159.length co12,.slice none 0 0,.slice none 0 0]) ?_ 1 _ rfl;(with_reducible repeat(first|refine blk_drewN ?_ _|refine blk_drew ?_ |refine blk_alloc ?_ _));exact BK158.out) hb);have n6_:=Aside0.mk (below_step (zb3 HB GE156 GE157 GE158) hb);clear HO161;clear HO164;clear BK156;clear BK157;clear BK158;clear HB;have HO161:=n0_;have HO164:=n1_;have HO167:=n2_;have BK156:=n3_;have BK157:=n4_;have BK158:=n5_;have HB:=n6_;clear n0_ n1_ n2_ n3_ n4_ n5_ n6_;(try clear hb);(try clear hb2);(try clear hk);(try clear hi);(try clear ho0);obtain⟨Ao21,co21,eo21⟩:=Kd.R_slice HO167.out;subst eo21;have hcz22_0:w20.cell? ⟨gb158,0,none⟩=some (.slice Ao12 t159.length co12):=(blk_cell BK158.out 0).trans rfl;have hcz22_1:w20.cell? ⟨gb158,1,none⟩=some (.slice Ao17 t162.length co17):=(blk_cell BK158.out 1).trans rfl;have hcz22_2:w20.cell? ⟨gb158,2,none⟩=some (.slice none 0 0):=(blk_cell BK158.out 2).trans rfl;have hfz22_0:=blk_frozen BK158.out 0;have hfz22_1:=blk_frozen BK158.out 1;have hfz22_2:=blk_frozen BK158.out 2;have hcz23_0:w20.cell? ⟨gb157,0,none⟩=some (.slice none 0 0):=(blk_cell BK157.out 0).trans rfl;have hcz23_1:w20.cell? ⟨gb157,1,none⟩=some (.slice none 0 0):=(blk_cell BK157.out 1).trans rfl;have hcz23_2:w20.cell? ⟨gb157,2,none⟩=some (.slice none 0 0):=(blk_cell BK157.out 2).trans rfl;have hfz23_0:=blk_frozen BK157.out 0;have hfz23_1:=blk_frozen BK157.out 1;have hfz23_2:=blk_frozen BK157.out 2))
 refine bodyPost_ret (results_cell_row rfl _ _ gb157 33 #[.slice Ao12 t159.length co12,.slice Ao17 t162.length co17,.slice Ao21 t165.length co21] (0,0) _ rfl (by(with_reducible repeat(first|refine blk_drewN ?_ _|refine blk_drew ?_ |refine blk_alloc ?_ _));refine blk_put (cs:= #[.slice Ao12 t159.length co12,.slice Ao17 t162.length co17,.slice none 0 0]) ?_ 2 _ rfl;(with_reducible repeat(first|refine blk_drewN ?_ _|refine blk_drew ?_ |refine blk_alloc ?_ _));refine blk_put (cs:= #[.slice Ao12 t159.length co12,.slice none 0 0,.slice none 0 0]) ?_ 1 _ rfl;(with_reducible repeat(first|refine blk_drewN ?_ _|refine blk_drew ?_ |refine blk_alloc ?_ _));refine blk_put (cs:= #[.slice none 0 0,.slice none 0 0,.slice none 0 0]) ?_ 0 _ rfl;(with_reducible repeat(first|refine blk_drewN ?_ _|refine blk_drew ?_ |refine blk_alloc ?_ _));refine blk_far ?_ NB157_158.out _;(with_reducible repeat(first|refine blk_drewN ?_ _|refine blk_drew ?_ |refine blk_alloc ?_ _));exact BK157.out) Try.underlying33 rfl (by kernel_rfl)) rfl ?_
 exact⟨_,_,_,by first|rfl|(simp [errW_none,errW_some]<;>rfl)|(simp [*,errW_none,errW_some]<;>rfl),by(with_reducible repeat(first|apply Kd.S_alloc|apply Kd.S_drewN|apply Kd.S_drew));exact Kd.S_mono (Kd.S_far (p:=⟨gb157,2,none⟩) (Kd.S_far (p:=⟨gb157,1,none⟩) (Kd.S_far (p:=⟨gb157,0,none⟩) (Kd.S_far (p:=⟨gb158,2,none⟩) (Kd.S_types (Kd.S_types HO161.out BK158.out (by decide)) BK157.out (by decide)) (fun _ hk=>hk.1.2) (.slice Ao21 t165.length co21)) (fun _ hk=>hk.2) (.slice Ao12 t159.length co12)) (fun _ hk=>hk.2) (.slice Ao17 t162.length co17)) (fun _ hk=>hk.2) (.slice Ao21 t165.length co21)) (fun _ hk=>⟨hk.1.1.1.2,hk.1.1.2⟩),by(with_reducible repeat(first|apply Kd.S_alloc|apply Kd.S_drewN|apply Kd.S_drew));exact Kd.S_mono (Kd.S_far (p:=⟨gb157,2,none⟩) (Kd.S_far (p:=⟨gb157,1,none⟩) (Kd.S_far (p:=⟨gb157,0,none⟩) (Kd.S_far (p:=⟨gb158,2,none⟩) (Kd.S_types (Kd.S_types HO164.out BK158.out (by decide)) BK157.out (by decide)) (fun _ hk=>hk.1.2) (.slice Ao21 t165.length co21)) (fun _ hk=>hk.2) (.slice Ao12 t159.length co12)) (fun _ hk=>hk.2) (.slice Ao17 t162.length co17)) (fun _ hk=>hk.2) (.slice Ao21 t165.length co21)) (fun _ hk=>⟨hk.1.1.1.2,hk.1.1.2⟩),by(with_reducible repeat(first|apply Kd.R_alloc|apply Kd.R_drewN|apply Kd.R_drew));exact Kd.R_mono (Kd.R_far (p:=⟨gb157,2,none⟩) (Kd.R_far (p:=⟨gb157,1,none⟩) (Kd.R_far (p:=⟨gb157,0,none⟩) (Kd.R_far (p:=⟨gb158,2,none⟩) (Kd.R_types (Kd.R_types HO167.out BK158.out (by decide)) BK157.out (by decide)) (fun _ hk=>hk.1.2) (.slice Ao21 t165.length co21)) (fun _ hk=>hk.2) (.slice Ao12 t159.length co12)) (fun _ hk=>hk.2) (.slice Ao17 t162.length co17)) (fun _ hk=>hk.2) (.slice Ao21 t165.length co21)) (fun _ hk=>trivial),by repeat(first|(with_reducible first|exact HB.out|apply below_alloc|apply pw_below_drewN|apply below_drew1|refine below_set ?_ GE156.out|refine below_set ?_ GE157.out|refine below_set ?_ GE158.out)|exact HB.out)⟩
def impl_in.f (a0:Int) (a1:Int) (a2:Int):Option (Bool):=if a0≥a1 then(some (decide (a0≤a2))) else(some false)
set_option maxHeartbeats 8000000 in
set_option maxRecDepth 100000 in
theorem impl_in.calls (a0:Int) (a1:Int) (a2:Int) (r:Bool) (w:World) (h:impl_in.f a0 a1 a2=some r):
  Calls Try.prog 70 #[.int .i64 a0,.int .i64 a1,.int .i64 a2] w fun e w'=>e= .returned (.bool r)∧Drawn0 w w':=by
 have H:(if a0≥a1 then(some (decide (a0≤a2))) else(some false))=some r:=h
 clear h
 by_cases c4:a0≥a1
 ·rw [if_pos c4] at H
  have c4b0:decide (a1≤a0)=true:=decide_eq_true c4
  clear c4
  obtain rfl:=Option.some.inj H
  go_enter Try.func70,Try.ntmps70
  go_wp2
  go_ret
  exact⟨by first|rfl|(simp;done)|(simp [*];done),by repeat(first|exact Drawn0.refl _|apply Drawn0.step)⟩
 ·rw [if_neg c4] at H
  have c4b0:decide (a1≤a0)=false:=decide_eq_false c4
  clear c4
  obtain rfl:=Option.some.inj H
  go_enter Try.func70,Try.ntmps70
  go_wp2
  go_ret
  exact⟨by first|rfl|(simp;done)|(simp [*];done),by repeat(first|exact Drawn0.refl _|apply Drawn0.step)⟩
def impl_allIn.l0:Nat→Int→Int→List Int→Int→Int→Option (Bool)
 | 0,_,_,_,_,_=>none
 |k+1,x1,x2,x9,x10,x11=>if x11<x10 then(if 0≤x11 then(if x11< (x9.length:Int) then((impl_in.f (rd x9 x11) x1 x2).bind fun t169=>(if t169=true then(impl_allIn.l0 k x1 x2 x9 x10 (wrap64 (x11+1))) else(some false))) else(none)) else(none)) else(some true)
def impl_allIn.f (k:Nat) (l0:List Int) (a1:Int) (a2:Int):Option (Bool):=impl_allIn.l0 k a1 a2 l0 (l0.length:Int) 0
set_option maxHeartbeats 8000000 in
set_option maxRecDepth 100000 in
theorem impl_allIn.calls (k:Nat) (A0:Option Addr) (c0:Nat) (l0:List Int) (a1:Int) (a2:Int) (r:Bool) (w:World) (hr0:Kd.C (Kd.int .i64) w A0 l0.length l0) (hc0:l0.length≤c0) (h:impl_allIn.f k l0 a1 a2=some r):
  Calls Try.prog 53 #[.slice A0 l0.length c0,.int .i64 a1,.int .i64 a2] w fun e w'=>e= .returned (.bool r)∧Drawn0 w w':=by
 have HR0:=Aside0.mk hr0
 have HC0:=Aside0.mk hc0
 clear hr0 hc0
 have H:(impl_allIn.l0 k a1 a2 l0 (l0.length:Int) 0)=some r:=h
 clear h
 have H':=Aside0.mk H
 clear H
 go_enter Try.func53,Try.ntmps53
 go_wp2
 go_loopg [11] k (fun kq v11 w'=> ∃ (x11_1:Int),v11= .int .i64 x11_1∧Aside0 (impl_allIn.l0 kq a1 a2 l0 (l0.length:Int) x11_1=some r)∧Aside0 (kq≤k)∧Drawn0 w w')
 case atStart=>exact⟨(0),(by first|rfl|(simp;done)|(simp [*];done)),H',⟨Nat.le_refl _⟩,by repeat(first|exact Drawn0.refl _|apply Drawn0.step)⟩
 case round=>
  clear H'
  try clear p2
  obtain⟨x11_1,rfl,HA,HK1,⟨m1,rfl⟩⟩:=hrel
  cases gk with
  |zero=>exact absurd HA.out (by simp [impl_allIn.l0])
  |succ k1=>
   have H:=HA.out
   clear HA
   simp only [impl_allIn.l0] at H
   by_cases c4:x11_1< (l0.length:Int)
   ·rw [if_pos c4] at H
    have c4b0:decide (x11_1< (l0.length:Int))=true:=decide_eq_true c4
    clear c4
    by_cases c5: 0≤x11_1
    ·rw [if_pos c5] at H
     have c5b0:decide (0≤x11_1)=true:=decide_eq_true c5
     clear c5
     by_cases c6:x11_1< (l0.length:Int)
     ·rw [if_pos c6] at H
      have c6b0:decide (x11_1< (l0.length:Int))=true:=decide_eq_true c6
      clear c6
      replace H:=Option.bind_eq_some_iff.mp H
      obtain⟨t169,A70,H⟩:=H
      replace H:(if t169=true then(impl_allIn.l0 k1 a1 a2 l0 (l0.length:Int) (wrap64 (x11_1+1))) else(some false))=some r:=H
      have A7:=Aside0.mk A70
      clear A70
      by_cases c8:t169=true
      ·subst c8
       have H1:(impl_allIn.l0 k1 a1 a2 l0 (l0.length:Int) (wrap64 (x11_1+1)))=some r:=by rw [if_pos rfl] at H;exact H
       clear H
       have H:=H1
       clear H1
       have H':=Aside0.mk H
       clear H
       have p168: 0≤ (x11_1:Int):=of_decide_eq_true zq1
       have q168:x11_1< (l0.length:Int):=of_decide_eq_true zq1
       obtain⟨ad168,e168,hx168_0⟩:=Kd.at_int HR0.out x11_1 p168 q168
       cases e168
       replace p168:=eq_true p168
       replace q168:=eq_true q168
       go_wp2_with (first|((with_reducible refine gate_callee (f:=70) rfl ?_);refine goesL_ (some 18) rfl rfl Try.func70 (by kernel_rfl) rfl #[.int .i64 (rd l0 x11_1),.int .i64 a1,.int .i64 a2] rfl zq2 ?_;(with_reducible refine(impl_in.calls (rd l0 x11_1) a1 a2 true _ A7.out).mono ?_);rintro e w' ⟨rfl,⟨nd,rfl⟩⟩;refine⟨_,rfl,?_⟩))
       go_roundg k1
       case measure=>have:=HK1.out;omega
       case rel=>exact⟨(wrap64 (x11_1+1)),(by first|rfl|(simp;done)|(simp [*];done)),H',⟨by have:=HK1.out;omega⟩,by repeat(first|exact Drawn0.refl _|apply Drawn0.step)⟩
      ·replace c8:=Bool.eq_false_iff.mpr c8
       subst c8
       have H1:(some false)=some r:=by rw [if_neg (show ¬ (false=true) by decide)] at H;exact H
       clear H
       have H:=H1
       clear H1
       obtain rfl:=Option.some.inj H
       have p168: 0≤ (x11_1:Int):=of_decide_eq_true zq1
       have q168:x11_1< (l0.length:Int):=of_decide_eq_true zq1
       obtain⟨ad168,e168,hx168_0⟩:=Kd.at_int HR0.out x11_1 p168 q168
       cases e168
       replace p168:=eq_true p168
       replace q168:=eq_true q168
       go_wp2_with (first|((with_reducible refine gate_callee (f:=70) rfl ?_);refine goesL_ (some 18) rfl rfl Try.func70 (by kernel_rfl) rfl #[.int .i64 (rd l0 x11_1),.int .i64 a1,.int .i64 a2] rfl zq2 ?_;(with_reducible refine(impl_in.calls (rd l0 x11_1) a1 a2 false _ A7.out).mono ?_);rintro e w' ⟨rfl,⟨nd,rfl⟩⟩;refine⟨_,rfl,?_⟩))
       go_ret
       exact⟨by first|rfl|(simp;done)|(simp [*];done),by repeat(first|exact Drawn0.refl _|apply Drawn0.step)⟩
     ·rw [if_neg c6] at H
      exact absurd H (by simp)
    ·rw [if_neg c5] at H
     exact absurd H (by simp)
   ·rw [if_neg c4] at H
    have c4b0:decide (x11_1< (l0.length:Int))=false:=decide_eq_false c4
    clear c4
    obtain rfl:=Option.some.inj H
    go_wp2
    go_ret
    exact⟨by first|rfl|(simp;done)|(simp [*];done),by repeat(first|exact Drawn0.refl _|apply Drawn0.step)⟩
def slices_Contains_int.f (k:Nat) (l0:List Int) (a1:Int):Option (Bool):=(slices_Index_int.f k l0 a1).bind fun t170=>(some (decide (t170≥0)))
set_option maxHeartbeats 8000000 in
set_option maxRecDepth 100000 in
theorem slices_Contains_int.calls (k:Nat) (A0:Option Addr) (c0:Nat) (l0:List Int) (a1:Int) (r:Bool) (w:World) (hr0:Kd.C (Kd.int .i64) w A0 l0.length l0) (hc0:l0.length≤c0) (h:slices_Contains_int.f k l0 a1=some r):
  Calls Try.prog 69 #[.slice A0 l0.length c0,.int .i64 a1] w fun e w'=>e= .returned (.bool r)∧Drawn0 w w':=by
 have HR0:=Aside0.mk hr0
 have HC0:=Aside0.mk hc0
 clear hr0 hc0
 have H:((slices_Index_int.f k l0 a1).bind fun t170=>(some (decide (t170≥0))))=some r:=h
 clear h
 replace H:=Option.bind_eq_some_iff.mp H
 obtain⟨t170,A30,H⟩:=H
 replace H:(some (decide (t170≥0)))=some r:=H
 have A3:=Aside0.mk A30
 clear A30
 obtain rfl:=Option.some.inj H
 go_enter Try.func69,Try.ntmps69
 go_wp2_with (first|((with_reducible refine gate_callee (f:=45) rfl ?_);refine goesL_ (some 7) rfl rfl Try.func45 (by kernel_rfl) rfl #[.slice A0 l0.length c0,.int .i64 a1] rfl zq2 ?_;(with_reducible refine(slices_Index_int.calls k _ _ l0 a1 t170 _ ?side1 ?side2 A3.out).mono ?_);(case side1=>repeat(first|exact HR0.out|(with_reducible refine Kd.C_alloc ?_ _)|(with_reducible refine Kd.C_drewN ?_ _)|(with_reducible refine Kd.C_drew ?_)));(case side2=>exact HC0.out);rintro e w' ⟨rfl,⟨nd,rfl⟩⟩;refine⟨_,rfl,?_⟩))
 go_ret
 exact⟨by first|rfl|(simp;done)|(simp [*];done),by repeat(first|exact Drawn0.refl _|apply Drawn0.step)⟩
end Go.Proofs.Ytoipbblhmcpneaa.P

namespace Go.Proofs.Ytoipbblhmcpneaa.P
open Go.RowKit Go.Proofs.YtoipbblhmcpneaaW.PrintWords Go.Proofs.YtoipbblhmcpneaaW.PrintLast Go.Proofs.YtoipbblhmcpneaaW.PrintMore
attribute [local go_sem] max2_int min2_int max_two min_two max_three min_three max_four min_four   -- for this text's walks alone
set_option linter.unusedVariables false
set_option linter.unusedSimpArgs false
mutual
def impl_orders.l0:Nat→List (List Int)→Int→List (List Int)→Int→Int→Option (Bool)
 | 0,_,_,_,_,_=>none
 |k+1,x0,x1,x9,x10,x11=>if x11<x10 then(if 0≤x11 then(if x11< (x9.length:Int) then(if ((rd_L1 x9 x11).length:Int)=x1 then((impl_allIn.f k (rd_L1 x9 x11) 0 (wrap64 (x1 - 1))).bind fun t173=>(impl_orders.j1 k x0 x1 (rd_L1 x9 x11) x9 x10 x11 (!t173))) else(impl_orders.j1 k x0 x1 (rd_L1 x9 x11) x9 x10 x11 true)) else(none)) else(none)) else((impl_in.f (x0.length:Int) 1 8).bind fun t171=>(some t171))
def impl_orders.j1:Nat→List (List Int)→Int→List Int→List (List Int)→Int→Int→Bool→Option (Bool)
 | 0,_,_,_,_,_,_,_=>none
 |k+1,x0,x1,x6,x9,x10,x11,x25=>if x25=true then(some false) else(impl_orders.l1 k x0 x1 x6 x9 x10 x11 x6 (x6.length:Int) 0)
def impl_orders.l1:Nat→List (List Int)→Int→List Int→List (List Int)→Int→Int→List Int→Int→Int→Option (Bool)
 | 0,_,_,_,_,_,_,_,_,_=>none
 |k+1,x0,x1,x6,x9,x10,x11,x26,x27,x28=>if x28<x27 then(if 0≤x28 then(if x28< (x26.length:Int) then(if x28≤ (x6.length:Int) then((slices_Contains_int.f k (x6.take (x28:Int).toNat) (rd x26 x28)).bind fun t176=>(if t176=true then(some false) else(impl_orders.l1 k x0 x1 x6 x9 x10 x11 x26 x27 (wrap64 (x28+1))))) else(none)) else(none)) else(none)) else(impl_orders.l0 k x0 x1 x9 x10 (wrap64 (x11+1)))
end
def impl_orders.f (k:Nat) (l0:List (List Int)) (a1:Int):Option (Bool):=impl_orders.l0 k l0 a1 l0 (l0.length:Int) 0
set_option maxHeartbeats 8000000 in
set_option maxRecDepth 100000 in
theorem impl_orders.calls (k:Nat) (A0:Option Addr) (c0:Nat) (l0:List (List Int)) (a1:Int) (r:Bool) (w:World) (hr0:Kd.C (Kd.slice 3 (Kd.int .i64)) w A0 l0.length l0) (hc0:l0.length≤c0) (h:impl_orders.f k l0 a1=some r):
  Calls Try.prog 52 #[.slice A0 l0.length c0,.int .i64 a1] w fun e w'=>e= .returned (.bool r)∧Drawn0 w w':=by
 have HR0:=Aside0.mk hr0
 have HC0:=Aside0.mk hc0
 clear hr0 hc0
 have H:(impl_orders.l0 k l0 a1 l0 (l0.length:Int) 0)=some r:=h
 clear h
 have H':=Aside0.mk H
 clear H
 go_enter Try.func52,Try.ntmps52
 go_wp2
 go_loopg [11] k (fun kq v11 w'=> ∃ (x11_1:Int),v11= .int .i64 x11_1∧Aside0 (impl_orders.l0 kq l0 a1 l0 (l0.length:Int) x11_1=some r)∧Aside0 (kq≤k)∧Drawn0 w w')
 case atStart=>exact⟨(0),(by first|rfl|(simp;done)|(simp [*];done)),H',⟨Nat.le_refl _⟩,by repeat(first|exact Drawn0.refl _|apply Drawn0.step)⟩
 case round=>
  clear H'
  try clear p2
  obtain⟨x11_1,rfl,HA,HK1,⟨m1,rfl⟩⟩:=hrel
  cases gk with
  |zero=>exact absurd HA.out (by simp [impl_orders.l0])
  |succ k1=>
   have H:=HA.out
   clear HA
   simp only [impl_orders.l0] at H
   by_cases c3:x11_1< (l0.length:Int)
   ·rw [if_pos c3] at H
    have c3b0:decide (x11_1< (l0.length:Int))=true:=decide_eq_true c3
    clear c3
    by_cases c4: 0≤x11_1
    ·rw [if_pos c4] at H
     have c4b0:decide (0≤x11_1)=true:=decide_eq_true c4
     clear c4
     by_cases c5:x11_1< (l0.length:Int)
     ·rw [if_pos c5] at H
      have c5b0:decide (x11_1< (l0.length:Int))=true:=decide_eq_true c5
      clear c5
      have HC6:=Aside0.mk H
      clear H
      have p172: 0≤ (x11_1:Int):=of_decide_eq_true zq1
      have q172:x11_1< (l0.length:Int):=of_decide_eq_true zq1
      obtain⟨ad172,A172_0,c172_0,e172,hx172_0,hl172_0,hi172_0⟩:=at_L1 HR0.out x11_1 p172 q172
      cases e172
      have HR172_0:=Aside0.mk hi172_0
      have HC172_0:=Aside0.mk hl172_0
      clear hi172_0 hl172_0
      replace p172:=eq_true p172
      replace q172:=eq_true q172
      go_upto_region 4 with (fail)
      go_cut [25] (fun v25 wc=> ∃ (kq:Nat) (x25_5:Bool),v25= .bool x25_5∧Aside0 (impl_orders.j1 kq l0 a1 (rd_L1 l0 x11_1) l0 (l0.length:Int) x11_1 x25_5=some r)∧Aside0 (kq≤k1)∧Drawn0 w wc)
      case first=>
       have H:=HC6.out
       clear HC6
       by_cases c7:((rd_L1 l0 x11_1).length:Int)=a1
       ·rw [if_pos c7] at H
        have c7b0:(((rd_L1 l0 x11_1).length:Int)==a1)=true:=beq_iff_eq.mpr c7
        have c7b1:(((rd_L1 l0 x11_1).length:Int) !=a1)=false:=bne_eq_false_iff_eq.mpr c7
        clear c7
        (first|rw [c7b0]|(simp only [i64_w,i32_w];rw [c7b0])|skip)
        replace H:=Option.bind_eq_some_iff.mp H
        obtain⟨t173,A80,H⟩:=H
        replace H:(impl_orders.j1 k1 l0 a1 (rd_L1 l0 x11_1) l0 (l0.length:Int) x11_1 (!t173))=some r:=H
        have A8:=Aside0.mk A80
        clear A80
        have H':=Aside0.mk H
        clear H
        go_wp2_with (first|(go_at_call 53;(with_reducible refine(impl_allIn.calls k1 _ _ (rd_L1 l0 x11_1) 0 (wrap64 (a1 - 1)) t173 _ ?side1 ?side2 A8.out).mono ?_);(case side1=>repeat(first|exact HR172_0.out|(with_reducible refine Kd.C_alloc ?_ _)|(with_reducible refine Kd.C_drewN ?_ _)|(with_reducible refine Kd.C_drew ?_)));(case side2=>exact HC172_0.out);rintro e w' ⟨rfl,⟨nd,rfl⟩⟩))
        go_meet
        case rel=>exact⟨_,(!t173),(by first|rfl|(simp;done)|(simp [*];done)),H',⟨by have:=HK1.out;first|omega|exact Nat.le_refl _⟩,by repeat(first|exact Drawn0.refl _|apply Drawn0.step)⟩
       ·rw [if_neg c7] at H
        have c7b0:(((rd_L1 l0 x11_1).length:Int)==a1)=false:=beq_eq_false_iff_ne.mpr c7
        have c7b1:(((rd_L1 l0 x11_1).length:Int) !=a1)=true:=bne_iff_ne.mpr c7
        (first|rw [c7b0]|(simp only [i64_w,i32_w];rw [c7b0])|skip)
        have H':=Aside0.mk H
        clear H
        go_wp2
        go_meet
        case rel=>exact⟨_,(true),(by first|rfl|(simp;done)|(simp [*];done)),H',⟨by have:=HK1.out;first|omega|exact Nat.le_refl _⟩,by repeat(first|exact Drawn0.refl _|apply Drawn0.step)⟩
      case rest=>
       clear HC6
       try clear c1
       try clear p1
       try clear q1
       try clear hx1
       try clear p2
       try clear c3
       try clear c3b0
       try clear c4
       try clear c4b0
       try clear c5
       try clear c5b0
       try clear p6
       try clear c7
       try clear c7b0
       try clear c7b1
       try clear hx172_0
       try clear p172
       try clear p2
       try clear q172
       obtain⟨kq,x25_5,rfl,HA,HJ5,⟨mc5,rfl⟩⟩:=hcut
       cases kq with
       |zero=>exact absurd HA.out (by simp [impl_orders.j1])
       |succ kj5=>
        have H:=HA.out
        clear HA
        simp only [impl_orders.j1] at H
        by_cases c9:x25_5=true
        ·subst c9
         have H1:(some false)=some r:=by rw [if_pos rfl] at H;exact H
         clear H
         have H:=H1
         clear H1
         obtain rfl:=Option.some.inj H
         go_wp2
         go_ret
         exact⟨by first|rfl|(simp;done)|(simp [*];done),by repeat(first|exact Drawn0.refl _|apply Drawn0.step)⟩
        ·replace c9:=Bool.eq_false_iff.mpr c9
         subst c9
         have H1:(impl_orders.l1 kj5 l0 a1 (rd_L1 l0 x11_1) l0 (l0.length:Int) x11_1 (rd_L1 l0 x11_1) ((rd_L1 l0 x11_1).length:Int) 0)=some r:=by rw [if_neg (show ¬ (false=true) by decide)] at H;exact H
         clear H
         have H:=H1
         clear H1
         have H':=Aside0.mk H
         clear H
         go_wp2
         go_loopg [28] kj5 (fun kq v28 w'=> ∃ (x28_3:Int),v28= .int .i64 x28_3∧Aside0 (impl_orders.l1 kq l0 a1 (rd_L1 l0 x11_1) l0 (l0.length:Int) x11_1 (rd_L1 l0 x11_1) ((rd_L1 l0 x11_1).length:Int) x28_3=some r)∧Aside0 (kq≤kj5)∧Drawn0 w w')
         case atStart=>exact⟨(0),(by first|rfl|(simp;done)|(simp [*];done)),H',⟨Nat.le_refl _⟩,by repeat(first|exact Drawn0.refl _|apply Drawn0.step)⟩
         case round=>
          clear H'
          try clear c1
          try clear p1
          try clear q1
          try clear hx1
          try clear p2
          try clear c3
          try clear c3b0
          try clear c4
          try clear c4b0
          try clear c5
          try clear c5b0
          try clear p6
          try clear c7
          try clear c7b0
          try clear c7b1
          try clear c9
          try clear hx172_0
          try clear p1
          try clear p172
          try clear p2
          try clear p6
          try clear q1
          try clear q172
          obtain⟨x28_3,rfl,HA,HK3,⟨m3,rfl⟩⟩:=hrel
          cases gk with
          |zero=>exact absurd HA.out (by simp [impl_orders.l1])
          |succ k3=>
           have H:=HA.out
           clear HA
           simp only [impl_orders.l1] at H
           by_cases c10:x28_3< ((rd_L1 l0 x11_1).length:Int)
           ·rw [if_pos c10] at H
            have c10b0:decide (x28_3< ((rd_L1 l0 x11_1).length:Int))=true:=decide_eq_true c10
            clear c10
            by_cases c11: 0≤x28_3
            ·rw [if_pos c11] at H
             have c11b0:decide (0≤x28_3)=true:=decide_eq_true c11
             clear c11
             by_cases c12:x28_3< ((rd_L1 l0 x11_1).length:Int)
             ·rw [if_pos c12] at H
              have c12b0:decide (x28_3< ((rd_L1 l0 x11_1).length:Int))=true:=decide_eq_true c12
              clear c12
              have c13b0:=eq_true (of_decide_eq_true zq1: 0≤x28_3)
              by_cases c14:x28_3≤ ((rd_L1 l0 x11_1).length:Int)
              ·rw [if_pos c14] at H
               have c14b0:=eq_true c14
               have c14b1:decide (x28_3≤ ((rd_L1 l0 x11_1).length:Int))=true:=decide_eq_true c14
               clear c14
               replace H:=Option.bind_eq_some_iff.mp H
               obtain⟨t176,A150,H⟩:=H
               replace H:(if t176=true then(some false) else(impl_orders.l1 k3 l0 a1 (rd_L1 l0 x11_1) l0 (l0.length:Int) x11_1 (rd_L1 l0 x11_1) ((rd_L1 l0 x11_1).length:Int) (wrap64 (x28_3+1))))=some r:=H
               have A15:=Aside0.mk A150
               clear A150
               by_cases c16:t176=true
               ·subst c16
                have H1:(some false)=some r:=by rw [if_pos rfl] at H;exact H
                clear H
                have H:=H1
                clear H1
                obtain rfl:=Option.some.inj H
                have p174: 0≤ (x28_3:Int):=of_decide_eq_true zq1
                have q174:x28_3< ((rd_L1 l0 x11_1).length:Int):=of_decide_eq_true zq1
                obtain⟨ad174,e174,hx174_0⟩:=Kd.at_int HR172_0.out x28_3 p174 q174
                cases e174
                replace p174:=eq_true p174
                replace q174:=eq_true q174
                obtain⟨i017,hi017,_,hsz17,_⟩:=info_parts info3
                obtain⟨hcut17,hA17,hC17⟩:=print_take_of (P:=Try.prog) (Value.int .i64) 0 22 3 .i64 Try.underlying22 hi017 hsz17 (some ad174) c172_0 (rd_L1 l0 x11_1) x28_3 (of_decide_eq_true zq1) (of_decide_eq_true zq1) HC172_0.out
                have HR175:=Aside0.mk (Kd.C_of_reads (h1:=fun _=>rfl) (hA17 _ (Kd.reads_of_C HR172_0.out)))
                have HC175:=Aside0.mk hC17
                clear hA17 hC17 hi017 hsz17
                go_wp2_with (first|((with_reducible refine gate_callee (f:=69) rfl ?_);refine goesL_ (some 37) rfl rfl Try.func69 (by kernel_rfl) rfl #[.slice (some ad174) ((rd_L1 l0 x11_1).take (x28_3:Int).toNat).length c172_0,.int .i64 (rd (rd_L1 l0 x11_1) x28_3)] rfl (by(try simp only [List.map_toArray,List.map_cons,List.map_nil]);first|done|(rw [show ((rd_L1 l0 x11_1).take (x28_3:Int).toNat).length=x28_3.toNat from (by rw [List.length_take];have h_:(x28_3:Int)≤ ((rd_L1 l0 x11_1).length:Int):=of_decide_eq_true zq1;omega)]<;>rfl)|rfl|(simp only [List.length_drop,List.length_take];rfl)) ?_;(with_reducible refine(slices_Contains_int.calls k3 _ _ ((rd_L1 l0 x11_1).take (x28_3:Int).toNat) (rd (rd_L1 l0 x11_1) x28_3) true _ ?side1 ?side2 A15.out).mono ?_);(case side1=>repeat(first|exact HR175.out|(with_reducible refine Kd.C_alloc ?_ _)|(with_reducible refine Kd.C_drewN ?_ _)|(with_reducible refine Kd.C_drew ?_)));(case side2=>exact HC175.out);rintro e w' ⟨rfl,⟨nd,rfl⟩⟩;refine⟨_,rfl,?_⟩))
                go_ret
                exact⟨by first|rfl|(simp;done)|(simp [*];done),by repeat(first|exact Drawn0.refl _|apply Drawn0.step)⟩
               ·replace c16:=Bool.eq_false_iff.mpr c16
                subst c16
                have H1:(impl_orders.l1 k3 l0 a1 (rd_L1 l0 x11_1) l0 (l0.length:Int) x11_1 (rd_L1 l0 x11_1) ((rd_L1 l0 x11_1).length:Int) (wrap64 (x28_3+1)))=some r:=by rw [if_neg (show ¬ (false=true) by decide)] at H;exact H
                clear H
                have H:=H1
                clear H1
                have H':=Aside0.mk H
                clear H
                have p174: 0≤ (x28_3:Int):=of_decide_eq_true zq1
                have q174:x28_3< ((rd_L1 l0 x11_1).length:Int):=of_decide_eq_true zq1
                obtain⟨ad174,e174,hx174_0⟩:=Kd.at_int HR172_0.out x28_3 p174 q174
                cases e174
                replace p174:=eq_true p174
                replace q174:=eq_true q174
                obtain⟨i018,hi018,_,hsz18,_⟩:=info_parts info3
                obtain⟨hcut18,hA18,hC18⟩:=print_take_of (P:=Try.prog) (Value.int .i64) 0 22 3 .i64 Try.underlying22 hi018 hsz18 (some ad174) c172_0 (rd_L1 l0 x11_1) x28_3 (of_decide_eq_true zq1) (of_decide_eq_true zq1) HC172_0.out
                have HR175:=Aside0.mk (Kd.C_of_reads (h1:=fun _=>rfl) (hA18 _ (Kd.reads_of_C HR172_0.out)))
                have HC175:=Aside0.mk hC18
                clear hA18 hC18 hi018 hsz18
                go_wp2_with (first|((with_reducible refine gate_callee (f:=69) rfl ?_);refine goesL_ (some 37) rfl rfl Try.func69 (by kernel_rfl) rfl #[.slice (some ad174) ((rd_L1 l0 x11_1).take (x28_3:Int).toNat).length c172_0,.int .i64 (rd (rd_L1 l0 x11_1) x28_3)] rfl (by(try simp only [List.map_toArray,List.map_cons,List.map_nil]);first|done|(rw [show ((rd_L1 l0 x11_1).take (x28_3:Int).toNat).length=x28_3.toNat from (by rw [List.length_take];have h_:(x28_3:Int)≤ ((rd_L1 l0 x11_1).length:Int):=of_decide_eq_true zq1;omega)]<;>rfl)|rfl|(simp only [List.length_drop,List.length_take];rfl)) ?_;(with_reducible refine(slices_Contains_int.calls k3 _ _ ((rd_L1 l0 x11_1).take (x28_3:Int).toNat) (rd (rd_L1 l0 x11_1) x28_3) false _ ?side1 ?side2 A15.out).mono ?_);(case side1=>repeat(first|exact HR175.out|(with_reducible refine Kd.C_alloc ?_ _)|(with_reducible refine Kd.C_drewN ?_ _)|(with_reducible refine Kd.C_drew ?_)));(case side2=>exact HC175.out);rintro e w' ⟨rfl,⟨nd,rfl⟩⟩;refine⟨_,rfl,?_⟩))
                go_roundg k3
                case measure=>have:=HK1.out;have:=HJ5.out;have:=HK3.out;omega
                case rel=>exact⟨(wrap64 (x28_3+1)),(by first|rfl|(simp;done)|(simp [*];done)),H',⟨by have:=HK1.out;have:=HJ5.out;have:=HK3.out;omega⟩,by repeat(first|exact Drawn0.refl _|apply Drawn0.step)⟩
              ·rw [if_neg c14] at H
               exact absurd H (by simp)
             ·rw [if_neg c12] at H
              exact absurd H (by simp)
            ·rw [if_neg c11] at H
             exact absurd H (by simp)
           ·rw [if_neg c10] at H
            have c10b0:decide (x28_3< ((rd_L1 l0 x11_1).length:Int))=false:=decide_eq_false c10
            clear c10
            have H':=Aside0.mk H
            clear H
            go_wp2
            go_roundg k3
            case measure=>have:=HK1.out;have:=HJ5.out;have:=HK3.out;omega
            case rel=>exact⟨(wrap64 (x11_1+1)),(by first|rfl|(simp;done)|(simp [*];done)),H',⟨by have:=HK1.out;have:=HJ5.out;have:=HK3.out;omega⟩,by repeat(first|exact Drawn0.refl _|apply Drawn0.step)⟩
     ·rw [if_neg c5] at H
      exact absurd H (by simp)
    ·rw [if_neg c4] at H
     exact absurd H (by simp)
   ·rw [if_neg c3] at H
    have c3b0:decide (x11_1< (l0.length:Int))=false:=decide_eq_false c3
    clear c3
    replace H:=Option.bind_eq_some_iff.mp H
    obtain⟨t171,A190,H⟩:=H
    replace H:(some t171)=some r:=H
    have A19:=Aside0.mk A190
    clear A190
    obtain rfl:=Option.some.inj H
    go_wp2_with (first|((with_reducible refine gate_callee (f:=70) rfl ?_);refine goesL_ (some 42) rfl rfl Try.func70 (by kernel_rfl) rfl #[.int .i64 (l0.length:Int),.int .i64 1,.int .i64 8] rfl zq2 ?_;(with_reducible refine(impl_in.calls (l0.length:Int) 1 8 t171 _ A19.out).mono ?_);rintro e w' ⟨rfl,⟨nd,rfl⟩⟩;refine⟨_,rfl,?_⟩))
    go_ret
    exact⟨by first|rfl|(simp;done)|(simp [*];done),by repeat(first|exact Drawn0.refl _|apply Drawn0.step)⟩
def impl_GoodWishes.f (k:Nat) (l0_0:List (List Int)) (l0_1:List (List Int)) (l0_2:List Int):Option (Bool):=(impl_orders.f k l0_0 (l0_1.length:Int)).bind fun t178=>(if t178=true then((impl_orders.f k l0_1 (l0_0.length:Int)).bind fun t179=>(if t179=true then(if (l0_2.length:Int)= (l0_1.length:Int) then((impl_allIn.f k l0_2 0 8).bind fun t180=>(some t180)) else(some false)) else(some false))) else(some false))
set_option maxHeartbeats 8000000 in
set_option maxRecDepth 100000 in
theorem impl_GoodWishes.calls (k:Nat) (A0_0:Option Addr) (c0_0:Nat) (l0_0:List (List Int)) (A0_1:Option Addr) (c0_1:Nat) (l0_1:List (List Int)) (A0_2:Option Addr) (c0_2:Nat) (l0_2:List Int) (r:Bool) (w:World) (hr0_0:Kd.C (Kd.slice 3 (Kd.int .i64)) w A0_0 l0_0.length l0_0) (hc0_0:l0_0.length≤c0_0) (hr0_1:Kd.C (Kd.slice 3 (Kd.int .i64)) w A0_1 l0_1.length l0_1) (hc0_1:l0_1.length≤c0_1) (hr0_2:Kd.C (Kd.int .i64) w A0_2 l0_2.length l0_2) (hc0_2:l0_2.length≤c0_2) (h:impl_GoodWishes.f k l0_0 l0_1 l0_2=some r):
  Calls Try.prog 20 #[.agg #[.slice A0_0 l0_0.length c0_0,.slice A0_1 l0_1.length c0_1,.slice A0_2 l0_2.length c0_2]] w fun e w'=>e= .returned (.bool r)∧Below w.heap.size w w':=by
 have hu33:=Try.underlying33
 have HR0_0:=Aside0.mk hr0_0
 have HC0_0:=Aside0.mk hc0_0
 clear hr0_0 hc0_0
 have HR0_1:=Aside0.mk hr0_1
 have HC0_1:=Aside0.mk hc0_1
 clear hr0_1 hc0_1
 have HR0_2:=Aside0.mk hr0_2
 have HC0_2:=Aside0.mk hc0_2
 clear hr0_2 hc0_2
 have HB:=Aside0.mk (Below.refl w.heap.size w)
 have H:((impl_orders.f k l0_0 (l0_1.length:Int)).bind fun t178=>(if t178=true then((impl_orders.f k l0_1 (l0_0.length:Int)).bind fun t179=>(if t179=true then(if (l0_2.length:Int)= (l0_1.length:Int) then((impl_allIn.f k l0_2 0 8).bind fun t180=>(some t180)) else(some false)) else(some false))) else(some false)))=some r:=h
 clear h
 replace H:=Option.bind_eq_some_iff.mp H
 obtain⟨t178,A20,H⟩:=H
 replace H:(if t178=true then((impl_orders.f k l0_1 (l0_0.length:Int)).bind fun t179=>(if t179=true then(if (l0_2.length:Int)= (l0_1.length:Int) then((impl_allIn.f k l0_2 0 8).bind fun t180=>(some t180)) else(some false)) else(some false))) else(some false))=some r:=H
 have A2:=Aside0.mk A20
 clear A20
 by_cases c3:t178=true
 ·subst c3
  have H1:((impl_orders.f k l0_1 (l0_0.length:Int)).bind fun t179=>(if t179=true then(if (l0_2.length:Int)= (l0_1.length:Int) then((impl_allIn.f k l0_2 0 8).bind fun t180=>(some t180)) else(some false)) else(some false)))=some r:=by rw [if_pos rfl] at H;exact H
  clear H
  have H:=H1
  clear H1
  replace H:=Option.bind_eq_some_iff.mp H
  obtain⟨t179,A40,H⟩:=H
  replace H:(if t179=true then(if (l0_2.length:Int)= (l0_1.length:Int) then((impl_allIn.f k l0_2 0 8).bind fun t180=>(some t180)) else(some false)) else(some false))=some r:=H
  have A4:=Aside0.mk A40
  clear A40
  by_cases c5:t179=true
  ·subst c5
   have H1:(if (l0_2.length:Int)= (l0_1.length:Int) then((impl_allIn.f k l0_2 0 8).bind fun t180=>(some t180)) else(some false))=some r:=by rw [if_pos rfl] at H;exact H
   clear H
   have H:=H1
   clear H1
   by_cases c6:(l0_2.length:Int)= (l0_1.length:Int)
   ·rw [if_pos c6] at H
    have c6b0:((l0_2.length:Int)== (l0_1.length:Int))=true:=beq_iff_eq.mpr c6
    have c6b1:((l0_2.length:Int) != (l0_1.length:Int))=false:=bne_eq_false_iff_eq.mpr c6
    have c6b2:(l0_2.length==l0_1.length)=true:=by first|simpa using c6|(simp at c6 ⊢;omega)
    clear c6
    replace H:=Option.bind_eq_some_iff.mp H
    obtain⟨t180,A70,H⟩:=H
    replace H:(some t180)=some r:=H
    have A7:=Aside0.mk A70
    clear A70
    obtain rfl:=Option.some.inj H
    go_enter Try.func20,Try.ntmps20
    go_wp2_with (first|((with_reducible refine gate_dst (N:=1) rfl ?_);(try(refine gate_guard (by rfl) ?_;dsimp only));refine box_event ?hg (N:=1) ?hd (cs:= #[.slice A0_0 l0_0.length c0_0,.slice A0_1 l0_1.length c0_1,.slice A0_2 l0_2.length c0_2]) (t:=33) ?hr ?_;(case hd=>rfl);(case hg=>rfl);(case hr=>first|(go_simp;done)|(go_simp;rfl));intro gb177 hg w8 hbox hb;have n0_:=Aside0.mk (below_step (zb0 HB) hb);have n1_:=Aside0.mk (hbox);have n2_:=Aside0.mk ((by rw [hg];exact(below_size (zb0 HB)):w.heap.size≤gb177));have n3_:=Aside0.mk ((by rw [hg];exact(below_size (zb0 HB)):w.heap.size≤gb177));clear HB;have HB:=n0_;have BK177:=n1_;have GW177:=n2_;have GE177:=n3_;clear n0_ n1_ n2_ n3_;clear hb hbox hg;have hcz9_0:w8.cell? ⟨gb177,0,none⟩=some (.slice A0_0 l0_0.length c0_0):=(blk_cell BK177.out 0).trans rfl;have hcz9_1:w8.cell? ⟨gb177,1,none⟩=some (.slice A0_1 l0_1.length c0_1):=(blk_cell BK177.out 1).trans rfl;have hcz9_2:w8.cell? ⟨gb177,2,none⟩=some (.slice A0_2 l0_2.length c0_2):=(blk_cell BK177.out 2).trans rfl;have hfz9_0:=blk_frozen BK177.out 0;have hfz9_1:=blk_frozen BK177.out 1;have hfz9_2:=blk_frozen BK177.out 2)|((with_reducible refine gate_callee (f:=52) rfl ?_);refine goesL_ (some 8) rfl rfl Try.func52 (by kernel_rfl) rfl #[.slice A0_0 l0_0.length c0_0,.int .i64 (l0_1.length:Int)] rfl zq2 ?_;(with_reducible refine(impl_orders.calls k _ _ l0_0 (l0_1.length:Int) true _ ?side1 ?side2 A2.out).mono ?_);(case side1=>repeat(first|exact(Kd.C_below HR0_0.out HB.out)|(with_reducible refine Kd.C_alloc ?_ _)|(with_reducible refine Kd.C_drewN ?_ _)|(with_reducible refine Kd.C_drew ?_)));(case side2=>exact HC0_0.out);rintro e w' ⟨rfl,⟨nd,rfl⟩⟩;refine⟨_,rfl,?_⟩)|(go_at_call 52;(with_reducible refine(impl_orders.calls k _ _ l0_1 (l0_0.length:Int) true _ ?side1 ?side2 A4.out).mono ?_);(case side1=>repeat(first|exact(Kd.C_below HR0_1.out (zb1 HB GE177))|(with_reducible refine Kd.C_alloc ?_ _)|(with_reducible refine Kd.C_drewN ?_ _)|(with_reducible refine Kd.C_drew ?_)));(case side2=>exact HC0_1.out);rintro e w' ⟨rfl,⟨nd,rfl⟩⟩)|(go_at_call 53;(with_reducible refine(impl_allIn.calls k _ _ l0_2 0 8 t180 _ ?side1 ?side2 A7.out).mono ?_);(case side1=>repeat(first|exact(Kd.C_below HR0_2.out (zb1 HB GE177))|(with_reducible refine Kd.C_alloc ?_ _)|(with_reducible refine Kd.C_drewN ?_ _)|(with_reducible refine Kd.C_drew ?_)));(case side2=>exact HC0_2.out);rintro e w' ⟨rfl,⟨nd,rfl⟩⟩))
    go_ret
    exact⟨by first|rfl|(simp [errW_none,errW_some]<;>rfl)|(simp [*,errW_none,errW_some]<;>rfl),by repeat(first|(with_reducible first|exact HB.out|apply below_alloc|apply pw_below_drewN|apply below_drew1|refine below_set ?_ GE177.out)|exact HB.out)⟩
   ·rw [if_neg c6] at H
    have c6b0:((l0_2.length:Int)== (l0_1.length:Int))=false:=beq_eq_false_iff_ne.mpr c6
    have c6b1:((l0_2.length:Int) != (l0_1.length:Int))=true:=bne_iff_ne.mpr c6
    have c6b2:(l0_2.length==l0_1.length)=false:=by first|simpa using c6|(simp at c6 ⊢;omega)
    obtain rfl:=Option.some.inj H
    go_enter Try.func20,Try.ntmps20
    go_wp2_with (first|((with_reducible refine gate_dst (N:=1) rfl ?_);(try(refine gate_guard (by rfl) ?_;dsimp only));refine box_event ?hg (N:=1) ?hd (cs:= #[.slice A0_0 l0_0.length c0_0,.slice A0_1 l0_1.length c0_1,.slice A0_2 l0_2.length c0_2]) (t:=33) ?hr ?_;(case hd=>rfl);(case hg=>rfl);(case hr=>first|(go_simp;done)|(go_simp;rfl));intro gb177 hg w10 hbox hb;have n0_:=Aside0.mk (below_step (zb0 HB) hb);have n1_:=Aside0.mk (hbox);have n2_:=Aside0.mk ((by rw [hg];exact(below_size (zb0 HB)):w.heap.size≤gb177));have n3_:=Aside0.mk ((by rw [hg];exact(below_size (zb0 HB)):w.heap.size≤gb177));clear HB;have HB:=n0_;have BK177:=n1_;have GW177:=n2_;have GE177:=n3_;clear n0_ n1_ n2_ n3_;clear hb hbox hg;have hcz11_0:w10.cell? ⟨gb177,0,none⟩=some (.slice A0_0 l0_0.length c0_0):=(blk_cell BK177.out 0).trans rfl;have hcz11_1:w10.cell? ⟨gb177,1,none⟩=some (.slice A0_1 l0_1.length c0_1):=(blk_cell BK177.out 1).trans rfl;have hcz11_2:w10.cell? ⟨gb177,2,none⟩=some (.slice A0_2 l0_2.length c0_2):=(blk_cell BK177.out 2).trans rfl;have hfz11_0:=blk_frozen BK177.out 0;have hfz11_1:=blk_frozen BK177.out 1;have hfz11_2:=blk_frozen BK177.out 2)|((with_reducible refine gate_callee (f:=52) rfl ?_);refine goesL_ (some 8) rfl rfl Try.func52 (by kernel_rfl) rfl #[.slice A0_0 l0_0.length c0_0,.int .i64 (l0_1.length:Int)] rfl zq2 ?_;(with_reducible refine(impl_orders.calls k _ _ l0_0 (l0_1.length:Int) true _ ?side1 ?side2 A2.out).mono ?_);(case side1=>repeat(first|exact(Kd.C_below HR0_0.out HB.out)|(with_reducible refine Kd.C_alloc ?_ _)|(with_reducible refine Kd.C_drewN ?_ _)|(with_reducible refine Kd.C_drew ?_)));(case side2=>exact HC0_0.out);rintro e w' ⟨rfl,⟨nd,rfl⟩⟩;refine⟨_,rfl,?_⟩)|(go_at_call 52;(with_reducible refine(impl_orders.calls k _ _ l0_1 (l0_0.length:Int) true _ ?side1 ?side2 A4.out).mono ?_);(case side1=>repeat(first|exact(Kd.C_below HR0_1.out (zb1 HB GE177))|(with_reducible refine Kd.C_alloc ?_ _)|(with_reducible refine Kd.C_drewN ?_ _)|(with_reducible refine Kd.C_drew ?_)));(case side2=>exact HC0_1.out);rintro e w' ⟨rfl,⟨nd,rfl⟩⟩))
    go_ret
    exact⟨by first|rfl|(simp [errW_none,errW_some]<;>rfl)|(simp [*,errW_none,errW_some]<;>rfl),by repeat(first|(with_reducible first|exact HB.out|apply below_alloc|apply pw_below_drewN|apply below_drew1|refine below_set ?_ GE177.out)|exact HB.out)⟩
  ·replace c5:=Bool.eq_false_iff.mpr c5
   subst c5
   have H1:(some false)=some r:=by rw [if_neg (show ¬ (false=true) by decide)] at H;exact H
   clear H
   have H:=H1
   clear H1
   obtain rfl:=Option.some.inj H
   go_enter Try.func20,Try.ntmps20
   go_wp2_with (first|((with_reducible refine gate_dst (N:=1) rfl ?_);(try(refine gate_guard (by rfl) ?_;dsimp only));refine box_event ?hg (N:=1) ?hd (cs:= #[.slice A0_0 l0_0.length c0_0,.slice A0_1 l0_1.length c0_1,.slice A0_2 l0_2.length c0_2]) (t:=33) ?hr ?_;(case hd=>rfl);(case hg=>rfl);(case hr=>first|(go_simp;done)|(go_simp;rfl));intro gb177 hg w12 hbox hb;have n0_:=Aside0.mk (below_step (zb0 HB) hb);have n1_:=Aside0.mk (hbox);have n2_:=Aside0.mk ((by rw [hg];exact(below_size (zb0 HB)):w.heap.size≤gb177));have n3_:=Aside0.mk ((by rw [hg];exact(below_size (zb0 HB)):w.heap.size≤gb177));clear HB;have HB:=n0_;have BK177:=n1_;have GW177:=n2_;have GE177:=n3_;clear n0_ n1_ n2_ n3_;clear hb hbox hg;have hcz13_0:w12.cell? ⟨gb177,0,none⟩=some (.slice A0_0 l0_0.length c0_0):=(blk_cell BK177.out 0).trans rfl;have hcz13_1:w12.cell? ⟨gb177,1,none⟩=some (.slice A0_1 l0_1.length c0_1):=(blk_cell BK177.out 1).trans rfl;have hcz13_2:w12.cell? ⟨gb177,2,none⟩=some (.slice A0_2 l0_2.length c0_2):=(blk_cell BK177.out 2).trans rfl;have hfz13_0:=blk_frozen BK177.out 0;have hfz13_1:=blk_frozen BK177.out 1;have hfz13_2:=blk_frozen BK177.out 2)|((with_reducible refine gate_callee (f:=52) rfl ?_);refine goesL_ (some 8) rfl rfl Try.func52 (by kernel_rfl) rfl #[.slice A0_0 l0_0.length c0_0,.int .i64 (l0_1.length:Int)] rfl zq2 ?_;(with_reducible refine(impl_orders.calls k _ _ l0_0 (l0_1.length:Int) true _ ?side1 ?side2 A2.out).mono ?_);(case side1=>repeat(first|exact(Kd.C_below HR0_0.out HB.out)|(with_reducible refine Kd.C_alloc ?_ _)|(with_reducible refine Kd.C_drewN ?_ _)|(with_reducible refine Kd.C_drew ?_)));(case side2=>exact HC0_0.out);rintro e w' ⟨rfl,⟨nd,rfl⟩⟩;refine⟨_,rfl,?_⟩)|(go_at_call 52;(with_reducible refine(impl_orders.calls k _ _ l0_1 (l0_0.length:Int) false _ ?side1 ?side2 A4.out).mono ?_);(case side1=>repeat(first|exact(Kd.C_below HR0_1.out (zb1 HB GE177))|(with_reducible refine Kd.C_alloc ?_ _)|(with_reducible refine Kd.C_drewN ?_ _)|(with_reducible refine Kd.C_drew ?_)));(case side2=>exact HC0_1.out);rintro e w' ⟨rfl,⟨nd,rfl⟩⟩))
   go_ret
   exact⟨by first|rfl|(simp [errW_none,errW_some]<;>rfl)|(simp [*,errW_none,errW_some]<;>rfl),by repeat(first|(with_reducible first|exact HB.out|apply below_alloc|apply pw_below_drewN|apply below_drew1|refine below_set ?_ GE177.out)|exact HB.out)⟩
 ·replace c3:=Bool.eq_false_iff.mpr c3
  subst c3
  have H1:(some false)=some r:=by rw [if_neg (show ¬ (false=true) by decide)] at H;exact H
  clear H
  have H:=H1
  clear H1
  obtain rfl:=Option.some.inj H
  go_enter Try.func20,Try.ntmps20
  go_wp2_with (first|((with_reducible refine gate_dst (N:=1) rfl ?_);(try(refine gate_guard (by rfl) ?_;dsimp only));refine box_event ?hg (N:=1) ?hd (cs:= #[.slice A0_0 l0_0.length c0_0,.slice A0_1 l0_1.length c0_1,.slice A0_2 l0_2.length c0_2]) (t:=33) ?hr ?_;(case hd=>rfl);(case hg=>rfl);(case hr=>first|(go_simp;done)|(go_simp;rfl));intro gb177 hg w14 hbox hb;have n0_:=Aside0.mk (below_step (zb0 HB) hb);have n1_:=Aside0.mk (hbox);have n2_:=Aside0.mk ((by rw [hg];exact(below_size (zb0 HB)):w.heap.size≤gb177));have n3_:=Aside0.mk ((by rw [hg];exact(below_size (zb0 HB)):w.heap.size≤gb177));clear HB;have HB:=n0_;have BK177:=n1_;have GW177:=n2_;have GE177:=n3_;clear n0_ n1_ n2_ n3_;clear hb hbox hg;have hcz15_0:w14.cell? ⟨gb177,0,none⟩=some (.slice A0_0 l0_0.length c0_0):=(blk_cell BK177.out 0).trans rfl;have hcz15_1:w14.cell? ⟨gb177,1,none⟩=some (.slice A0_1 l0_1.length c0_1):=(blk_cell BK177.out 1).trans rfl;have hcz15_2:w14.cell? ⟨gb177,2,none⟩=some (.slice A0_2 l0_2.length c0_2):=(blk_cell BK177.out 2).trans rfl;have hfz15_0:=blk_frozen BK177.out 0;have hfz15_1:=blk_frozen BK177.out 1;have hfz15_2:=blk_frozen BK177.out 2)|((with_reducible refine gate_callee (f:=52) rfl ?_);refine goesL_ (some 8) rfl rfl Try.func52 (by kernel_rfl) rfl #[.slice A0_0 l0_0.length c0_0,.int .i64 (l0_1.length:Int)] rfl zq2 ?_;(with_reducible refine(impl_orders.calls k _ _ l0_0 (l0_1.length:Int) false _ ?side1 ?side2 A2.out).mono ?_);(case side1=>repeat(first|exact(Kd.C_below HR0_0.out HB.out)|(with_reducible refine Kd.C_alloc ?_ _)|(with_reducible refine Kd.C_drewN ?_ _)|(with_reducible refine Kd.C_drew ?_)));(case side2=>exact HC0_0.out);rintro e w' ⟨rfl,⟨nd,rfl⟩⟩;refine⟨_,rfl,?_⟩))
  go_ret
  exact⟨by first|rfl|(simp [errW_none,errW_some]<;>rfl)|(simp [*,errW_none,errW_some]<;>rfl),by repeat(first|(with_reducible first|exact HB.out|apply below_alloc|apply pw_below_drewN|apply below_drew1|refine below_set ?_ GE177.out)|exact HB.out)⟩
end Go.Proofs.Ytoipbblhmcpneaa.P

namespace Go.Proofs.Ytoipbblhmcpneaa.P
open Go.RowKit Go.Proofs.YtoipbblhmcpneaaW.PrintWords Go.Proofs.YtoipbblhmcpneaaW.PrintLast Go.Proofs.YtoipbblhmcpneaaW.PrintMore
attribute [local go_sem] max2_int min2_int max_two min_two max_three min_three max_four min_four   -- for this text's walks alone
set_option linter.unusedVariables false
set_option linter.unusedSimpArgs false
def laws_markIntS.l0:Nat→List Int→Int→Int→Option (Int × List Int)
 | 0,_,_,_=>none
 |k+1,x0,x1,x5=>if x5< (x0.length:Int) then(if 0≤x5 then(laws_markIntS.l0 k (x0.set (x5:Int).toNat x1) (wrap64 (x1+1)) (wrap64 (x5+1))) else(none)) else(some (x1,x0))
def laws_markIntS.f (k:Nat) (l0:List Int) (a1:Int):Option (Int × List Int):=laws_markIntS.l0 k l0 a1 0
set_option maxHeartbeats 8000000 in
set_option maxRecDepth 100000 in
theorem laws_markIntS.calls (k:Nat) (P0_:Nat→Prop) (u9000_:Value) (l0:List Int) (a1:Int) (r1:Int) (r2:List Int) (w0 w:World) (hB:Below w0.heap.size w0 w) (ho0:Kd.R (Kd.int .i64) 3 w w0.heap.size P0_ u9000_ l0) (h:laws_markIntS.f k l0 a1=some (r1,r2)):
  Calls Try.prog 27 #[u9000_,.int .i64 a1] w fun e w'=>e= .returned (.int .i64 r1)∧Kd.R (Kd.int .i64) 3 w' w0.heap.size (fun k_=>(P0_ k_∨w.heap.size≤k_)) u9000_ r2∧Below w0.heap.size w0 w'∧Kept w w' (fun k_=>P0_ k_):=by
 have HO0:=Aside0.mk (show Kd.R (Kd.int .i64) 3 w w0.heap.size (fun k_=>(P0_ k_∨w.heap.size≤k_)) u9000_ l0 from Kd.R_mono ho0 (fun k_ hk=>(.inl hk)))
 have HK:=Aside0.mk (Kept.refl w (fun k_=>P0_ k_))
 have HW0:=Aside0.mk hB.size
 have HB:=Aside0.mk hB
 clear hB
 have H:(laws_markIntS.l0 k l0 a1 0)=some (r1,r2):=h
 clear h
 have H':=Aside0.mk H
 clear H
 go_enter Try.func27,Try.ntmps27
 go_wp2
 go_loopg [1,5] k (fun kq v1 v5 w'=> ∃ (x0_1:List Int) (x1_1:Int) (x5_1:Int),v1= .int .i64 x1_1∧v5= .int .i64 x5_1∧Aside0 (laws_markIntS.l0 kq x0_1 x1_1 x5_1=some (r1,r2))∧Aside0 (kq≤k)∧Aside0 (Kd.R (Kd.int .i64) 3 w' w0.heap.size (fun k_=>(P0_ k_∨w.heap.size≤k_)) u9000_ x0_1)∧Aside0 (Kept w w' (fun k_=>P0_ k_))∧Aside0 (Below w0.heap.size w0 w'))
 case atStart=>exact⟨(l0),(a1),(0),(by first|rfl|(simp;done)|(simp [*];done)),(by first|rfl|(simp;done)|(simp [*];done)),H',⟨Nat.le_refl _⟩,⟨by(with_reducible repeat(first|apply Kd.R_alloc|apply Kd.R_drewN|apply Kd.R_drew));exact HO0.out⟩,⟨by repeat(first|(with_reducible first|exact HK.out|apply Kept.alloc|apply Kept.drewN|apply Kept.drew)|exact HK.out)⟩,⟨by repeat(first|(with_reducible first|exact HB.out|apply below_alloc|apply pw_below_drewN|apply below_drew1)|exact HB.out)⟩⟩
 case round=>
  clear H'
  try clear c2
  try clear p2
  obtain⟨x0_1,x1_1,x5_1,rfl,rfl,HA,HK1,HO_0,HK,HB⟩:=hrel
  cases gk with
  |zero=>exact absurd HA.out (by simp [laws_markIntS.l0])
  |succ k1=>
   have H:=HA.out
   clear HA
   simp only [laws_markIntS.l0] at H
   by_cases c3:x5_1< (x0_1.length:Int)
   ·rw [if_pos c3] at H
    have c3b0:decide (x5_1< (x0_1.length:Int))=true:=decide_eq_true c3
    clear c3
    by_cases c4: 0≤x5_1
    ·rw [if_pos c4] at H
     have c4b0:decide (0≤x5_1)=true:=decide_eq_true c4
     clear c4
     obtain⟨y304,hy304⟩ :∃ y_:List Int,y_= (x0_1.set (x5_1:Int).toNat x1_1):=⟨_,rfl⟩
     replace H:(laws_markIntS.l0 k1 y304 (wrap64 (x1_1+1)) (wrap64 (x5_1+1)))=some (r1,r2):=by first|(rw [hy304];with_reducible exact H)|(have H2_:=(Option.bind_some _ _).symm.trans H;rw [hy304];with_reducible exact H2_)|(have H2_:=(Option.bind_some _ _).symm.trans H;with_reducible exact H2_)|with_reducible exact H|(rw [hy304];exact H)|exact H
     have Ny304:=Aside0.mk hy304
     clear hy304
     have H':=Aside0.mk H
     clear H
     obtain⟨Ao6,co6,eo6⟩:=Kd.R_slice HO_0.out
     subst eo6
     have p5: 0≤ (x5_1:Int):=of_decide_eq_true zq1
     have q5:(x5_1:Int)< ((x0_1.length:Int):Int):=of_decide_eq_true zq1
     obtain⟨go5,co5,eo5,gb5,gl5,cl5,HG5⟩:=Kd.R_form HO_0.out (by omega)
     (first|cases eo5|(injection eo5 with ea_ en_ ec_;(first|subst ea_|(injection ea_ with ea_;subst ea_));subst ec_;clear en_))
     have GB5:=Aside0.mk gb5
     have GG5:=Aside0.mk HG5
     clear gb5 gl5 HG5
     have HMgo5:=Aside0.mk (show (P0_ go5∨w.heap.size≤go5) from (HO_0.out.1 _ rfl))
     obtain⟨hx5_0,hf5_0⟩:=Kd.R_celln 0 HO_0.out (x5_1:Int) p5 q5
     replace p5:=eq_true p5
     replace q5:=eq_true q5
     have HP7:=Kd.R_putg HO_0.out (x5_1:Int) x1_1
     go_wp2_with (first|((with_reducible refine gate_store (t:=3) (p:=15) rfl ?_);refine store_event (t:=3) (p:=15) (v:=?vo_w8) (w1:=(wr.setCell ⟨go5,(x5_1:Int).toNat,none⟩ (.int .i64 x1_1))) ?hg ?ho ?hn ?hr ?_;(case ho=>rfl);(case hg=>rfl);(case hn=>rfl);(case hr=>first|(go_simp;done)|(go_simp;rfl));intro w8 hw;have hg:wr.grownBy w8 (some go5):=(by rw [hw];exact HP7.2);have hp_:Kd.R (Kd.int .i64) 3 w8 w0.heap.size (fun k_=>(P0_ k_∨w.heap.size≤k_)) (.slice (some ⟨go5,0,none⟩) x0_1.length co6) y304:=(by rw [hw,Ny304.out];exact HP7.1);clear HP7;have n0_:=Aside0.mk (hp_);have n1_:=Aside0.mk ((by rw [hw];exact below_set (HB.out) GB5.out:Below w0.heap.size w0 w8));have n2_:=Aside0.mk (Kept.of_grown (S:=(fun k_=>P0_ k_)) hg (by repeat(first|(with_reducible first|exact HK.out|apply Kept.alloc|apply Kept.drewN|apply Kept.drew)|exact HK.out)) (fun k_ e_=>(HO_0.out.1 k_ e_)));clear HO_0;clear HB;clear HK;have HO_0:=n0_;have HB:=n1_;have HK:=n2_;clear n0_ n1_ n2_;clear hg hw hp_))
     go_roundg k1
     case measure=>have:=HK1.out;omega
     case rel=>exact⟨(y304),(wrap64 (x1_1+1)),(wrap64 (x5_1+1)),(by first|rfl|(simp;done)|(simp [*];done)),(by first|rfl|(simp;done)|(simp [*];done)),H',⟨by have:=HK1.out;omega⟩,⟨by(with_reducible repeat(first|apply Kd.R_alloc|apply Kd.R_drewN|apply Kd.R_drew));exact HO_0.out⟩,⟨by repeat(first|(with_reducible first|exact HK.out|apply Kept.alloc|apply Kept.drewN|apply Kept.drew)|exact HK.out)⟩,⟨by repeat(first|(with_reducible first|exact HB.out|apply below_alloc|apply pw_below_drewN|apply below_drew1)|exact HB.out)⟩⟩
    ·rw [if_neg c4] at H
     exact absurd H (by simp)
   ·rw [if_neg c3] at H
    have c3b0:decide (x5_1< (x0_1.length:Int))=false:=decide_eq_false c3
    clear c3
    simp only [Option.some.injEq,Prod.mk.injEq] at H
    obtain⟨rfl,rfl⟩:=H
    obtain⟨Ao9,co9,eo9⟩:=Kd.R_slice HO_0.out
    subst eo9
    go_wp2
    go_ret
    exact⟨by first|rfl|(simp [errW_none,errW_some]<;>rfl)|(simp [*,errW_none,errW_some]<;>rfl),by(with_reducible repeat(first|apply Kd.R_alloc|apply Kd.R_drewN|apply Kd.R_drew));exact HO_0.out,by repeat(first|(with_reducible first|exact HB.out|apply below_alloc|apply pw_below_drewN|apply below_drew1)|exact HB.out),by repeat(first|(with_reducible first|exact HK.out|apply Kept.alloc|apply Kept.drewN|apply Kept.drew)|exact HK.out)⟩
def laws_markIntSS.l0:Nat→List (List Int)→Int→Int→Option (Int × List (List Int))
 | 0,_,_,_=>none
 |k+1,x0,x1,x5=>if x5< (x0.length:Int) then(if 0≤x5 then((laws_markIntS.f k (x0.getD x5.toNat []) x1).bind fun bt=>(laws_markIntSS.l0 k (x0.set x5.toNat bt.2) bt.1 (wrap64 (x5+1)))) else(none)) else(some (x1,x0))
def laws_markIntSS.f (k:Nat) (l0:List (List Int)) (a1:Int):Option (Int × List (List Int)):=laws_markIntSS.l0 k l0 a1 0
theorem kept_trans_ {w w1 w2:World} {P Q:Nat→Prop} (h:Kept w w1 P) (k:Kept w1 w2 Q) (hq:∀ i,Q i→P i∨w.heap.size≤i):Kept w w2 P:=
 ⟨Nat.le_trans h.1 k.1,fun i hi hn=>(k.2 i (Nat.lt_of_lt_of_le hi h.1) (fun c=>(hq i c).elim hn (fun d=>absurd d (Nat.not_le_of_lt hi)))).trans (h.2 i hi hn)⟩
set_option maxHeartbeats 8000000 in
set_option maxRecDepth 100000 in
theorem laws_markIntSS.calls (k:Nat) (P0_:Nat→Prop) (u9000_:Value) (l0:List (List Int)) (a1:Int) (r1:Int) (r2:List (List Int)) (w0 w:World) (hB:Below w0.heap.size w0 w) (ho0:Kd.S (Kd.slice 3 (Kd.int .i64)) 22 w w0.heap.size P0_ u9000_ l0) (h:laws_markIntSS.f k l0 a1=some (r1,r2)):
  Calls Try.prog 57 #[u9000_,.int .i64 a1] w fun e w'=>e= .returned (.int .i64 r1)∧Kd.S (Kd.slice 3 (Kd.int .i64)) 22 w' w0.heap.size P0_ u9000_ r2∧Below w0.heap.size w0 w'∧Kept w w' (fun k_=>P0_ k_):=by
 have HO0:=Aside0.mk ho0
 have HK:=Aside0.mk (Kept.refl w (fun k_=>P0_ k_))
 have HB:=Aside0.mk hB
 clear hB
 have H:(laws_markIntSS.l0 k l0 a1 0)=some (r1,r2):=h
 clear h
 have H':=Aside0.mk H
 clear H
 go_enter Try.func57,Try.ntmps57
 go_wp2
 go_loopg [1,5] k (fun kq v1 v5 w'=> ∃ (x0_1:List (List Int)) (x1_1:Int) (x5_1:Int),v1= .int .i64 x1_1∧v5= .int .i64 x5_1∧Aside0 (laws_markIntSS.l0 kq x0_1 x1_1 x5_1=some (r1,r2))∧Aside0 (kq≤k)∧Aside0 (Kd.S (Kd.slice 3 (Kd.int .i64)) 22 w' w0.heap.size P0_ u9000_ x0_1)∧Aside0 (Kept w w' (fun k_=>P0_ k_))∧Aside0 (Below w0.heap.size w0 w'))
 case atStart=>exact⟨(l0),(a1),(0),rfl,rfl,H',⟨Nat.le_refl _⟩,HO0,HK,HB⟩
 case round=>
  clear H'
  obtain⟨x0_1,x1_1,x5_1,rfl,rfl,HA,HK1,HO_0,HK,HB⟩:=hrel
  cases gk with
  |zero=>exact absurd HA.out (by simp [laws_markIntSS.l0])
  |succ k1=>
   have H:=HA.out
   clear HA
   simp only [laws_markIntSS.l0] at H
   by_cases c3:x5_1< (x0_1.length:Int)
   ·rw [if_pos c3] at H
    by_cases c4: 0≤x5_1
    ·rw [if_pos c4] at H
     replace H:=Option.bind_eq_some_iff.mp H
     obtain⟨⟨t1,t2⟩,A20,H⟩:=H
     replace H:laws_markIntSS.l0 k1 (x0_1.set x5_1.toNat t2) t1 (wrap64 (x5_1+1))=some (r1,r2):=H
     have A2:=Aside0.mk A20
     have H':=Aside0.mk H
     clear A20 H
     obtain⟨Ao6,co6,eo6⟩:=Kd.S_slice HO_0.out
     subst eo6
     obtain⟨go5,co5,eo5,gb5,gl5,HX5⟩:=Kd.S_form HO_0.out (by omega)
     clear HX5 gb5 gl5
     (first|cases eo5|(injection eo5 with ea_ en_ ec_;(first|subst ea_|(injection ea_ with ea_;subst ea_));subst ec_;clear en_))
     obtain⟨oki,cc,hcl,hM,hcc,hfr,hoki,hH⟩:=Kd.S_elem HO_0.out [] x5_1 c4 c3
     obtain⟨rv,rfl,hR⟩:=hM
     obtain⟨Ai,ci,ei⟩:=Kd.R_slice hR
     subst ei
     have hx0:=hcc 0 _ rfl
     have hx:wr.cell? ⟨go5,x5_1.toNat,none⟩=some (.slice Ai (x0_1.getD x5_1.toNat []).length ci):=by
      rw [show x5_1.toNat * (Kd.slice 3 (Kd.int .i64)).sz+0=x5_1.toNat from by show x5_1.toNat * 1+0=_;omega] at hx0
      exact hx0
     clear hx0 hcc hfr hcl
     have HR:=Aside0.mk hR
     have HOK:=Aside0.mk hoki
     have HHH:=Aside0.mk hH
     clear hR hoki hH
     generalize hrow:x0_1.getD x5_1.toNat []=row at hx HR A2
     have HROW:=Aside0.mk hrow
     clear hrow
     have c3b0:decide (x5_1< (x0_1.length:Int))=true:=decide_eq_true c3
     have c4b0:decide (0≤x5_1)=true:=decide_eq_true c4
     have C3:=Aside0.mk c3
     have C4:=Aside0.mk c4
     replace c3:=eq_true c3
     replace c4:=eq_true c4
     go_wp2_with (go_at_call 27;(with_reducible refine(laws_markIntS.calls k1 oki _ row x1_1 t1 t2 w0 _ ?sB ?sO A2.out).mono ?_);(case sB=>exact HB.out);(case sO=>exact HR.out);rintro e w8 ⟨rfl,ho_,hb_,hk_⟩;have n0_:=Aside0.mk ho_;have n1_:=Aside0.mk hb_;have n2_:=Aside0.mk hk_;clear ho_ hb_ hk_;have HB2:=n1_;have HK2:=n2_;have HR2:=n0_;clear n0_ n1_ n2_)
     go_roundg k1
     case measure=>have:=HK1.out;omega
     case rel=>
      refine⟨x0_1.set x5_1.toNat t2,t1,wrap64 (x5_1+1),rfl,by first|rfl|(simp;done)|(simp [*];done),H',⟨by have:=HK1.out;omega⟩,⟨?_⟩,⟨kept_trans_ HK.out HK2.out (fun i hi=> .inl (HOK.out i hi).1)⟩,HB2⟩
      have hH2:=Kd.H_step HHH.out (w1:=w8) (fun q _ hn hlt=>HK2.out.2 q hlt hn)
      have hr1:=HR.out
      have hr2:=HR2.out
      rw [← HROW.out] at hr1 hr2
      exact Kd.H_back hH2 (okp:=oki) ⟨_,rfl,Kd.R_mono (Kd.R_tight rfl hr2) (fun q hq=>hr1.1 q hq.symm)⟩ (fun q hq=>hq)
    ·rw [if_neg c4] at H
     exact absurd H (by simp)
   ·rw [if_neg c3] at H
    have c3b0:decide (x5_1< (x0_1.length:Int))=false:=decide_eq_false c3
    clear c3
    simp only [Option.some.injEq,Prod.mk.injEq] at H
    obtain⟨rfl,rfl⟩:=H
    obtain⟨Ao9,co9,eo9⟩:=Kd.S_slice HO_0.out
    subst eo9
    go_wp2
    go_ret
    exact⟨rfl,HO_0.out,HB.out,HK.out⟩
-- NOT PRINTED: function 26 (laws_markWishes)
end Go.Proofs.Ytoipbblhmcpneaa.P

namespace Go.Proofs.Ytoipbblhmcpneaa.P
open Go.RowKit Go.Proofs.YtoipbblhmcpneaaW.PrintWords Go.Proofs.YtoipbblhmcpneaaW.PrintLast
set_option linter.unusedVariables false
set_option linter.unusedSimpArgs false
def laws_markWishes.f (k : Nat) (l0 l1 : List (List Int)) (l2 : List Int) (a1 : Int) : Option (Int × List (List Int) × List (List Int) × List Int) := (laws_markIntSS.f k l0 a1).bind fun b0 => ((laws_markIntSS.f k l1 b0.1).bind fun b1 => ((laws_markIntS.f k l2 b1.1).bind fun b2 => (some (b2.1, b0.2, b1.2, b2.2))))
theorem kept_of_below {w w1 : World} {P : Nat → Prop} {n : Nat} (h : Below n w w1) (hn : w.heap.size ≤ n) : Kept w w1 P := ⟨h.size, fun i hi _ => h.block i (Nat.lt_of_lt_of_le hi hn)⟩
theorem kept_drew_ {w w1 : World} {P : Nat → Prop} {n : Nat} (h : Kept w w1 P) : Kept w (w1.drewN n) P := h
theorem blk_kept_ {w w1 : World} {P : Nat → Prop} {g : Nat} {o : Obj} (h : w.heap[g]? = some o) (hk : Kept w w1 P) (hn : ¬ P g) : w1.heap[g]? = some o := (hk.2 g (blk_lt h) hn).trans h
set_option maxHeartbeats 8000000 in
set_option maxRecDepth 100000 in
theorem laws_markWishes.calls (k : Nat) (P0 P1 P2 : Nat → Prop) (A0 : Option Addr) (n0 c0 : Nat) (l0 : List (List Int)) (A1 : Option Addr) (n1 c1 : Nat) (l1 : List (List Int)) (A2 : Option Addr) (n2 c2 : Nat) (l2 : List Int) (a1 r1 : Int) (r2 r3 : List (List Int)) (r4 : List Int) (w0 w : World) (hB : Below w0.heap.size w0 w)
  (ho0 : Kd.S (Kd.slice 3 (Kd.int .i64)) 22 w w0.heap.size P0 (.slice A0 n0 c0) l0) (ho1 : Kd.S (Kd.slice 3 (Kd.int .i64)) 22 w w0.heap.size P1 (.slice A1 n1 c1) l1) (ho2 : Kd.R (Kd.int .i64) 3 w w0.heap.size P2 (.slice A2 n2 c2) l2) (h01 : ∀ k, P0 k → ¬ P1 k) (h02 : ∀ k, P0 k → ¬ P2 k) (h12 : ∀ k, P1 k → ¬ P2 k) (h : laws_markWishes.f k l0 l1 l2 a1 = some (r1, r2, r3, r4)) :
  Calls Try.prog 26 #[.agg #[.slice A0 n0 c0, .slice A1 n1 c1, .slice A2 n2 c2], .int .i64 a1] w fun e w' => e = .returned (.int .i64 r1) ∧ Kd.S (Kd.slice 3 (Kd.int .i64)) 22 w' w0.heap.size P0 (.slice A0 n0 c0) r2 ∧ Kd.S (Kd.slice 3 (Kd.int .i64)) 22 w' w0.heap.size P1 (.slice A1 n1 c1) r3 ∧ Kd.R (Kd.int .i64) 3 w' w0.heap.size P2 (.slice A2 n2 c2) r4 ∧ Below w0.heap.size w0 w' ∧ Kept w w' (fun k_ => P0 k_ ∨ P1 k_ ∨ P2 k_) := by
 have hu33 := Try.underlying33
 have HO0 := Aside0.mk ho0
 have HO1 := Aside0.mk ho1
 have HO2 := Aside0.mk ho2
 have HB := Aside0.mk hB
 clear ho0 ho1 ho2 hB
 have H : ((laws_markIntSS.f k l0 a1).bind fun b0 => ((laws_markIntSS.f k l1 b0.1).bind fun b1 => ((laws_markIntS.f k l2 b1.1).bind fun b2 => (some (b2.1, b0.2, b1.2, b2.2))))) = some (r1, r2, r3, r4) := h
 clear h
 obtain ⟨⟨t0, y0⟩, A00, H⟩ := Option.bind_eq_some_iff.mp H
 have A0_ := Aside0.mk A00
 clear A00
 obtain ⟨⟨t1, y1⟩, A00, H⟩ := Option.bind_eq_some_iff.mp H
 have A1_ := Aside0.mk A00
 clear A00
 obtain ⟨⟨t2, y2⟩, A00, H⟩ := Option.bind_eq_some_iff.mp H
 have A2_ := Aside0.mk A00
 clear A00
 simp only [Option.some.injEq, Prod.mk.injEq] at H
 obtain ⟨rfl, rfl, rfl, rfl⟩ := H
 go_enter Try.func26, Try.ntmps26
 go_wp2_with (first | ((with_reducible refine gate_dst (N := 2) rfl ?_); refine box_event ?hg (N := 2) ?hd (cs := #[.slice A0 n0 c0, .slice A1 n1 c1, .slice A2 n2 c2]) (t := 33) ?hr ?_; (case hd => rfl); (case hg => rfl); (case hr => first | (go_simp; done) | (go_simp; rfl)); intro gb hg w1 hbox hb; have n0_ := Aside0.mk (below_step (by repeat (first | (with_reducible first | exact HB.out | apply below_alloc | apply pw_below_drewN | apply below_drew1) | exact HB.out)) hb); have n1_ := Aside0.mk hbox; have n2_ := Aside0.mk (Kd.S_types (Kd.S_below (by (with_reducible repeat (first | apply Kd.S_alloc | apply Kd.S_drewN | apply Kd.S_drew)); exact HO0.out) hb) hbox (by decide)); have n3_ := Aside0.mk (Kd.S_types (Kd.S_below (by (with_reducible repeat (first | apply Kd.S_alloc | apply Kd.S_drewN | apply Kd.S_drew)); exact HO1.out) hb) hbox (by decide)); have n4_ := Aside0.mk (Kd.R_types (Kd.R_below (by (with_reducible repeat (first | apply Kd.R_alloc | apply Kd.R_drewN | apply Kd.R_drew)); exact HO2.out) hb) hbox (by decide)); have n5_ := Aside0.mk (kept_of_below (P := fun k_ => P0 k_ ∨ P1 k_ ∨ P2 k_) hb (Nat.le_refl _)); clear HB HO0 HO1 HO2; have HB := n0_; have BK := n1_; have HO0 := n2_; have HO1 := n3_; have HO2 := n4_; have HK := n5_; clear n0_ n1_ n2_ n3_ n4_ n5_; clear hb hbox hg; have hcz1_0 : w1.cell? ⟨gb, 0, none⟩ = some (.slice A0 n0 c0) := (blk_cell BK.out 0).trans rfl; have hcz1_1 : w1.cell? ⟨gb, 1, none⟩ = some (.slice A1 n1 c1) := (blk_cell BK.out 1).trans rfl; have hcz1_2 : w1.cell? ⟨gb, 2, none⟩ = some (.slice A2 n2 c2) := (blk_cell BK.out 2).trans rfl; have hfz1_0 := blk_frozen BK.out 0; have hfz1_1 := blk_frozen BK.out 1; have hfz1_2 := blk_frozen BK.out 2) | ((with_reducible refine gate_callee (f := 57) rfl ?_); refine goesL_ (some 8) rfl rfl Try.func57 (by kernel_rfl) rfl #[.slice A0 n0 c0, .int .i64 a1] rfl (by (try simp only [List.map_toArray, List.map_cons, List.map_nil]); first | done | rfl | (simp only [List.length_drop, List.length_take]; rfl)) ?_; (with_reducible refine (laws_markIntSS.calls k (fun k_ => P0 k_ ∧ k_ ≠ gb) _ l0 a1 t0 y0 w0 _ ?sB ?sO A0_.out).mono ?_); (case sB => exact (by repeat (first | (with_reducible first | exact HB.out | apply below_alloc | apply pw_below_drewN | apply below_drew1) | exact HB.out))); (case sO => exact (by (with_reducible repeat (first | apply Kd.S_alloc | apply Kd.S_drewN | apply Kd.S_drew)); exact HO0.out)); rintro e w2 ⟨rfl, hs_, hb_, hk_⟩; refine ⟨_, rfl, ?_⟩; have n0_ := Aside0.mk hb_; have n1_ := Aside0.mk (blk_kept_ (g := gb) (o := .cells #[.slice A0 n0 c0, .slice A1 n1 c1, .slice A2 n2 c2] 33 (0, 0)) (by (with_reducible repeat (first | refine blk_drewN ?_ _ | refine blk_drew ?_ | refine blk_alloc ?_ _)); exact BK.out) hk_ (fun c => c.2 rfl)); have n2_ := Aside0.mk hs_; have n3_ := Aside0.mk (Kd.S_kept (by (with_reducible repeat (first | apply Kd.S_alloc | apply Kd.S_drewN | apply Kd.S_drew)); exact HO1.out) hk_ (fun k_ (h1_ : P1 k_ ∧ k_ ≠ gb) h0_ => h01 k_ h0_.1 h1_.1)); have n4_ := Aside0.mk (Kd.R_kept (by (with_reducible repeat (first | apply Kd.R_alloc | apply Kd.R_drewN | apply Kd.R_drew)); exact HO2.out) hk_ (fun k_ (h2_ : P2 k_ ∧ k_ ≠ gb) h0_ => h02 k_ h0_.1 h2_.1)); have n5_ := Aside0.mk (kept_trans_ (P := fun k_ => P0 k_ ∨ P1 k_ ∨ P2 k_) (by first | exact HK.out | exact kept_drew_ HK.out) hk_ (fun i h_ => .inl (.inl h_.1))); clear HB BK HO0 HO1 HO2 HK; have HB := n0_; have BK := n1_; have HO0 := n2_; have HO1 := n3_; have HO2 := n4_; have HK := n5_; clear n0_ n1_ n2_ n3_ n4_ n5_ hs_ hb_ hk_; have hcz2_0 : w2.cell? ⟨gb, 0, none⟩ = some (.slice A0 n0 c0) := (blk_cell BK.out 0).trans rfl; have hcz2_1 : w2.cell? ⟨gb, 1, none⟩ = some (.slice A1 n1 c1) := (blk_cell BK.out 1).trans rfl; have hcz2_2 : w2.cell? ⟨gb, 2, none⟩ = some (.slice A2 n2 c2) := (blk_cell BK.out 2).trans rfl; have hfz2_0 := blk_frozen BK.out 0; have hfz2_1 := blk_frozen BK.out 1; have hfz2_2 := blk_frozen BK.out 2) | ((with_reducible refine gate_callee (f := 57) rfl ?_); refine goesL_ (some 12) rfl rfl Try.func57 (by kernel_rfl) rfl #[.slice A1 n1 c1, .int .i64 t0] rfl (by (try simp only [List.map_toArray, List.map_cons, List.map_nil]); first | done | rfl | (simp only [List.length_drop, List.length_take]; rfl)) ?_; (with_reducible refine (laws_markIntSS.calls k (fun k_ => P1 k_ ∧ k_ ≠ gb) _ l1 t0 t1 y1 w0 _ ?sB ?sO A1_.out).mono ?_); (case sB => exact (by repeat (first | (with_reducible first | exact HB.out | apply below_alloc | apply pw_below_drewN | apply below_drew1) | exact HB.out))); (case sO => exact (by (with_reducible repeat (first | apply Kd.S_alloc | apply Kd.S_drewN | apply Kd.S_drew)); exact HO1.out)); rintro e w3 ⟨rfl, hs_, hb_, hk_⟩; refine ⟨_, rfl, ?_⟩; have n0_ := Aside0.mk hb_; have n1_ := Aside0.mk (blk_kept_ (g := gb) (o := .cells #[.slice A0 n0 c0, .slice A1 n1 c1, .slice A2 n2 c2] 33 (0, 0)) (by (with_reducible repeat (first | refine blk_drewN ?_ _ | refine blk_drew ?_ | refine blk_alloc ?_ _)); exact BK.out) hk_ (fun c => c.2 rfl)); have n2_ := Aside0.mk (Kd.S_kept (by (with_reducible repeat (first | apply Kd.S_alloc | apply Kd.S_drewN | apply Kd.S_drew)); exact HO0.out) hk_ (fun k_ (h0_ : P0 k_ ∧ k_ ≠ gb) h1_ => h01 k_ h0_.1 h1_.1)); have n3_ := Aside0.mk hs_; have n4_ := Aside0.mk (Kd.R_kept (by (with_reducible repeat (first | apply Kd.R_alloc | apply Kd.R_drewN | apply Kd.R_drew)); exact HO2.out) hk_ (fun k_ (h2_ : P2 k_ ∧ k_ ≠ gb) h1_ => h12 k_ h1_.1 h2_.1)); have n5_ := Aside0.mk (kept_trans_ (P := fun k_ => P0 k_ ∨ P1 k_ ∨ P2 k_) (by first | exact HK.out | exact kept_drew_ HK.out) hk_ (fun i h_ => .inl (.inr (.inl h_.1)))); clear HB BK HO0 HO1 HO2 HK; have HB := n0_; have BK := n1_; have HO0 := n2_; have HO1 := n3_; have HO2 := n4_; have HK := n5_; clear n0_ n1_ n2_ n3_ n4_ n5_ hs_ hb_ hk_; have hcz3_0 : w3.cell? ⟨gb, 0, none⟩ = some (.slice A0 n0 c0) := (blk_cell BK.out 0).trans rfl; have hcz3_1 : w3.cell? ⟨gb, 1, none⟩ = some (.slice A1 n1 c1) := (blk_cell BK.out 1).trans rfl; have hcz3_2 : w3.cell? ⟨gb, 2, none⟩ = some (.slice A2 n2 c2) := (blk_cell BK.out 2).trans rfl; have hfz3_0 := blk_frozen BK.out 0; have hfz3_1 := blk_frozen BK.out 1; have hfz3_2 := blk_frozen BK.out 2) | ((with_reducible refine gate_callee (f := 27) rfl ?_); refine goesL_ (some 16) rfl rfl Try.func27 (by kernel_rfl) rfl #[.slice A2 n2 c2, .int .i64 t1] rfl (by (try simp only [List.map_toArray, List.map_cons, List.map_nil]); first | done | rfl | (simp only [List.length_drop, List.length_take]; rfl)) ?_; (with_reducible refine (laws_markIntS.calls k (fun k_ => P2 k_ ∧ k_ ≠ gb) _ l2 t1 t2 y2 w0 _ ?sB ?sO A2_.out).mono ?_); (case sB => exact (by repeat (first | (with_reducible first | exact HB.out | apply below_alloc | apply pw_below_drewN | apply below_drew1) | exact HB.out))); (case sO => exact (by (with_reducible repeat (first | apply Kd.R_alloc | apply Kd.R_drewN | apply Kd.R_drew)); exact HO2.out)); rintro e w4 ⟨rfl, hs_, hb_, hk_⟩; refine ⟨_, rfl, ?_⟩; have n0_ := Aside0.mk hb_; have n2_ := Aside0.mk (Kd.S_kept (by (with_reducible repeat (first | apply Kd.S_alloc | apply Kd.S_drewN | apply Kd.S_drew)); exact HO0.out) hk_ (fun k_ (h0_ : P0 k_ ∧ k_ ≠ gb) h2_ => h02 k_ h0_.1 h2_.1)); have n3_ := Aside0.mk (Kd.S_kept (by (with_reducible repeat (first | apply Kd.S_alloc | apply Kd.S_drewN | apply Kd.S_drew)); exact HO1.out) hk_ (fun k_ (h1_ : P1 k_ ∧ k_ ≠ gb) h2_ => h12 k_ h1_.1 h2_.1)); have n4_ := Aside0.mk (Kd.R_mono (Kd.R_tight rfl hs_) (fun q hq => HO2.out.1 q hq.symm)); have n5_ := Aside0.mk (kept_trans_ (P := fun k_ => P0 k_ ∨ P1 k_ ∨ P2 k_) (by first | exact HK.out | exact kept_drew_ HK.out) hk_ (fun i h_ => .inl (.inr (.inr h_.1)))); clear HB BK HO0 HO1 HO2 HK; have HB := n0_; have HO0 := n2_; have HO1 := n3_; have HO2 := n4_; have HK := n5_; clear n0_ n2_ n3_ n4_ n5_ hs_ hb_ hk_))
 go_ret
 exact ⟨by first | rfl | (simp; done), Kd.S_mono (by (with_reducible repeat (first | apply Kd.S_alloc | apply Kd.S_drewN | apply Kd.S_drew)); exact HO0.out) (fun k_ (h_ : P0 k_ ∧ k_ ≠ gb) => h_.1), Kd.S_mono (by (with_reducible repeat (first | apply Kd.S_alloc | apply Kd.S_drewN | apply Kd.S_drew)); exact HO1.out) (fun k_ (h_ : P1 k_ ∧ k_ ≠ gb) => h_.1), Kd.R_mono (by (with_reducible repeat (first | apply Kd.R_alloc | apply Kd.R_drewN | apply Kd.R_drew)); exact HO2.out) (fun k_ (h_ : P2 k_ ∧ k_ ≠ gb) => h_.1), by repeat (first | (with_reducible first | exact HB.out | apply below_alloc | apply pw_below_drewN | apply below_drew1) | exact HB.out), by first | exact HK.out | exact kept_drew_ HK.out⟩
end Go.Proofs.Ytoipbblhmcpneaa.P

namespace Go.Proofs.Ytoipbblhmcpneaa.P
open Go.RowKit Go.Proofs.YtoipbblhmcpneaaW.PrintWords Go.Proofs.YtoipbblhmcpneaaW.PrintLast
set_option linter.unusedVariables false
set_option linter.unusedSimpArgs false
theorem pre_split {α : Type} {d : Kd α} {e base : Nat} {ok ok2 : Nat → Prop} {W w1 : World} {u v : Value} {xs ys : List α} (h1 : Kd.S d e W base ok u xs) (h2 : Kd.S d e w1 W.heap.size ok2 v ys) : ∃ M : Nat, Kd.S d e W base (fun k => k < M) u xs ∧ Kd.S d e w1 W.heap.size (fun k => M ≤ k) v ys :=
 ⟨W.heap.size, Kd.S_mono (Kd.S_bound h1) (fun k hk => hk.2.2.1), Kd.S_mono (Kd.S_bound h2) (fun k hk => hk.2.1)⟩
set_option maxHeartbeats 8000000 in
set_option maxRecDepth 100000 in
theorem laws_toWishes.calls2 (k : Nat) (A0_0 : Option Addr) (c0_0 : Nat) (l0_0 : List (List Int)) (A0_1 : Option Addr) (c0_1 : Nat) (l0_1 : List (List Int)) (A0_2 : Option Addr) (c0_2 : Nat) (l0_2 : List Int) (r1 : List (List Int)) (r2 : List (List Int)) (r3 : List Int) (w : World) (hr0_0 : Kd.C (Kd.slice 3 (Kd.int .i64)) w A0_0 l0_0.length l0_0) (hc0_0 : l0_0.length ≤ c0_0) (hr0_1 : Kd.C (Kd.slice 3 (Kd.int .i64)) w A0_1 l0_1.length l0_1) (hc0_1 : l0_1.length ≤ c0_1) (hr0_2 : Kd.C (Kd.int .i64) w A0_2 l0_2.length l0_2) (hc0_2 : l0_2.length ≤ c0_2) (h : laws_toWishes.f k l0_0 l0_1 l0_2 = some (r1, r2, r3)) :
  Calls Try.prog 19 #[.agg #[.slice A0_0 l0_0.length c0_0, .slice A0_1 l0_1.length c0_1, .slice A0_2 l0_2.length c0_2]] w fun e w' => ∃ (M_ : Nat) (v0_ v1_ v2_ : Value), e = .returned (.agg #[v0_, v1_, v2_]) ∧ Kd.S (Kd.slice 3 (Kd.int .i64)) 22 w' w.heap.size (fun k_ => some k_ ≠ (v1_ : Value).ownBlock ∧ some k_ ≠ (v2_ : Value).ownBlock ∧ k_ < M_) v0_ r1 ∧ Kd.S (Kd.slice 3 (Kd.int .i64)) 22 w' w.heap.size (fun k_ => some k_ ≠ (v0_ : Value).ownBlock ∧ some k_ ≠ (v2_ : Value).ownBlock ∧ M_ ≤ k_) v1_ r2 ∧ Kd.R (Kd.int .i64) 3 w' w.heap.size (fun _ => True) v2_ r3 ∧ Below w.heap.size w w' := by
 have hu30 := Try.underlying30
 have hu33 := Try.underlying33
 have HR0_0 := Aside0.mk hr0_0
 have HC0_0 := Aside0.mk hc0_0
 clear hr0_0 hc0_0
 have HR0_1 := Aside0.mk hr0_1
 have HC0_1 := Aside0.mk hc0_1
 clear hr0_1 hc0_1
 have HR0_2 := Aside0.mk hr0_2
 have HC0_2 := Aside0.mk hc0_2
 clear hr0_2 hc0_2
 have HB := Aside0.mk (Below.refl w.heap.size w)
 have H : ((laws_toIntSS.f k l0_0).bind fun t159 => ((laws_toIntSS.f k l0_1).bind fun t162 => ((laws_toIntS.f k l0_2).bind fun t165 => (some (t159, t162, t165))))) = some (r1, r2, r3) := h
 clear h
 replace H := Option.bind_eq_some_iff.mp H
 obtain ⟨t159, A20, H⟩ := H
 replace H : ((laws_toIntSS.f k l0_1).bind fun t162 => ((laws_toIntS.f k l0_2).bind fun t165 => (some (t159, t162, t165)))) = some (r1, r2, r3) := H
 have A2 := Aside0.mk A20
 clear A20
 replace H := Option.bind_eq_some_iff.mp H
 obtain ⟨t162, A30, H⟩ := H
 replace H : ((laws_toIntS.f k l0_2).bind fun t165 => (some (t159, t162, t165))) = some (r1, r2, r3) := H
 have A3 := Aside0.mk A30
 clear A30
 replace H := Option.bind_eq_some_iff.mp H
 obtain ⟨t165, A40, H⟩ := H
 replace H : (some (t159, t162, t165)) = some (r1, r2, r3) := H
 have A4 := Aside0.mk A40
 clear A40
 simp only [Option.some.injEq, Prod.mk.injEq] at H
 obtain ⟨rfl, rfl, rfl⟩ := H
 go_enter Try.func19, Try.ntmps19
 go_wp2_with (first | ((with_reducible refine gate_dst (N := 1) rfl ?_); refine box_event ?hg (N := 1) ?hd (cs := #[.slice A0_0 l0_0.length c0_0, .slice A0_1 l0_1.length c0_1, .slice A0_2 l0_2.length c0_2]) (t := 30) ?hr ?_; (case hd => rfl); (case hg => rfl); (case hr => first | (go_simp; done) | (go_simp; rfl)); intro gb156 hg w5 hbox hb; have n0_ := Aside0.mk (below_step (by repeat (first | (with_reducible first | exact HB.out | apply below_alloc | apply pw_below_drewN | apply below_drew1) | exact HB.out)) hb); have n1_ := Aside0.mk (hbox); have n2_ := Aside0.mk ((by rw [hg]; exact (below_size (by repeat (first | (with_reducible first | exact HB.out | apply below_alloc | apply pw_below_drewN | apply below_drew1) | exact HB.out))) : w.heap.size ≤ gb156)); have n3_ := Aside0.mk ((by rw [hg]; exact (below_size (by repeat (first | (with_reducible first | exact HB.out | apply below_alloc | apply pw_below_drewN | apply below_drew1) | exact HB.out))) : w.heap.size ≤ gb156)); clear HB; have HB := n0_; have BK156 := n1_; have GW156 := n2_; have GE156 := n3_; clear n0_ n1_ n2_ n3_; clear hb hbox hg) | ((with_reducible refine gate_dst (N := 2) rfl ?_); refine box_event ?hg (N := 2) ?hd (cs := #[.slice none 0 0, .slice none 0 0, .slice none 0 0]) (t := 33) ?hr ?_; (case hd => rfl); (case hg => rfl); (case hr => first | (go_simp; done) | (go_simp; rfl)); intro gb157 hg w6 hbox hb; have n0_ := Aside0.mk (blk_below (g := gb156) (o := .cells #[.slice A0_0 l0_0.length c0_0, .slice A0_1 l0_1.length c0_1, .slice A0_2 l0_2.length c0_2] 30 (0, 0)) (by (with_reducible repeat (first | refine blk_drewN ?_ _ | refine blk_drew ?_ | refine blk_alloc ?_ _)); exact BK156.out) hb); have n1_ := Aside0.mk (below_step (by repeat (first | (with_reducible first | exact HB.out | apply below_alloc | apply pw_below_drewN | apply below_drew1 | refine below_set ?_ GE156.out) | exact HB.out)) hb); have n2_ := Aside0.mk (hbox); have n3_ := Aside0.mk ((by rw [hg]; exact (below_size (by repeat (first | (with_reducible first | exact HB.out | apply below_alloc | apply pw_below_drewN | apply below_drew1 | refine below_set ?_ GE156.out) | exact HB.out))) : w.heap.size ≤ gb157)); have n4_ := Aside0.mk ((by rw [hg]; exact (below_size (by repeat (first | (with_reducible first | exact HB.out | apply below_alloc | apply pw_below_drewN | apply below_drew1 | refine below_set ?_ GE156.out) | exact HB.out))) : w.heap.size ≤ gb157)); have n5_ := Aside0.mk ((by rw [hg]; exact Nat.ne_of_lt (blk_lt (g := gb156) (o := .cells #[.slice A0_0 l0_0.length c0_0, .slice A0_1 l0_1.length c0_1, .slice A0_2 l0_2.length c0_2] 30 (0, 0)) (by (with_reducible repeat (first | refine blk_drewN ?_ _ | refine blk_drew ?_ | refine blk_alloc ?_ _)); exact BK156.out)) : gb156 ≠ gb157)); have n6_ := Aside0.mk ((by rw [hg]; exact Nat.ne_of_gt (blk_lt (g := gb156) (o := .cells #[.slice A0_0 l0_0.length c0_0, .slice A0_1 l0_1.length c0_1, .slice A0_2 l0_2.length c0_2] 30 (0, 0)) (by (with_reducible repeat (first | refine blk_drewN ?_ _ | refine blk_drew ?_ | refine blk_alloc ?_ _)); exact BK156.out)) : gb157 ≠ gb156)); clear BK156; clear HB; have BK156 := n0_; have HB := n1_; have BK157 := n2_; have GW157 := n3_; have GE157 := n4_; have NB156_157 := n5_; have NB157_156 := n6_; clear n0_ n1_ n2_ n3_ n4_ n5_ n6_; clear hb hbox hg) | ((with_reducible refine gate_dst (N := 3) rfl ?_); refine box_event ?hg (N := 3) ?hd (cs := #[.slice none 0 0, .slice none 0 0, .slice none 0 0]) (t := 33) ?hr ?_; (case hd => rfl); (case hg => rfl); (case hr => first | (go_simp; done) | (go_simp; rfl)); intro gb158 hg w7 hbox hb; have n0_ := Aside0.mk (blk_below (g := gb156) (o := .cells #[.slice A0_0 l0_0.length c0_0, .slice A0_1 l0_1.length c0_1, .slice A0_2 l0_2.length c0_2] 30 (0, 0)) (by (with_reducible repeat (first | refine blk_drewN ?_ _ | refine blk_drew ?_ | refine blk_alloc ?_ _)); exact BK156.out) hb); have n1_ := Aside0.mk (blk_below (g := gb157) (o := .cells #[.slice none 0 0, .slice none 0 0, .slice none 0 0] 33 (0, 0)) (by (with_reducible repeat (first | refine blk_drewN ?_ _ | refine blk_drew ?_ | refine blk_alloc ?_ _)); exact BK157.out) hb); have n2_ := Aside0.mk (below_step (by repeat (first | (with_reducible first | exact HB.out | apply below_alloc | apply pw_below_drewN | apply below_drew1 | refine below_set ?_ GE156.out | refine below_set ?_ GE157.out) | exact HB.out)) hb); have n3_ := Aside0.mk (hbox); have n4_ := Aside0.mk ((by rw [hg]; exact (below_size (by repeat (first | (with_reducible first | exact HB.out | apply below_alloc | apply pw_below_drewN | apply below_drew1 | refine below_set ?_ GE156.out | refine below_set ?_ GE157.out) | exact HB.out))) : w.heap.size ≤ gb158)); have n5_ := Aside0.mk ((by rw [hg]; exact (below_size (by repeat (first | (with_reducible first | exact HB.out | apply below_alloc | apply pw_below_drewN | apply below_drew1 | refine below_set ?_ GE156.out | refine below_set ?_ GE157.out) | exact HB.out))) : w.heap.size ≤ gb158)); have n6_ := Aside0.mk ((by rw [hg]; exact Nat.ne_of_lt (blk_lt (g := gb156) (o := .cells #[.slice A0_0 l0_0.length c0_0, .slice A0_1 l0_1.length c0_1, .slice A0_2 l0_2.length c0_2] 30 (0, 0)) (by (with_reducible repeat (first | refine blk_drewN ?_ _ | refine blk_drew ?_ | refine blk_alloc ?_ _)); exact BK156.out)) : gb156 ≠ gb158)); have n7_ := Aside0.mk ((by rw [hg]; exact Nat.ne_of_gt (blk_lt (g := gb156) (o := .cells #[.slice A0_0 l0_0.length c0_0, .slice A0_1 l0_1.length c0_1, .slice A0_2 l0_2.length c0_2] 30 (0, 0)) (by (with_reducible repeat (first | refine blk_drewN ?_ _ | refine blk_drew ?_ | refine blk_alloc ?_ _)); exact BK156.out)) : gb158 ≠ gb156)); have n8_ := Aside0.mk ((by rw [hg]; exact Nat.ne_of_lt (blk_lt (g := gb157) (o := .cells #[.slice none 0 0, .slice none 0 0, .slice none 0 0] 33 (0, 0)) (by (with_reducible repeat (first | refine blk_drewN ?_ _ | refine blk_drew ?_ | refine blk_alloc ?_ _)); exact BK157.out)) : gb157 ≠ gb158)); have n9_ := Aside0.mk ((by rw [hg]; exact Nat.ne_of_gt (blk_lt (g := gb157) (o := .cells #[.slice none 0 0, .slice none 0 0, .slice none 0 0] 33 (0, 0)) (by (with_reducible repeat (first | refine blk_drewN ?_ _ | refine blk_drew ?_ | refine blk_alloc ?_ _)); exact BK157.out)) : gb158 ≠ gb157)); clear BK156; clear BK157; clear HB; have BK156 := n0_; have BK157 := n1_; have HB := n2_; have BK158 := n3_; have GW158 := n4_; have GE158 := n5_; have NB156_158 := n6_; have NB158_156 := n7_; have NB157_158 := n8_; have NB158_157 := n9_; clear n0_ n1_ n2_ n3_ n4_ n5_ n6_ n7_ n8_ n9_; clear hb hbox hg; have hnb8 := NB156_157.out; have hnc8 := NB157_156.out; have hnb9 := NB156_158.out; have hnc9 := NB158_156.out; have hcz10_0 : w7.cell? ⟨gb156, 0, none⟩ = some (.slice A0_0 l0_0.length c0_0) := (blk_cell BK156.out 0).trans rfl; have hcz10_1 : w7.cell? ⟨gb156, 1, none⟩ = some (.slice A0_1 l0_1.length c0_1) := (blk_cell BK156.out 1).trans rfl; have hcz10_2 : w7.cell? ⟨gb156, 2, none⟩ = some (.slice A0_2 l0_2.length c0_2) := (blk_cell BK156.out 2).trans rfl; have hfz10_0 := blk_frozen BK156.out 0; have hfz10_1 := blk_frozen BK156.out 1; have hfz10_2 := blk_frozen BK156.out 2) | ((with_reducible refine gate_callee (f := 51) rfl ?_); refine goesL_ (some 6) rfl rfl Try.func51 (by kernel_rfl) rfl #[.slice A0_0 l0_0.length c0_0] rfl (by (try simp only [List.map_toArray, List.map_cons, List.map_nil]); first | done | rfl | (simp only [List.length_drop, List.length_take]; rfl)) ?_; (with_reducible refine (laws_toIntSS.calls k _ _ l0_0 t159 _ ?side1 ?side2 A2.out).mono ?_); (case side1 => repeat (first | exact (Kd.C_below HR0_0.out HB.out) | (with_reducible refine Kd.C_alloc ?_ _) | (with_reducible refine Kd.C_drewN ?_ _) | (with_reducible refine Kd.C_drew ?_))); (case side2 => exact HC0_0.out); rintro e w11 ⟨v160, rfl, ho0, hb⟩; refine ⟨_, rfl, ?_⟩; have n0_ := Aside0.mk (Kd.S_lower ho0 (below_size (by repeat (first | (with_reducible first | exact HB.out | apply below_alloc | apply pw_below_drewN | apply below_drew1 | refine below_set ?_ GE156.out | refine below_set ?_ GE157.out | refine below_set ?_ GE158.out) | exact HB.out)))); have n1_ := Aside0.mk (blk_below (g := gb156) (o := .cells #[.slice A0_0 l0_0.length c0_0, .slice A0_1 l0_1.length c0_1, .slice A0_2 l0_2.length c0_2] 30 (0, 0)) (by (with_reducible repeat (first | refine blk_drewN ?_ _ | refine blk_drew ?_ | refine blk_alloc ?_ _)); exact BK156.out) hb); have n2_ := Aside0.mk (blk_below (g := gb157) (o := .cells #[.slice none 0 0, .slice none 0 0, .slice none 0 0] 33 (0, 0)) (by (with_reducible repeat (first | refine blk_drewN ?_ _ | refine blk_drew ?_ | refine blk_alloc ?_ _)); exact BK157.out) hb); have n3_ := Aside0.mk (blk_below (g := gb158) (o := .cells #[.slice none 0 0, .slice none 0 0, .slice none 0 0] 33 (0, 0)) (by (with_reducible repeat (first | refine blk_drewN ?_ _ | refine blk_drew ?_ | refine blk_alloc ?_ _)); exact BK158.out) hb); have n4_ := Aside0.mk (below_step (by repeat (first | (with_reducible first | exact HB.out | apply below_alloc | apply pw_below_drewN | apply below_drew1 | refine below_set ?_ GE156.out | refine below_set ?_ GE157.out | refine below_set ?_ GE158.out) | exact HB.out)) hb); clear BK156; clear BK157; clear BK158; clear HB; have HO161 := n0_; have BK156 := n1_; have BK157 := n2_; have BK158 := n3_; have HB := n4_; clear n0_ n1_ n2_ n3_ n4_; (try clear hb); (try clear hb2); (try clear hk); (try clear hi); (try clear ho0); obtain ⟨Ao12, co12, eo12⟩ := Kd.S_slice HO161.out; subst eo12; have hnb13 := NB158_157.out; have hnc13 := NB157_158.out; have hcz14_0 : w11.cell? ⟨gb158, 0, none⟩ = some (.slice none 0 0) := (blk_cell BK158.out 0).trans rfl; have hcz14_1 : w11.cell? ⟨gb158, 1, none⟩ = some (.slice none 0 0) := (blk_cell BK158.out 1).trans rfl; have hcz14_2 : w11.cell? ⟨gb158, 2, none⟩ = some (.slice none 0 0) := (blk_cell BK158.out 2).trans rfl; have hfz14_0 := blk_frozen BK158.out 0; have hfz14_1 := blk_frozen BK158.out 1; have hfz14_2 := blk_frozen BK158.out 2; have hcz15_0 : w11.cell? ⟨gb156, 0, none⟩ = some (.slice A0_0 l0_0.length c0_0) := (blk_cell BK156.out 0).trans rfl; have hcz15_1 : w11.cell? ⟨gb156, 1, none⟩ = some (.slice A0_1 l0_1.length c0_1) := (blk_cell BK156.out 1).trans rfl; have hcz15_2 : w11.cell? ⟨gb156, 2, none⟩ = some (.slice A0_2 l0_2.length c0_2) := (blk_cell BK156.out 2).trans rfl; have hfz15_0 := blk_frozen BK156.out 0; have hfz15_1 := blk_frozen BK156.out 1; have hfz15_2 := blk_frozen BK156.out 2) | ((with_reducible refine gate_callee (f := 51) rfl ?_); refine goesL_ (some 10) rfl rfl Try.func51 (by kernel_rfl) rfl #[.slice A0_1 l0_1.length c0_1] rfl (by (try simp only [List.map_toArray, List.map_cons, List.map_nil]); first | done | rfl | (simp only [List.length_drop, List.length_take]; rfl)) ?_; (with_reducible refine (laws_toIntSS.calls k _ _ l0_1 t162 _ ?side1 ?side2 A3.out).mono ?_); (case side1 => exact Kd.C_below HR0_1.out (by repeat (first | (with_reducible first | exact HB.out | apply below_alloc | apply pw_below_drewN | apply below_drew1 | refine below_set ?_ GE156.out | refine below_set ?_ GE157.out | refine below_set ?_ GE158.out) | exact HB.out))); (case side2 => exact HC0_1.out); rintro e w16 ⟨v163, rfl, ho0, hb⟩; refine ⟨_, rfl, ?_⟩; obtain ⟨M_, s1_, s2_⟩ := pre_split (by (with_reducible repeat (first | apply Kd.S_alloc | apply Kd.S_drewN | apply Kd.S_drew)); exact (Kd.S_mono (Kd.S_far (p := ⟨gb158, 0, none⟩) (Kd.S_types HO161.out BK158.out (by decide)) (fun _ hk => hk.2) (.slice Ao12 t159.length co12)) (fun _ h_ => h_.1))) ho0; clear ho0; have ho0 := s2_; clear s2_; have n0_ := Aside0.mk (Kd.S_elder' s1_ (Kd.S_base ho0) hb); have n1_ := Aside0.mk (Kd.S_lower (Kd.S_new' ho0 (Kd.S_lt s1_)) (below_size (by repeat (first | (with_reducible first | exact HB.out | apply below_alloc | apply pw_below_drewN | apply below_drew1 | refine below_set ?_ GE156.out | refine below_set ?_ GE157.out | refine below_set ?_ GE158.out) | exact HB.out)))); have n2_ := Aside0.mk (blk_below (g := gb156) (o := .cells #[.slice A0_0 l0_0.length c0_0, .slice A0_1 l0_1.length c0_1, .slice A0_2 l0_2.length c0_2] 30 (0, 0)) (by (with_reducible repeat (first | refine blk_drewN ?_ _ | refine blk_drew ?_ | refine blk_alloc ?_ _)); refine blk_far ?_ NB156_158.out _; (with_reducible repeat (first | refine blk_drewN ?_ _ | refine blk_drew ?_ | refine blk_alloc ?_ _)); exact BK156.out) hb); have n3_ := Aside0.mk (blk_below (g := gb157) (o := .cells #[.slice none 0 0, .slice none 0 0, .slice none 0 0] 33 (0, 0)) (by (with_reducible repeat (first | refine blk_drewN ?_ _ | refine blk_drew ?_ | refine blk_alloc ?_ _)); refine blk_far ?_ NB157_158.out _; (with_reducible repeat (first | refine blk_drewN ?_ _ | refine blk_drew ?_ | refine blk_alloc ?_ _)); exact BK157.out) hb); have n4_ := Aside0.mk (blk_below (g := gb158) (o := .cells #[.slice Ao12 t159.length co12, .slice none 0 0, .slice none 0 0] 33 (0, 0)) (by (with_reducible repeat (first | refine blk_drewN ?_ _ | refine blk_drew ?_ | refine blk_alloc ?_ _)); refine blk_put (cs := #[.slice none 0 0, .slice none 0 0, .slice none 0 0]) ?_ 0 _ rfl; (with_reducible repeat (first | refine blk_drewN ?_ _ | refine blk_drew ?_ | refine blk_alloc ?_ _)); exact BK158.out) hb); have n5_ := Aside0.mk (below_step (by repeat (first | (with_reducible first | exact HB.out | apply below_alloc | apply pw_below_drewN | apply below_drew1 | refine below_set ?_ GE156.out | refine below_set ?_ GE157.out | refine below_set ?_ GE158.out) | exact HB.out)) hb); clear s1_; clear HO161; clear BK156; clear BK157; clear BK158; clear HB; have HO161 := n0_; have HO164 := n1_; have BK156 := n2_; have BK157 := n3_; have BK158 := n4_; have HB := n5_; clear n0_ n1_ n2_ n3_ n4_ n5_; (try clear hb); (try clear hb2); (try clear hk); (try clear hi); (try clear ho0); obtain ⟨Ao17, co17, eo17⟩ := Kd.S_slice HO164.out; subst eo17; have hcz18_0 : w16.cell? ⟨gb158, 0, none⟩ = some (.slice Ao12 t159.length co12) := (blk_cell BK158.out 0).trans rfl; have hcz18_1 : w16.cell? ⟨gb158, 1, none⟩ = some (.slice none 0 0) := (blk_cell BK158.out 1).trans rfl; have hcz18_2 : w16.cell? ⟨gb158, 2, none⟩ = some (.slice none 0 0) := (blk_cell BK158.out 2).trans rfl; have hfz18_0 := blk_frozen BK158.out 0; have hfz18_1 := blk_frozen BK158.out 1; have hfz18_2 := blk_frozen BK158.out 2; have hcz19_0 : w16.cell? ⟨gb156, 0, none⟩ = some (.slice A0_0 l0_0.length c0_0) := (blk_cell BK156.out 0).trans rfl; have hcz19_1 : w16.cell? ⟨gb156, 1, none⟩ = some (.slice A0_1 l0_1.length c0_1) := (blk_cell BK156.out 1).trans rfl; have hcz19_2 : w16.cell? ⟨gb156, 2, none⟩ = some (.slice A0_2 l0_2.length c0_2) := (blk_cell BK156.out 2).trans rfl; have hfz19_0 := blk_frozen BK156.out 0; have hfz19_1 := blk_frozen BK156.out 1; have hfz19_2 := blk_frozen BK156.out 2) | ((with_reducible refine gate_callee (f := 14) rfl ?_); refine goesL_ (some 14) rfl rfl Try.func14 (by kernel_rfl) rfl #[.slice A0_2 l0_2.length c0_2] rfl (by (try simp only [List.map_toArray, List.map_cons, List.map_nil]); first | done | rfl | (simp only [List.length_drop, List.length_take]; rfl)) ?_; (with_reducible refine (laws_toIntS.calls k _ _ l0_2 t165 _ ?side1 ?side2 A4.out).mono ?_); (case side1 => exact Kd.C_below HR0_2.out (by repeat (first | (with_reducible first | exact HB.out | apply below_alloc | apply pw_below_drewN | apply below_drew1 | refine below_set ?_ GE156.out | refine below_set ?_ GE157.out | refine below_set ?_ GE158.out) | exact HB.out))); (case side2 => exact HC0_2.out); rintro e w20 ⟨v166, rfl, ho0, hb⟩; refine ⟨_, rfl, ?_⟩; have n0_ := Aside0.mk (Kd.S_elder' (by (with_reducible repeat (first | apply Kd.S_alloc | apply Kd.S_drewN | apply Kd.S_drew)); exact (Kd.S_mono (Kd.S_far (p := ⟨gb158, 1, none⟩) (Kd.S_types HO161.out BK158.out (by decide)) (fun _ hk => hk.2) (.slice Ao17 t162.length co17)) (fun _ h_ => h_.1))) (Kd.R_base ho0) hb); have n1_ := Aside0.mk (Kd.S_elder' (by (with_reducible repeat (first | apply Kd.S_alloc | apply Kd.S_drewN | apply Kd.S_drew)); exact (Kd.S_mono (Kd.S_far (p := ⟨gb158, 1, none⟩) (Kd.S_types HO164.out BK158.out (by decide)) (fun _ hk => hk.2) (.slice Ao17 t162.length co17)) (fun _ h_ => h_.1))) (Kd.R_base ho0) hb); have n2_ := Aside0.mk (Kd.R_lower ho0 (below_size (by repeat (first | (with_reducible first | exact HB.out | apply below_alloc | apply pw_below_drewN | apply below_drew1 | refine below_set ?_ GE156.out | refine below_set ?_ GE157.out | refine below_set ?_ GE158.out) | exact HB.out)))); have n3_ := Aside0.mk (blk_below (g := gb156) (o := .cells #[.slice A0_0 l0_0.length c0_0, .slice A0_1 l0_1.length c0_1, .slice A0_2 l0_2.length c0_2] 30 (0, 0)) (by (with_reducible repeat (first | refine blk_drewN ?_ _ | refine blk_drew ?_ | refine blk_alloc ?_ _)); refine blk_far ?_ NB156_158.out _; (with_reducible repeat (first | refine blk_drewN ?_ _ | refine blk_drew ?_ | refine blk_alloc ?_ _)); exact BK156.out) hb); have n4_ := Aside0.mk (blk_below (g := gb157) (o := .cells #[.slice none 0 0, .slice none 0 0, .slice none 0 0] 33 (0, 0)) (by (with_reducible repeat (first | refine blk_drewN ?_ _ | refine blk_drew ?_ | refine blk_alloc ?_ _)); refine blk_far ?_ NB157_158.out _; (with_reducible repeat (first | refine blk_drewN ?_ _ | refine blk_drew ?_ | refine blk_alloc ?_ _)); exact BK157.out) hb); have n5_ := Aside0.mk (blk_below (g := gb158) (o := .cells #[.slice Ao12 t159.length co12, .slice Ao17 t162.length co17, .slice none 0 0] 33 (0, 0)) (by (with_reducible repeat (first | refine blk_drewN ?_ _ | refine blk_drew ?_ | refine blk_alloc ?_ _)); refine blk_put (cs := #[.slice Ao12 t159.length co12, .slice none 0 0, .slice none 0 0]) ?_ 1 _ rfl; (with_reducible repeat (first | refine blk_drewN ?_ _ | refine blk_drew ?_ | refine blk_alloc ?_ _)); exact BK158.out) hb); have n6_ := Aside0.mk (below_step (by repeat (first | (with_reducible first | exact HB.out | apply below_alloc | apply pw_below_drewN | apply below_drew1 | refine below_set ?_ GE156.out | refine below_set ?_ GE157.out | refine below_set ?_ GE158.out) | exact HB.out)) hb); clear HO161; clear HO164; clear BK156; clear BK157; clear BK158; clear HB; have HO161 := n0_; have HO164 := n1_; have HO167 := n2_; have BK156 := n3_; have BK157 := n4_; have BK158 := n5_; have HB := n6_; clear n0_ n1_ n2_ n3_ n4_ n5_ n6_; (try clear hb); (try clear hb2); (try clear hk); (try clear hi); (try clear ho0); obtain ⟨Ao21, co21, eo21⟩ := Kd.R_slice HO167.out; subst eo21; have hcz22_0 : w20.cell? ⟨gb158, 0, none⟩ = some (.slice Ao12 t159.length co12) := (blk_cell BK158.out 0).trans rfl; have hcz22_1 : w20.cell? ⟨gb158, 1, none⟩ = some (.slice Ao17 t162.length co17) := (blk_cell BK158.out 1).trans rfl; have hcz22_2 : w20.cell? ⟨gb158, 2, none⟩ = some (.slice none 0 0) := (blk_cell BK158.out 2).trans rfl; have hfz22_0 := blk_frozen BK158.out 0; have hfz22_1 := blk_frozen BK158.out 1; have hfz22_2 := blk_frozen BK158.out 2; have hcz23_0 : w20.cell? ⟨gb157, 0, none⟩ = some (.slice none 0 0) := (blk_cell BK157.out 0).trans rfl; have hcz23_1 : w20.cell? ⟨gb157, 1, none⟩ = some (.slice none 0 0) := (blk_cell BK157.out 1).trans rfl; have hcz23_2 : w20.cell? ⟨gb157, 2, none⟩ = some (.slice none 0 0) := (blk_cell BK157.out 2).trans rfl; have hfz23_0 := blk_frozen BK157.out 0; have hfz23_1 := blk_frozen BK157.out 1; have hfz23_2 := blk_frozen BK157.out 2))
 refine bodyPost_ret (results_cell_row rfl _ _ gb157 33 #[.slice Ao12 t159.length co12, .slice Ao17 t162.length co17, .slice Ao21 t165.length co21] (0, 0) _ rfl (by (with_reducible repeat (first | refine blk_drewN ?_ _ | refine blk_drew ?_ | refine blk_alloc ?_ _)); refine blk_put (cs := #[.slice Ao12 t159.length co12, .slice Ao17 t162.length co17, .slice none 0 0]) ?_ 2 _ rfl; (with_reducible repeat (first | refine blk_drewN ?_ _ | refine blk_drew ?_ | refine blk_alloc ?_ _)); refine blk_put (cs := #[.slice Ao12 t159.length co12, .slice none 0 0, .slice none 0 0]) ?_ 1 _ rfl; (with_reducible repeat (first | refine blk_drewN ?_ _ | refine blk_drew ?_ | refine blk_alloc ?_ _)); refine blk_put (cs := #[.slice none 0 0, .slice none 0 0, .slice none 0 0]) ?_ 0 _ rfl; (with_reducible repeat (first | refine blk_drewN ?_ _ | refine blk_drew ?_ | refine blk_alloc ?_ _)); refine blk_far ?_ NB157_158.out _; (with_reducible repeat (first | refine blk_drewN ?_ _ | refine blk_drew ?_ | refine blk_alloc ?_ _)); exact BK157.out) Try.underlying33 rfl (by kernel_rfl)) rfl ?_
 exact ⟨M_, _, _, _, by first | rfl | (simp [errW_none, errW_some] <;> rfl) | (simp [*, errW_none, errW_some] <;> rfl), by (with_reducible repeat (first | apply Kd.S_alloc | apply Kd.S_drewN | apply Kd.S_drew)); exact Kd.S_mono (Kd.S_far (p := ⟨gb157, 2, none⟩) (Kd.S_far (p := ⟨gb157, 1, none⟩) (Kd.S_far (p := ⟨gb157, 0, none⟩) (Kd.S_far (p := ⟨gb158, 2, none⟩) (Kd.S_types (Kd.S_types HO161.out BK158.out (by decide)) BK157.out (by decide)) (fun _ hk => hk.1.2) (.slice Ao21 t165.length co21)) (fun _ hk => hk.2) (.slice Ao12 t159.length co12)) (fun _ hk => hk.2) (.slice Ao17 t162.length co17)) (fun _ hk => hk.2) (.slice Ao21 t165.length co21)) (fun _ hk => ⟨hk.1.1.1.2, hk.1.1.2, hk.1.1.1.1⟩), by (with_reducible repeat (first | apply Kd.S_alloc | apply Kd.S_drewN | apply Kd.S_drew)); exact Kd.S_mono (Kd.S_far (p := ⟨gb157, 2, none⟩) (Kd.S_far (p := ⟨gb157, 1, none⟩) (Kd.S_far (p := ⟨gb157, 0, none⟩) (Kd.S_far (p := ⟨gb158, 2, none⟩) (Kd.S_types (Kd.S_types HO164.out BK158.out (by decide)) BK157.out (by decide)) (fun _ hk => hk.1.2) (.slice Ao21 t165.length co21)) (fun _ hk => hk.2) (.slice Ao12 t159.length co12)) (fun _ hk => hk.2) (.slice Ao17 t162.length co17)) (fun _ hk => hk.2) (.slice Ao21 t165.length co21)) (fun _ hk => ⟨hk.1.1.1.2, hk.1.1.2, hk.1.1.1.1⟩), by (with_reducible repeat (first | apply Kd.R_alloc | apply Kd.R_drewN | apply Kd.R_drew)); exact Kd.R_mono (Kd.R_far (p := ⟨gb157, 2, none⟩) (Kd.R_far (p := ⟨gb157, 1, none⟩) (Kd.R_far (p := ⟨gb157, 0, none⟩) (Kd.R_far (p := ⟨gb158, 2, none⟩) (Kd.R_types (Kd.R_types HO167.out BK158.out (by decide)) BK157.out (by decide)) (fun _ hk => hk.1.2) (.slice Ao21 t165.length co21)) (fun _ hk => hk.2) (.slice Ao12 t159.length co12)) (fun _ hk => hk.2) (.slice Ao17 t162.length co17)) (fun _ hk => hk.2) (.slice Ao21 t165.length co21)) (fun _ hk => trivial), by repeat (first | (with_reducible first | exact HB.out | apply below_alloc | apply pw_below_drewN | apply below_drew1 | refine below_set ?_ GE156.out | refine below_set ?_ GE157.out | refine below_set ?_ GE158.out) | exact HB.out)⟩
end Go.Proofs.Ytoipbblhmcpneaa.P
