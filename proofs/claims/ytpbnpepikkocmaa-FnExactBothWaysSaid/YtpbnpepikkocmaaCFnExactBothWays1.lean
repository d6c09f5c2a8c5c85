/- Functions, walks and plain lemmas that the law FnExactBothWays reaches, part 1. -/
import Derived.Test.YtpbnpepikkocmaaCFnExactBothWays0
import Derived.WalkKit
import Derived.ProofKit
import Derived.OpenShut
import Derived.ChangeOld
import Derived.Below
import Derived.SizedLaws
import Derived.ChangeArms
import Derived.DataElems
import Derived.Deep.Draws
import Derived.Deep.AppendLies
import Derived.Maps.AppendAt
import Derived.OwnWalk
import Derived.Laws.BytesArg
import Derived.Laws.MakeOwn
import Derived.Laws.OwnMore
import Derived.Deep.OwnRows
import Derived.Tactics
import Derived.Lib.ConvBytes
import Derived.Laws.Slices
import Derived.KernelRfl
import Derived.RowKit3
import Derived.Deep.LoopGhost
import Derived.Deep.QuietTactic
import Derived.BigQuiet
import Derived.WideLaws
import Derived.Deep.DeepCutAuto
import Derived.Deep.CutBlock
import Derived.Deep.RegionHeld3
import Derived.Laws.Rows
import Derived.Lib.AppendStr
import Derived.ArgAppend
import Derived.Laws.IdiomCopy
import Derived.OrdersHeld
import Derived.Laws.BitsLemmas
import Derived.RowKit
import Derived.WalkSpells
import Derived.Lib.SliceRun
import Derived.Shelf.Abstract
import Derived.ShutString
namespace Go.Proofs.YtpbnpepikkocmaaOpen
open Go.ChangeShapes Go.WideShapes Go.ChangeAt Go.RowKit Go.Proofs.YtpbnpepikkocmaaW.PrintWords
variable {H : Type} {enc : TypeId × Value → H} {P : Program} {W : World}
/-- Whatever reads as data of type t reads by the kind d, and is as wf says. -/
def Opens {H : Type} (enc : TypeId × Value → H) (P : Program) (W : World) (t : TypeId) {α : Type} (d : Kd α) (wf : α → Prop) : Prop :=
 ∀ (fuel : Nat) (cs : List Value) (x : DataW H × List MemPlace), DataW.trod enc P W 0 (fun _ => true) true fuel t cs = some x → ∃ a, d.K W a cs ∧ wf a
theorem opens_int {t : TypeId} {k : IntKind} (hu : P.underlying t = some (.int k)) : Opens enc P W t (Kd.int k) (fun n => (Lit.int k n).wf = true) := by
 intro fuel cs x h
 obtain ⟨n, rfl, _, hw⟩ := DataW.trod_int hu h
 exact ⟨n, rfl, hw⟩
theorem list_of {α : Type} {Q : Nat → α → Prop} : ∀ (n : Nat), (∀ i, i < n → ∃ a, Q i a) → ∃ l : List α, l.length = n ∧ ∀ i a, l[i]? = some a → Q i a
 | 0, _ => ⟨[], rfl, fun i a h => by simp at h⟩
 | n + 1, h => by
  obtain ⟨l, hl, hq⟩ := list_of n (fun i hi => h i (by omega))
  obtain ⟨a, ha⟩ := h n (by omega)
  refine ⟨l ++ [a], by simp [hl], fun i b hb => ?_⟩
  by_cases hi : i < l.length
  ·rw [List.getElem?_append_left hi] at hb
   exact hq i b hb
  ·rw [List.getElem?_append_right (by omega)] at hb
   have hz : i - l.length = 0 := by
    by_cases hz : i - l.length = 0
    ·exact hz
    ·rw [List.getElem?_eq_none (by simp; omega)] at hb
     cases hb
   rw [hz] at hb
   simp only [List.getElem?_cons_zero, Option.some.injEq] at hb
   subst hb
   have : i = n := by omega
   subst this
   exact ha
theorem opens_slice {t e : TypeId} {α : Type} {d : Kd α} {wf : α → Prop} (hu : P.underlying t = some (.slice e)) (hc : P.cellsOf e = d.sz) (hd : Opens enc P W e d wf) :
  Opens enc P W t (Kd.slice e d) (fun l => l.length ≤ maxLen ∧ ∀ x ∈ l, wf x) := by
 intro fuel cs x h
 rcases DataW.trod_slice hu h with ⟨rfl, _⟩ | ⟨a, len, cap, elems, rest, n, _, rfl, _, _, hl, hm, hlen, hel, _, _⟩
 ·refine ⟨[], ⟨none, 0, rfl, Nat.le_refl _, rfl, by simp, fun hp => absurd hp (by simp)⟩, by simp, by simp⟩
 ·have each : ∀ i, i < len → ∃ b : α, (∃ c : List Value, c.length = d.sz ∧ d.K W b c ∧ ∀ j u, c[j]? = some u → W.cell? (a.add (i * d.sz + j)) = some u) ∧ wf b := by
   intro i hi
   have h1 := hel i hi
   have hi' : i < elems.length := by omega
   rw [List.getElem?_eq_getElem hi', Option.bind_eq_some_iff] at h1
   obtain ⟨c, hcs, ht⟩ := h1
   obtain ⟨b, hb, hwf⟩ := hd _ _ _ ht
   obtain ⟨_, hclen, hcell⟩ := World.cells?_some hcs
   refine ⟨b, ⟨c, by rw [hclen, hc], hb, fun j u hj => ?_⟩, hwf⟩
   have hj' : j < P.cellsOf e := by
    have := (List.getElem?_eq_some_iff.1 hj).1
    omega
   have h2 := hcell j hj'
   rw [Addr.add_add, hj, hc] at h2
   exact h2
  obtain ⟨l, hll, hq⟩ := list_of len each
  subst hll
  refine ⟨l, ⟨some a, cap, rfl, hl, rfl, ?_, fun _ => ⟨a, rfl, fun j p hj => ?_⟩⟩, ?_, fun y hy => ?_⟩
  ·have : cap ≤ 9223372036854775807 := by unfold maxLen at hm; exact hm
   omega
  ·obtain ⟨⟨c, h1, h2, h3⟩, _⟩ := hq j p hj
   exact ⟨c, h1, h2, h3⟩
  ·omega
  ·obtain ⟨j, hj⟩ := List.getElem?_of_mem hy
   exact (hq j y hj).2
theorem cut3 {cs : List Value} {a b c : Nat} (h : cs.length = a + (b + c)) : cs = cs.take a ++ ((cs.drop a).take b ++ (cs.drop (a + b)).take c) := by
 rw [List.take_of_length_le (by simp; omega : (cs.drop (a + b)).length ≤ c), ← List.drop_drop, List.take_append_drop, List.take_append_drop]
theorem opens_struct3 {t : TypeId} {f0 f1 f2 : Field} {α β γ S : Type} {d0 : Kd α} {d1 : Kd β} {d2 : Kd γ} {w0 : α → Prop} {w1 : β → Prop} {w2 : γ → Prop} {f : S → α × (β × γ)} (g : α × (β × γ) → S)
  (hu : P.underlying t = some (.struct #[f0, f1, f2])) (hg : ∀ x, f (g x) = x) (hC : P.cellsOf t = d0.sz + (d1.sz + d2.sz))
  (o0 : f0.offset = 0) (o1 : f1.offset = d0.sz) (o2 : f2.offset = d0.sz + d1.sz) (c0 : P.cellsOf f0.type = d0.sz) (c1 : P.cellsOf f1.type = d1.sz) (c2 : P.cellsOf f2.type = d2.sz)
  (h0 : Opens enc P W f0.type d0 w0) (h1 : Opens enc P W f1.type d1 w1) (h2 : Opens enc P W f2.type d2 w2) :
  Opens enc P W t (Kd.iso (Kd.pair d0 (Kd.pair d1 d2)) f) (fun s => w0 (f s).1 ∧ w1 (f s).2.1 ∧ w2 (f s).2.2) := by
 intro fuel cs x h
 obtain ⟨xs, n, _, _, hl, hlen, hf⟩ := DataW.trod_struct hu h
 have e0 := hf 0 f0 rfl
 have e1 := hf 1 f1 rfl
 have e2 := hf 2 f2 rfl
 have hlen2 : xs.length = 3 := hlen
 rw [List.getElem?_eq_getElem (by omega)] at e0 e1 e2
 obtain ⟨a, ha, wa⟩ := h0 _ _ _ e0
 obtain ⟨b, hb, wb⟩ := h1 _ _ _ e1
 obtain ⟨c, hc, wc⟩ := h2 _ _ _ e2
 rw [o0, c0, List.drop_zero] at ha
 rw [o1, c1] at hb
 rw [o2, c2] at hc
 refine ⟨g (a, (b, c)), ?_, ?_⟩
 ·show (Kd.pair d0 (Kd.pair d1 d2)).K W (f (g (a, (b, c)))) cs
  rw [hg]
  exact ⟨_, _, cut3 (by rw [hl, hC]), ha, ⟨_, _, rfl, hb, hc⟩⟩
 ·simp only [hg]
  exact ⟨wa, wb, wc⟩
end Go.Proofs.YtpbnpepikkocmaaOpen
namespace Go.Proofs.Ytpbnpepikkocmaa.P
open Go.RowKit Go.Proofs.YtpbnpepikkocmaaW.PrintWords Go.Proofs.YtpbnpepikkocmaaW.PrintLast Go.Proofs.YtpbnpepikkocmaaW.PrintMore
attribute [local go_sem] max2_int min2_int max_two min_two max_three min_three max_four min_four   -- for this text's walks alone
set_option linter.unusedVariables false
set_option linter.unusedSimpArgs false
theorem info52:(Try.prog.info? 52).map (fun i=>(i.zero,i.size,i.bytes))=some (some (.agg #[(.int .i64 0),(.int .i64 0),(.int .i64 0)]),3,24):=by kernel_rfl
theorem info57:(Try.prog.info? 57).map (fun i=>(i.zero,i.size,i.bytes))=some (some (.agg #[(.int .i64 0),(.int .i64 0),(.int .i64 0)]),3,24):=by kernel_rfl
-- the values' own types
structure S52 where
 f0:Int
 f1:Int
 f2:Int
def z52:S52:=⟨(0:Int),(0:Int),(0:Int)⟩
def k52:Kd S52:=Kd.iso (Kd.pair (Kd.int .i64) (Kd.pair (Kd.int .i64) (Kd.int .i64))) (fun x:S52=>(x.f0,x.f1,x.f2))
theorem k52_open {w:World} {x:S52} {cs:List Value} (h:k52.K w x cs):cs= [.int .i64 x.f0,.int .i64 x.f1,.int .i64 x.f2]:=by
 obtain⟨_,_,rfl,rfl,⟨_,_,rfl,rfl,rfl⟩⟩:=h
 exact rfl
theorem k52_openM {w:World} {base:Nat} {ok:Nat→Prop} {x:S52} {cs:List Value} (h:k52.M w base ok x cs):cs= [.int .i64 x.f0,.int .i64 x.f1,.int .i64 x.f2]:=by
 obtain⟨_,_,rfl,rfl,⟨_,_,rfl,rfl,rfl⟩⟩:=h
 exact rfl
theorem k52_mkM (w:World) (base:Nat) (ok:Nat→Prop) (x:S52)  :k52.M w base ok x [.int .i64 x.f0,.int .i64 x.f1,.int .i64 x.f2]:=⟨[.int .i64 x.f0],[.int .i64 x.f1,.int .i64 x.f2],rfl,rfl,⟨[.int .i64 x.f1],[.int .i64 x.f2],rfl,rfl,rfl⟩⟩
def rd_T52 (xs:List S52) (i:Int):S52:=xs.getD i.toNat z52
theorem at_T52 {w:World} {A:Option Addr} {n:Nat} {xs:List S52} (h:Kd.C k52 w A n xs) (i:Int) (h0: 0≤i) (h1:i<n):∃ ad ,A=some ad∧w.cell? (ad.add (i.toNat * 3))=some (.int .i64 (rd_T52 xs i).f0)∧w.cell? ⟨(ad.add (i.toNat * 3)).block,(ad.add (i.toNat * 3)).off+1,none⟩=some (.int .i64 (rd_T52 xs i).f1)∧w.cell? ⟨(ad.add (i.toNat * 3)).block,(ad.add (i.toNat * 3)).off+2,none⟩=some (.int .i64 (rd_T52 xs i).f2):=by
 obtain⟨ad,c,e,_,hK,hc0⟩:=Kd.C_get h z52 i h0 h1
 have hc:∀ j u,c[j]?=some u→w.cell? (ad.add (i.toNat * 3+j))=some u:=hc0
 obtain rfl:=k52_open hK
 exact⟨ad,e,hc 0 _ rfl,by rw [← add_field _ _ 1 (by omega)];exact hc 1 _ rfl,by rw [← add_field _ _ 2 (by omega)];exact hc 2 _ rfl⟩
structure S70 where
 f0:Int
 f1:Int
 f2:Int
def z70:S70:=⟨(0:Int),(0:Int),(0:Int)⟩
def k70:Kd S70:=Kd.iso (Kd.pair (Kd.int .i64) (Kd.pair (Kd.int .i64) (Kd.int .i64))) (fun x:S70=>(x.f0,x.f1,x.f2))
theorem k70_open {w:World} {x:S70} {cs:List Value} (h:k70.K w x cs):cs= [.int .i64 x.f0,.int .i64 x.f1,.int .i64 x.f2]:=by
 obtain⟨_,_,rfl,rfl,⟨_,_,rfl,rfl,rfl⟩⟩:=h
 exact rfl
def rd_T70 (xs:List S70) (i:Int):S70:=xs.getD i.toNat z70
theorem at_T70 {w:World} {A:Option Addr} {n:Nat} {xs:List S70} (h:Kd.C k70 w A n xs) (i:Int) (h0: 0≤i) (h1:i<n):∃ ad ,A=some ad∧w.cell? (ad.add (i.toNat * 3))=some (.int .i64 (rd_T70 xs i).f0)∧w.cell? ⟨(ad.add (i.toNat * 3)).block,(ad.add (i.toNat * 3)).off+1,none⟩=some (.int .i64 (rd_T70 xs i).f1)∧w.cell? ⟨(ad.add (i.toNat * 3)).block,(ad.add (i.toNat * 3)).off+2,none⟩=some (.int .i64 (rd_T70 xs i).f2):=by
 obtain⟨ad,c,e,_,hK,hc0⟩:=Kd.C_get h z70 i h0 h1
 have hc:∀ j u,c[j]?=some u→w.cell? (ad.add (i.toNat * 3+j))=some u:=hc0
 obtain rfl:=k70_open hK
 exact⟨ad,e,hc 0 _ rfl,by rw [← add_field _ _ 1 (by omega)];exact hc 1 _ rfl,by rw [← add_field _ _ 2 (by omega)];exact hc 2 _ rfl⟩
structure S57 where
 f0:Int
 f1:Int
 f2:Int
def z57:S57:=⟨(0:Int),(0:Int),(0:Int)⟩
def k57:Kd S57:=Kd.iso (Kd.pair (Kd.int .i64) (Kd.pair (Kd.int .i64) (Kd.int .i64))) (fun x:S57=>(x.f0,x.f1,x.f2))
theorem k57_open {w:World} {x:S57} {cs:List Value} (h:k57.K w x cs):cs= [.int .i64 x.f0,.int .i64 x.f1,.int .i64 x.f2]:=by
 obtain⟨_,_,rfl,rfl,⟨_,_,rfl,rfl,rfl⟩⟩:=h
 exact rfl
theorem k57_openM {w:World} {base:Nat} {ok:Nat→Prop} {x:S57} {cs:List Value} (h:k57.M w base ok x cs):cs= [.int .i64 x.f0,.int .i64 x.f1,.int .i64 x.f2]:=by
 obtain⟨_,_,rfl,rfl,⟨_,_,rfl,rfl,rfl⟩⟩:=h
 exact rfl
theorem k57_mkM (w:World) (base:Nat) (ok:Nat→Prop) (x:S57)  :k57.M w base ok x [.int .i64 x.f0,.int .i64 x.f1,.int .i64 x.f2]:=⟨[.int .i64 x.f0],[.int .i64 x.f1,.int .i64 x.f2],rfl,rfl,⟨[.int .i64 x.f1],[.int .i64 x.f2],rfl,rfl,rfl⟩⟩
def rd_T57 (xs:List S57) (i:Int):S57:=xs.getD i.toNat z57
theorem at_T57 {w:World} {A:Option Addr} {n:Nat} {xs:List S57} (h:Kd.C k57 w A n xs) (i:Int) (h0: 0≤i) (h1:i<n):∃ ad ,A=some ad∧w.cell? (ad.add (i.toNat * 3))=some (.int .i64 (rd_T57 xs i).f0)∧w.cell? ⟨(ad.add (i.toNat * 3)).block,(ad.add (i.toNat * 3)).off+1,none⟩=some (.int .i64 (rd_T57 xs i).f1)∧w.cell? ⟨(ad.add (i.toNat * 3)).block,(ad.add (i.toNat * 3)).off+2,none⟩=some (.int .i64 (rd_T57 xs i).f2):=by
 obtain⟨ad,c,e,_,hK,hc0⟩:=Kd.C_get h z57 i h0 h1
 have hc:∀ j u,c[j]?=some u→w.cell? (ad.add (i.toNat * 3+j))=some u:=hc0
 obtain rfl:=k57_open hK
 exact⟨ad,e,hc 0 _ rfl,by rw [← add_field _ _ 1 (by omega)];exact hc 1 _ rfl,by rw [← add_field _ _ 2 (by omega)];exact hc 2 _ rfl⟩
def spec_l1In.f (a0:Int) (a1:Int) (a2:Int):Option (Bool):=if a0≥a1 then(some (decide (a0≤a2))) else(some false)
set_option maxHeartbeats 8000000 in
set_option maxRecDepth 100000 in
theorem spec_l1In.calls (a0:Int) (a1:Int) (a2:Int) (r:Bool) (w:World) (h:spec_l1In.f a0 a1 a2=some r):
  Calls Try.prog 50 #[.int .i64 a0,.int .i64 a1,.int .i64 a2] w fun e w'=>e= .returned (.bool r)∧Drawn0 w w':=by
 have H:(if a0≥a1 then(some (decide (a0≤a2))) else(some false))=some r:=h
 clear h
 by_cases c4:a0≥a1
 ·rw [if_pos c4] at H
  have c4b0:decide (a1≤a0)=true:=decide_eq_true c4
  clear c4
  obtain rfl:=Option.some.inj H
  go_enter Try.func50,Try.ntmps50
  go_wp2
  go_ret
  exact⟨by first|rfl|(simp;done)|(simp [*];done),by repeat(first|exact Drawn0.refl _|apply Drawn0.step)⟩
 ·rw [if_neg c4] at H
  have c4b0:decide (a1≤a0)=false:=decide_eq_false c4
  clear c4
  obtain rfl:=Option.some.inj H
  go_enter Try.func50,Try.ntmps50
  go_wp2
  go_ret
  exact⟨by first|rfl|(simp;done)|(simp [*];done),by repeat(first|exact Drawn0.refl _|apply Drawn0.step)⟩
def impl_in.f (a0:Int) (a1:Int) (a2:Int):Option (Bool):=if a0≥a1 then(some (decide (a0≤a2))) else(some false)
set_option maxHeartbeats 8000000 in
set_option maxRecDepth 100000 in
theorem impl_in.calls (a0:Int) (a1:Int) (a2:Int) (r:Bool) (w:World) (h:impl_in.f a0 a1 a2=some r):
  Calls Try.prog 54 #[.int .i64 a0,.int .i64 a1,.int .i64 a2] w fun e w'=>e= .returned (.bool r)∧Drawn0 w w':=by
 have H:(if a0≥a1 then(some (decide (a0≤a2))) else(some false))=some r:=h
 clear h
 by_cases c4:a0≥a1
 ·rw [if_pos c4] at H
  have c4b0:decide (a1≤a0)=true:=decide_eq_true c4
  clear c4
  obtain rfl:=Option.some.inj H
  go_enter Try.func54,Try.ntmps54
  go_wp2
  go_ret
  exact⟨by first|rfl|(simp;done)|(simp [*];done),by repeat(first|exact Drawn0.refl _|apply Drawn0.step)⟩
 ·rw [if_neg c4] at H
  have c4b0:decide (a1≤a0)=false:=decide_eq_false c4
  clear c4
  obtain rfl:=Option.some.inj H
  go_enter Try.func54,Try.ntmps54
  go_wp2
  go_ret
  exact⟨by first|rfl|(simp;done)|(simp [*];done),by repeat(first|exact Drawn0.refl _|apply Drawn0.step)⟩
def impl_isSpots.f (a0:Int):Option (Bool):=(impl_in.f a0 1 12).bind fun t138=>(some t138)
theorem zq2 {p:Prop} (h:p:=by(try simp only [List.map_toArray,List.map_cons,List.map_nil]);first|done|rfl|(simp only [List.length_drop,List.length_take];rfl)):p:=h
set_option maxHeartbeats 8000000 in
set_option maxRecDepth 100000 in
theorem impl_isSpots.calls (a0:Int) (r:Bool) (w:World) (h:impl_isSpots.f a0=some r):
  Calls Try.prog 53 #[.int .i64 a0] w fun e w'=>e= .returned (.bool r)∧Drawn0 w w':=by
 have H:((impl_in.f a0 1 12).bind fun t138=>(some t138))=some r:=h
 clear h
 replace H:=Option.bind_eq_some_iff.mp H
 obtain⟨t138,A20,H⟩:=H
 replace H:(some t138)=some r:=H
 have A2:=Aside0.mk A20
 clear A20
 obtain rfl:=Option.some.inj H
 go_enter Try.func53,Try.ntmps53
 go_wp2_with (first|((with_reducible refine gate_callee (f:=54) rfl ?_);refine goesL_ (some 4) rfl rfl Try.func54 (by kernel_rfl) rfl #[.int .i64 a0,.int .i64 1,.int .i64 12] rfl zq2 ?_;(with_reducible refine(impl_in.calls a0 1 12 t138 _ A2.out).mono ?_);rintro e w' ⟨rfl,⟨nd,rfl⟩⟩;refine⟨_,rfl,?_⟩))
 go_ret
 exact⟨by first|rfl|(simp;done)|(simp [*];done),by repeat(first|exact Drawn0.refl _|apply Drawn0.step)⟩
def laws_eqEdge.f (a0_0:Int) (a0_1:Int) (a0_2:Int) (a1_0:Int) (a1_1:Int) (a1_2:Int):Option (Bool):=if a0_0=a1_0 then(if a0_1=a1_1 then(if a0_2=a1_2 then(some true) else(some false)) else(some false)) else(some false)
theorem zcz {w:World} {g t:Nat} {cells:Array Value} (b:Aside0 (w.heap[g]?=some (.cells cells t (0,0)))) (i:Nat) (v:Value) (h:cells[i]?=some v:=by rfl):w.cell? ⟨g,i,none⟩=some v:=(blk_cell b.out i).trans h
theorem zer {p:Prop} (h:p:=by first|rfl|(simp [errW_none,errW_some]<;>rfl)|(simp [*,errW_none,errW_some]<;>rfl)):p:=h
theorem zk1 {q p:Prop} (b:Aside0 q) (h:q→p:=by intro z;repeat(first|(with_reducible first|exact z|apply below_alloc|apply pw_below_drewN|apply below_drew1)|exact z)):p:=h b.out
theorem zk2 {q r1 p:Prop} (b:Aside0 q) (b1:r1) (h:q→r1→p:=by intro z g1;repeat(first|(with_reducible first|exact z|apply below_alloc|apply pw_below_drewN|apply below_drew1|refine below_set ?_ g1)|exact z)):p:=h b.out b1
theorem zk3 {q r1 r2 p:Prop} (b:Aside0 q) (b1:r1) (b2:r2) (h:q→r1→r2→p:=by intro z g1 g2;repeat(first|(with_reducible first|exact z|apply below_alloc|apply pw_below_drewN|apply below_drew1|refine below_set ?_ g1|refine below_set ?_ g2)|exact z)):p:=h b.out b1 b2
theorem zq3 {q p:Prop} (b:Aside0 q) (h:q→p:=by intro z;(with_reducible repeat(first|refine blk_drewN ?_ _|refine blk_drew ?_ |refine blk_alloc ?_ _));exact z):p:=h b.out
set_option maxHeartbeats 8000000 in
set_option maxRecDepth 100000 in
theorem laws_eqEdge.calls (a0_0:Int) (a0_1:Int) (a0_2:Int) (a1_0:Int) (a1_1:Int) (a1_2:Int) (r:Bool) (w:World) (h:laws_eqEdge.f a0_0 a0_1 a0_2 a1_0 a1_1 a1_2=some r):
  Calls Try.prog 48 #[.agg #[.int .i64 a0_0,.int .i64 a0_1,.int .i64 a0_2],.agg #[.int .i64 a1_0,.int .i64 a1_1,.int .i64 a1_2]] w fun e w'=>e= .returned (.bool r)∧Below w.heap.size w w':=by
 have hu52:=Try.underlying52
 have HB:=Aside0.mk (Below.refl w.heap.size w)
 have H:(if a0_0=a1_0 then(if a0_1=a1_1 then(if a0_2=a1_2 then(some true) else(some false)) else(some false)) else(some false))=some r:=h
 clear h
 by_cases c3:a0_0=a1_0
 ·rw [if_pos c3] at H
  have c3b0:(a0_0==a1_0)=true:=beq_iff_eq.mpr c3
  have c3b1:(a0_0 !=a1_0)=false:=bne_eq_false_iff_eq.mpr c3
  clear c3
  by_cases c4:a0_1=a1_1
  ·rw [if_pos c4] at H
   have c4b0:(a0_1==a1_1)=true:=beq_iff_eq.mpr c4
   have c4b1:(a0_1 !=a1_1)=false:=bne_eq_false_iff_eq.mpr c4
   clear c4
   by_cases c5:a0_2=a1_2
   ·rw [if_pos c5] at H
    have c5b0:(a0_2==a1_2)=true:=beq_iff_eq.mpr c5
    have c5b1:(a0_2 !=a1_2)=false:=bne_eq_false_iff_eq.mpr c5
    clear c5
    obtain rfl:=Option.some.inj H
    go_enter Try.func48,Try.ntmps48
    go_wp2_with (first|((with_reducible refine gate_dst (N:=2) rfl ?_);refine box_event ?hg (N:=2) ?hd (cs:= #[.int .i64 a0_0,.int .i64 a0_1,.int .i64 a0_2]) (t:=52) ?hr ?_;(case hd=>rfl);(case hg=>rfl);(case hr=>first|(go_simp;done)|(go_simp;rfl));intro gb193 hg w6 hbox hb;have BK193:=Aside0.mk (hbox);have GW193:=Aside0.mk ((by rw [hg];exact(below_size (by exact zk1 HB)):w.heap.size≤gb193));have GE193:=GW193;replace HB:=Aside0.mk (below_step (by exact zk1 HB) hb);clear hb hbox hg)|((with_reducible refine gate_dst (N:=3) rfl ?_);refine box_event ?hg (N:=3) ?hd (cs:= #[.int .i64 a1_0,.int .i64 a1_1,.int .i64 a1_2]) (t:=52) ?hr ?_;(case hd=>rfl);(case hg=>rfl);(case hr=>first|(go_simp;done)|(go_simp;rfl));intro gb194 hg w7 hbox hb;have BK194:=Aside0.mk (hbox);have GW194:=Aside0.mk ((by rw [hg];exact(below_size (by exact zk2 HB GE193.out)):w.heap.size≤gb194));have GE194:=GW194;have NB193_194:=Aside0.mk ((by rw [hg];exact Nat.ne_of_lt (blk_lt (g:=gb193) (o:= .cells #[.int .i64 a0_0,.int .i64 a0_1,.int .i64 a0_2] 52 (0,0)) (zq3 BK193)):gb193≠gb194));have NB194_193:=Aside0.mk ((by rw [hg];exact Nat.ne_of_gt (blk_lt (g:=gb193) (o:= .cells #[.int .i64 a0_0,.int .i64 a0_1,.int .i64 a0_2] 52 (0,0)) (zq3 BK193)):gb194≠gb193));replace BK193:=Aside0.mk (blk_below (g:=gb193) (o:= .cells #[.int .i64 a0_0,.int .i64 a0_1,.int .i64 a0_2] 52 (0,0)) (zq3 BK193) hb);replace HB:=Aside0.mk (below_step (by exact zk2 HB GE193.out) hb);clear hb hbox hg;have hnb8:=NB193_194.out;have hnc8:=NB194_193.out;have hcz9_0:=zcz BK193 0 (.int .i64 a0_0);have hcz9_1:=zcz BK193 1 (.int .i64 a0_1);have hcz9_2:=zcz BK193 2 (.int .i64 a0_2);have hfz9_0:=blk_frozen BK193.out 0;have hfz9_1:=blk_frozen BK193.out 1;have hfz9_2:=blk_frozen BK193.out 2;have hcz10_0:=zcz BK194 0 (.int .i64 a1_0);have hcz10_1:=zcz BK194 1 (.int .i64 a1_1);have hcz10_2:=zcz BK194 2 (.int .i64 a1_2);have hfz10_0:=blk_frozen BK194.out 0;have hfz10_1:=blk_frozen BK194.out 1;have hfz10_2:=blk_frozen BK194.out 2))
    go_ret
    exact⟨zer,by exact zk3 HB GE193.out GE194.out⟩
   ·rw [if_neg c5] at H
    have c5b0:(a0_2==a1_2)=false:=beq_eq_false_iff_ne.mpr c5
    have c5b1:(a0_2 !=a1_2)=true:=bne_iff_ne.mpr c5
    obtain rfl:=Option.some.inj H
    go_enter Try.func48,Try.ntmps48
    go_wp2_with (first|((with_reducible refine gate_dst (N:=2) rfl ?_);refine box_event ?hg (N:=2) ?hd (cs:= #[.int .i64 a0_0,.int .i64 a0_1,.int .i64 a0_2]) (t:=52) ?hr ?_;(case hd=>rfl);(case hg=>rfl);(case hr=>first|(go_simp;done)|(go_simp;rfl));intro gb193 hg w11 hbox hb;have BK193:=Aside0.mk (hbox);have GW193:=Aside0.mk ((by rw [hg];exact(below_size (by exact zk1 HB)):w.heap.size≤gb193));have GE193:=GW193;replace HB:=Aside0.mk (below_step (by exact zk1 HB) hb);clear hb hbox hg)|((with_reducible refine gate_dst (N:=3) rfl ?_);refine box_event ?hg (N:=3) ?hd (cs:= #[.int .i64 a1_0,.int .i64 a1_1,.int .i64 a1_2]) (t:=52) ?hr ?_;(case hd=>rfl);(case hg=>rfl);(case hr=>first|(go_simp;done)|(go_simp;rfl));intro gb194 hg w12 hbox hb;have BK194:=Aside0.mk (hbox);have GW194:=Aside0.mk ((by rw [hg];exact(below_size (by exact zk2 HB GE193.out)):w.heap.size≤gb194));have GE194:=GW194;have NB193_194:=Aside0.mk ((by rw [hg];exact Nat.ne_of_lt (blk_lt (g:=gb193) (o:= .cells #[.int .i64 a0_0,.int .i64 a0_1,.int .i64 a0_2] 52 (0,0)) (zq3 BK193)):gb193≠gb194));have NB194_193:=Aside0.mk ((by rw [hg];exact Nat.ne_of_gt (blk_lt (g:=gb193) (o:= .cells #[.int .i64 a0_0,.int .i64 a0_1,.int .i64 a0_2] 52 (0,0)) (zq3 BK193)):gb194≠gb193));replace BK193:=Aside0.mk (blk_below (g:=gb193) (o:= .cells #[.int .i64 a0_0,.int .i64 a0_1,.int .i64 a0_2] 52 (0,0)) (zq3 BK193) hb);replace HB:=Aside0.mk (below_step (by exact zk2 HB GE193.out) hb);clear hb hbox hg;have hnb13:=NB193_194.out;have hnc13:=NB194_193.out;have hcz14_0:=zcz BK193 0 (.int .i64 a0_0);have hcz14_1:=zcz BK193 1 (.int .i64 a0_1);have hcz14_2:=zcz BK193 2 (.int .i64 a0_2);have hfz14_0:=blk_frozen BK193.out 0;have hfz14_1:=blk_frozen BK193.out 1;have hfz14_2:=blk_frozen BK193.out 2;have hcz15_0:=zcz BK194 0 (.int .i64 a1_0);have hcz15_1:=zcz BK194 1 (.int .i64 a1_1);have hcz15_2:=zcz BK194 2 (.int .i64 a1_2);have hfz15_0:=blk_frozen BK194.out 0;have hfz15_1:=blk_frozen BK194.out 1;have hfz15_2:=blk_frozen BK194.out 2))
    go_ret
    exact⟨zer,by exact zk3 HB GE193.out GE194.out⟩
  ·rw [if_neg c4] at H
   have c4b0:(a0_1==a1_1)=false:=beq_eq_false_iff_ne.mpr c4
   have c4b1:(a0_1 !=a1_1)=true:=bne_iff_ne.mpr c4
   obtain rfl:=Option.some.inj H
   go_enter Try.func48,Try.ntmps48
   go_wp2_with (first|((with_reducible refine gate_dst (N:=2) rfl ?_);refine box_event ?hg (N:=2) ?hd (cs:= #[.int .i64 a0_0,.int .i64 a0_1,.int .i64 a0_2]) (t:=52) ?hr ?_;(case hd=>rfl);(case hg=>rfl);(case hr=>first|(go_simp;done)|(go_simp;rfl));intro gb193 hg w16 hbox hb;have BK193:=Aside0.mk (hbox);have GW193:=Aside0.mk ((by rw [hg];exact(below_size (by exact zk1 HB)):w.heap.size≤gb193));have GE193:=GW193;replace HB:=Aside0.mk (below_step (by exact zk1 HB) hb);clear hb hbox hg)|((with_reducible refine gate_dst (N:=3) rfl ?_);refine box_event ?hg (N:=3) ?hd (cs:= #[.int .i64 a1_0,.int .i64 a1_1,.int .i64 a1_2]) (t:=52) ?hr ?_;(case hd=>rfl);(case hg=>rfl);(case hr=>first|(go_simp;done)|(go_simp;rfl));intro gb194 hg w17 hbox hb;have BK194:=Aside0.mk (hbox);have GW194:=Aside0.mk ((by rw [hg];exact(below_size (by exact zk2 HB GE193.out)):w.heap.size≤gb194));have GE194:=GW194;have NB193_194:=Aside0.mk ((by rw [hg];exact Nat.ne_of_lt (blk_lt (g:=gb193) (o:= .cells #[.int .i64 a0_0,.int .i64 a0_1,.int .i64 a0_2] 52 (0,0)) (zq3 BK193)):gb193≠gb194));have NB194_193:=Aside0.mk ((by rw [hg];exact Nat.ne_of_gt (blk_lt (g:=gb193) (o:= .cells #[.int .i64 a0_0,.int .i64 a0_1,.int .i64 a0_2] 52 (0,0)) (zq3 BK193)):gb194≠gb193));replace BK193:=Aside0.mk (blk_below (g:=gb193) (o:= .cells #[.int .i64 a0_0,.int .i64 a0_1,.int .i64 a0_2] 52 (0,0)) (zq3 BK193) hb);replace HB:=Aside0.mk (below_step (by exact zk2 HB GE193.out) hb);clear hb hbox hg;have hnb18:=NB193_194.out;have hnc18:=NB194_193.out;have hcz19_0:=zcz BK193 0 (.int .i64 a0_0);have hcz19_1:=zcz BK193 1 (.int .i64 a0_1);have hcz19_2:=zcz BK193 2 (.int .i64 a0_2);have hfz19_0:=blk_frozen BK193.out 0;have hfz19_1:=blk_frozen BK193.out 1;have hfz19_2:=blk_frozen BK193.out 2;have hcz20_0:=zcz BK194 0 (.int .i64 a1_0);have hcz20_1:=zcz BK194 1 (.int .i64 a1_1);have hcz20_2:=zcz BK194 2 (.int .i64 a1_2);have hfz20_0:=blk_frozen BK194.out 0;have hfz20_1:=blk_frozen BK194.out 1;have hfz20_2:=blk_frozen BK194.out 2))
   go_ret
   exact⟨zer,by exact zk3 HB GE193.out GE194.out⟩
 ·rw [if_neg c3] at H
  have c3b0:(a0_0==a1_0)=false:=beq_eq_false_iff_ne.mpr c3
  have c3b1:(a0_0 !=a1_0)=true:=bne_iff_ne.mpr c3
  obtain rfl:=Option.some.inj H
  go_enter Try.func48,Try.ntmps48
  go_wp2_with (first|((with_reducible refine gate_dst (N:=2) rfl ?_);refine box_event ?hg (N:=2) ?hd (cs:= #[.int .i64 a0_0,.int .i64 a0_1,.int .i64 a0_2]) (t:=52) ?hr ?_;(case hd=>rfl);(case hg=>rfl);(case hr=>first|(go_simp;done)|(go_simp;rfl));intro gb193 hg w21 hbox hb;have BK193:=Aside0.mk (hbox);have GW193:=Aside0.mk ((by rw [hg];exact(below_size (by exact zk1 HB)):w.heap.size≤gb193));have GE193:=GW193;replace HB:=Aside0.mk (below_step (by exact zk1 HB) hb);clear hb hbox hg)|((with_reducible refine gate_dst (N:=3) rfl ?_);refine box_event ?hg (N:=3) ?hd (cs:= #[.int .i64 a1_0,.int .i64 a1_1,.int .i64 a1_2]) (t:=52) ?hr ?_;(case hd=>rfl);(case hg=>rfl);(case hr=>first|(go_simp;done)|(go_simp;rfl));intro gb194 hg w22 hbox hb;have BK194:=Aside0.mk (hbox);have GW194:=Aside0.mk ((by rw [hg];exact(below_size (by exact zk2 HB GE193.out)):w.heap.size≤gb194));have GE194:=GW194;have NB193_194:=Aside0.mk ((by rw [hg];exact Nat.ne_of_lt (blk_lt (g:=gb193) (o:= .cells #[.int .i64 a0_0,.int .i64 a0_1,.int .i64 a0_2] 52 (0,0)) (zq3 BK193)):gb193≠gb194));have NB194_193:=Aside0.mk ((by rw [hg];exact Nat.ne_of_gt (blk_lt (g:=gb193) (o:= .cells #[.int .i64 a0_0,.int .i64 a0_1,.int .i64 a0_2] 52 (0,0)) (zq3 BK193)):gb194≠gb193));replace BK193:=Aside0.mk (blk_below (g:=gb193) (o:= .cells #[.int .i64 a0_0,.int .i64 a0_1,.int .i64 a0_2] 52 (0,0)) (zq3 BK193) hb);replace HB:=Aside0.mk (below_step (by exact zk2 HB GE193.out) hb);clear hb hbox hg;have hnb23:=NB193_194.out;have hnc23:=NB194_193.out;have hcz24_0:=zcz BK193 0 (.int .i64 a0_0);have hcz24_1:=zcz BK193 1 (.int .i64 a0_1);have hcz24_2:=zcz BK193 2 (.int .i64 a0_2);have hfz24_0:=blk_frozen BK193.out 0;have hfz24_1:=blk_frozen BK193.out 1;have hfz24_2:=blk_frozen BK193.out 2;have hcz25_0:=zcz BK194 0 (.int .i64 a1_0);have hcz25_1:=zcz BK194 1 (.int .i64 a1_1);have hcz25_2:=zcz BK194 2 (.int .i64 a1_2);have hfz25_0:=blk_frozen BK194.out 0;have hfz25_1:=blk_frozen BK194.out 1;have hfz25_2:=blk_frozen BK194.out 2))
  go_ret
  exact⟨zer,by exact zk3 HB GE193.out GE194.out⟩
def laws_eqEdgeS.l0:Nat→List (S52)→List (S52)→Int→Option (Bool)
 | 0,_,_,_=>none
 |k+1,x0,x1,x5=>if x5< (x0.length:Int) then(if 0≤x5 then(if x5< (x1.length:Int) then((laws_eqEdge.f ((rd_T52 x0 x5).f0) ((rd_T52 x0 x5).f1) ((rd_T52 x0 x5).f2) ((rd_T52 x1 x5).f0) ((rd_T52 x1 x5).f1) ((rd_T52 x1 x5).f2)).bind fun t197=>(if t197=true then(laws_eqEdgeS.l0 k x0 x1 (wrap64 (x5+1))) else(some false))) else(none)) else(none)) else(some true)
def laws_eqEdgeS.f (k:Nat) (l0:List (S52)) (l1:List (S52)):Option (Bool):=if (l0.length:Int)= (l1.length:Int) then(laws_eqEdgeS.l0 k l0 l1 0) else(some false)
def laws_eqEdgeS.T6:Bool × List (List Nat × List Nat):=(true,[([],[]),([],[]),([0,1],[0,1]),([2],[2]),([],[]),([],[]),([4,5],[4,5]),([6],[6]),([3,7],[3,7]),([8],[8])])
def laws_eqEdgeS.B6:List Nat:= [0,0,3,7,0,0,48,112,255,511]
theorem laws_eqEdgeS.tab6:rtab .any (opsOf Try.f14 6)=laws_eqEdgeS.T6:=by kernel_rfl
theorem laws_eqEdgeS.bits6:waitsOk laws_eqEdgeS.T6.2 laws_eqEdgeS.B6=true:=by kernel_rfl
def mb' (n m:Nat):Array Bool:=((List.range n).map fun i=>m.testBit i).toArray
theorem zhx {w W:World} {a:Addr} {v:Value} (b:Aside0 (Below w.heap.size w W)) (h:w.cell? a=some v):W.cell? a=some v:=(b.out.cell (World.block_lt_of_cell? w _ h)).trans h
theorem znn {α :Type} {c:Prop} [Decidable c] {x:Option α} {r: α} {q:Prop} (h:¬ c) (H:(if c then x else none)=some r):q:=by rw [if_neg h] at H;cases H
theorem zp1 {P:Program} {ops:Array Oper} {Q:Exit→Act→World→Prop} {md:Region.Mode} {S:World→Prop} {ds:List Nat} {T:Bool × List (List Nat × List Nat)} {oi:Oper} {v:Value} {fuel:Nat} {l:Array Bool} {a:Act} {w:World} (hT:Aside0 (rtab md ops=T)) (i n:Nat) (l':Array Bool) (hi:ops[i]?=some oi) {a':Act} (h:wpAnyLast P md ops Q S ds fuel l' a' w) (hr:∀ w,(execOp a.eval oi).run P w= .ok (.value v) w:=by intro w';go_simp;with_reducible rfl) (ha:a.put (some n) v=a':=by simp only [Act.put,List.setIfInBounds_toArray,List.set_cons_zero,List.set_cons_succ,i64_w,i32_w];rfl) (hc:anyT T l.toList l'.toList i=true:=by kernel_rfl) (hw:Region.wanted oi (yielded ops a.tmps)=true:=by rfl) (hN:oi.dst=some n:=by rfl) (hQ:∀ c a w,Q (.panic c) (a.put oi.dst v) w→Q (.panic c) a w:=by exact fun _ _ _ h=>h):wpAnyLast P md ops Q S ds (fuel+1) l a w:=pure_ (i:=i) l' hi hN (any_of hT.out hc) hQ (Or.inl ⟨hw,hr⟩) ha h
theorem zpa {a b:Act} (h:a=b:=by simp only [Act.put,List.setIfInBounds_toArray,List.set_cons_zero,List.set_cons_succ,i64_w,i32_w];rfl):a=b:=h
theorem zq1 {p:Prop} (h:p:=by first|(with_reducible assumption)|assumption):p:=h
theorem zrs {p:Prop} (h:p:=by first|rfl|(simp;done)|(simp [*];done)):p:=h
theorem zt1 {P:Program} {ops:Array Oper} {Q:Exit→Act→World→Prop} {md:Region.Mode} {S:World→Prop} {ds:List Nat} {T:Bool × List (List Nat × List Nat)} {B:List Nat} {oi:Oper} {v:Value} {fuel:Nat} {l:Array Bool} {a:Act} {w:World} (hT:Aside0 (rtab md ops=T)) (hB:Aside0 (waitsOk T.2 B=true)) (i n:Nat) (l':Array Bool) (hi:ops[i]?=some oi) (hr:∀ w,S w→ (execOp a.eval oi).run P w= .ok (.value v) w) (hS:S w) {a':Act} (ha:a.put (some n) v=a') (h:wpAnyLast P md ops Q S ds fuel l' a' w) (hc:takeW T B ds l.toList l'.toList i=true:=by kernel_rfl) (hw:Region.wanted oi (yielded ops a.tmps)=true:=by rfl) (hN:oi.dst=some n:=by rfl) (hQ:∀ c a w,Q (.panic c) (a.put oi.dst v) w→Q (.panic c) a w:=by exact fun _ _ _ h=>h):wpAnyLast P md ops Q S ds (fuel+1) l a w:=take_ (i:=i) l' hi hN (take_ofW hT.out hB.out hc) hQ (Or.inl ⟨hw,hr⟩) hS ha h
set_option maxHeartbeats 8000000 in
set_option maxRecDepth 100000 in
theorem laws_eqEdgeS.calls (k:Nat) (A0:Option Addr) (c0:Nat) (l0:List (S52)) (A1:Option Addr) (c1:Nat) (l1:List (S52)) (r:Bool) (w:World) (hr0:Kd.C k52 w A0 l0.length l0) (hc0:l0.length≤c0) (hr1:Kd.C k52 w A1 l1.length l1) (hc1:l1.length≤c1) (h:laws_eqEdgeS.f k l0 l1=some r):
  Calls Try.prog 14 #[.slice A0 l0.length c0,.slice A1 l1.length c1] w fun e w'=>e= .returned (.bool r)∧Below w.heap.size w w':=by
 have hu52:=Try.underlying52
 have HR0:=Aside0.mk hr0
 have HC0:=Aside0.mk hc0
 clear hr0 hc0
 have HR1:=Aside0.mk hr1
 have HC1:=Aside0.mk hc1
 clear hr1 hc1
 have HB:=Aside0.mk (Below.refl w.heap.size w)
 have H:(if (l0.length:Int)= (l1.length:Int) then(laws_eqEdgeS.l0 k l0 l1 0) else(some false))=some r:=h
 clear h
 by_cases c3:(l0.length:Int)= (l1.length:Int)
 ·rw [if_pos c3] at H
  have c3b0:((l0.length:Int)== (l1.length:Int))=true:=beq_iff_eq.mpr c3
  have c3b1:((l0.length:Int) != (l1.length:Int))=false:=bne_eq_false_iff_eq.mpr c3
  have c3b2:(l0.length==l1.length)=true:=by first|simpa using c3|(simp at c3 ⊢;omega)
  clear c3
  have H':=Aside0.mk H
  clear H
  go_enter Try.func14,Try.ntmps14
  go_wp2
  go_loopg [5] k (fun kq v5 w'=> ∃ (x5_1:Int),v5= .int .i64 x5_1∧Aside0 (laws_eqEdgeS.l0 kq l0 l1 x5_1=some r)∧Aside0 (kq≤k)∧Aside0 (Below w.heap.size w w'))
  case atStart=>exact⟨(0),zrs,H',⟨Nat.le_refl _⟩,⟨by exact zk1 HB⟩⟩
  case round=>
   clear H'
   try clear c1
   try clear p2
   try clear c3
   try clear c3b0
   try clear c3b1
   try clear c3b2
   obtain⟨x5_1,rfl,HA,HK1,HB⟩:=hrel
   cases gk with
   |zero=>exact absurd HA.out (by simp [laws_eqEdgeS.l0])
   |succ k1=>
    have H:=HA.out
    clear HA
    simp only [laws_eqEdgeS.l0] at H
    by_cases c4:x5_1< (l0.length:Int)
    ·rw [if_pos c4] at H
     have c4b0:decide (x5_1< (l0.length:Int))=true:=decide_eq_true c4
     clear c4
     by_cases c5: 0≤x5_1
     case neg=>exact znn c5 H
     rw [if_pos c5] at H
     have c5b0:decide (0≤x5_1)=true:=decide_eq_true c5
     clear c5
     by_cases c6:x5_1< (l1.length:Int)
     case neg=>exact znn c6 H
     rw [if_pos c6] at H
     have c6b0:decide (x5_1< (l1.length:Int))=true:=decide_eq_true c6
     clear c6
     replace H:=Option.bind_eq_some_iff.mp H
     obtain⟨t197,A70,H⟩:=H
     replace H:(if t197=true then(laws_eqEdgeS.l0 k1 l0 l1 (wrap64 (x5_1+1))) else(some false))=some r:=H
     have A7:=Aside0.mk A70
     clear A70
     by_cases c8:t197=true
     ·subst c8
      have H1:(laws_eqEdgeS.l0 k1 l0 l1 (wrap64 (x5_1+1)))=some r:=by rw [if_pos rfl] at H;exact H
      clear H
      have H:=H1
      clear H1
      have H':=Aside0.mk H
      clear H
      try go_wp2
      replace HB:=Aside0.mk (below_drew1 HB.out)
      have p195: 0≤ (x5_1:Int):=of_decide_eq_true zq1
      have q195:x5_1< (l0.length:Int):=of_decide_eq_true zq1
      obtain⟨ad195,e195,hx195_0,hx195_1,hx195_2⟩:=at_T52 HR0.out x5_1 p195 q195
      have hw195_2:=hx195_2
      have hw195_1:=hx195_1
      have hw195_0:=hx195_0
      cases e195
      replace hx195_0:=zhx HB hx195_0
      replace hx195_1:=zhx HB hx195_1
      replace hx195_2:=zhx HB hx195_2
      replace p195:=eq_true p195
      replace q195:=eq_true q195
      have p196: 0≤ (x5_1:Int):=of_decide_eq_true zq1
      have q196:x5_1< (l1.length:Int):=of_decide_eq_true zq1
      obtain⟨ad196,e196,hx196_0,hx196_1,hx196_2⟩:=at_T52 HR1.out x5_1 p196 q196
      have hw196_2:=hx196_2
      have hw196_1:=hx196_1
      have hw196_0:=hx196_0
      cases e196
      replace hx196_0:=zhx HB hx196_0
      replace hx196_1:=zhx HB hx196_1
      replace hx196_2:=zhx HB hx196_2
      replace p196:=eq_true p196
      replace q196:=eq_true q196
      refine start_ (n:=10) (S:=fun w'=>w'.cell? (ad195.add ((x5_1).toNat * 3))=some (.int .i64 ((rd_T52 l0 x5_1).f0))∧w'.cell? ⟨(ad195.add ((x5_1).toNat * 3)).block,(ad195.add ((x5_1).toNat * 3)).off+1,none⟩=some (.int .i64 ((rd_T52 l0 x5_1).f1))∧w'.cell? ⟨(ad195.add ((x5_1).toNat * 3)).block,(ad195.add ((x5_1).toNat * 3)).off+2,none⟩=some (.int .i64 ((rd_T52 l0 x5_1).f2))∧w'.cell? (ad196.add ((x5_1).toNat * 3))=some (.int .i64 ((rd_T52 l1 x5_1).f0))∧w'.cell? ⟨(ad196.add ((x5_1).toNat * 3)).block,(ad196.add ((x5_1).toNat * 3)).off+1,none⟩=some (.int .i64 ((rd_T52 l1 x5_1).f1))∧w'.cell? ⟨(ad196.add ((x5_1).toNat * 3)).block,(ad196.add ((x5_1).toNat * 3)).off+2,none⟩=some (.int .i64 ((rd_T52 l1 x5_1).f2))) (ds:= []) (mb' 10 0) (by kernel_rfl) rfl rfl ⟨((zhx HB hw195_0).trans rfl),((zhx HB hw195_1).trans rfl),((zhx HB hw195_2).trans rfl),((zhx HB hw196_0).trans rfl),((zhx HB hw196_1).trans rfl),((zhx HB hw196_2).trans rfl)⟩ (fun hHeld=>?_);refine with_tabW laws_eqEdgeS.tab6 laws_eqEdgeS.bits6 (fun HT_ HW_=>?_)
      generalize wr.drew=w9 at HB hx195_0 hx195_1 hx195_2 hx196_0 hx196_1 hx196_2 hHeld ⊢
      refine zp1 HT_ 0 17 (mb' 10 1) rfl ?_
      refine zp1 HT_ 1 18 (mb' 10 3) rfl ?_
      refine zp1 HT_ 2 19 (mb' 10 7) rfl ?_
      refine zp1 HT_ 4 21 (mb' 10 23) rfl ?_
      refine zp1 HT_ 5 22 (mb' 10 55) rfl ?_
      refine zp1 HT_ 6 23 (mb' 10 119) rfl ?_
      refine zt1 HT_ HW_ (v:=?_) (a':=?_) 3 20 (mb' 10 127) rfl ?_ hHeld ?_ ?_;rotate_left;(rintro w' ⟨s0,s1,s2,s3,s4,s5⟩;go_simp;with_reducible rfl);rotate_left;exact zpa
      refine zt1 HT_ HW_ (v:=?_) (a':=?_) 7 24 (mb' 10 255) rfl ?_ hHeld ?_ ?_;rotate_left;(rintro w' ⟨s0,s1,s2,s3,s4,s5⟩;go_simp;with_reducible rfl);rotate_left;exact zpa
      refine one_ (i:=8) (N:=some 25) (mb' 10 511) rfl rfl (one_of HT_.out (by kernel_rfl)) (by decide) (fun K hK=>?_)
      refine goes_ Try.func48 (by kernel_rfl) rfl #[.agg #[.int .i64 ((rd_T52 l0 x5_1).f0),.int .i64 ((rd_T52 l0 x5_1).f1),.int .i64 ((rd_T52 l0 x5_1).f2)],.agg #[.int .i64 ((rd_T52 l1 x5_1).f0),.int .i64 ((rd_T52 l1 x5_1).f1),.int .i64 ((rd_T52 l1 x5_1).f2)]] (by rfl) rfl rfl zq2 ?_
      with_reducible refine(laws_eqEdge.calls ((rd_T52 l0 x5_1).f0) ((rd_T52 l0 x5_1).f1) ((rd_T52 l0 x5_1).f2) ((rd_T52 l1 x5_1).f0) ((rd_T52 l1 x5_1).f1) ((rd_T52 l1 x5_1).f2) true _ A7.out).mono ?_
      rintro e w10 ⟨rfl,hb⟩
      refine⟨_,rfl,?_⟩
      replace HB:=Aside0.mk (below_step (by exact zk1 HB) hb)
      (try clear hb)
      (try clear hb2)
      (try clear hk)
      (try clear hi)
      refine hK.out _ _ ⟨((zhx HB hw195_0).trans rfl),((zhx HB hw195_1).trans rfl),((zhx HB hw195_2).trans rfl),((zhx HB hw196_0).trans rfl),((zhx HB hw196_1).trans rfl),((zhx HB hw196_2).trans rfl)⟩ (fun hHeld=>?_)
      clear hK K
      refine norm_ (a':=?_) ?_ ?_
      rotate_left
      ·show Act.put _ (some 25) _=_
       simp only [Act.put,List.setIfInBounds_toArray,List.set_cons_zero,List.set_cons_succ,i64_w,i32_w]
       rfl
      refine zp1 HT_ 9 26 (mb' 10 1023) rfl ?_
      refine done_ (done_of HT_.out (by kernel_rfl)) ?_
      try go_wp2
      go_roundg k1
      case measure=>have:=HK1.out;omega
      case rel=>exact⟨(wrap64 (x5_1+1)),zrs,H',⟨by have:=HK1.out;omega⟩,⟨by exact zk1 HB⟩⟩
     ·replace c8:=Bool.eq_false_iff.mpr c8
      subst c8
      have H1:(some false)=some r:=by rw [if_neg (show ¬ (false=true) by decide)] at H;exact H
      clear H
      have H:=H1
      clear H1
      obtain rfl:=Option.some.inj H
      try go_wp2
      replace HB:=Aside0.mk (below_drew1 HB.out)
      have p195: 0≤ (x5_1:Int):=of_decide_eq_true zq1
      have q195:x5_1< (l0.length:Int):=of_decide_eq_true zq1
      obtain⟨ad195,e195,hx195_0,hx195_1,hx195_2⟩:=at_T52 HR0.out x5_1 p195 q195
      have hw195_2:=hx195_2
      have hw195_1:=hx195_1
      have hw195_0:=hx195_0
      cases e195
      replace hx195_0:=zhx HB hx195_0
      replace hx195_1:=zhx HB hx195_1
      replace hx195_2:=zhx HB hx195_2
      replace p195:=eq_true p195
      replace q195:=eq_true q195
      have p196: 0≤ (x5_1:Int):=of_decide_eq_true zq1
      have q196:x5_1< (l1.length:Int):=of_decide_eq_true zq1
      obtain⟨ad196,e196,hx196_0,hx196_1,hx196_2⟩:=at_T52 HR1.out x5_1 p196 q196
      have hw196_2:=hx196_2
      have hw196_1:=hx196_1
      have hw196_0:=hx196_0
      cases e196
      replace hx196_0:=zhx HB hx196_0
      replace hx196_1:=zhx HB hx196_1
      replace hx196_2:=zhx HB hx196_2
      replace p196:=eq_true p196
      replace q196:=eq_true q196
      refine start_ (n:=10) (S:=fun w'=>w'.cell? (ad195.add ((x5_1).toNat * 3))=some (.int .i64 ((rd_T52 l0 x5_1).f0))∧w'.cell? ⟨(ad195.add ((x5_1).toNat * 3)).block,(ad195.add ((x5_1).toNat * 3)).off+1,none⟩=some (.int .i64 ((rd_T52 l0 x5_1).f1))∧w'.cell? ⟨(ad195.add ((x5_1).toNat * 3)).block,(ad195.add ((x5_1).toNat * 3)).off+2,none⟩=some (.int .i64 ((rd_T52 l0 x5_1).f2))∧w'.cell? (ad196.add ((x5_1).toNat * 3))=some (.int .i64 ((rd_T52 l1 x5_1).f0))∧w'.cell? ⟨(ad196.add ((x5_1).toNat * 3)).block,(ad196.add ((x5_1).toNat * 3)).off+1,none⟩=some (.int .i64 ((rd_T52 l1 x5_1).f1))∧w'.cell? ⟨(ad196.add ((x5_1).toNat * 3)).block,(ad196.add ((x5_1).toNat * 3)).off+2,none⟩=some (.int .i64 ((rd_T52 l1 x5_1).f2))) (ds:= []) (mb' 10 0) (by kernel_rfl) rfl rfl ⟨((zhx HB hw195_0).trans rfl),((zhx HB hw195_1).trans rfl),((zhx HB hw195_2).trans rfl),((zhx HB hw196_0).trans rfl),((zhx HB hw196_1).trans rfl),((zhx HB hw196_2).trans rfl)⟩ (fun hHeld=>?_);refine with_tabW laws_eqEdgeS.tab6 laws_eqEdgeS.bits6 (fun HT_ HW_=>?_)
      generalize wr.drew=w11 at HB hx195_0 hx195_1 hx195_2 hx196_0 hx196_1 hx196_2 hHeld ⊢
      refine zp1 HT_ 0 17 (mb' 10 1) rfl ?_
      refine zp1 HT_ 1 18 (mb' 10 3) rfl ?_
      refine zp1 HT_ 2 19 (mb' 10 7) rfl ?_
      refine zp1 HT_ 4 21 (mb' 10 23) rfl ?_
      refine zp1 HT_ 5 22 (mb' 10 55) rfl ?_
      refine zp1 HT_ 6 23 (mb' 10 119) rfl ?_
      refine zt1 HT_ HW_ (v:=?_) (a':=?_) 3 20 (mb' 10 127) rfl ?_ hHeld ?_ ?_;rotate_left;(rintro w' ⟨s0,s1,s2,s3,s4,s5⟩;go_simp;with_reducible rfl);rotate_left;exact zpa
      refine zt1 HT_ HW_ (v:=?_) (a':=?_) 7 24 (mb' 10 255) rfl ?_ hHeld ?_ ?_;rotate_left;(rintro w' ⟨s0,s1,s2,s3,s4,s5⟩;go_simp;with_reducible rfl);rotate_left;exact zpa
      refine one_ (i:=8) (N:=some 25) (mb' 10 511) rfl rfl (one_of HT_.out (by kernel_rfl)) (by decide) (fun K hK=>?_)
      refine goes_ Try.func48 (by kernel_rfl) rfl #[.agg #[.int .i64 ((rd_T52 l0 x5_1).f0),.int .i64 ((rd_T52 l0 x5_1).f1),.int .i64 ((rd_T52 l0 x5_1).f2)],.agg #[.int .i64 ((rd_T52 l1 x5_1).f0),.int .i64 ((rd_T52 l1 x5_1).f1),.int .i64 ((rd_T52 l1 x5_1).f2)]] (by rfl) rfl rfl zq2 ?_
      with_reducible refine(laws_eqEdge.calls ((rd_T52 l0 x5_1).f0) ((rd_T52 l0 x5_1).f1) ((rd_T52 l0 x5_1).f2) ((rd_T52 l1 x5_1).f0) ((rd_T52 l1 x5_1).f1) ((rd_T52 l1 x5_1).f2) false _ A7.out).mono ?_
      rintro e w12 ⟨rfl,hb⟩
      refine⟨_,rfl,?_⟩
      replace HB:=Aside0.mk (below_step (by exact zk1 HB) hb)
      (try clear hb)
      (try clear hb2)
      (try clear hk)
      (try clear hi)
      refine hK.out _ _ ⟨((zhx HB hw195_0).trans rfl),((zhx HB hw195_1).trans rfl),((zhx HB hw195_2).trans rfl),((zhx HB hw196_0).trans rfl),((zhx HB hw196_1).trans rfl),((zhx HB hw196_2).trans rfl)⟩ (fun hHeld=>?_)
      clear hK K
      refine norm_ (a':=?_) ?_ ?_
      rotate_left
      ·show Act.put _ (some 25) _=_
       simp only [Act.put,List.setIfInBounds_toArray,List.set_cons_zero,List.set_cons_succ,i64_w,i32_w]
       rfl
      refine zp1 HT_ 9 26 (mb' 10 1023) rfl ?_
      refine done_ (done_of HT_.out (by kernel_rfl)) ?_
      try go_wp2
      go_ret
      exact⟨zer,by exact zk1 HB⟩
    ·rw [if_neg c4] at H
     have c4b0:decide (x5_1< (l0.length:Int))=false:=decide_eq_false c4
     clear c4
     obtain rfl:=Option.some.inj H
     go_wp2
     go_ret
     exact⟨zer,by exact zk1 HB⟩
 ·rw [if_neg c3] at H
  have c3b0:((l0.length:Int)== (l1.length:Int))=false:=beq_eq_false_iff_ne.mpr c3
  have c3b1:((l0.length:Int) != (l1.length:Int))=true:=bne_iff_ne.mpr c3
  have c3b2:(l0.length==l1.length)=false:=by first|simpa using c3|(simp at c3 ⊢;omega)
  obtain rfl:=Option.some.inj H
  go_enter Try.func14,Try.ntmps14
  go_wp2
  go_ret
  exact⟨zer,by exact zk1 HB⟩
def laws_markEdgeS.l0:Nat→List (S52)→Int→Int→Option (Int × (List (S52)))
 | 0,_,_,_=>none
 |k+1,x0,x1,x5=>if x5< (x0.length:Int) then(if 0≤x5 then((some (x0.set (x5:Int).toNat (⟨x1,(rd_T52 x0 x5).f1,(rd_T52 x0 x5).f2⟩ :S52):List (S52))).bind fun y223=>((some (y223.set (x5:Int).toNat (⟨(rd_T52 y223 x5).f0,wrap64 (x1+1),(rd_T52 y223 x5).f2⟩ :S52):List (S52))).bind fun y224=>(laws_markEdgeS.l0 k (y224.set (x5:Int).toNat (⟨(rd_T52 y224 x5).f0,(rd_T52 y224 x5).f1,wrap64 ((wrap64 (x1+1))+1)⟩ :S52)) (wrap64 ((wrap64 ((wrap64 (x1+1))+1))+1)) (wrap64 (x5+1))))) else(none)) else(some (x1,x0))
def laws_markEdgeS.f (k:Nat) (l0:List (S52)) (a1:Int):Option (Int × (List (S52))):=laws_markEdgeS.l0 k l0 a1 0
theorem zdr {q p:Prop} (b:Aside0 q) (h:q→p:=by intro z;(with_reducible repeat(first|apply Kd.R_alloc|apply Kd.R_drewN|apply Kd.R_drew));exact z):p:=h b.out
theorem zfh {r q p:Prop} (a:r) (b:q) (h:r→q→p:=by intro z H;first|(rw [z];with_reducible exact H)|(have H2_:=(Option.bind_some _ _).symm.trans H;rw [z];with_reducible exact H2_)|(have H2_:=(Option.bind_some _ _).symm.trans H;with_reducible exact H2_)|with_reducible exact H|(rw [z];exact H)|exact H):p:=h a b
theorem zk4 {q p:Prop} (b:Aside0 q) (h:q→p:=by intro z;repeat(first|(with_reducible first|exact z|apply Kept.alloc|apply Kept.drewN|apply Kept.drew)|exact z)):p:=h b.out
theorem zq4 {q p:Prop} (b:Aside0 q) (h:q→p:=by intro z;(with_reducible repeat(first|apply Kd.R_alloc|apply Kd.R_drewN|apply Kd.R_drew));exact z):p:=h b.out
set_option maxHeartbeats 8000000 in
set_option maxRecDepth 100000 in
theorem laws_markEdgeS.calls (k:Nat) (P0_:Nat→Prop) (u9000_:Value) (l0:List (S52)) (a1:Int) (r1:Int) (r2:List (S52)) (w0 w:World) (hB:Below w0.heap.size w0 w) (ho0:Kd.R k52 52 w w0.heap.size P0_ u9000_ l0) (h:laws_markEdgeS.f k l0 a1=some (r1,r2)):
  Calls Try.prog 18 #[u9000_,.int .i64 a1] w fun e w'=>e= .returned (.int .i64 r1)∧Kd.R k52 52 w' w0.heap.size (fun k_=>(P0_ k_∨w.heap.size≤k_)) u9000_ r2∧Below w0.heap.size w0 w'∧Kept w w' (fun k_=>P0_ k_):=by
 have HO0:=Aside0.mk (show Kd.R k52 52 w w0.heap.size (fun k_=>(P0_ k_∨w.heap.size≤k_)) u9000_ l0 from Kd.R_mono ho0 (fun k_ hk=>(.inl hk)))
 have HK:=Aside0.mk (Kept.refl w (fun k_=>P0_ k_))
 have HW0:=Aside0.mk hB.size
 have HB:=Aside0.mk hB
 clear hB
 have H:(laws_markEdgeS.l0 k l0 a1 0)=some (r1,r2):=h
 clear h
 have H':=Aside0.mk H
 clear H
 go_enter Try.func18,Try.ntmps18
 go_wp2
 go_loopg [1,5] k (fun kq v1 v5 w'=> ∃ (x0_1:List (S52)) (x1_1:Int) (x5_1:Int),v1= .int .i64 x1_1∧v5= .int .i64 x5_1∧Aside0 (laws_markEdgeS.l0 kq x0_1 x1_1 x5_1=some (r1,r2))∧Aside0 (kq≤k)∧Aside0 (Kd.R k52 52 w' w0.heap.size (fun k_=>(P0_ k_∨w.heap.size≤k_)) u9000_ x0_1)∧Aside0 (Kept w w' (fun k_=>P0_ k_))∧Aside0 (Below w0.heap.size w0 w'))
 case atStart=>exact⟨(l0),(a1),(0),zrs,zrs,H',⟨Nat.le_refl _⟩,⟨zdr HO0⟩,⟨by exact zk4 HK⟩,⟨by exact zk1 HB⟩⟩
 case round=>
  clear H'
  try clear c1
  try clear p2
  obtain⟨x0_1,x1_1,x5_1,rfl,rfl,HA,HK1,HO_0,HK,HB⟩:=hrel
  cases gk with
  |zero=>exact absurd HA.out (by simp [laws_markEdgeS.l0])
  |succ k1=>
   have H:=HA.out
   clear HA
   simp only [laws_markEdgeS.l0] at H
   by_cases c3:x5_1< (x0_1.length:Int)
   ·rw [if_pos c3] at H
    have c3b0:decide (x5_1< (x0_1.length:Int))=true:=decide_eq_true c3
    clear c3
    by_cases c4: 0≤x5_1
    case neg=>exact znn c4 H
    rw [if_pos c4] at H
    have c4b0:decide (0≤x5_1)=true:=decide_eq_true c4
    clear c4
    obtain⟨y223,hy223⟩ :∃ y_:List (S52),y_= (x0_1.set (x5_1:Int).toNat (⟨x1_1,(rd_T52 x0_1 x5_1).f1,(rd_T52 x0_1 x5_1).f2⟩ :S52)):=⟨_,rfl⟩
    replace H:((some (y223.set (x5_1:Int).toNat (⟨(rd_T52 y223 x5_1).f0,wrap64 (x1_1+1),(rd_T52 y223 x5_1).f2⟩ :S52):List (S52))).bind fun y224=>(laws_markEdgeS.l0 k1 (y224.set (x5_1:Int).toNat (⟨(rd_T52 y224 x5_1).f0,(rd_T52 y224 x5_1).f1,wrap64 ((wrap64 (x1_1+1))+1)⟩ :S52)) (wrap64 ((wrap64 ((wrap64 (x1_1+1))+1))+1)) (wrap64 (x5_1+1))))=some (r1,r2):=zfh hy223 H
    have Ny223:=Aside0.mk hy223
    clear hy223
    obtain⟨y224,hy224⟩ :∃ y_:List (S52),y_= (y223.set (x5_1:Int).toNat (⟨(rd_T52 y223 x5_1).f0,wrap64 (x1_1+1),(rd_T52 y223 x5_1).f2⟩ :S52)):=⟨_,rfl⟩
    replace H:(laws_markEdgeS.l0 k1 (y224.set (x5_1:Int).toNat (⟨(rd_T52 y224 x5_1).f0,(rd_T52 y224 x5_1).f1,wrap64 ((wrap64 (x1_1+1))+1)⟩ :S52)) (wrap64 ((wrap64 ((wrap64 (x1_1+1))+1))+1)) (wrap64 (x5_1+1)))=some (r1,r2):=zfh hy224 H
    have Ny224:=Aside0.mk hy224
    clear hy224
    obtain⟨y225,hy225⟩ :∃ y_:List (S52),y_= (y224.set (x5_1:Int).toNat (⟨(rd_T52 y224 x5_1).f0,(rd_T52 y224 x5_1).f1,wrap64 ((wrap64 (x1_1+1))+1)⟩ :S52)):=⟨_,rfl⟩
    replace H:(laws_markEdgeS.l0 k1 y225 (wrap64 ((wrap64 ((wrap64 (x1_1+1))+1))+1)) (wrap64 (x5_1+1)))=some (r1,r2):=zfh hy225 H
    have Ny225:=Aside0.mk hy225
    clear hy225
    have H':=Aside0.mk H
    clear H
    obtain⟨Ao8,co8,eo8⟩:=Kd.R_slice HO_0.out
    subst eo8
    have p5: 0≤ (x5_1:Int):=of_decide_eq_true zq1
    have q5:(x5_1:Int)< ((x0_1.length:Int):Int):=of_decide_eq_true zq1
    obtain⟨go5,co5,eo5,gb5,gl5,cl5,HG5⟩:=Kd.R_form HO_0.out (by omega)
    (first|cases eo5|(injection eo5 with ea_ en_ ec_;(first|subst ea_|(injection ea_ with ea_;subst ea_));subst ec_;clear en_))
    have GB5:=Aside0.mk gb5
    have GG5:=Aside0.mk HG5
    clear gb5 gl5 HG5
    have HMgo5:=Aside0.mk (show (P0_ go5∨w.heap.size≤go5) from (HO_0.out.1 _ rfl))
    obtain⟨ce5,hcl5,hM5,hcc5,hfr5⟩:=Kd.R_elem HO_0.out z52 (x5_1:Int) p5 q5
    obtain rfl:=k52_openM hM5
    have hx5_0:wr.cell? ⟨go5,(x5_1:Int).toNat * 3,none⟩=some (.int .i64 ((rd_T52 x0_1 x5_1).f0)):=hcc5 0 _ rfl
    have hx5_1:wr.cell? ⟨go5,(x5_1:Int).toNat * 3+1,none⟩=some (.int .i64 ((rd_T52 x0_1 x5_1).f1)):=hcc5 1 _ rfl
    have hx5_2:wr.cell? ⟨go5,(x5_1:Int).toNat * 3+2,none⟩=some (.int .i64 ((rd_T52 x0_1 x5_1).f2)):=hcc5 2 _ rfl
    have hf5_0:wr.frozen? ⟨go5,(x5_1:Int).toNat * 3,none⟩=false:=hfr5 0
    have hf5_1:wr.frozen? ⟨go5,(x5_1:Int).toNat * 3+1,none⟩=false:=hfr5 1
    have hf5_2:wr.frozen? ⟨go5,(x5_1:Int).toNat * 3+2,none⟩=false:=hfr5 2
    clear hcl5 hcc5 hfr5 hM5
    replace p5:=eq_true p5
    replace q5:=eq_true q5
    have HX9:=Aside0.mk (show Kd.R k52 52 wr w0.heap.size (fun k_=>(P0_ k_∨w.heap.size≤k_)) (.slice (some ⟨go5,0,none⟩) x0_1.length co8) x0_1 from (zq4 HO_0))
    obtain⟨ce9,hcl9,hM9,hcc9,hfr9⟩:=Kd.R_elem HX9.out z52 (x5_1:Int) (of_decide_eq_true zq1) (by have h_:(x5_1:Int)< ((x0_1.length:Int):Int):=of_decide_eq_true zq1;first|exact h_|(have e_:=(Kd.R_reads' HO_0.out).1;omega)|simpa using h_)
    obtain rfl:=k52_openM hM9
    have HP9:=Kd.R_seg HX9.out (x5_1:Int) (of_decide_eq_true zq1) (by have h_:(x5_1:Int)< ((x0_1.length:Int):Int):=of_decide_eq_true zq1;first|exact h_|(have e_:=(Kd.R_reads' HO_0.out).1;omega)|simpa using h_) (seg:= [.int .i64 x1_1]) (j:=0) hcl9 hcc9 (show 1≤3 from by decide) (x':=(⟨x1_1,(rd_T52 x0_1 x5_1).f1,(rd_T52 x0_1 x5_1).f2⟩ :S52)) (k52_mkM _ _ _ (⟨x1_1,(rd_T52 x0_1 x5_1).f1,(rd_T52 x0_1 x5_1).f2⟩ :S52) ) (fun _ hk=>hk)
    have hx9_0:=hcc9 0 _ rfl
    (try simp only [show (k52).sz=3 from rfl,Nat.mul_one,Nat.add_zero] at hx9_0)
    have hf9_0:=hfr9 0
    (try simp only [show (k52).sz=3 from rfl,Nat.mul_one,Nat.add_zero] at hf9_0)
    clear hcl9 hcc9 hfr9 hM9
    go_wp2_with (first|((with_reducible refine gate_store (t:=3) (p:=16) rfl ?_);refine store_event (t:=3) (p:=16) (v:=?vo_w10) (w1:=(wr.setCell ⟨go5,(x5_1:Int).toNat * 3,none⟩ (.int .i64 x1_1))) ?hg ?ho ?hn ?hr ?_;(case ho=>rfl);(case hg=>rfl);(case hn=>rfl);(case hr=>first|(go_simp;done)|(go_simp;rfl));intro w10 hw;have hg:wr.grownBy w10 (some go5):=(by rw [hw];exact HP9.2);have hp_:Kd.R k52 52 w10 w0.heap.size (fun k_=>(P0_ k_∨w.heap.size≤k_)) (.slice (some ⟨go5,0,none⟩) x0_1.length co8) y223:=(by rw [hw,Ny223.out];exact HP9.1);clear HP9;replace HB:=Aside0.mk ((by rw [hw];exact below_set (HB.out) GB5.out:Below w0.heap.size w0 w10));replace HK:=Aside0.mk (Kept.of_grown (S:=(fun k_=>P0_ k_)) hg (by exact zk4 HK) (fun k_ e_=>(HO_0.out.1 k_ e_)));replace HO_0:=Aside0.mk (hp_);clear hg hw hp_;have p6: 0≤ (x5_1:Int):=of_decide_eq_true zq1;have q6:(x5_1:Int)< ((x0_1.length:Int):Int):=of_decide_eq_true zq1;obtain⟨ce6,hcl6,hM6,hcc6,hfr6⟩:=Kd.R_elem HO_0.out z52 (x5_1:Int) p6 q6;obtain rfl:=k52_openM hM6;have hx6_0:w10.cell? ⟨go5,(x5_1:Int).toNat * 3,none⟩=some (.int .i64 ((rd_T52 y223 x5_1).f0)):=hcc6 0 _ rfl;have hx6_1:w10.cell? ⟨go5,(x5_1:Int).toNat * 3+1,none⟩=some (.int .i64 ((rd_T52 y223 x5_1).f1)):=hcc6 1 _ rfl;have hx6_2:w10.cell? ⟨go5,(x5_1:Int).toNat * 3+2,none⟩=some (.int .i64 ((rd_T52 y223 x5_1).f2)):=hcc6 2 _ rfl;have hf6_0:w10.frozen? ⟨go5,(x5_1:Int).toNat * 3,none⟩=false:=hfr6 0;have hf6_1:w10.frozen? ⟨go5,(x5_1:Int).toNat * 3+1,none⟩=false:=hfr6 1;have hf6_2:w10.frozen? ⟨go5,(x5_1:Int).toNat * 3+2,none⟩=false:=hfr6 2;clear hcl6 hcc6 hfr6 hM6;replace p6:=eq_true p6;replace q6:=eq_true q6;have HX11:=Aside0.mk (show Kd.R k52 52 w10 w0.heap.size (fun k_=>(P0_ k_∨w.heap.size≤k_)) (.slice (some ⟨go5,0,none⟩) x0_1.length co8) y223 from (zq4 HO_0));obtain⟨ce11,hcl11,hM11,hcc11,hfr11⟩:=Kd.R_elem HX11.out z52 (x5_1:Int) (of_decide_eq_true zq1) (by have h_:(x5_1:Int)< ((x0_1.length:Int):Int):=of_decide_eq_true zq1;first|exact h_|(have e_:=(Kd.R_reads' HO_0.out).1;omega)|simpa using h_);obtain rfl:=k52_openM hM11;have HP11:=Kd.R_seg HX11.out (x5_1:Int) (of_decide_eq_true zq1) (by have h_:(x5_1:Int)< ((x0_1.length:Int):Int):=of_decide_eq_true zq1;first|exact h_|(have e_:=(Kd.R_reads' HO_0.out).1;omega)|simpa using h_) (seg:= [.int .i64 (wrap64 (x1_1+1))]) (j:=1) hcl11 hcc11 (show 2≤3 from by decide) (x':=(⟨(rd_T52 y223 x5_1).f0,wrap64 (x1_1+1),(rd_T52 y223 x5_1).f2⟩ :S52)) (k52_mkM _ _ _ (⟨(rd_T52 y223 x5_1).f0,wrap64 (x1_1+1),(rd_T52 y223 x5_1).f2⟩ :S52) ) (fun _ hk=>hk);have hx11_1:=hcc11 1 _ rfl;(try simp only [show (k52).sz=3 from rfl,Nat.mul_one,Nat.add_zero] at hx11_1);have hf11_1:=hfr11 1;(try simp only [show (k52).sz=3 from rfl,Nat.mul_one,Nat.add_zero] at hf11_1);clear hcl11 hcc11 hfr11 hM11)|((with_reducible refine gate_store (t:=3) (p:=23) rfl ?_);refine store_event (t:=3) (p:=23) (v:=?vo_w12) (w1:=(w10.setCell ⟨go5,(x5_1:Int).toNat * 3+1,none⟩ (.int .i64 (wrap64 (x1_1+1))))) ?hg ?ho ?hn ?hr ?_;(case ho=>rfl);(case hg=>rfl);(case hn=>rfl);(case hr=>first|(go_simp;done)|(go_simp;rfl));intro w12 hw;have hg:w10.grownBy w12 (some go5):=(by rw [hw];exact HP11.2);have hp_:Kd.R k52 52 w12 w0.heap.size (fun k_=>(P0_ k_∨w.heap.size≤k_)) (.slice (some ⟨go5,0,none⟩) x0_1.length co8) y224:=(by rw [hw,Ny224.out];exact HP11.1);clear HP11;replace HB:=Aside0.mk ((by rw [hw];exact below_set (HB.out) GB5.out:Below w0.heap.size w0 w12));replace HK:=Aside0.mk (Kept.of_grown (S:=(fun k_=>P0_ k_)) hg (by exact zk4 HK) (fun k_ e_=>(HO_0.out.1 k_ e_)));replace HO_0:=Aside0.mk (hp_);clear hg hw hp_;have p7: 0≤ (x5_1:Int):=of_decide_eq_true zq1;have q7:(x5_1:Int)< ((x0_1.length:Int):Int):=of_decide_eq_true zq1;obtain⟨ce7,hcl7,hM7,hcc7,hfr7⟩:=Kd.R_elem HO_0.out z52 (x5_1:Int) p7 q7;obtain rfl:=k52_openM hM7;have hx7_0:w12.cell? ⟨go5,(x5_1:Int).toNat * 3,none⟩=some (.int .i64 ((rd_T52 y224 x5_1).f0)):=hcc7 0 _ rfl;have hx7_1:w12.cell? ⟨go5,(x5_1:Int).toNat * 3+1,none⟩=some (.int .i64 ((rd_T52 y224 x5_1).f1)):=hcc7 1 _ rfl;have hx7_2:w12.cell? ⟨go5,(x5_1:Int).toNat * 3+2,none⟩=some (.int .i64 ((rd_T52 y224 x5_1).f2)):=hcc7 2 _ rfl;have hf7_0:w12.frozen? ⟨go5,(x5_1:Int).toNat * 3,none⟩=false:=hfr7 0;have hf7_1:w12.frozen? ⟨go5,(x5_1:Int).toNat * 3+1,none⟩=false:=hfr7 1;have hf7_2:w12.frozen? ⟨go5,(x5_1:Int).toNat * 3+2,none⟩=false:=hfr7 2;clear hcl7 hcc7 hfr7 hM7;replace p7:=eq_true p7;replace q7:=eq_true q7;have HX13:=Aside0.mk (show Kd.R k52 52 w12 w0.heap.size (fun k_=>(P0_ k_∨w.heap.size≤k_)) (.slice (some ⟨go5,0,none⟩) x0_1.length co8) y224 from (zq4 HO_0));obtain⟨ce13,hcl13,hM13,hcc13,hfr13⟩:=Kd.R_elem HX13.out z52 (x5_1:Int) (of_decide_eq_true zq1) (by have h_:(x5_1:Int)< ((x0_1.length:Int):Int):=of_decide_eq_true zq1;first|exact h_|(have e_:=(Kd.R_reads' HO_0.out).1;omega)|simpa using h_);obtain rfl:=k52_openM hM13;have HP13:=Kd.R_seg HX13.out (x5_1:Int) (of_decide_eq_true zq1) (by have h_:(x5_1:Int)< ((x0_1.length:Int):Int):=of_decide_eq_true zq1;first|exact h_|(have e_:=(Kd.R_reads' HO_0.out).1;omega)|simpa using h_) (seg:= [.int .i64 (wrap64 ((wrap64 (x1_1+1))+1))]) (j:=2) hcl13 hcc13 (show 3≤3 from by decide) (x':=(⟨(rd_T52 y224 x5_1).f0,(rd_T52 y224 x5_1).f1,wrap64 ((wrap64 (x1_1+1))+1)⟩ :S52)) (k52_mkM _ _ _ (⟨(rd_T52 y224 x5_1).f0,(rd_T52 y224 x5_1).f1,wrap64 ((wrap64 (x1_1+1))+1)⟩ :S52) ) (fun _ hk=>hk);have hx13_2:=hcc13 2 _ rfl;(try simp only [show (k52).sz=3 from rfl,Nat.mul_one,Nat.add_zero] at hx13_2);have hf13_2:=hfr13 2;(try simp only [show (k52).sz=3 from rfl,Nat.mul_one,Nat.add_zero] at hf13_2);clear hcl13 hcc13 hfr13 hM13)|((with_reducible refine gate_store (t:=3) (p:=30) rfl ?_);refine store_event (t:=3) (p:=30) (v:=?vo_w14) (w1:=(w12.setCell ⟨go5,(x5_1:Int).toNat * 3+2,none⟩ (.int .i64 (wrap64 ((wrap64 (x1_1+1))+1))))) ?hg ?ho ?hn ?hr ?_;(case ho=>rfl);(case hg=>rfl);(case hn=>rfl);(case hr=>first|(go_simp;done)|(go_simp;rfl));intro w14 hw;have hg:w12.grownBy w14 (some go5):=(by rw [hw];exact HP13.2);have hp_:Kd.R k52 52 w14 w0.heap.size (fun k_=>(P0_ k_∨w.heap.size≤k_)) (.slice (some ⟨go5,0,none⟩) x0_1.length co8) y225:=(by rw [hw,Ny225.out];exact HP13.1);clear HP13;replace HB:=Aside0.mk ((by rw [hw];exact below_set (HB.out) GB5.out:Below w0.heap.size w0 w14));replace HK:=Aside0.mk (Kept.of_grown (S:=(fun k_=>P0_ k_)) hg (by exact zk4 HK) (fun k_ e_=>(HO_0.out.1 k_ e_)));replace HO_0:=Aside0.mk (hp_);clear hg hw hp_))
    go_roundg k1
    case measure=>have:=HK1.out;omega
    case rel=>exact⟨(y225),(wrap64 ((wrap64 ((wrap64 (x1_1+1))+1))+1)),(wrap64 (x5_1+1)),zrs,zrs,H',⟨by have:=HK1.out;omega⟩,⟨zdr HO_0⟩,⟨by exact zk4 HK⟩,⟨by exact zk1 HB⟩⟩
   ·rw [if_neg c3] at H
    have c3b0:decide (x5_1< (x0_1.length:Int))=false:=decide_eq_false c3
    clear c3
    simp only [Option.some.injEq,Prod.mk.injEq] at H
    obtain⟨rfl,rfl⟩:=H
    obtain⟨Ao15,co15,eo15⟩:=Kd.R_slice HO_0.out
    subst eo15
    go_wp2
    go_ret
    exact⟨zer,zdr HO_0,by exact zk1 HB,by exact zk4 HK⟩
def laws_szToldS.f (l0:List (S70)) (a1:Int):Option (Int):=if (wrap64 (a1 - (l0.length:Int)))< 0 then(some (-1)) else(some (wrap64 (a1 - (l0.length:Int))))
set_option maxHeartbeats 8000000 in
set_option maxRecDepth 100000 in
theorem laws_szToldS.calls (A0:Option Addr) (c0:Nat) (l0:List (S70)) (a1:Int) (r:Int) (w:World) (hr0:Kd.C k70 w A0 l0.length l0) (hc0:l0.length≤c0) (h:laws_szToldS.f l0 a1=some r):
  Calls Try.prog 21 #[.slice A0 l0.length c0,.int .i64 a1] w fun e w'=>e= .returned (.int .i64 r)∧Drawn0 w w':=by
 have HR0:=Aside0.mk hr0
 have HC0:=Aside0.mk hc0
 clear hr0 hc0
 have H:(if (wrap64 (a1 - (l0.length:Int)))< 0 then(some (-1)) else(some (wrap64 (a1 - (l0.length:Int)))))=some r:=h
 clear h
 by_cases c3:(wrap64 (a1 - (l0.length:Int)))< 0
 ·rw [if_pos c3] at H
  have c3b0:decide ((wrap64 (a1 - (l0.length:Int)))< 0)=true:=decide_eq_true c3
  clear c3
  obtain rfl:=Option.some.inj H
  go_enter Try.func21,Try.ntmps21
  go_wp2
  go_ret
  exact⟨by first|rfl|(simp;done)|(simp [*];done),by repeat(first|exact Drawn0.refl _|apply Drawn0.step)⟩
 ·rw [if_neg c3] at H
  have c3b0:decide ((wrap64 (a1 - (l0.length:Int)))< 0)=false:=decide_eq_false c3
  clear c3
  obtain rfl:=Option.some.inj H
  go_enter Try.func21,Try.ntmps21
  go_wp2
  go_ret
  exact⟨by first|rfl|(simp;done)|(simp [*];done),by repeat(first|exact Drawn0.refl _|apply Drawn0.step)⟩
def spec_l8Told.l0:Nat→Int→Int→Int→List (S57)→Int→Int→Option (Int)
 | 0,_,_,_,_,_,_=>none
 |k+1,x1,x2,x7,x10,x11,x12=>if x12<x11 then(if 0≤x12 then(if x12< (x10.length:Int) then(if ((rd_T57 x10 x12).f0)=x1 then(if ((rd_T57 x10 x12).f1)=x2 then(spec_l8Told.l0 k x1 x2 ((rd_T57 x10 x12).f2) x10 x11 (wrap64 (x12+1))) else(spec_l8Told.l0 k x1 x2 x7 x10 x11 (wrap64 (x12+1)))) else(spec_l8Told.l0 k x1 x2 x7 x10 x11 (wrap64 (x12+1)))) else(none)) else(none)) else(some x7)
def spec_l8Told.f (k:Nat) (l0:List (S57)) (a1:Int) (a2:Int):Option (Int):=spec_l8Told.l0 k a1 a2 0 l0 (l0.length:Int) 0
set_option maxHeartbeats 8000000 in
set_option maxRecDepth 100000 in
theorem spec_l8Told.calls (k:Nat) (A0:Option Addr) (c0:Nat) (l0:List (S57)) (a1:Int) (a2:Int) (r:Int) (w:World) (hr0:Kd.C k57 w A0 l0.length l0) (hc0:l0.length≤c0) (h:spec_l8Told.f k l0 a1 a2=some r):
  Calls Try.prog 51 #[.slice A0 l0.length c0,.int .i64 a1,.int .i64 a2] w fun e w'=>e= .returned (.int .i64 r)∧Below w.heap.size w w':=by
 have hu57:=Try.underlying57
 have HR0:=Aside0.mk hr0
 have HC0:=Aside0.mk hc0
 clear hr0 hc0
 have HB:=Aside0.mk (Below.refl w.heap.size w)
 have H:(spec_l8Told.l0 k a1 a2 0 l0 (l0.length:Int) 0)=some r:=h
 clear h
 have H':=Aside0.mk H
 clear H
 go_enter Try.func51,Try.ntmps51
 go_wp2
 go_loopg [7,12] k (fun kq v7 v12 w'=> ∃ (x7_1:Int) (x12_1:Int),v7= .int .i64 x7_1∧v12= .int .i64 x12_1∧Aside0 (spec_l8Told.l0 kq a1 a2 x7_1 l0 (l0.length:Int) x12_1=some r)∧Aside0 (kq≤k)∧Aside0 (Below w.heap.size w w'))
 case atStart=>exact⟨(0),(0),zrs,zrs,H',⟨Nat.le_refl _⟩,⟨by exact zk1 HB⟩⟩
 case round=>
  clear H'
  try clear p2
  obtain⟨x7_1,x12_1,rfl,rfl,HA,HK1,HB⟩:=hrel
  cases gk with
  |zero=>exact absurd HA.out (by simp [spec_l8Told.l0])
  |succ k1=>
   have H:=HA.out
   clear HA
   simp only [spec_l8Told.l0] at H
   by_cases c4:x12_1< (l0.length:Int)
   ·rw [if_pos c4] at H
    have c4b0:decide (x12_1< (l0.length:Int))=true:=decide_eq_true c4
    clear c4
    by_cases c5: 0≤x12_1
    case neg=>exact znn c5 H
    rw [if_pos c5] at H
    have c5b0:decide (0≤x12_1)=true:=decide_eq_true c5
    clear c5
    by_cases c6:x12_1< (l0.length:Int)
    case neg=>exact znn c6 H
    rw [if_pos c6] at H
    have c6b0:decide (x12_1< (l0.length:Int))=true:=decide_eq_true c6
    clear c6
    by_cases c7:((rd_T57 l0 x12_1).f0)=a1
    ·rw [if_pos c7] at H
     have c7b0:(((rd_T57 l0 x12_1).f0)==a1)=true:=beq_iff_eq.mpr c7
     have c7b1:(((rd_T57 l0 x12_1).f0) !=a1)=false:=bne_eq_false_iff_eq.mpr c7
     clear c7
     by_cases c8:((rd_T57 l0 x12_1).f1)=a2
     ·rw [if_pos c8] at H
      have c8b0:(((rd_T57 l0 x12_1).f1)==a2)=true:=beq_iff_eq.mpr c8
      have c8b1:(((rd_T57 l0 x12_1).f1) !=a2)=false:=bne_eq_false_iff_eq.mpr c8
      clear c8
      have H':=Aside0.mk H
      clear H
      have p263: 0≤ (x12_1:Int):=of_decide_eq_true zq1
      have q263:x12_1< (l0.length:Int):=of_decide_eq_true zq1
      obtain⟨ad263,e263,hx263_0,hx263_1,hx263_2⟩:=at_T57 HR0.out x12_1 p263 q263
      cases e263
      replace hx263_0:=zhx HB hx263_0
      replace hx263_1:=zhx HB hx263_1
      replace hx263_2:=zhx HB hx263_2
      replace p263:=eq_true p263
      replace q263:=eq_true q263
      go_wp2_with (first|((with_reducible refine gate_dst (N:=9) rfl ?_);refine box_event ?hg (N:=9) ?hd (cs:= #[.int .i64 0,.int .i64 0,.int .i64 0]) (t:=57) ?hr ?_;(case hd=>rfl);(case hg=>rfl);(case hr=>first|(go_simp;done)|(go_simp;rfl));intro gb264 hg w9 hbox hb;have BK264:=Aside0.mk (hbox);have GW264:=Aside0.mk ((by rw [hg];exact(below_size (by exact zk1 HB)):w.heap.size≤gb264));have GE264:=GW264;replace HB:=Aside0.mk (below_step (by exact zk1 HB) hb);clear hb hbox hg;have hcz10_0:=zcz BK264 0 (.int .i64 0);have hcz10_1:=zcz BK264 1 (.int .i64 0);have hcz10_2:=zcz BK264 2 (.int .i64 0);have hfz10_0:=blk_frozen BK264.out 0;have hfz10_1:=blk_frozen BK264.out 1;have hfz10_2:=blk_frozen BK264.out 2))
      go_roundg k1
      case measure=>have:=HK1.out;omega
      case rel=>exact⟨((rd_T57 l0 x12_1).f2),(wrap64 (x12_1+1)),zrs,zrs,H',⟨by have:=HK1.out;omega⟩,⟨by exact zk2 HB GE264.out⟩⟩
     ·rw [if_neg c8] at H
      have c8b0:(((rd_T57 l0 x12_1).f1)==a2)=false:=beq_eq_false_iff_ne.mpr c8
      have c8b1:(((rd_T57 l0 x12_1).f1) !=a2)=true:=bne_iff_ne.mpr c8
      have H':=Aside0.mk H
      clear H
      have p263: 0≤ (x12_1:Int):=of_decide_eq_true zq1
      have q263:x12_1< (l0.length:Int):=of_decide_eq_true zq1
      obtain⟨ad263,e263,hx263_0,hx263_1,hx263_2⟩:=at_T57 HR0.out x12_1 p263 q263
      cases e263
      replace hx263_0:=zhx HB hx263_0
      replace hx263_1:=zhx HB hx263_1
      replace hx263_2:=zhx HB hx263_2
      replace p263:=eq_true p263
      replace q263:=eq_true q263
      go_wp2_with (first|((with_reducible refine gate_dst (N:=9) rfl ?_);refine box_event ?hg (N:=9) ?hd (cs:= #[.int .i64 0,.int .i64 0,.int .i64 0]) (t:=57) ?hr ?_;(case hd=>rfl);(case hg=>rfl);(case hr=>first|(go_simp;done)|(go_simp;rfl));intro gb264 hg w11 hbox hb;have BK264:=Aside0.mk (hbox);have GW264:=Aside0.mk ((by rw [hg];exact(below_size (by exact zk1 HB)):w.heap.size≤gb264));have GE264:=GW264;replace HB:=Aside0.mk (below_step (by exact zk1 HB) hb);clear hb hbox hg;have hcz12_0:=zcz BK264 0 (.int .i64 0);have hcz12_1:=zcz BK264 1 (.int .i64 0);have hcz12_2:=zcz BK264 2 (.int .i64 0);have hfz12_0:=blk_frozen BK264.out 0;have hfz12_1:=blk_frozen BK264.out 1;have hfz12_2:=blk_frozen BK264.out 2))
      go_roundg k1
      case measure=>have:=HK1.out;omega
      case rel=>exact⟨(x7_1),(wrap64 (x12_1+1)),zrs,zrs,H',⟨by have:=HK1.out;omega⟩,⟨by exact zk2 HB GE264.out⟩⟩
    ·rw [if_neg c7] at H
     have c7b0:(((rd_T57 l0 x12_1).f0)==a1)=false:=beq_eq_false_iff_ne.mpr c7
     have c7b1:(((rd_T57 l0 x12_1).f0) !=a1)=true:=bne_iff_ne.mpr c7
     have H':=Aside0.mk H
     clear H
     have p263: 0≤ (x12_1:Int):=of_decide_eq_true zq1
     have q263:x12_1< (l0.length:Int):=of_decide_eq_true zq1
     obtain⟨ad263,e263,hx263_0,hx263_1,hx263_2⟩:=at_T57 HR0.out x12_1 p263 q263
     cases e263
     replace hx263_0:=zhx HB hx263_0
     replace hx263_1:=zhx HB hx263_1
     replace hx263_2:=zhx HB hx263_2
     replace p263:=eq_true p263
     replace q263:=eq_true q263
     go_wp2_with (first|((with_reducible refine gate_dst (N:=9) rfl ?_);refine box_event ?hg (N:=9) ?hd (cs:= #[.int .i64 0,.int .i64 0,.int .i64 0]) (t:=57) ?hr ?_;(case hd=>rfl);(case hg=>rfl);(case hr=>first|(go_simp;done)|(go_simp;rfl));intro gb264 hg w13 hbox hb;have BK264:=Aside0.mk (hbox);have GW264:=Aside0.mk ((by rw [hg];exact(below_size (by exact zk1 HB)):w.heap.size≤gb264));have GE264:=GW264;replace HB:=Aside0.mk (below_step (by exact zk1 HB) hb);clear hb hbox hg;have hcz14_0:=zcz BK264 0 (.int .i64 0);have hcz14_1:=zcz BK264 1 (.int .i64 0);have hcz14_2:=zcz BK264 2 (.int .i64 0);have hfz14_0:=blk_frozen BK264.out 0;have hfz14_1:=blk_frozen BK264.out 1;have hfz14_2:=blk_frozen BK264.out 2))
     go_roundg k1
     case measure=>have:=HK1.out;omega
     case rel=>exact⟨(x7_1),(wrap64 (x12_1+1)),zrs,zrs,H',⟨by have:=HK1.out;omega⟩,⟨by exact zk2 HB GE264.out⟩⟩
   ·rw [if_neg c4] at H
    have c4b0:decide (x12_1< (l0.length:Int))=false:=decide_eq_false c4
    clear c4
    obtain rfl:=Option.some.inj H
    go_wp2
    go_ret
    exact⟨zer,by exact zk1 HB⟩
mutual
def spec_BothWays.l0:Nat→Int→List (S57)→List (S57)→Int→Int→Option ((List (S52)) × Bool)
 | 0,_,_,_,_,_=>none
 |k+1,x0,x1,x13,x14,x15=>if x15<x14 then(if 0≤x15 then(if x15< (x13.length:Int) then((spec_l1In.f ((rd_T57 x13 x15).f0) 0 (wrap64 (x0 - 1))).bind fun t267=>(if t267=true then((spec_l1In.f ((rd_T57 x13 x15).f1) 0 (wrap64 (x0 - 1))).bind fun t268=>(if t268=true then(if ((rd_T57 x13 x15).f0)= ((rd_T57 x13 x15).f1) then(some (([] :List (S52)),false)) else((spec_l1In.f ((rd_T57 x13 x15).f2) 1 100).bind fun t269=>(if t269=true then(spec_BothWays.l0 k x0 x1 x13 x14 (wrap64 (x15+1))) else(some (([] :List (S52)),false))))) else(some (([] :List (S52)),false)))) else(some (([] :List (S52)),false)))) else(none)) else(none)) else((spec_l1In.f x0 1 12).bind fun t270=>(if t270=true then(spec_BothWays.j1 k x0 x1 (decide ((x1.length:Int) > 80))) else(spec_BothWays.j1 k x0 x1 true)))
def spec_BothWays.j1:Nat→Int→List (S57)→Bool→Option ((List (S52)) × Bool)
 | 0,_,_,_=>none
 |k+1,x0,x1,x54=>if x54=true then(some (([] :List (S52)),false)) else(spec_BothWays.l1 k x0 x1 ([] :List (S52)) 0)
def spec_BothWays.l1:Nat→Int→List (S57)→List (S52)→Int→Option ((List (S52)) × Bool)
 | 0,_,_,_,_=>none
 |k+1,x0,x1,x8,x9=>if x9<x0 then(spec_BothWays.l2 k x0 x1 x8 x9 (wrap64 (x9+1))) else(if (x8.length:Int) > 40 then(some (([] :List (S52)),false)) else(some (x8,true)))
def spec_BothWays.l2:Nat→Int→List (S57)→List (S52)→Int→Int→Option ((List (S52)) × Bool)
 | 0,_,_,_,_,_=>none
 |k+1,x0,x1,x8,x9,x10=>if x10<x0 then((spec_l8Told.f k x1 x9 x10).bind fun t271=>((spec_l8Told.f k x1 x10 x9).bind fun t272=>(if t271 > 0 then(spec_BothWays.j4 k x0 x1 x8 x9 x10 t271 t272 (decide (t272 > 0))) else(spec_BothWays.j4 k x0 x1 x8 x9 x10 t271 t272 false)))) else(spec_BothWays.l1 k x0 x1 x8 (wrap64 (x9+1)))
def spec_BothWays.j4:Nat→Int→List (S57)→List (S52)→Int→Int→Int→Int→Bool→Option ((List (S52)) × Bool)
 | 0,_,_,_,_,_,_,_,_=>none
 |k+1,x0,x1,x8,x9,x10,x11,x12,x80=>if x80=true then(if x12 > x11 then(if x8.length< 5864062014805 then(spec_BothWays.l2 k x0 x1 (x8++ [(⟨x9,x10,x12⟩ :S52)]) x9 (wrap64 (x10+1))) else(none)) else(if x8.length< 5864062014805 then(spec_BothWays.l2 k x0 x1 (x8++ [(⟨x9,x10,x11⟩ :S52)]) x9 (wrap64 (x10+1))) else(none))) else(spec_BothWays.l2 k x0 x1 x8 x9 (wrap64 (x10+1)))
end
def spec_BothWays.f (k:Nat) (a0:Int) (l1:List (S57)):Option ((List (S52)) × Bool):=spec_BothWays.l0 k a0 l1 l1 (l1.length:Int) 0
theorem zcc {q p:Prop} (b:q) (h:q→p:=by intro z;repeat(first|exact z|(with_reducible refine Kd.C_alloc ?_ _)|(with_reducible refine Kd.C_drewN ?_ _)|(with_reducible refine Kd.C_drew ?_))):p:=h b
set_option maxHeartbeats 8000000 in
set_option maxRecDepth 100000 in
theorem spec_BothWays.calls (k:Nat) (a0:Int) (A1:Option Addr) (c1:Nat) (l1:List (S57)) (r1:List (S52)) (r2:Bool) (w:World) (hr1:Kd.C k57 w A1 l1.length l1) (hc1:l1.length≤c1) (h:spec_BothWays.f k a0 l1=some (r1,r2)):
  Calls Try.prog 22 #[.int .i64 a0,.slice A1 l1.length c1] w fun e w'=> ∃ v0_:Value,e= .returned (.tuple #[v0_,.bool r2])∧Kd.R k52 52 w' w.heap.size (fun _=>True) v0_ r1∧Below w.heap.size w w':=by
 have hu57:=Try.underlying57
 have hu52:=Try.underlying52
 have HR1:=Aside0.mk hr1
 have HC1:=Aside0.mk hc1
 clear hr1 hc1
 have HB:=Aside0.mk (Below.refl w.heap.size w)
 have H:(spec_BothWays.l0 k a0 l1 l1 (l1.length:Int) 0)=some (r1,r2):=h
 clear h
 have H':=Aside0.mk H
 clear H
 go_enter Try.func22,Try.ntmps22
 go_wp2
 go_loopg [15] k (fun kq v15 w'=> ∃ (x15_1:Int),v15= .int .i64 x15_1∧Aside0 (spec_BothWays.l0 kq a0 l1 l1 (l1.length:Int) x15_1=some (r1,r2))∧Aside0 (kq≤k)∧Aside0 (Below w.heap.size w w'))
 case atStart=>exact⟨(0),zrs,H',⟨Nat.le_refl _⟩,⟨by exact zk1 HB⟩⟩
 case round=>
  clear H'
  try clear c1
  try clear c2
  try clear p2
  obtain⟨x15_1,rfl,HA,HK1,HB⟩:=hrel
  cases gk with
  |zero=>exact absurd HA.out (by simp [spec_BothWays.l0])
  |succ k1=>
   have H:=HA.out
   clear HA
   simp only [spec_BothWays.l0] at H
   by_cases c3:x15_1< (l1.length:Int)
   ·rw [if_pos c3] at H
    have c3b0:decide (x15_1< (l1.length:Int))=true:=decide_eq_true c3
    clear c3
    by_cases c4: 0≤x15_1
    case neg=>exact znn c4 H
    rw [if_pos c4] at H
    have c4b0:decide (0≤x15_1)=true:=decide_eq_true c4
    clear c4
    by_cases c5:x15_1< (l1.length:Int)
    case neg=>exact znn c5 H
    rw [if_pos c5] at H
    have c5b0:decide (x15_1< (l1.length:Int))=true:=decide_eq_true c5
    clear c5
    replace H:=Option.bind_eq_some_iff.mp H
    obtain⟨t267,A60,H⟩:=H
    replace H:(if t267=true then((spec_l1In.f ((rd_T57 l1 x15_1).f1) 0 (wrap64 (a0 - 1))).bind fun t268=>(if t268=true then(if ((rd_T57 l1 x15_1).f0)= ((rd_T57 l1 x15_1).f1) then(some (([] :List (S52)),false)) else((spec_l1In.f ((rd_T57 l1 x15_1).f2) 1 100).bind fun t269=>(if t269=true then(spec_BothWays.l0 k1 a0 l1 l1 (l1.length:Int) (wrap64 (x15_1+1))) else(some (([] :List (S52)),false))))) else(some (([] :List (S52)),false)))) else(some (([] :List (S52)),false)))=some (r1,r2):=H
    have A6:=Aside0.mk A60
    clear A60
    by_cases c7:t267=true
    ·subst c7
     have H1:((spec_l1In.f ((rd_T57 l1 x15_1).f1) 0 (wrap64 (a0 - 1))).bind fun t268=>(if t268=true then(if ((rd_T57 l1 x15_1).f0)= ((rd_T57 l1 x15_1).f1) then(some (([] :List (S52)),false)) else((spec_l1In.f ((rd_T57 l1 x15_1).f2) 1 100).bind fun t269=>(if t269=true then(spec_BothWays.l0 k1 a0 l1 l1 (l1.length:Int) (wrap64 (x15_1+1))) else(some (([] :List (S52)),false))))) else(some (([] :List (S52)),false))))=some (r1,r2):=by rw [if_pos rfl] at H;exact H
     clear H
     have H:=H1
     clear H1
     replace H:=Option.bind_eq_some_iff.mp H
     obtain⟨t268,A80,H⟩:=H
     replace H:(if t268=true then(if ((rd_T57 l1 x15_1).f0)= ((rd_T57 l1 x15_1).f1) then(some (([] :List (S52)),false)) else((spec_l1In.f ((rd_T57 l1 x15_1).f2) 1 100).bind fun t269=>(if t269=true then(spec_BothWays.l0 k1 a0 l1 l1 (l1.length:Int) (wrap64 (x15_1+1))) else(some (([] :List (S52)),false))))) else(some (([] :List (S52)),false)))=some (r1,r2):=H
     have A8:=Aside0.mk A80
     clear A80
     by_cases c9:t268=true
     ·subst c9
      have H1:(if ((rd_T57 l1 x15_1).f0)= ((rd_T57 l1 x15_1).f1) then(some (([] :List (S52)),false)) else((spec_l1In.f ((rd_T57 l1 x15_1).f2) 1 100).bind fun t269=>(if t269=true then(spec_BothWays.l0 k1 a0 l1 l1 (l1.length:Int) (wrap64 (x15_1+1))) else(some (([] :List (S52)),false)))))=some (r1,r2):=by rw [if_pos rfl] at H;exact H
      clear H
      have H:=H1
      clear H1
      by_cases c10:((rd_T57 l1 x15_1).f0)= ((rd_T57 l1 x15_1).f1)
      ·rw [if_pos c10] at H
       have c10b0:(((rd_T57 l1 x15_1).f0)== ((rd_T57 l1 x15_1).f1))=true:=beq_iff_eq.mpr c10
       have c10b1:(((rd_T57 l1 x15_1).f0) != ((rd_T57 l1 x15_1).f1))=false:=bne_eq_false_iff_eq.mpr c10
       clear c10
       simp only [Option.some.injEq,Prod.mk.injEq] at H
       obtain⟨rfl,rfl⟩:=H
       have p265: 0≤ (x15_1:Int):=of_decide_eq_true zq1
       have q265:x15_1< (l1.length:Int):=of_decide_eq_true zq1
       obtain⟨ad265,e265,hx265_0,hx265_1,hx265_2⟩:=at_T57 HR1.out x15_1 p265 q265
       cases e265
       replace hx265_0:=zhx HB hx265_0
       replace hx265_1:=zhx HB hx265_1
       replace hx265_2:=zhx HB hx265_2
       replace p265:=eq_true p265
       replace q265:=eq_true q265
       go_wp2_with (first|((with_reducible refine gate_dst (N:=7) rfl ?_);(try(refine gate_guard (by rfl) ?_;dsimp only));refine box_event ?hg (N:=7) ?hd (cs:= #[.int .i64 0,.int .i64 0,.int .i64 0]) (t:=57) ?hr ?_;(case hd=>rfl);(case hg=>rfl);(case hr=>first|(go_simp;done)|(go_simp;rfl));intro gb266 hg w11 hbox hb;have BK266:=Aside0.mk (hbox);have GW266:=Aside0.mk ((by rw [hg];exact(below_size (by exact zk1 HB)):w.heap.size≤gb266));have GE266:=GW266;replace HB:=Aside0.mk (below_step (by exact zk1 HB) hb);clear hb hbox hg;have hcz12_0:=zcz BK266 0 (.int .i64 0);have hcz12_1:=zcz BK266 1 (.int .i64 0);have hcz12_2:=zcz BK266 2 (.int .i64 0);have hfz12_0:=blk_frozen BK266.out 0;have hfz12_1:=blk_frozen BK266.out 1;have hfz12_2:=blk_frozen BK266.out 2)|((with_reducible refine gate_callee (f:=50) rfl ?_);refine goesL_ (some 23) rfl rfl Try.func50 (by kernel_rfl) rfl #[.int .i64 ((rd_T57 l1 x15_1).f0),.int .i64 0,.int .i64 (wrap64 (a0 - 1))] rfl zq2 ?_;(with_reducible refine(spec_l1In.calls ((rd_T57 l1 x15_1).f0) 0 (wrap64 (a0 - 1)) true _ A6.out).mono ?_);rintro e w' ⟨rfl,⟨nd,rfl⟩⟩;refine⟨_,rfl,?_⟩)|(go_at_call 50;(with_reducible refine(spec_l1In.calls ((rd_T57 l1 x15_1).f1) 0 (wrap64 (a0 - 1)) true _ A8.out).mono ?_);rintro e w' ⟨rfl,⟨nd,rfl⟩⟩))
       go_ret2
       exact⟨_,zer,by first|exact Kd.R_nil _ _ _ _ _|exact Kd.N_nil _ _ _ _ _|exact Kd.V_nil _ _ _ _ _|exact Kd.Q_nil _ _ _ _ _|exact Kd.S_nil _ _ _ _ _,by exact zk2 HB GE266.out⟩
      ·rw [if_neg c10] at H
       have c10b0:(((rd_T57 l1 x15_1).f0)== ((rd_T57 l1 x15_1).f1))=false:=beq_eq_false_iff_ne.mpr c10
       have c10b1:(((rd_T57 l1 x15_1).f0) != ((rd_T57 l1 x15_1).f1))=true:=bne_iff_ne.mpr c10
       replace H:=Option.bind_eq_some_iff.mp H
       obtain⟨t269,A130,H⟩:=H
       replace H:(if t269=true then(spec_BothWays.l0 k1 a0 l1 l1 (l1.length:Int) (wrap64 (x15_1+1))) else(some (([] :List (S52)),false)))=some (r1,r2):=H
       have A13:=Aside0.mk A130
       clear A130
       by_cases c14:t269=true
       ·subst c14
        have H1:(spec_BothWays.l0 k1 a0 l1 l1 (l1.length:Int) (wrap64 (x15_1+1)))=some (r1,r2):=by rw [if_pos rfl] at H;exact H
        clear H
        have H:=H1
        clear H1
        have H':=Aside0.mk H
        clear H
        have p265: 0≤ (x15_1:Int):=of_decide_eq_true zq1
        have q265:x15_1< (l1.length:Int):=of_decide_eq_true zq1
        obtain⟨ad265,e265,hx265_0,hx265_1,hx265_2⟩:=at_T57 HR1.out x15_1 p265 q265
        cases e265
        replace hx265_0:=zhx HB hx265_0
        replace hx265_1:=zhx HB hx265_1
        replace hx265_2:=zhx HB hx265_2
        replace p265:=eq_true p265
        replace q265:=eq_true q265
        go_wp2_with (first|((with_reducible refine gate_dst (N:=7) rfl ?_);(try(refine gate_guard (by rfl) ?_;dsimp only));refine box_event ?hg (N:=7) ?hd (cs:= #[.int .i64 0,.int .i64 0,.int .i64 0]) (t:=57) ?hr ?_;(case hd=>rfl);(case hg=>rfl);(case hr=>first|(go_simp;done)|(go_simp;rfl));intro gb266 hg w15 hbox hb;have BK266:=Aside0.mk (hbox);have GW266:=Aside0.mk ((by rw [hg];exact(below_size (by exact zk1 HB)):w.heap.size≤gb266));have GE266:=GW266;replace HB:=Aside0.mk (below_step (by exact zk1 HB) hb);clear hb hbox hg;have hcz16_0:=zcz BK266 0 (.int .i64 0);have hcz16_1:=zcz BK266 1 (.int .i64 0);have hcz16_2:=zcz BK266 2 (.int .i64 0);have hfz16_0:=blk_frozen BK266.out 0;have hfz16_1:=blk_frozen BK266.out 1;have hfz16_2:=blk_frozen BK266.out 2)|((with_reducible refine gate_callee (f:=50) rfl ?_);refine goesL_ (some 23) rfl rfl Try.func50 (by kernel_rfl) rfl #[.int .i64 ((rd_T57 l1 x15_1).f0),.int .i64 0,.int .i64 (wrap64 (a0 - 1))] rfl zq2 ?_;(with_reducible refine(spec_l1In.calls ((rd_T57 l1 x15_1).f0) 0 (wrap64 (a0 - 1)) true _ A6.out).mono ?_);rintro e w' ⟨rfl,⟨nd,rfl⟩⟩;refine⟨_,rfl,?_⟩)|(go_at_call 50;(with_reducible refine(spec_l1In.calls ((rd_T57 l1 x15_1).f1) 0 (wrap64 (a0 - 1)) true _ A8.out).mono ?_);rintro e w' ⟨rfl,⟨nd,rfl⟩⟩)|(go_at_call 50;(with_reducible refine(spec_l1In.calls ((rd_T57 l1 x15_1).f2) 1 100 true _ A13.out).mono ?_);rintro e w' ⟨rfl,⟨nd,rfl⟩⟩))
        go_roundg k1
        case measure=>have:=HK1.out;omega
        case rel=>exact⟨(wrap64 (x15_1+1)),zrs,H',⟨by have:=HK1.out;omega⟩,⟨by exact zk2 HB GE266.out⟩⟩
       ·replace c14:=Bool.eq_false_iff.mpr c14
        subst c14
        have H1:(some (([] :List (S52)),false))=some (r1,r2):=by rw [if_neg (show ¬ (false=true) by decide)] at H;exact H
        clear H
        have H:=H1
        clear H1
        simp only [Option.some.injEq,Prod.mk.injEq] at H
        obtain⟨rfl,rfl⟩:=H
        have p265: 0≤ (x15_1:Int):=of_decide_eq_true zq1
        have q265:x15_1< (l1.length:Int):=of_decide_eq_true zq1
        obtain⟨ad265,e265,hx265_0,hx265_1,hx265_2⟩:=at_T57 HR1.out x15_1 p265 q265
        cases e265
        replace hx265_0:=zhx HB hx265_0
        replace hx265_1:=zhx HB hx265_1
        replace hx265_2:=zhx HB hx265_2
        replace p265:=eq_true p265
        replace q265:=eq_true q265
        go_wp2_with (first|((with_reducible refine gate_dst (N:=7) rfl ?_);(try(refine gate_guard (by rfl) ?_;dsimp only));refine box_event ?hg (N:=7) ?hd (cs:= #[.int .i64 0,.int .i64 0,.int .i64 0]) (t:=57) ?hr ?_;(case hd=>rfl);(case hg=>rfl);(case hr=>first|(go_simp;done)|(go_simp;rfl));intro gb266 hg w17 hbox hb;have BK266:=Aside0.mk (hbox);have GW266:=Aside0.mk ((by rw [hg];exact(below_size (by exact zk1 HB)):w.heap.size≤gb266));have GE266:=GW266;replace HB:=Aside0.mk (below_step (by exact zk1 HB) hb);clear hb hbox hg;have hcz18_0:=zcz BK266 0 (.int .i64 0);have hcz18_1:=zcz BK266 1 (.int .i64 0);have hcz18_2:=zcz BK266 2 (.int .i64 0);have hfz18_0:=blk_frozen BK266.out 0;have hfz18_1:=blk_frozen BK266.out 1;have hfz18_2:=blk_frozen BK266.out 2)|((with_reducible refine gate_callee (f:=50) rfl ?_);refine goesL_ (some 23) rfl rfl Try.func50 (by kernel_rfl) rfl #[.int .i64 ((rd_T57 l1 x15_1).f0),.int .i64 0,.int .i64 (wrap64 (a0 - 1))] rfl zq2 ?_;(with_reducible refine(spec_l1In.calls ((rd_T57 l1 x15_1).f0) 0 (wrap64 (a0 - 1)) true _ A6.out).mono ?_);rintro e w' ⟨rfl,⟨nd,rfl⟩⟩;refine⟨_,rfl,?_⟩)|(go_at_call 50;(with_reducible refine(spec_l1In.calls ((rd_T57 l1 x15_1).f1) 0 (wrap64 (a0 - 1)) true _ A8.out).mono ?_);rintro e w' ⟨rfl,⟨nd,rfl⟩⟩)|(go_at_call 50;(with_reducible refine(spec_l1In.calls ((rd_T57 l1 x15_1).f2) 1 100 false _ A13.out).mono ?_);rintro e w' ⟨rfl,⟨nd,rfl⟩⟩))
        go_ret2
        exact⟨_,zer,by first|exact Kd.R_nil _ _ _ _ _|exact Kd.N_nil _ _ _ _ _|exact Kd.V_nil _ _ _ _ _|exact Kd.Q_nil _ _ _ _ _|exact Kd.S_nil _ _ _ _ _,by exact zk2 HB GE266.out⟩
     ·replace c9:=Bool.eq_false_iff.mpr c9
      subst c9
      have H1:(some (([] :List (S52)),false))=some (r1,r2):=by rw [if_neg (show ¬ (false=true) by decide)] at H;exact H
      clear H
      have H:=H1
      clear H1
      simp only [Option.some.injEq,Prod.mk.injEq] at H
      obtain⟨rfl,rfl⟩:=H
      have p265: 0≤ (x15_1:Int):=of_decide_eq_true zq1
      have q265:x15_1< (l1.length:Int):=of_decide_eq_true zq1
      obtain⟨ad265,e265,hx265_0,hx265_1,hx265_2⟩:=at_T57 HR1.out x15_1 p265 q265
      cases e265
      replace hx265_0:=zhx HB hx265_0
      replace hx265_1:=zhx HB hx265_1
      replace hx265_2:=zhx HB hx265_2
      replace p265:=eq_true p265
      replace q265:=eq_true q265
      go_wp2_with (first|((with_reducible refine gate_dst (N:=7) rfl ?_);(try(refine gate_guard (by rfl) ?_;dsimp only));refine box_event ?hg (N:=7) ?hd (cs:= #[.int .i64 0,.int .i64 0,.int .i64 0]) (t:=57) ?hr ?_;(case hd=>rfl);(case hg=>rfl);(case hr=>first|(go_simp;done)|(go_simp;rfl));intro gb266 hg w19 hbox hb;have BK266:=Aside0.mk (hbox);have GW266:=Aside0.mk ((by rw [hg];exact(below_size (by exact zk1 HB)):w.heap.size≤gb266));have GE266:=GW266;replace HB:=Aside0.mk (below_step (by exact zk1 HB) hb);clear hb hbox hg;have hcz20_0:=zcz BK266 0 (.int .i64 0);have hcz20_1:=zcz BK266 1 (.int .i64 0);have hcz20_2:=zcz BK266 2 (.int .i64 0);have hfz20_0:=blk_frozen BK266.out 0;have hfz20_1:=blk_frozen BK266.out 1;have hfz20_2:=blk_frozen BK266.out 2)|((with_reducible refine gate_callee (f:=50) rfl ?_);refine goesL_ (some 23) rfl rfl Try.func50 (by kernel_rfl) rfl #[.int .i64 ((rd_T57 l1 x15_1).f0),.int .i64 0,.int .i64 (wrap64 (a0 - 1))] rfl zq2 ?_;(with_reducible refine(spec_l1In.calls ((rd_T57 l1 x15_1).f0) 0 (wrap64 (a0 - 1)) true _ A6.out).mono ?_);rintro e w' ⟨rfl,⟨nd,rfl⟩⟩;refine⟨_,rfl,?_⟩)|(go_at_call 50;(with_reducible refine(spec_l1In.calls ((rd_T57 l1 x15_1).f1) 0 (wrap64 (a0 - 1)) false _ A8.out).mono ?_);rintro e w' ⟨rfl,⟨nd,rfl⟩⟩))
      go_ret2
      exact⟨_,zer,by first|exact Kd.R_nil _ _ _ _ _|exact Kd.N_nil _ _ _ _ _|exact Kd.V_nil _ _ _ _ _|exact Kd.Q_nil _ _ _ _ _|exact Kd.S_nil _ _ _ _ _,by exact zk2 HB GE266.out⟩
    ·replace c7:=Bool.eq_false_iff.mpr c7
     subst c7
     have H1:(some (([] :List (S52)),false))=some (r1,r2):=by rw [if_neg (show ¬ (false=true) by decide)] at H;exact H
     clear H
     have H:=H1
     clear H1
     simp only [Option.some.injEq,Prod.mk.injEq] at H
     obtain⟨rfl,rfl⟩:=H
     have p265: 0≤ (x15_1:Int):=of_decide_eq_true zq1
     have q265:x15_1< (l1.length:Int):=of_decide_eq_true zq1
     obtain⟨ad265,e265,hx265_0,hx265_1,hx265_2⟩:=at_T57 HR1.out x15_1 p265 q265
     cases e265
     replace hx265_0:=zhx HB hx265_0
     replace hx265_1:=zhx HB hx265_1
     replace hx265_2:=zhx HB hx265_2
     replace p265:=eq_true p265
     replace q265:=eq_true q265
     go_wp2_with (first|((with_reducible refine gate_dst (N:=7) rfl ?_);(try(refine gate_guard (by rfl) ?_;dsimp only));refine box_event ?hg (N:=7) ?hd (cs:= #[.int .i64 0,.int .i64 0,.int .i64 0]) (t:=57) ?hr ?_;(case hd=>rfl);(case hg=>rfl);(case hr=>first|(go_simp;done)|(go_simp;rfl));intro gb266 hg w21 hbox hb;have BK266:=Aside0.mk (hbox);have GW266:=Aside0.mk ((by rw [hg];exact(below_size (by exact zk1 HB)):w.heap.size≤gb266));have GE266:=GW266;replace HB:=Aside0.mk (below_step (by exact zk1 HB) hb);clear hb hbox hg;have hcz22_0:=zcz BK266 0 (.int .i64 0);have hcz22_1:=zcz BK266 1 (.int .i64 0);have hcz22_2:=zcz BK266 2 (.int .i64 0);have hfz22_0:=blk_frozen BK266.out 0;have hfz22_1:=blk_frozen BK266.out 1;have hfz22_2:=blk_frozen BK266.out 2)|((with_reducible refine gate_callee (f:=50) rfl ?_);refine goesL_ (some 23) rfl rfl Try.func50 (by kernel_rfl) rfl #[.int .i64 ((rd_T57 l1 x15_1).f0),.int .i64 0,.int .i64 (wrap64 (a0 - 1))] rfl zq2 ?_;(with_reducible refine(spec_l1In.calls ((rd_T57 l1 x15_1).f0) 0 (wrap64 (a0 - 1)) false _ A6.out).mono ?_);rintro e w' ⟨rfl,⟨nd,rfl⟩⟩;refine⟨_,rfl,?_⟩))
     go_ret2
     exact⟨_,zer,by first|exact Kd.R_nil _ _ _ _ _|exact Kd.N_nil _ _ _ _ _|exact Kd.V_nil _ _ _ _ _|exact Kd.Q_nil _ _ _ _ _|exact Kd.S_nil _ _ _ _ _,by exact zk2 HB GE266.out⟩
   ·rw [if_neg c3] at H
    have c3b0:decide (x15_1< (l1.length:Int))=false:=decide_eq_false c3
    clear c3
    have HC23:=Aside0.mk H
    clear H
    go_upto_region 7 with (fail)
    go_cut [54] (fun v54 wc=> ∃ (kq:Nat) (x54_22:Bool),v54= .bool x54_22∧Aside0 (spec_BothWays.j1 kq a0 l1 x54_22=some (r1,r2))∧Aside0 (kq≤k1)∧Aside0 (Below w.heap.size w wc))
    case first=>
     have H:=HC23.out
     clear HC23
     replace H:=Option.bind_eq_some_iff.mp H
     obtain⟨t270,A240,H⟩:=H
     replace H:(if t270=true then(spec_BothWays.j1 k1 a0 l1 (decide ((l1.length:Int) > 80))) else(spec_BothWays.j1 k1 a0 l1 true))=some (r1,r2):=H
     have A24:=Aside0.mk A240
     clear A240
     by_cases c25:t270=true
     ·subst c25
      have H1:(spec_BothWays.j1 k1 a0 l1 (decide ((l1.length:Int) > 80)))=some (r1,r2):=by rw [if_pos rfl] at H;exact H
      clear H
      have H:=H1
      clear H1
      have H':=Aside0.mk H
      clear H
      go_wp2_with (first|((with_reducible refine gate_callee (f:=50) rfl ?_);refine goesL_ (some 48) rfl rfl Try.func50 (by kernel_rfl) rfl #[.int .i64 a0,.int .i64 1,.int .i64 12] rfl zq2 ?_;(with_reducible refine(spec_l1In.calls a0 1 12 true _ A24.out).mono ?_);rintro e w' ⟨rfl,⟨nd,rfl⟩⟩;refine⟨_,rfl,?_⟩))
      go_meet
      case rel=>exact⟨_,(decide ((l1.length:Int) > 80)),zrs,H',⟨by have:=HK1.out;first|omega|exact Nat.le_refl _⟩,⟨by exact zk1 HB⟩⟩
     ·replace c25:=Bool.eq_false_iff.mpr c25
      subst c25
      have H1:(spec_BothWays.j1 k1 a0 l1 true)=some (r1,r2):=by rw [if_neg (show ¬ (false=true) by decide)] at H;exact H
      clear H
      have H:=H1
      clear H1
      have H':=Aside0.mk H
      clear H
      go_wp2_with (first|((with_reducible refine gate_callee (f:=50) rfl ?_);refine goesL_ (some 48) rfl rfl Try.func50 (by kernel_rfl) rfl #[.int .i64 a0,.int .i64 1,.int .i64 12] rfl zq2 ?_;(with_reducible refine(spec_l1In.calls a0 1 12 false _ A24.out).mono ?_);rintro e w' ⟨rfl,⟨nd,rfl⟩⟩;refine⟨_,rfl,?_⟩))
      go_meet
      case rel=>exact⟨_,(true),zrs,H',⟨by have:=HK1.out;first|omega|exact Nat.le_refl _⟩,⟨by exact zk1 HB⟩⟩
    case rest=>
     clear HC23
     try clear c1
     try clear c2
     try clear p2
     try clear q2
     try clear hx2
     try clear c3
     try clear c3b0
     try clear c4
     try clear c4b0
     try clear c5
     try clear c5b0
     try clear p6
     try clear c7
     try clear c9
     try clear c10
     try clear c10b0
     try clear c10b1
     try clear c14
     try clear c22
     try clear c25
     try clear hcz12_0
     try clear hcz12_1
     try clear hcz12_2
     try clear hcz16_0
     try clear hcz16_1
     try clear hcz16_2
     try clear hcz18_0
     try clear hcz18_1
     try clear hcz18_2
     try clear hcz20_0
     try clear hcz20_1
     try clear hcz20_2
     try clear hcz22_0
     try clear hcz22_1
     try clear hcz22_2
     try clear hfz12_0
     try clear hfz12_1
     try clear hfz12_2
     try clear hfz16_0
     try clear hfz16_1
     try clear hfz16_2
     try clear hfz18_0
     try clear hfz18_1
     try clear hfz18_2
     try clear hfz20_0
     try clear hfz20_1
     try clear hfz20_2
     try clear hfz22_0
     try clear hfz22_1
     try clear hfz22_2
     try clear hx265_0
     try clear hx265_1
     try clear hx265_2
     try clear p2
     try clear p265
     try clear q265
     obtain⟨kq,x54_22,rfl,HA,HJ22,HB⟩:=hcut
     cases kq with
     |zero=>exact absurd HA.out (by simp [spec_BothWays.j1])
     |succ kj22=>
      have H:=HA.out
      clear HA
      simp only [spec_BothWays.j1] at H
      by_cases c26:x54_22=true
      ·subst c26
       have H1:(some (([] :List (S52)),false))=some (r1,r2):=by rw [if_pos rfl] at H;exact H
       clear H
       have H:=H1
       clear H1
       simp only [Option.some.injEq,Prod.mk.injEq] at H
       obtain⟨rfl,rfl⟩:=H
       go_wp2
       go_ret2
       exact⟨_,zer,by first|exact Kd.R_nil _ _ _ _ _|exact Kd.N_nil _ _ _ _ _|exact Kd.V_nil _ _ _ _ _|exact Kd.Q_nil _ _ _ _ _|exact Kd.S_nil _ _ _ _ _,by exact zk1 HB⟩
      ·replace c26:=Bool.eq_false_iff.mpr c26
       subst c26
       have H1:(spec_BothWays.l1 kj22 a0 l1 ([] :List (S52)) 0)=some (r1,r2):=by rw [if_neg (show ¬ (false=true) by decide)] at H;exact H
       clear H
       have H:=H1
       clear H1
       have H':=Aside0.mk H
       clear H
       go_wp2
       go_loopg [8,9] kj22 (fun kq v8 v9 w'=> ∃ (x8_3:List (S52)) (x9_3:Int),v9= .int .i64 x9_3∧Aside0 (spec_BothWays.l1 kq a0 l1 x8_3 x9_3=some (r1,r2))∧Aside0 (kq≤kj22)∧Aside0 (Kd.R k52 52 w' w.heap.size (fun _=>True) v8 x8_3)∧Aside0 (Below w.heap.size w w'))
       case atStart=>exact⟨(([] :List (S52))),(0),zrs,H',⟨Nat.le_refl _⟩,⟨by first|exact Kd.R_nil _ _ _ _ _|exact Kd.N_nil _ _ _ _ _|exact Kd.V_nil _ _ _ _ _|exact Kd.Q_nil _ _ _ _ _|exact Kd.S_nil _ _ _ _ _⟩,⟨by exact zk1 HB⟩⟩
       case round=>
        clear H'
        try clear c1
        try clear c2
        try clear p2
        try clear q2
        try clear hx2
        try clear c3
        try clear c3b0
        try clear c4
        try clear c4b0
        try clear c5
        try clear c5b0
        try clear p6
        try clear c7
        try clear c9
        try clear c10
        try clear c10b0
        try clear c10b1
        try clear c14
        try clear c22
        try clear c25
        try clear c26
        try clear p26
        try clear q26
        try clear hx26
        try clear hcz12_0
        try clear hcz12_1
        try clear hcz12_2
        try clear hcz16_0
        try clear hcz16_1
        try clear hcz16_2
        try clear hcz18_0
        try clear hcz18_1
        try clear hcz18_2
        try clear hcz20_0
        try clear hcz20_1
        try clear hcz20_2
        try clear hcz22_0
        try clear hcz22_1
        try clear hcz22_2
        try clear hfz12_0
        try clear hfz12_1
        try clear hfz12_2
        try clear hfz16_0
        try clear hfz16_1
        try clear hfz16_2
        try clear hfz18_0
        try clear hfz18_1
        try clear hfz18_2
        try clear hfz20_0
        try clear hfz20_1
        try clear hfz20_2
        try clear hfz22_0
        try clear hfz22_1
        try clear hfz22_2
        try clear hx265_0
        try clear hx265_1
        try clear hx265_2
        try clear p2
        try clear p265
        try clear p6
        try clear q2
        try clear q265
        obtain⟨x8_3,x9_3,rfl,HA,HK3,HO_8,HB⟩:=hrel
        cases gk with
        |zero=>exact absurd HA.out (by simp [spec_BothWays.l1])
        |succ k3=>
         have H:=HA.out
         clear HA
         simp only [spec_BothWays.l1] at H
         by_cases c27:x9_3<a0
         ·rw [if_pos c27] at H
          have c27b0:decide (x9_3<a0)=true:=decide_eq_true c27
          clear c27
          have H':=Aside0.mk H
          clear H
          go_wp2
          go_loopg [8,10] k3 (fun kq v8 v10 w'=> ∃ (x8_4:List (S52)) (x10_4:Int),v10= .int .i64 x10_4∧Aside0 (spec_BothWays.l2 kq a0 l1 x8_4 x9_3 x10_4=some (r1,r2))∧Aside0 (kq≤k3)∧Aside0 (Kd.R k52 52 w' w.heap.size (fun _=>True) v8 x8_4)∧Aside0 (Below w.heap.size w w'))
          case atStart=>exact⟨(x8_3),(wrap64 (x9_3+1)),zrs,H',⟨Nat.le_refl _⟩,⟨zdr HO_8⟩,⟨by exact zk1 HB⟩⟩
          case round=>
           clear H'
           try clear c1
           try clear c2
           try clear p2
           try clear q2
           try clear hx2
           try clear c3
           try clear c3b0
           try clear c4
           try clear c4b0
           try clear c5
           try clear c5b0
           try clear p6
           try clear c7
           try clear c9
           try clear c10
           try clear c10b0
           try clear c10b1
           try clear c14
           try clear c22
           try clear c25
           try clear c26
           try clear p26
           try clear q26
           try clear hx26
           try clear c27
           try clear c27b0
           try clear hcz12_0
           try clear hcz12_1
           try clear hcz12_2
           try clear hcz16_0
           try clear hcz16_1
           try clear hcz16_2
           try clear hcz18_0
           try clear hcz18_1
           try clear hcz18_2
           try clear hcz20_0
           try clear hcz20_1
           try clear hcz20_2
           try clear hcz22_0
           try clear hcz22_1
           try clear hcz22_2
           try clear hfz12_0
           try clear hfz12_1
           try clear hfz12_2
           try clear hfz16_0
           try clear hfz16_1
           try clear hfz16_2
           try clear hfz18_0
           try clear hfz18_1
           try clear hfz18_2
           try clear hfz20_0
           try clear hfz20_1
           try clear hfz20_2
           try clear hfz22_0
           try clear hfz22_1
           try clear hfz22_2
           try clear hx265_0
           try clear hx265_1
           try clear hx265_2
           try clear p2
           try clear p26
           try clear p265
           try clear p6
           try clear q2
           try clear q26
           try clear q265
           obtain⟨x8_4,x10_4,rfl,HA,HK4,HO_8,HB⟩:=hrel
           cases gk with
           |zero=>exact absurd HA.out (by simp [spec_BothWays.l2])
           |succ k4=>
            have H:=HA.out
            clear HA
            simp only [spec_BothWays.l2] at H
            by_cases c28:x10_4<a0
            ·rw [if_pos c28] at H
             have c28b0:decide (x10_4<a0)=true:=decide_eq_true c28
             clear c28
             replace H:=Option.bind_eq_some_iff.mp H
             obtain⟨t271,A290,H⟩:=H
             replace H:((spec_l8Told.f k4 l1 x10_4 x9_3).bind fun t272=>(if t271 > 0 then(spec_BothWays.j4 k4 a0 l1 x8_4 x9_3 x10_4 t271 t272 (decide (t272 > 0))) else(spec_BothWays.j4 k4 a0 l1 x8_4 x9_3 x10_4 t271 t272 false)))=some (r1,r2):=H
             have A29:=Aside0.mk A290
             clear A290
             replace H:=Option.bind_eq_some_iff.mp H
             obtain⟨t272,A300,H⟩:=H
             replace H:(if t271 > 0 then(spec_BothWays.j4 k4 a0 l1 x8_4 x9_3 x10_4 t271 t272 (decide (t272 > 0))) else(spec_BothWays.j4 k4 a0 l1 x8_4 x9_3 x10_4 t271 t272 false))=some (r1,r2):=H
             have A30:=Aside0.mk A300
             clear A300
             have HC31:=Aside0.mk H
             clear H
             go_upto_region 18 with (first|((with_reducible refine gate_callee (f:=51) rfl ?_);refine goesL_ (some 70) rfl rfl Try.func51 (by kernel_rfl) rfl #[.slice A1 l1.length c1,.int .i64 x9_3,.int .i64 x10_4] rfl zq2 ?_;(with_reducible refine(spec_l8Told.calls k4 _ _ l1 x9_3 x10_4 t271 _ ?side1 ?side2 A29.out).mono ?_);(case side1=>exact zcc ((Kd.C_below HR1.out HB.out)));(case side2=>exact HC1.out);rintro e w32 ⟨rfl,hb⟩;refine⟨_,rfl,?_⟩;replace HO_8:=Aside0.mk (Kd.R_below (zq4 HO_8) hb);replace HB:=Aside0.mk (below_step (by exact zk1 HB) hb);(try clear hb);(try clear hb2);(try clear hk);(try clear hi))|((with_reducible refine gate_callee (f:=51) rfl ?_);refine goesL_ (some 74) rfl rfl Try.func51 (by kernel_rfl) rfl #[.slice A1 l1.length c1,.int .i64 x10_4,.int .i64 x9_3] rfl zq2 ?_;(with_reducible refine(spec_l8Told.calls k4 _ _ l1 x10_4 x9_3 t272 _ ?side1 ?side2 A30.out).mono ?_);(case side1=>exact zcc ((Kd.C_below HR1.out HB.out)));(case side2=>exact HC1.out);rintro e w33 ⟨rfl,hb⟩;refine⟨_,rfl,?_⟩;replace HO_8:=Aside0.mk (Kd.R_below (zq4 HO_8) hb);replace HB:=Aside0.mk (below_step (by exact zk1 HB) hb);(try clear hb);(try clear hb2);(try clear hk);(try clear hi)))
             (try simp only [Act.put,List.setIfInBounds_toArray,List.set_cons_zero,List.set_cons_succ])
             go_cut [80] (fun v80 wc=> ∃ (kq:Nat) (x80_30:Bool),v80= .bool x80_30∧Aside0 (spec_BothWays.j4 kq a0 l1 x8_4 x9_3 x10_4 t271 t272 x80_30=some (r1,r2))∧Aside0 (kq≤k4)∧Aside0 (Kd.R k52 52 wc w.heap.size (fun _=>True) u8 x8_4)∧Aside0 (Below w.heap.size w wc))
             case first=>
              have H:=HC31.out
              clear HC31
              by_cases c34:t271 > 0
              ·rw [if_pos c34] at H
               have c34b0:decide (0<t271)=true:=decide_eq_true c34
               clear c34
               (first|rw [c34b0]|(simp only [i64_w,i32_w];rw [c34b0])|skip)
               have H':=Aside0.mk H
               clear H
               go_wp2
               go_meet
               case rel=>exact⟨_,(decide (t272 > 0)),zrs,H',⟨by have:=HK1.out;have:=HJ22.out;have:=HK3.out;have:=HK4.out;first|omega|exact Nat.le_refl _⟩,⟨zdr HO_8⟩,⟨by exact zk1 HB⟩⟩
              ·rw [if_neg c34] at H
               have c34b0:decide (0<t271)=false:=decide_eq_false c34
               clear c34
               (first|rw [c34b0]|(simp only [i64_w,i32_w];rw [c34b0])|skip)
               have H':=Aside0.mk H
               clear H
               go_wp2
               go_meet
               case rel=>exact⟨_,(false),zrs,H',⟨by have:=HK1.out;have:=HJ22.out;have:=HK3.out;have:=HK4.out;first|omega|exact Nat.le_refl _⟩,⟨zdr HO_8⟩,⟨by exact zk1 HB⟩⟩
             case rest=>
              clear HC31
              try clear c1
              try clear c2
              try clear p2
              try clear q2
              try clear hx2
              try clear c3
              try clear c3b0
              try clear c4
              try clear c4b0
              try clear c5
              try clear c5b0
              try clear p6
              try clear c7
              try clear c9
              try clear c10
              try clear c10b0
              try clear c10b1
              try clear c14
              try clear c22
              try clear c25
              try clear c26
              try clear p26
              try clear q26
              try clear hx26
              try clear c27
              try clear c27b0
              try clear c28
              try clear c28b0
              try clear c34
              try clear c34b0
              try clear hcz12_0
              try clear hcz12_1
              try clear hcz12_2
              try clear hcz16_0
              try clear hcz16_1
              try clear hcz16_2
              try clear hcz18_0
              try clear hcz18_1
              try clear hcz18_2
              try clear hcz20_0
              try clear hcz20_1
              try clear hcz20_2
              try clear hcz22_0
              try clear hcz22_1
              try clear hcz22_2
              try clear hfz12_0
              try clear hfz12_1
              try clear hfz12_2
              try clear hfz16_0
              try clear hfz16_1
              try clear hfz16_2
              try clear hfz18_0
              try clear hfz18_1
              try clear hfz18_2
              try clear hfz20_0
              try clear hfz20_1
              try clear hfz20_2
              try clear hfz22_0
              try clear hfz22_1
              try clear hfz22_2
              try clear hx265_0
              try clear hx265_1
              try clear hx265_2
              try clear p2
              try clear p26
              try clear p265
              try clear p6
              try clear q2
              try clear q26
              try clear q265
              obtain⟨kq,x80_30,rfl,HA,HJ30,HO_8,HB⟩:=hcut
              cases kq with
              |zero=>exact absurd HA.out (by simp [spec_BothWays.j4])
              |succ kj30=>
               have H:=HA.out
               clear HA
               simp only [spec_BothWays.j4] at H
               by_cases c35:x80_30=true
               ·subst c35
                have H1:(if t272 > t271 then(if x8_4.length< 5864062014805 then(spec_BothWays.l2 kj30 a0 l1 (x8_4++ [(⟨x9_3,x10_4,t272⟩ :S52)]) x9_3 (wrap64 (x10_4+1))) else(none)) else(if x8_4.length< 5864062014805 then(spec_BothWays.l2 kj30 a0 l1 (x8_4++ [(⟨x9_3,x10_4,t271⟩ :S52)]) x9_3 (wrap64 (x10_4+1))) else(none)))=some (r1,r2):=by rw [if_pos rfl] at H;exact H
                clear H
                have H:=H1
                clear H1
                by_cases c36:t272 > t271
                ·rw [if_pos c36] at H
                 have c36b0:decide (t271<t272)=true:=decide_eq_true c36
                 clear c36
                 by_cases c37:x8_4.length< 5864062014805
                 case neg=>exact znn c37 H
                 rw [if_pos c37] at H
                 have LMc37:=Aside0.mk c37
                 clear c37
                 obtain⟨y273,hy273⟩ :∃ y_:List (S52),y_= (x8_4++ [(⟨x9_3,x10_4,t272⟩ :S52)]):=⟨_,rfl⟩
                 replace H:(spec_BothWays.l2 kj30 a0 l1 y273 x9_3 (wrap64 (x10_4+1)))=some (r1,r2):=zfh hy273 H
                 have Ny273:=Aside0.mk hy273
                 clear hy273
                 have H':=Aside0.mk H
                 clear H
                 go_wp2_with (first|((with_reducible refine gate_builtin (b:= .append) (xs:= #[.tmp 85,.tmp 90]) rfl ?_);(try(refine gate_guard (by rfl) ?_;dsimp only));at_builtin;refine Kd.R_append k52 (w0:=w) w.heap.size rfl (.tmp 85) (.tmp 90) 26 52 (.agg #[(.int .i64 0),(.int .i64 0),(.int .i64 0)]) 24 rfl Try.underlying26 info52 rfl (by decide) (by omega) u8 x8_4 (⟨x9_3,x10_4,t272⟩ :S52) [.int .i64 x9_3,.int .i64 x10_4,.int .i64 t272] (fun _=>True) (fun _=>False) rfl rfl ?aP (fun _ hk=>hk.elim) ?aF ?aO ?aB ?aS ?aL ?_;(case aP=>exact k52_mkM _ _ _ (⟨x9_3,x10_4,t272⟩ :S52));(case aB=>exact(by exact zk1 HB));(case aF=>exact(fun _ _=>trivial));(case aO=>exact(zq4 HO_8));(case aS=>exact(below_size (by exact zk1 HB)));(case aL=>have:=LMc37.out;omega);intro v274 w38 ho hb hg hat;rw [← Ny273.out] at ho;have HO275:=Aside0.mk (ho);replace HB:=Aside0.mk (hb);clear HO_8;clear ho hb hg hat))
                 go_roundg kj30
                 case measure=>have:=HK1.out;have:=HJ22.out;have:=HK3.out;have:=HK4.out;have:=HJ30.out;omega
                 case rel=>exact⟨(y273),(wrap64 (x10_4+1)),zrs,H',⟨by have:=HK1.out;have:=HJ22.out;have:=HK3.out;have:=HK4.out;have:=HJ30.out;omega⟩,⟨zdr HO275⟩,⟨by exact zk1 HB⟩⟩
                ·rw [if_neg c36] at H
                 have c36b0:decide (t271<t272)=false:=decide_eq_false c36
                 clear c36
                 by_cases c39:x8_4.length< 5864062014805
                 case neg=>exact znn c39 H
                 rw [if_pos c39] at H
                 have LMc39:=Aside0.mk c39
                 clear c39
                 obtain⟨y276,hy276⟩ :∃ y_:List (S52),y_= (x8_4++ [(⟨x9_3,x10_4,t271⟩ :S52)]):=⟨_,rfl⟩
                 replace H:(spec_BothWays.l2 kj30 a0 l1 y276 x9_3 (wrap64 (x10_4+1)))=some (r1,r2):=zfh hy276 H
                 have Ny276:=Aside0.mk hy276
                 clear hy276
                 have H':=Aside0.mk H
                 clear H
                 go_wp2_with (first|((with_reducible refine gate_builtin (b:= .append) (xs:= #[.tmp 85,.tmp 90]) rfl ?_);(try(refine gate_guard (by rfl) ?_;dsimp only));at_builtin;refine Kd.R_append k52 (w0:=w) w.heap.size rfl (.tmp 85) (.tmp 90) 26 52 (.agg #[(.int .i64 0),(.int .i64 0),(.int .i64 0)]) 24 rfl Try.underlying26 info52 rfl (by decide) (by omega) u8 x8_4 (⟨x9_3,x10_4,t271⟩ :S52) [.int .i64 x9_3,.int .i64 x10_4,.int .i64 t271] (fun _=>True) (fun _=>False) rfl rfl ?aP (fun _ hk=>hk.elim) ?aF ?aO ?aB ?aS ?aL ?_;(case aP=>exact k52_mkM _ _ _ (⟨x9_3,x10_4,t271⟩ :S52));(case aB=>exact(by exact zk1 HB));(case aF=>exact(fun _ _=>trivial));(case aO=>exact(zq4 HO_8));(case aS=>exact(below_size (by exact zk1 HB)));(case aL=>have:=LMc39.out;omega);intro v277 w40 ho hb hg hat;rw [← Ny276.out] at ho;have HO278:=Aside0.mk (ho);replace HB:=Aside0.mk (hb);clear HO_8;clear ho hb hg hat))
                 go_roundg kj30
                 case measure=>have:=HK1.out;have:=HJ22.out;have:=HK3.out;have:=HK4.out;have:=HJ30.out;omega
                 case rel=>exact⟨(y276),(wrap64 (x10_4+1)),zrs,H',⟨by have:=HK1.out;have:=HJ22.out;have:=HK3.out;have:=HK4.out;have:=HJ30.out;omega⟩,⟨zdr HO278⟩,⟨by exact zk1 HB⟩⟩
               ·replace c35:=Bool.eq_false_iff.mpr c35
                subst c35
                have H1:(spec_BothWays.l2 kj30 a0 l1 x8_4 x9_3 (wrap64 (x10_4+1)))=some (r1,r2):=by rw [if_neg (show ¬ (false=true) by decide)] at H;exact H
                clear H
                have H:=H1
                clear H1
                have H':=Aside0.mk H
                clear H
                go_wp2
                go_roundg kj30
                case measure=>have:=HK1.out;have:=HJ22.out;have:=HK3.out;have:=HK4.out;have:=HJ30.out;omega
                case rel=>exact⟨(x8_4),(wrap64 (x10_4+1)),zrs,H',⟨by have:=HK1.out;have:=HJ22.out;have:=HK3.out;have:=HK4.out;have:=HJ30.out;omega⟩,⟨zdr HO_8⟩,⟨by exact zk1 HB⟩⟩
            ·rw [if_neg c28] at H
             have c28b0:decide (x10_4<a0)=false:=decide_eq_false c28
             clear c28
             have H':=Aside0.mk H
             clear H
             go_wp2
             go_roundg k4
             case measure=>have:=HK1.out;have:=HJ22.out;have:=HK3.out;have:=HK4.out;omega
             case rel=>exact⟨(x8_4),(wrap64 (x9_3+1)),zrs,H',⟨by have:=HK1.out;have:=HJ22.out;have:=HK3.out;have:=HK4.out;omega⟩,⟨zdr HO_8⟩,⟨by exact zk1 HB⟩⟩
         ·rw [if_neg c27] at H
          have c27b0:decide (x9_3<a0)=false:=decide_eq_false c27
          clear c27
          by_cases c41:(x8_3.length:Int) > 40
          ·rw [if_pos c41] at H
           have c41b0:decide (40< (x8_3.length:Int))=true:=decide_eq_true c41
           have c41b1:decide (40<x8_3.length)=true:=decide_eq_true (by omega)
           clear c41
           simp only [Option.some.injEq,Prod.mk.injEq] at H
           obtain⟨rfl,rfl⟩:=H
           obtain⟨Ao42,co42,eo42⟩:=Kd.R_slice HO_8.out
           subst eo42
           go_wp2
           go_ret2
           exact⟨_,zer,by first|exact Kd.R_nil _ _ _ _ _|exact Kd.N_nil _ _ _ _ _|exact Kd.V_nil _ _ _ _ _|exact Kd.Q_nil _ _ _ _ _|exact Kd.S_nil _ _ _ _ _,by exact zk1 HB⟩
          ·rw [if_neg c41] at H
           have c41b0:decide (40< (x8_3.length:Int))=false:=decide_eq_false c41
           have c41b1:decide (40<x8_3.length)=false:=decide_eq_false (by omega)
           clear c41
           simp only [Option.some.injEq,Prod.mk.injEq] at H
           obtain⟨rfl,rfl⟩:=H
           obtain⟨Ao43,co43,eo43⟩:=Kd.R_slice HO_8.out
           subst eo43
           go_wp2
           go_ret2
           exact⟨_,zer,zdr HO_8,by exact zk1 HB⟩
def laws_toTold.f (a0_0:Int) (a0_1:Int) (a0_2:Int):Option (Int × Int × Int):=some (a0_0,a0_1,a0_2)
theorem zk5 {q r1 r2 r3 p:Prop} (b:Aside0 q) (b1:r1) (b2:r2) (b3:r3) (h:q→r1→r2→r3→p:=by intro z g1 g2 g3;repeat(first|(with_reducible first|exact z|apply below_alloc|apply pw_below_drewN|apply below_drew1|refine below_set ?_ g1|refine below_set ?_ g2|refine below_set ?_ g3)|exact z)):p:=h b.out b1 b2 b3
set_option maxHeartbeats 8000000 in
set_option maxRecDepth 100000 in
theorem laws_toTold.calls (a0_0:Int) (a0_1:Int) (a0_2:Int) (r1:Int) (r2:Int) (r3:Int) (w:World) (h:laws_toTold.f a0_0 a0_1 a0_2=some (r1,r2,r3)):
  Calls Try.prog 52 #[.agg #[.int .i64 a0_0,.int .i64 a0_1,.int .i64 a0_2]] w fun e w'=>e= .returned (.agg #[.int .i64 r1,.int .i64 r2,.int .i64 r3])∧Below w.heap.size w w':=by
 have hu70:=Try.underlying70
 have hu57:=Try.underlying57
 have HB:=Aside0.mk (Below.refl w.heap.size w)
 have H:(some (a0_0,a0_1,a0_2))=some (r1,r2,r3):=h
 clear h
 simp only [Option.some.injEq,Prod.mk.injEq] at H
 obtain⟨rfl,rfl,rfl⟩:=H
 go_enter Try.func52,Try.ntmps52
 go_wp2_with (first|((with_reducible refine gate_dst (N:=1) rfl ?_);refine box_event ?hg (N:=1) ?hd (cs:= #[.int .i64 a0_0,.int .i64 a0_1,.int .i64 a0_2]) (t:=70) ?hr ?_;(case hd=>rfl);(case hg=>rfl);(case hr=>first|(go_simp;done)|(go_simp;rfl));intro gb279 hg w2 hbox hb;have BK279:=Aside0.mk (hbox);have GW279:=Aside0.mk ((by rw [hg];exact(below_size (by exact zk1 HB)):w.heap.size≤gb279));have GE279:=GW279;replace HB:=Aside0.mk (below_step (by exact zk1 HB) hb);clear hb hbox hg)|((with_reducible refine gate_dst (N:=2) rfl ?_);refine box_event ?hg (N:=2) ?hd (cs:= #[.int .i64 0,.int .i64 0,.int .i64 0]) (t:=57) ?hr ?_;(case hd=>rfl);(case hg=>rfl);(case hr=>first|(go_simp;done)|(go_simp;rfl));intro gb280 hg w3 hbox hb;have BK280:=Aside0.mk (hbox);have GW280:=Aside0.mk ((by rw [hg];exact(below_size (by exact zk2 HB GE279.out)):w.heap.size≤gb280));have GE280:=GW280;have NB279_280:=Aside0.mk ((by rw [hg];exact Nat.ne_of_lt (blk_lt (g:=gb279) (o:= .cells #[.int .i64 a0_0,.int .i64 a0_1,.int .i64 a0_2] 70 (0,0)) (zq3 BK279)):gb279≠gb280));have NB280_279:=Aside0.mk ((by rw [hg];exact Nat.ne_of_gt (blk_lt (g:=gb279) (o:= .cells #[.int .i64 a0_0,.int .i64 a0_1,.int .i64 a0_2] 70 (0,0)) (zq3 BK279)):gb280≠gb279));replace BK279:=Aside0.mk (blk_below (g:=gb279) (o:= .cells #[.int .i64 a0_0,.int .i64 a0_1,.int .i64 a0_2] 70 (0,0)) (zq3 BK279) hb);replace HB:=Aside0.mk (below_step (by exact zk2 HB GE279.out) hb);clear hb hbox hg)|((with_reducible refine gate_dst (N:=3) rfl ?_);refine box_event ?hg (N:=3) ?hd (cs:= #[.int .i64 0,.int .i64 0,.int .i64 0]) (t:=57) ?hr ?_;(case hd=>rfl);(case hg=>rfl);(case hr=>first|(go_simp;done)|(go_simp;rfl));intro gb281 hg w4 hbox hb;have BK281:=Aside0.mk (hbox);have GW281:=Aside0.mk ((by rw [hg];exact(below_size (by exact zk3 HB GE279.out GE280.out)):w.heap.size≤gb281));have GE281:=GW281;have NB279_281:=Aside0.mk ((by rw [hg];exact Nat.ne_of_lt (blk_lt (g:=gb279) (o:= .cells #[.int .i64 a0_0,.int .i64 a0_1,.int .i64 a0_2] 70 (0,0)) (zq3 BK279)):gb279≠gb281));have NB281_279:=Aside0.mk ((by rw [hg];exact Nat.ne_of_gt (blk_lt (g:=gb279) (o:= .cells #[.int .i64 a0_0,.int .i64 a0_1,.int .i64 a0_2] 70 (0,0)) (zq3 BK279)):gb281≠gb279));have NB280_281:=Aside0.mk ((by rw [hg];exact Nat.ne_of_lt (blk_lt (g:=gb280) (o:= .cells #[.int .i64 0,.int .i64 0,.int .i64 0] 57 (0,0)) (zq3 BK280)):gb280≠gb281));have NB281_280:=Aside0.mk ((by rw [hg];exact Nat.ne_of_gt (blk_lt (g:=gb280) (o:= .cells #[.int .i64 0,.int .i64 0,.int .i64 0] 57 (0,0)) (zq3 BK280)):gb281≠gb280));replace BK279:=Aside0.mk (blk_below (g:=gb279) (o:= .cells #[.int .i64 a0_0,.int .i64 a0_1,.int .i64 a0_2] 70 (0,0)) (zq3 BK279) hb);replace BK280:=Aside0.mk (blk_below (g:=gb280) (o:= .cells #[.int .i64 0,.int .i64 0,.int .i64 0] 57 (0,0)) (zq3 BK280) hb);replace HB:=Aside0.mk (below_step (by exact zk3 HB GE279.out GE280.out) hb);clear hb hbox hg;have hnb5:=NB279_280.out;have hnc5:=NB280_279.out;have hnb6:=NB279_281.out;have hnc6:=NB281_279.out;have hcz7_0:=zcz BK279 0 (.int .i64 a0_0);have hcz7_1:=zcz BK279 1 (.int .i64 a0_1);have hcz7_2:=zcz BK279 2 (.int .i64 a0_2);have hfz7_0:=blk_frozen BK279.out 0;have hfz7_1:=blk_frozen BK279.out 1;have hfz7_2:=blk_frozen BK279.out 2;have hnb8:=NB281_280.out;have hnc8:=NB280_281.out;have hcz9_0:=zcz BK281 0 (.int .i64 0);have hcz9_1:=zcz BK281 1 (.int .i64 0);have hcz9_2:=zcz BK281 2 (.int .i64 0);have hfz9_0:=blk_frozen BK281.out 0;have hfz9_1:=blk_frozen BK281.out 1;have hfz9_2:=blk_frozen BK281.out 2;have hcz10_0:=zcz BK280 0 (.int .i64 0);have hcz10_1:=zcz BK280 1 (.int .i64 0);have hcz10_2:=zcz BK280 2 (.int .i64 0);have hfz10_0:=blk_frozen BK280.out 0;have hfz10_1:=blk_frozen BK280.out 1;have hfz10_2:=blk_frozen BK280.out 2))
 refine bodyPost_ret (results_cell_row rfl _ _ gb280 57 #[.int .i64 a0_0,.int .i64 a0_1,.int .i64 a0_2] (0,0) _ rfl (by(with_reducible repeat(first|refine blk_drewN ?_ _|refine blk_drew ?_ |refine blk_alloc ?_ _));refine blk_put (cs:= #[.int .i64 a0_0,.int .i64 a0_1,.int .i64 0]) ?_ 2 _ rfl;(with_reducible repeat(first|refine blk_drewN ?_ _|refine blk_drew ?_ |refine blk_alloc ?_ _));refine blk_put (cs:= #[.int .i64 a0_0,.int .i64 0,.int .i64 0]) ?_ 1 _ rfl;(with_reducible repeat(first|refine blk_drewN ?_ _|refine blk_drew ?_ |refine blk_alloc ?_ _));refine blk_put (cs:= #[.int .i64 0,.int .i64 0,.int .i64 0]) ?_ 0 _ rfl;(with_reducible repeat(first|refine blk_drewN ?_ _|refine blk_drew ?_ |refine blk_alloc ?_ _));refine blk_far ?_ NB280_281.out _;(with_reducible repeat(first|refine blk_drewN ?_ _|refine blk_drew ?_ |refine blk_alloc ?_ _));refine blk_far ?_ NB280_281.out _;(with_reducible repeat(first|refine blk_drewN ?_ _|refine blk_drew ?_ |refine blk_alloc ?_ _));refine blk_far ?_ NB280_281.out _;(with_reducible repeat(first|refine blk_drewN ?_ _|refine blk_drew ?_ |refine blk_alloc ?_ _));exact BK280.out) Try.underlying57 rfl (by kernel_rfl)) rfl ?_
 exact⟨zer,by exact zk5 HB GE279.out GE280.out GE281.out⟩
def laws_toToldS.l0:Nat→List (S70)→List (S57)→Int→Option ((List (S57)))
 | 0,_,_,_=>none
 |k+1,x0,x3,x4=>if x4< (x0.length:Int) then(if 0≤x4 then((laws_toTold.f ((rd_T70 x0 x4).f0) ((rd_T70 x0 x4).f1) ((rd_T70 x0 x4).f2)).bind fun bt286=>(if x4< (x3.length:Int) then(laws_toToldS.l0 k x0 (x3.set (x4:Int).toNat (⟨bt286.1,bt286.2.1,bt286.2.2⟩ :S57)) (wrap64 (x4+1))) else(none))) else(none)) else(some x3)
def laws_toToldS.f (k:Nat) (l0:List (S70)):Option ((List (S57))):=if 0≤ (l0.length:Int) then(if ((l0.length:Int):Int).toNat≤11728124029610 then(laws_toToldS.l0 k l0 (List.replicate ((l0.length:Int):Int).toNat z57) 0) else(none)) else(none)
set_option maxHeartbeats 8000000 in
set_option maxRecDepth 100000 in
theorem laws_toToldS.calls (k:Nat) (A0:Option Addr) (c0:Nat) (l0:List (S70)) (r:List (S57)) (w:World) (hr0:Kd.C k70 w A0 l0.length l0) (hc0:l0.length≤c0) (h:laws_toToldS.f k l0=some r):
  Calls Try.prog 23 #[.slice A0 l0.length c0] w fun e w'=> ∃ v0_:Value,e= .returned (v0_)∧Kd.R k57 57 w' w.heap.size (fun _=>True) v0_ r∧Below w.heap.size w w':=by
 have hu70:=Try.underlying70
 have hu57:=Try.underlying57
 have HR0:=Aside0.mk hr0
 have HC0:=Aside0.mk hc0
 clear hr0 hc0
 have HB:=Aside0.mk (Below.refl w.heap.size w)
 have H:(if 0≤ (l0.length:Int) then(if ((l0.length:Int):Int).toNat≤11728124029610 then(laws_toToldS.l0 k l0 (List.replicate ((l0.length:Int):Int).toNat z57) 0) else(none)) else(none))=some r:=h
 clear h
 by_cases c2: 0≤ (l0.length:Int)
 case neg=>exact znn c2 H
 rw [if_pos c2] at H
 have c2b0:=eq_true c2
 have c2b1:decide (0≤ (l0.length:Int))=true:=decide_eq_true c2
 clear c2
 by_cases c3:((l0.length:Int):Int).toNat≤11728124029610
 case neg=>exact znn c3 H
 rw [if_pos c3] at H
 have c3b0:=eq_true c3
 have c3b1:decide (((l0.length:Int):Int).toNat≤11728124029610)=true:=decide_eq_true c3
 clear c3
 obtain⟨y282,hy282⟩ :∃ y_:List (S57),y_= (List.replicate ((l0.length:Int):Int).toNat z57):=⟨_,rfl⟩
 replace H:(laws_toToldS.l0 k l0 y282 0)=some r:=zfh hy282 H
 have Ny282:=Aside0.mk hy282
 clear hy282
 have H':=Aside0.mk H
 clear H
 go_enter Try.func23,Try.ntmps23
 go_wp2_with (first|((with_reducible refine gate_dst (N:=7) rfl ?_);refine Kd.R_make k57 _ 57 rfl (N:=7) rfl 40 _ _ rfl (l0.length:Int) rfl rfl Try.underlying40 (.agg #[(.int .i64 0),(.int .i64 0),(.int .i64 0)]) 24 info57 rfl (by decide) (by omega) z57 (ok:=fun _=>True) (okp:=fun _=>True) (k57_mkM _ _ _ z57 ) (fun _ hk=>hk) trivial (of_decide_eq_true zq1) (Nat.le_trans (Nat.mul_le_mul_right _ (of_decide_eq_true zq1:(l0.length:Int).toNat≤11728124029610)) (by omega)) (Below.refl _ _) (Nat.le_refl _) ?_;intro v283 w4 ho5 hb hg_ hnew_;clear hg_ hnew_;(first|rw [← Ny282.out] at ho5|(simp only [Int.reduceToNat] at ho5;rw [← Ny282.out] at ho5));have HO284:=Aside0.mk (Kd.R_lower ho5 (below_size (by exact zk1 HB)));replace HB:=Aside0.mk (below_step (by exact zk1 HB) hb);clear hb ho5))
 go_loopg [4] k (fun kq v4 w'=> ∃ (x3_1:List (S57)) (x4_1:Int),v4= .int .i64 x4_1∧Aside0 (laws_toToldS.l0 kq l0 x3_1 x4_1=some r)∧Aside0 (kq≤k)∧Aside0 (Kd.R k57 57 w' w.heap.size (fun _=>True) v283 x3_1)∧Aside0 (Below w.heap.size w w'))
 case atStart=>exact⟨(y282),(0),zrs,H',⟨Nat.le_refl _⟩,⟨zdr HO284⟩,⟨by exact zk1 HB⟩⟩
 case round=>
  clear H'
  try clear c2
  try clear c2b0
  try clear c2b1
  try clear p2
  try clear c3
  try clear c3b0
  try clear c3b1
  obtain⟨x3_1,x4_1,rfl,HA,HK1,HO_3,HB⟩:=hrel
  cases gk with
  |zero=>exact absurd HA.out (by simp [laws_toToldS.l0])
  |succ k1=>
   have H:=HA.out
   clear HA
   simp only [laws_toToldS.l0] at H
   by_cases c6:x4_1< (l0.length:Int)
   ·rw [if_pos c6] at H
    have c6b0:decide (x4_1< (l0.length:Int))=true:=decide_eq_true c6
    clear c6
    by_cases c7: 0≤x4_1
    case neg=>exact znn c7 H
    rw [if_pos c7] at H
    have c7b0:decide (0≤x4_1)=true:=decide_eq_true c7
    clear c7
    replace H:=Option.bind_eq_some_iff.mp H
    obtain⟨⟨t286,t287,t288⟩,A80,H⟩:=H
    replace H:(if x4_1< (x3_1.length:Int) then(laws_toToldS.l0 k1 l0 (x3_1.set (x4_1:Int).toNat (⟨t286,t287,t288⟩ :S57)) (wrap64 (x4_1+1))) else(none))=some r:=H
    have A8:=Aside0.mk A80
    clear A80
    by_cases c9:x4_1< (x3_1.length:Int)
    case neg=>exact znn c9 H
    rw [if_pos c9] at H
    have c9b0:decide (x4_1< (x3_1.length:Int))=true:=decide_eq_true c9
    clear c9
    obtain⟨y289,hy289⟩ :∃ y_:List (S57),y_= (x3_1.set (x4_1:Int).toNat (⟨t286,t287,t288⟩ :S57)):=⟨_,rfl⟩
    replace H:(laws_toToldS.l0 k1 l0 y289 (wrap64 (x4_1+1)))=some r:=zfh hy289 H
    have Ny289:=Aside0.mk hy289
    clear hy289
    have H':=Aside0.mk H
    clear H
    have p285: 0≤ (x4_1:Int):=of_decide_eq_true zq1
    have q285:x4_1< (l0.length:Int):=of_decide_eq_true zq1
    obtain⟨ad285,e285,hx285_0,hx285_1,hx285_2⟩:=at_T70 HR0.out x4_1 p285 q285
    cases e285
    replace hx285_0:=zhx HB hx285_0
    replace hx285_1:=zhx HB hx285_1
    replace hx285_2:=zhx HB hx285_2
    replace p285:=eq_true p285
    replace q285:=eq_true q285
    go_wp2_with (first|((with_reducible refine gate_callee (f:=52) rfl ?_);refine goesL_ (some 20) rfl rfl Try.func52 (by kernel_rfl) rfl #[.agg #[.int .i64 ((rd_T70 l0 x4_1).f0),.int .i64 ((rd_T70 l0 x4_1).f1),.int .i64 ((rd_T70 l0 x4_1).f2)]] rfl zq2 ?_;(with_reducible refine(laws_toTold.calls ((rd_T70 l0 x4_1).f0) ((rd_T70 l0 x4_1).f1) ((rd_T70 l0 x4_1).f2) t286 t287 t288 _ A8.out).mono ?_);rintro e w11 ⟨rfl,hb⟩;refine⟨_,rfl,?_⟩;replace HO_3:=Aside0.mk (Kd.R_below (zq4 HO_3) hb);replace HB:=Aside0.mk (below_step (by exact zk1 HB) hb);(try clear hb);(try clear hb2);(try clear hk);(try clear hi);have p10: 0≤ (x4_1:Int):=of_decide_eq_true zq1;have q10:(x4_1:Int)< ((x3_1.length:Int):Int):=of_decide_eq_true zq1;obtain⟨go10,co10,eo10,gb10,gl10,cl10,HG10⟩:=Kd.R_form HO_3.out (by omega);(first|cases eo10|(injection eo10 with ea_ en_ ec_;(first|subst ea_|(injection ea_ with ea_;subst ea_));subst ec_;clear en_));have GB10:=Aside0.mk gb10;have GG10:=Aside0.mk HG10;clear gb10 gl10 HG10;obtain⟨ce10,hcl10,hM10,hcc10,hfr10⟩:=Kd.R_elem HO_3.out z57 (x4_1:Int) p10 q10;obtain rfl:=k57_openM hM10;have hx10_0:w11.cell? ⟨go10,(x4_1:Int).toNat * 3,none⟩=some (.int .i64 ((rd_T57 x3_1 x4_1).f0)):=hcc10 0 _ rfl;have hx10_1:w11.cell? ⟨go10,(x4_1:Int).toNat * 3+1,none⟩=some (.int .i64 ((rd_T57 x3_1 x4_1).f1)):=hcc10 1 _ rfl;have hx10_2:w11.cell? ⟨go10,(x4_1:Int).toNat * 3+2,none⟩=some (.int .i64 ((rd_T57 x3_1 x4_1).f2)):=hcc10 2 _ rfl;have hf10_0:w11.frozen? ⟨go10,(x4_1:Int).toNat * 3,none⟩=false:=hfr10 0;have hf10_1:w11.frozen? ⟨go10,(x4_1:Int).toNat * 3+1,none⟩=false:=hfr10 1;have hf10_2:w11.frozen? ⟨go10,(x4_1:Int).toNat * 3+2,none⟩=false:=hfr10 2;clear hcl10 hcc10 hfr10 hM10;replace p10:=eq_true p10;replace q10:=eq_true q10;have HX12:=Aside0.mk (show Kd.R k57 57 w11 w.heap.size (fun _=>True) (.slice (some ⟨go10,0,none⟩) x3_1.length co10) x3_1 from (zq4 HO_3));obtain⟨ce12,hcl12,hM12,hcc12,hfr12⟩:=Kd.R_elem HX12.out z57 (x4_1:Int) (of_decide_eq_true zq1) (by have h_:(x4_1:Int)< ((x3_1.length:Int):Int):=of_decide_eq_true zq1;first|exact h_|(have e_:=(Kd.R_reads' HO_3.out).1;omega)|simpa using h_);obtain rfl:=k57_openM hM12;have HP12:=Kd.R_seg HX12.out (x4_1:Int) (of_decide_eq_true zq1) (by have h_:(x4_1:Int)< ((x3_1.length:Int):Int):=of_decide_eq_true zq1;first|exact h_|(have e_:=(Kd.R_reads' HO_3.out).1;omega)|simpa using h_) (seg:= [.int .i64 t286,.int .i64 t287,.int .i64 t288]) (j:=0) hcl12 hcc12 (show 3≤3 from by decide) (x':=(⟨t286,t287,t288⟩ :S57)) (k57_mkM _ _ _ (⟨t286,t287,t288⟩ :S57) ) (fun _ hk=>hk);have hx12_0:=hcc12 0 _ rfl;(try simp only [show (k57).sz=3 from rfl,Nat.mul_one,Nat.add_zero] at hx12_0);have hf12_0:=hfr12 0;(try simp only [show (k57).sz=3 from rfl,Nat.mul_one,Nat.add_zero] at hf12_0);have hx12_1:=hcc12 1 _ rfl;(try simp only [show (k57).sz=3 from rfl,Nat.mul_one,Nat.add_zero] at hx12_1);have hf12_1:=hfr12 1;(try simp only [show (k57).sz=3 from rfl,Nat.mul_one,Nat.add_zero] at hf12_1);have hx12_2:=hcc12 2 _ rfl;(try simp only [show (k57).sz=3 from rfl,Nat.mul_one,Nat.add_zero] at hx12_2);have hf12_2:=hfr12 2;(try simp only [show (k57).sz=3 from rfl,Nat.mul_one,Nat.add_zero] at hf12_2);clear hcl12 hcc12 hfr12 hM12)|((with_reducible refine gate_store (t:=57) (p:=21) rfl ?_);refine store_event (t:=57) (p:=21) (v:=?vo_w13) (w1:=(((w11.setCell ⟨go10,(x4_1:Int).toNat * 3,none⟩ (.int .i64 t286)).setCell ⟨go10,(x4_1:Int).toNat * 3+1,none⟩ (.int .i64 t287)).setCell ⟨go10,(x4_1:Int).toNat * 3+2,none⟩ (.int .i64 t288))) ?hg ?ho ?hn ?hr ?_;(case ho=>rfl);(case hg=>rfl);(case hn=>rfl);(case hr=>first|(go_simp;done)|(go_simp;rfl));intro w13 hw;have hg:w11.grownBy w13 (some go10):=(by rw [hw];exact HP12.2);have hp_:Kd.R k57 57 w13 w.heap.size (fun _=>True) (.slice (some ⟨go10,0,none⟩) x3_1.length co10) y289:=(by rw [hw,Ny289.out];exact HP12.1);clear HP12;replace HO_3:=Aside0.mk (hp_);replace HB:=Aside0.mk ((by rw [hw];exact below_set (below_set (below_set (HB.out) GB10.out) GB10.out) GB10.out:Below w.heap.size w w13));clear hg hw hp_))
    go_roundg k1
    case measure=>have:=HK1.out;omega
    case rel=>exact⟨(y289),(wrap64 (x4_1+1)),zrs,H',⟨by have:=HK1.out;omega⟩,⟨zdr HO_3⟩,⟨by exact zk1 HB⟩⟩
   ·rw [if_neg c6] at H
    have c6b0:decide (x4_1< (l0.length:Int))=false:=decide_eq_false c6
    clear c6
    obtain rfl:=Option.some.inj H
    go_wp2
    go_ret
    exact⟨_,zer,zdr HO_3,by exact zk1 HB⟩
end Go.Proofs.Ytpbnpepikkocmaa.P
