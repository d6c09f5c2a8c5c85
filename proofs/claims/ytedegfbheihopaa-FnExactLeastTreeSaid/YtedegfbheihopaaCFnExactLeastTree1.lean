/- Functions, walks and plain lemmas that the law FnExactLeastTree reaches, part 1. -/
import Derived.Test.YtedegfbheihopaaCFnExactLeastTree0
import Derived.WalkKit
import Derived.ProofKit
import Derived.OpenShut
import Derived.ChangeOld
import Derived.Below
import Derived.SizedLaws
import Derived.ChangeArms
import Derived.DataElems
import Derived.Deep.Draws
import Derived.Deep.AppendLies
import Derived.Maps.AppendAt
import Derived.OwnWalk
import Derived.Laws.BytesArg
import Derived.Laws.MakeOwn
import Derived.Laws.OwnMore
import Derived.Deep.OwnRows
import Derived.Tactics
import Derived.Lib.ConvBytes
import Derived.Laws.Slices
import Derived.KernelRfl
import Derived.RowKit3
import Derived.Deep.LoopGhost
import Derived.Deep.QuietTactic
import Derived.BigQuiet
import Derived.WideLaws
import Derived.Deep.DeepCutAuto
import Derived.Deep.CutBlock
import Derived.Deep.RegionHeld3
import Derived.Laws.Rows
import Derived.Lib.AppendStr
import Derived.ArgAppend
import Derived.Laws.IdiomCopy
import Derived.OrdersHeld
import Derived.Laws.BitsLemmas
import Derived.RowKit
import Derived.WalkSpells
import Derived.Lib.SliceRun
import Derived.Shelf.Abstract
import Derived.ShutString
namespace Go.Proofs.YtedegfbheihopaaOpen
open Go.ChangeShapes Go.WideShapes Go.ChangeAt Go.RowKit Go.Proofs.YtedegfbheihopaaW.PrintWords
variable {H : Type} {enc : TypeId × Value → H} {P : Program} {W : World}
/-- Whatever reads as data of type t reads by the kind d, and is as wf says. -/
def Opens {H : Type} (enc : TypeId × Value → H) (P : Program) (W : World) (t : TypeId) {α : Type} (d : Kd α) (wf : α → Prop) : Prop :=
 ∀ (fuel : Nat) (cs : List Value) (x : DataW H × List MemPlace), DataW.trod enc P W 0 (fun _ => true) true fuel t cs = some x → ∃ a, d.K W a cs ∧ wf a
theorem opens_int {t : TypeId} {k : IntKind} (hu : P.underlying t = some (.int k)) : Opens enc P W t (Kd.int k) (fun n => (Lit.int k n).wf = true) := by
 intro fuel cs x h
 obtain ⟨n, rfl, _, hw⟩ := DataW.trod_int hu h
 exact ⟨n, rfl, hw⟩
theorem list_of {α : Type} {Q : Nat → α → Prop} : ∀ (n : Nat), (∀ i, i < n → ∃ a, Q i a) → ∃ l : List α, l.length = n ∧ ∀ i a, l[i]? = some a → Q i a
 | 0, _ => ⟨[], rfl, fun i a h => by simp at h⟩
 | n + 1, h => by
  obtain ⟨l, hl, hq⟩ := list_of n (fun i hi => h i (by omega))
  obtain ⟨a, ha⟩ := h n (by omega)
  refine ⟨l ++ [a], by simp [hl], fun i b hb => ?_⟩
  by_cases hi : i < l.length
  ·rw [List.getElem?_append_left hi] at hb
   exact hq i b hb
  ·rw [List.getElem?_append_right (by omega)] at hb
   have hz : i - l.length = 0 := by
    by_cases hz : i - l.length = 0
    ·exact hz
    ·rw [List.getElem?_eq_none (by simp; omega)] at hb
     cases hb
   rw [hz] at hb
   simp only [List.getElem?_cons_zero, Option.some.injEq] at hb
   subst hb
   have : i = n := by omega
   subst this
   exact ha
theorem opens_slice {t e : TypeId} {α : Type} {d : Kd α} {wf : α → Prop} (hu : P.underlying t = some (.slice e)) (hc : P.cellsOf e = d.sz) (hd : Opens enc P W e d wf) :
  Opens enc P W t (Kd.slice e d) (fun l => l.length ≤ maxLen ∧ ∀ x ∈ l, wf x) := by
 intro fuel cs x h
 rcases DataW.trod_slice hu h with ⟨rfl, _⟩ | ⟨a, len, cap, elems, rest, n, _, rfl, _, _, hl, hm, hlen, hel, _, _⟩
 ·refine ⟨[], ⟨none, 0, rfl, Nat.le_refl _, rfl, by simp, fun hp => absurd hp (by simp)⟩, by simp, by simp⟩
 ·have each : ∀ i, i < len → ∃ b : α, (∃ c : List Value, c.length = d.sz ∧ d.K W b c ∧ ∀ j u, c[j]? = some u → W.cell? (a.add (i * d.sz + j)) = some u) ∧ wf b := by
   intro i hi
   have h1 := hel i hi
   have hi' : i < elems.length := by omega
   rw [List.getElem?_eq_getElem hi', Option.bind_eq_some_iff] at h1
   obtain ⟨c, hcs, ht⟩ := h1
   obtain ⟨b, hb, hwf⟩ := hd _ _ _ ht
   obtain ⟨_, hclen, hcell⟩ := World.cells?_some hcs
   refine ⟨b, ⟨c, by rw [hclen, hc], hb, fun j u hj => ?_⟩, hwf⟩
   have hj' : j < P.cellsOf e := by
    have := (List.getElem?_eq_some_iff.1 hj).1
    omega
   have h2 := hcell j hj'
   rw [Addr.add_add, hj, hc] at h2
   exact h2
  obtain ⟨l, hll, hq⟩ := list_of len each
  subst hll
  refine ⟨l, ⟨some a, cap, rfl, hl, rfl, ?_, fun _ => ⟨a, rfl, fun j p hj => ?_⟩⟩, ?_, fun y hy => ?_⟩
  ·have : cap ≤ 9223372036854775807 := by unfold maxLen at hm; exact hm
   omega
  ·obtain ⟨⟨c, h1, h2, h3⟩, _⟩ := hq j p hj
   exact ⟨c, h1, h2, h3⟩
  ·omega
  ·obtain ⟨j, hj⟩ := List.getElem?_of_mem hy
   exact (hq j y hj).2
theorem cut3 {cs : List Value} {a b c : Nat} (h : cs.length = a + (b + c)) : cs = cs.take a ++ ((cs.drop a).take b ++ (cs.drop (a + b)).take c) := by
 rw [List.take_of_length_le (by simp; omega : (cs.drop (a + b)).length ≤ c), ← List.drop_drop, List.take_append_drop, List.take_append_drop]
theorem opens_struct3 {t : TypeId} {f0 f1 f2 : Field} {α β γ S : Type} {d0 : Kd α} {d1 : Kd β} {d2 : Kd γ} {w0 : α → Prop} {w1 : β → Prop} {w2 : γ → Prop} {f : S → α × (β × γ)} (g : α × (β × γ) → S)
  (hu : P.underlying t = some (.struct #[f0, f1, f2])) (hg : ∀ x, f (g x) = x) (hC : P.cellsOf t = d0.sz + (d1.sz + d2.sz))
  (o0 : f0.offset = 0) (o1 : f1.offset = d0.sz) (o2 : f2.offset = d0.sz + d1.sz) (c0 : P.cellsOf f0.type = d0.sz) (c1 : P.cellsOf f1.type = d1.sz) (c2 : P.cellsOf f2.type = d2.sz)
  (h0 : Opens enc P W f0.type d0 w0) (h1 : Opens enc P W f1.type d1 w1) (h2 : Opens enc P W f2.type d2 w2) :
  Opens enc P W t (Kd.iso (Kd.pair d0 (Kd.pair d1 d2)) f) (fun s => w0 (f s).1 ∧ w1 (f s).2.1 ∧ w2 (f s).2.2) := by
 intro fuel cs x h
 obtain ⟨xs, n, _, _, hl, hlen, hf⟩ := DataW.trod_struct hu h
 have e0 := hf 0 f0 rfl
 have e1 := hf 1 f1 rfl
 have e2 := hf 2 f2 rfl
 have hlen2 : xs.length = 3 := hlen
 rw [List.getElem?_eq_getElem (by omega)] at e0 e1 e2
 obtain ⟨a, ha, wa⟩ := h0 _ _ _ e0
 obtain ⟨b, hb, wb⟩ := h1 _ _ _ e1
 obtain ⟨c, hc, wc⟩ := h2 _ _ _ e2
 rw [o0, c0, List.drop_zero] at ha
 rw [o1, c1] at hb
 rw [o2, c2] at hc
 refine ⟨g (a, (b, c)), ?_, ?_⟩
 ·show (Kd.pair d0 (Kd.pair d1 d2)).K W (f (g (a, (b, c)))) cs
  rw [hg]
  exact ⟨_, _, cut3 (by rw [hl, hC]), ha, ⟨_, _, rfl, hb, hc⟩⟩
 ·simp only [hg]
  exact ⟨wa, wb, wc⟩
end Go.Proofs.YtedegfbheihopaaOpen
namespace Go.Proofs.Ytedegfbheihopaa.P
open Go.RowKit Go.Proofs.YtedegfbheihopaaW.PrintWords Go.Proofs.YtedegfbheihopaaW.PrintLast Go.Proofs.YtedegfbheihopaaW.PrintMore
attribute [local go_sem] max2_int min2_int max_two min_two max_three min_three max_four min_four   -- for this text's walks alone
set_option linter.unusedVariables false
set_option linter.unusedSimpArgs false
theorem info3:(Try.prog.info? 3).map (fun i=>(i.zero,i.size,i.bytes))=some (some (.int .i64 0),1,8):=by kernel_rfl
theorem info22:(Try.prog.info? 22).map (fun i=>(i.zero,i.size,i.bytes))=some (some (.slice none 0 0),1,24):=by kernel_rfl
theorem info79:(Try.prog.info? 79).map (fun i=>(i.zero,i.size,i.bytes))=some (some (.agg #[(.int .i64 0),(.int .i64 0),(.int .i64 0)]),3,24):=by kernel_rfl
structure S81 where
 f0:Int
 f1:Int
 f2:Int
def z81:S81:=⟨(0:Int),(0:Int),(0:Int)⟩
def k81:Kd S81:=Kd.iso (Kd.pair (Kd.int .i64) (Kd.pair (Kd.int .i64) (Kd.int .i64))) (fun x:S81=>(x.f0,x.f1,x.f2))
theorem k81_open {w:World} {x:S81} {cs:List Value} (h:k81.K w x cs):cs= [.int .i64 x.f0,.int .i64 x.f1,.int .i64 x.f2]:=by
 obtain⟨_,_,rfl,rfl,⟨_,_,rfl,rfl,rfl⟩⟩:=h
 exact rfl
def rd_T81 (xs:List S81) (i:Int):S81:=xs.getD i.toNat z81
theorem at_T81 {w:World} {A:Option Addr} {n:Nat} {xs:List S81} (h:Kd.C k81 w A n xs) (i:Int) (h0: 0≤i) (h1:i<n):∃ ad ,A=some ad∧w.cell? (ad.add (i.toNat * 3))=some (.int .i64 (rd_T81 xs i).f0)∧w.cell? ⟨(ad.add (i.toNat * 3)).block,(ad.add (i.toNat * 3)).off+1,none⟩=some (.int .i64 (rd_T81 xs i).f1)∧w.cell? ⟨(ad.add (i.toNat * 3)).block,(ad.add (i.toNat * 3)).off+2,none⟩=some (.int .i64 (rd_T81 xs i).f2):=by
 obtain⟨ad,c,e,_,hK,hc0⟩:=Kd.C_get h z81 i h0 h1
 have hc:∀ j u,c[j]?=some u→w.cell? (ad.add (i.toNat * 3+j))=some u:=hc0
 obtain rfl:=k81_open hK
 exact⟨ad,e,hc 0 _ rfl,by rw [← add_field _ _ 1 (by omega)];exact hc 1 _ rfl,by rw [← add_field _ _ 2 (by omega)];exact hc 2 _ rfl⟩
structure S79 where
 f0:Int
 f1:Int
 f2:Int
def z79:S79:=⟨(0:Int),(0:Int),(0:Int)⟩
def k79:Kd S79:=Kd.iso (Kd.pair (Kd.int .i64) (Kd.pair (Kd.int .i64) (Kd.int .i64))) (fun x:S79=>(x.f0,x.f1,x.f2))
theorem k79_open {w:World} {x:S79} {cs:List Value} (h:k79.K w x cs):cs= [.int .i64 x.f0,.int .i64 x.f1,.int .i64 x.f2]:=by
 obtain⟨_,_,rfl,rfl,⟨_,_,rfl,rfl,rfl⟩⟩:=h
 exact rfl
theorem k79_openM {w:World} {base:Nat} {ok:Nat→Prop} {x:S79} {cs:List Value} (h:k79.M w base ok x cs):cs= [.int .i64 x.f0,.int .i64 x.f1,.int .i64 x.f2]:=by
 obtain⟨_,_,rfl,rfl,⟨_,_,rfl,rfl,rfl⟩⟩:=h
 exact rfl
theorem k79_mkM (w:World) (base:Nat) (ok:Nat→Prop) (x:S79)  :k79.M w base ok x [.int .i64 x.f0,.int .i64 x.f1,.int .i64 x.f2]:=⟨[.int .i64 x.f0],[.int .i64 x.f1,.int .i64 x.f2],rfl,rfl,⟨[.int .i64 x.f1],[.int .i64 x.f2],rfl,rfl,rfl⟩⟩
def rd_T79 (xs:List S79) (i:Int):S79:=xs.getD i.toNat z79
theorem at_T79 {w:World} {A:Option Addr} {n:Nat} {xs:List S79} (h:Kd.C k79 w A n xs) (i:Int) (h0: 0≤i) (h1:i<n):∃ ad ,A=some ad∧w.cell? (ad.add (i.toNat * 3))=some (.int .i64 (rd_T79 xs i).f0)∧w.cell? ⟨(ad.add (i.toNat * 3)).block,(ad.add (i.toNat * 3)).off+1,none⟩=some (.int .i64 (rd_T79 xs i).f1)∧w.cell? ⟨(ad.add (i.toNat * 3)).block,(ad.add (i.toNat * 3)).off+2,none⟩=some (.int .i64 (rd_T79 xs i).f2):=by
 obtain⟨ad,c,e,_,hK,hc0⟩:=Kd.C_get h z79 i h0 h1
 have hc:∀ j u,c[j]?=some u→w.cell? (ad.add (i.toNat * 3+j))=some u:=hc0
 obtain rfl:=k79_open hK
 exact⟨ad,e,hc 0 _ rfl,by rw [← add_field _ _ 1 (by omega)];exact hc 1 _ rfl,by rw [← add_field _ _ 2 (by omega)];exact hc 2 _ rfl⟩
def rd_L6 (xs:List (List Int)) (i:Int):(List Int):=xs.getD i.toNat ([] :List Int)
theorem at_L6 {w:World} {A:Option Addr} {n:Nat} {xs:List (List Int)} (h:Kd.C (Kd.slice 3 (Kd.int .i64)) w A n xs) (i:Int) (h0: 0≤i) (h1:i<n):∃ ad A0 c0,A=some ad∧w.cell? (ad.add i.toNat)=some (.slice A0 (rd_L6 xs i).length c0)∧ (rd_L6 xs i).length≤c0∧ (Kd.int .i64).C w A0 (rd_L6 xs i).length (rd_L6 xs i):=by
 obtain⟨ad,c,e,_,hK,hc0⟩:=Kd.C_get h ([] :List Int) i h0 h1
 have hc:∀ j u,c[j]?=some u→w.cell? (ad.add (i.toNat * 1+j))=some u:=hc0
 obtain⟨A0,c0,rfl,l0,g0⟩:=hK
 exact⟨ad,A0,c0,e,by have hq:=hc 0 _ rfl;rwa [Nat.mul_one,Nat.add_zero] at hq,l0,g0⟩
def laws_szEdgeS.f (l0:List (S81)) (a1:Int):Option (Int):=if (wrap64 (a1 - (l0.length:Int)))< 0 then(some (-1)) else(some (wrap64 (a1 - (l0.length:Int))))
set_option maxHeartbeats 8000000 in
set_option maxRecDepth 100000 in
theorem laws_szEdgeS.calls (A0:Option Addr) (c0:Nat) (l0:List (S81)) (a1:Int) (r:Int) (w:World) (hr0:Kd.C k81 w A0 l0.length l0) (hc0:l0.length≤c0) (h:laws_szEdgeS.f l0 a1=some r):
  Calls Try.prog 23 #[.slice A0 l0.length c0,.int .i64 a1] w fun e w'=>e= .returned (.int .i64 r)∧Drawn0 w w':=by
 have HR0:=Aside0.mk hr0
 have HC0:=Aside0.mk hc0
 clear hr0 hc0
 have H:(if (wrap64 (a1 - (l0.length:Int)))< 0 then(some (-1)) else(some (wrap64 (a1 - (l0.length:Int)))))=some r:=h
 clear h
 by_cases c3:(wrap64 (a1 - (l0.length:Int)))< 0
 ·rw [if_pos c3] at H
  have c3b0:decide ((wrap64 (a1 - (l0.length:Int)))< 0)=true:=decide_eq_true c3
  clear c3
  obtain rfl:=Option.some.inj H
  go_enter Try.func23,Try.ntmps23
  go_wp2
  go_ret
  exact⟨by first|rfl|(simp;done)|(simp [*];done),by repeat(first|exact Drawn0.refl _|apply Drawn0.step)⟩
 ·rw [if_neg c3] at H
  have c3b0:decide ((wrap64 (a1 - (l0.length:Int)))< 0)=false:=decide_eq_false c3
  clear c3
  obtain rfl:=Option.some.inj H
  go_enter Try.func23,Try.ntmps23
  go_wp2
  go_ret
  exact⟨by first|rfl|(simp;done)|(simp [*];done),by repeat(first|exact Drawn0.refl _|apply Drawn0.step)⟩
def spec_l1In.f (a0:Int) (a1:Int) (a2:Int):Option (Bool):=if a0≥a1 then(some (decide (a0≤a2))) else(some false)
set_option maxHeartbeats 8000000 in
set_option maxRecDepth 100000 in
theorem spec_l1In.calls (a0:Int) (a1:Int) (a2:Int) (r:Bool) (w:World) (h:spec_l1In.f a0 a1 a2=some r):
  Calls Try.prog 59 #[.int .i64 a0,.int .i64 a1,.int .i64 a2] w fun e w'=>e= .returned (.bool r)∧Drawn0 w w':=by
 have H:(if a0≥a1 then(some (decide (a0≤a2))) else(some false))=some r:=h
 clear h
 by_cases c4:a0≥a1
 ·rw [if_pos c4] at H
  have c4b0:decide (a1≤a0)=true:=decide_eq_true c4
  clear c4
  obtain rfl:=Option.some.inj H
  go_enter Try.func59,Try.ntmps59
  go_wp2
  go_ret
  exact⟨by first|rfl|(simp;done)|(simp [*];done),by repeat(first|exact Drawn0.refl _|apply Drawn0.step)⟩
 ·rw [if_neg c4] at H
  have c4b0:decide (a1≤a0)=false:=decide_eq_false c4
  clear c4
  obtain rfl:=Option.some.inj H
  go_enter Try.func59,Try.ntmps59
  go_wp2
  go_ret
  exact⟨by first|rfl|(simp;done)|(simp [*];done),by repeat(first|exact Drawn0.refl _|apply Drawn0.step)⟩
def impl_in.f (a0:Int) (a1:Int) (a2:Int):Option (Bool):=if a0≥a1 then(some (decide (a0≤a2))) else(some false)
set_option maxHeartbeats 8000000 in
set_option maxRecDepth 100000 in
theorem impl_in.calls (a0:Int) (a1:Int) (a2:Int) (r:Bool) (w:World) (h:impl_in.f a0 a1 a2=some r):
  Calls Try.prog 78 #[.int .i64 a0,.int .i64 a1,.int .i64 a2] w fun e w'=>e= .returned (.bool r)∧Drawn0 w w':=by
 have H:(if a0≥a1 then(some (decide (a0≤a2))) else(some false))=some r:=h
 clear h
 by_cases c4:a0≥a1
 ·rw [if_pos c4] at H
  have c4b0:decide (a1≤a0)=true:=decide_eq_true c4
  clear c4
  obtain rfl:=Option.some.inj H
  go_enter Try.func78,Try.ntmps78
  go_wp2
  go_ret
  exact⟨by first|rfl|(simp;done)|(simp [*];done),by repeat(first|exact Drawn0.refl _|apply Drawn0.step)⟩
 ·rw [if_neg c4] at H
  have c4b0:decide (a1≤a0)=false:=decide_eq_false c4
  clear c4
  obtain rfl:=Option.some.inj H
  go_enter Try.func78,Try.ntmps78
  go_wp2
  go_ret
  exact⟨by first|rfl|(simp;done)|(simp [*];done),by repeat(first|exact Drawn0.refl _|apply Drawn0.step)⟩
def impl_isSpots.f (a0:Int):Option (Bool):=(impl_in.f a0 1 12).bind fun t112=>(some t112)
theorem zq2 {p:Prop} (h:p:=by(try simp only [List.map_toArray,List.map_cons,List.map_nil]);first|done|rfl|(simp only [List.length_drop,List.length_take];rfl)):p:=h
set_option maxHeartbeats 8000000 in
set_option maxRecDepth 100000 in
theorem impl_isSpots.calls (a0:Int) (r:Bool) (w:World) (h:impl_isSpots.f a0=some r):
  Calls Try.prog 60 #[.int .i64 a0] w fun e w'=>e= .returned (.bool r)∧Drawn0 w w':=by
 have H:((impl_in.f a0 1 12).bind fun t112=>(some t112))=some r:=h
 clear h
 replace H:=Option.bind_eq_some_iff.mp H
 obtain⟨t112,A20,H⟩:=H
 replace H:(some t112)=some r:=H
 have A2:=Aside0.mk A20
 clear A20
 obtain rfl:=Option.some.inj H
 go_enter Try.func60,Try.ntmps60
 go_wp2_with (first|((with_reducible refine gate_callee (f:=78) rfl ?_);refine goesL_ (some 4) rfl rfl Try.func78 (by kernel_rfl) rfl #[.int .i64 a0,.int .i64 1,.int .i64 12] rfl zq2 ?_;(with_reducible refine(impl_in.calls a0 1 12 t112 _ A2.out).mono ?_);rintro e w' ⟨rfl,⟨nd,rfl⟩⟩;refine⟨_,rfl,?_⟩))
 go_ret
 exact⟨by first|rfl|(simp;done)|(simp [*];done),by repeat(first|exact Drawn0.refl _|apply Drawn0.step)⟩
mutual
def spec_GoodEdges.l0:Nat→Int→List (S79)→List (S79)→Int→Int→Option (Bool)
 | 0,_,_,_,_,_=>none
 |k+1,x0,x1,x7,x8,x9=>if x9<x8 then(if 0≤x9 then(if x9< (x7.length:Int) then((spec_l1In.f ((rd_T79 x7 x9).f0) 0 (wrap64 (x0 - 1))).bind fun t283=>(if t283=true then((spec_l1In.f ((rd_T79 x7 x9).f1) 0 (wrap64 (x0 - 1))).bind fun t284=>(if t284=true then(if ((rd_T79 x7 x9).f0)≥ ((rd_T79 x7 x9).f1) then(spec_GoodEdges.j1 k x0 x1 x9 x7 x8 x9 true ((rd_T79 x7 x9).f0) ((rd_T79 x7 x9).f1) ((rd_T79 x7 x9).f2)) else((spec_l1In.f ((rd_T79 x7 x9).f2) 1 100).bind fun t285=>(spec_GoodEdges.j1 k x0 x1 x9 x7 x8 x9 (!t285) ((rd_T79 x7 x9).f0) ((rd_T79 x7 x9).f1) ((rd_T79 x7 x9).f2)))) else(spec_GoodEdges.j1 k x0 x1 x9 x7 x8 x9 true ((rd_T79 x7 x9).f0) ((rd_T79 x7 x9).f1) ((rd_T79 x7 x9).f2)))) else(spec_GoodEdges.j1 k x0 x1 x9 x7 x8 x9 true ((rd_T79 x7 x9).f0) ((rd_T79 x7 x9).f1) ((rd_T79 x7 x9).f2)))) else(none)) else(none)) else((spec_l1In.f x0 1 12).bind fun t280=>(if t280=true then(some (decide ((x1.length:Int)≤40))) else(some false)))
def spec_GoodEdges.j1:Nat→Int→List (S79)→Int→List (S79)→Int→Int→Bool→Int→Int→Int→Option (Bool)
 | 0,_,_,_,_,_,_,_,_,_,_=>none
 |k+1,x0,x1,x5,x7,x8,x9,x40,x283000,x283001,x283002=>if x40=true then(some false) else(if x5 > 0 then(if 0≤ (wrap64 (x5 - 1)) then(if (wrap64 (x5 - 1))< (x1.length:Int) then(if ((rd_T79 x1 (wrap64 (x5 - 1))).f0) > x283000 then(some false) else(if ((rd_T79 x1 (wrap64 (x5 - 1))).f0)=x283000 then(if ((rd_T79 x1 (wrap64 (x5 - 1))).f1)≥x283001 then(some false) else(spec_GoodEdges.l0 k x0 x1 x7 x8 (wrap64 (x9+1)))) else(spec_GoodEdges.l0 k x0 x1 x7 x8 (wrap64 (x9+1))))) else(none)) else(none)) else(spec_GoodEdges.l0 k x0 x1 x7 x8 (wrap64 (x9+1))))
end
def spec_GoodEdges.f (k:Nat) (a0:Int) (l1:List (S79)):Option (Bool):=spec_GoodEdges.l0 k a0 l1 l1 (l1.length:Int) 0
theorem zhx {w W:World} {a:Addr} {v:Value} (b:Aside0 (Below w.heap.size w W)) (h:w.cell? a=some v):W.cell? a=some v:=(b.out.cell (World.block_lt_of_cell? w _ h)).trans h
theorem zk1 {q p:Prop} (b:Aside0 q) (h:q→p:=by intro z;repeat(first|(with_reducible first|exact z|apply below_alloc|apply pw_below_drewN|apply below_drew1)|exact z)):p:=h b.out
theorem zk2 {q r1 p:Prop} (b:Aside0 q) (b1:r1) (h:q→r1→p:=by intro z g1;repeat(first|(with_reducible first|exact z|apply below_alloc|apply pw_below_drewN|apply below_drew1|refine below_set ?_ g1)|exact z)):p:=h b.out b1
theorem zq1 {p:Prop} (h:p:=by first|(with_reducible assumption)|assumption):p:=h
set_option maxHeartbeats 8000000 in
set_option maxRecDepth 100000 in
theorem spec_GoodEdges.calls (k:Nat) (a0:Int) (A1:Option Addr) (c1:Nat) (l1:List (S79)) (r:Bool) (w:World) (hr1:Kd.C k79 w A1 l1.length l1) (hc1:l1.length≤c1) (h:spec_GoodEdges.f k a0 l1=some r):
  Calls Try.prog 66 #[.int .i64 a0,.slice A1 l1.length c1] w fun e w'=>e= .returned (.bool r)∧Below w.heap.size w w':=by
 have hu79:=Try.underlying79
 have HR1:=Aside0.mk hr1
 have HC1:=Aside0.mk hc1
 clear hr1 hc1
 have HB:=Aside0.mk (Below.refl w.heap.size w)
 have H:(spec_GoodEdges.l0 k a0 l1 l1 (l1.length:Int) 0)=some r:=h
 clear h
 have H':=Aside0.mk H
 clear H
 go_enter Try.func66,Try.ntmps66
 go_wp2
 repeat(go_quiet (fail);try go_wp2)
 go_loopg [9] k (fun kq v9 w'=> ∃ (x9_1:Int),v9= .int .i64 x9_1∧Aside0 (spec_GoodEdges.l0 kq a0 l1 l1 (l1.length:Int) x9_1=some r)∧Aside0 (kq≤k)∧Aside0 (Below w.heap.size w w'))
 case atStart=>exact⟨(0),(by first|rfl|(simp;done)|(simp [*];done)),H',⟨Nat.le_refl _⟩,⟨by exact zk1 HB⟩⟩
 case round=>
  clear H'
  try clear c1
  try clear p2
  obtain⟨x9_1,rfl,HA,HK1,HB⟩:=hrel
  cases gk with
  |zero=>exact absurd HA.out (by simp [spec_GoodEdges.l0])
  |succ k1=>
   have H:=HA.out
   clear HA
   simp only [spec_GoodEdges.l0] at H
   by_cases c3:x9_1< (l1.length:Int)
   ·rw [if_pos c3] at H
    have c3b0:decide (x9_1< (l1.length:Int))=true:=decide_eq_true c3
    clear c3
    by_cases c4: 0≤x9_1
    case neg=>rw [if_neg c4] at H;exact absurd H (by simp)
    rw [if_pos c4] at H
    have c4b0:decide (0≤x9_1)=true:=decide_eq_true c4
    clear c4
    by_cases c5:x9_1< (l1.length:Int)
    case neg=>rw [if_neg c5] at H;exact absurd H (by simp)
    rw [if_pos c5] at H
    have c5b0:decide (x9_1< (l1.length:Int))=true:=decide_eq_true c5
    clear c5
    have HC6:=Aside0.mk H
    clear H
    have p281: 0≤ (x9_1:Int):=of_decide_eq_true zq1
    have q281:x9_1< (l1.length:Int):=of_decide_eq_true zq1
    obtain⟨ad281,e281,hx281_0,hx281_1,hx281_2⟩:=at_T79 HR1.out x9_1 p281 q281
    cases e281
    replace hx281_0:=zhx HB hx281_0
    replace hx281_1:=zhx HB hx281_1
    replace hx281_2:=zhx HB hx281_2
    replace p281:=eq_true p281
    replace q281:=eq_true q281
    go_upto_region 4 with (first|((with_reducible refine gate_dst (N:=6) rfl ?_);(try(refine gate_guard (by rfl) ?_;dsimp only));refine box_event ?hg (N:=6) ?hd (cs:= #[.int .i64 0,.int .i64 0,.int .i64 0]) (t:=79) ?hr ?_;(case hd=>rfl);(case hg=>rfl);(case hr=>first|(go_simp;done)|(go_simp;rfl));intro gb282 hg w7 hbox hb;have BK282:=Aside0.mk (hbox);have GW282:=Aside0.mk ((by rw [hg];exact(below_size (by exact zk1 HB)):w.heap.size≤gb282));have GE282:=Aside0.mk ((by rw [hg];exact(below_size (by exact zk1 HB)):w.heap.size≤gb282));replace HB:=Aside0.mk (below_step (by exact zk1 HB) hb);clear hb hbox hg;have hcz8_0:w7.cell? ⟨gb282,0,none⟩=some (.int .i64 0):=(blk_cell BK282.out 0).trans rfl;have hcz8_1:w7.cell? ⟨gb282,1,none⟩=some (.int .i64 0):=(blk_cell BK282.out 1).trans rfl;have hcz8_2:w7.cell? ⟨gb282,2,none⟩=some (.int .i64 0):=(blk_cell BK282.out 2).trans rfl;have hfz8_0:=blk_frozen BK282.out 0;have hfz8_1:=blk_frozen BK282.out 1;have hfz8_2:=blk_frozen BK282.out 2))
    repeat(go_quiet (first|((with_reducible refine gate_dst (N:=6) rfl ?_);(try(refine gate_guard (by rfl) ?_;dsimp only));refine box_event ?hg (N:=6) ?hd (cs:= #[.int .i64 0,.int .i64 0,.int .i64 0]) (t:=79) ?hr ?_;(case hd=>rfl);(case hg=>rfl);(case hr=>first|(go_simp;done)|(go_simp;rfl));intro gb282 hg w7 hbox hb;have BK282:=Aside0.mk (hbox);have GW282:=Aside0.mk ((by rw [hg];exact(below_size (by exact zk1 HB)):w.heap.size≤gb282));have GE282:=Aside0.mk ((by rw [hg];exact(below_size (by exact zk1 HB)):w.heap.size≤gb282));replace HB:=Aside0.mk (below_step (by exact zk1 HB) hb);clear hb hbox hg;have hcz8_0:w7.cell? ⟨gb282,0,none⟩=some (.int .i64 0):=(blk_cell BK282.out 0).trans rfl;have hcz8_1:w7.cell? ⟨gb282,1,none⟩=some (.int .i64 0):=(blk_cell BK282.out 1).trans rfl;have hcz8_2:w7.cell? ⟨gb282,2,none⟩=some (.int .i64 0):=(blk_cell BK282.out 2).trans rfl;have hfz8_0:=blk_frozen BK282.out 0;have hfz8_1:=blk_frozen BK282.out 1;have hfz8_2:=blk_frozen BK282.out 2));go_upto_region 4 with (first|((with_reducible refine gate_dst (N:=6) rfl ?_);(try(refine gate_guard (by rfl) ?_;dsimp only));refine box_event ?hg (N:=6) ?hd (cs:= #[.int .i64 0,.int .i64 0,.int .i64 0]) (t:=79) ?hr ?_;(case hd=>rfl);(case hg=>rfl);(case hr=>first|(go_simp;done)|(go_simp;rfl));intro gb282 hg w7 hbox hb;have BK282:=Aside0.mk (hbox);have GW282:=Aside0.mk ((by rw [hg];exact(below_size (by exact zk1 HB)):w.heap.size≤gb282));have GE282:=Aside0.mk ((by rw [hg];exact(below_size (by exact zk1 HB)):w.heap.size≤gb282));replace HB:=Aside0.mk (below_step (by exact zk1 HB) hb);clear hb hbox hg;have hcz8_0:w7.cell? ⟨gb282,0,none⟩=some (.int .i64 0):=(blk_cell BK282.out 0).trans rfl;have hcz8_1:w7.cell? ⟨gb282,1,none⟩=some (.int .i64 0):=(blk_cell BK282.out 1).trans rfl;have hcz8_2:w7.cell? ⟨gb282,2,none⟩=some (.int .i64 0):=(blk_cell BK282.out 2).trans rfl;have hfz8_0:=blk_frozen BK282.out 0;have hfz8_1:=blk_frozen BK282.out 1;have hfz8_2:=blk_frozen BK282.out 2)))
    (try simp only [Act.put,List.setIfInBounds_toArray,List.set_cons_zero,List.set_cons_succ])
    go_cut [40] (fun v40 wc=> ∃ (kq:Nat) (x40_5:Bool),v40= .bool x40_5∧Aside0 (spec_GoodEdges.j1 kq a0 l1 x9_1 l1 (l1.length:Int) x9_1 x40_5 ((rd_T79 l1 x9_1).f0) ((rd_T79 l1 x9_1).f1) ((rd_T79 l1 x9_1).f2)=some r)∧Aside0 (kq≤k1)∧Aside0 (wc.heap[gb282]?=some (.cells #[.int .i64 ((rd_T79 l1 x9_1).f0),.int .i64 ((rd_T79 l1 x9_1).f1),.int .i64 ((rd_T79 l1 x9_1).f2)] 79 (0,0)))∧Aside0 (Below w.heap.size w wc))
    case first=>
     have H:=HC6.out
     clear HC6
     replace H:=Option.bind_eq_some_iff.mp H
     obtain⟨t283,A90,H⟩:=H
     replace H:(if t283=true then((spec_l1In.f ((rd_T79 l1 x9_1).f1) 0 (wrap64 (a0 - 1))).bind fun t284=>(if t284=true then(if ((rd_T79 l1 x9_1).f0)≥ ((rd_T79 l1 x9_1).f1) then(spec_GoodEdges.j1 k1 a0 l1 x9_1 l1 (l1.length:Int) x9_1 true ((rd_T79 l1 x9_1).f0) ((rd_T79 l1 x9_1).f1) ((rd_T79 l1 x9_1).f2)) else((spec_l1In.f ((rd_T79 l1 x9_1).f2) 1 100).bind fun t285=>(spec_GoodEdges.j1 k1 a0 l1 x9_1 l1 (l1.length:Int) x9_1 (!t285) ((rd_T79 l1 x9_1).f0) ((rd_T79 l1 x9_1).f1) ((rd_T79 l1 x9_1).f2)))) else(spec_GoodEdges.j1 k1 a0 l1 x9_1 l1 (l1.length:Int) x9_1 true ((rd_T79 l1 x9_1).f0) ((rd_T79 l1 x9_1).f1) ((rd_T79 l1 x9_1).f2)))) else(spec_GoodEdges.j1 k1 a0 l1 x9_1 l1 (l1.length:Int) x9_1 true ((rd_T79 l1 x9_1).f0) ((rd_T79 l1 x9_1).f1) ((rd_T79 l1 x9_1).f2)))=some r:=H
     have A9:=Aside0.mk A90
     clear A90
     by_cases c10:t283=true
     ·subst c10
      have H1:((spec_l1In.f ((rd_T79 l1 x9_1).f1) 0 (wrap64 (a0 - 1))).bind fun t284=>(if t284=true then(if ((rd_T79 l1 x9_1).f0)≥ ((rd_T79 l1 x9_1).f1) then(spec_GoodEdges.j1 k1 a0 l1 x9_1 l1 (l1.length:Int) x9_1 true ((rd_T79 l1 x9_1).f0) ((rd_T79 l1 x9_1).f1) ((rd_T79 l1 x9_1).f2)) else((spec_l1In.f ((rd_T79 l1 x9_1).f2) 1 100).bind fun t285=>(spec_GoodEdges.j1 k1 a0 l1 x9_1 l1 (l1.length:Int) x9_1 (!t285) ((rd_T79 l1 x9_1).f0) ((rd_T79 l1 x9_1).f1) ((rd_T79 l1 x9_1).f2)))) else(spec_GoodEdges.j1 k1 a0 l1 x9_1 l1 (l1.length:Int) x9_1 true ((rd_T79 l1 x9_1).f0) ((rd_T79 l1 x9_1).f1) ((rd_T79 l1 x9_1).f2))))=some r:=by rw [if_pos rfl] at H;exact H
      clear H
      have H:=H1
      clear H1
      replace H:=Option.bind_eq_some_iff.mp H
      obtain⟨t284,A110,H⟩:=H
      replace H:(if t284=true then(if ((rd_T79 l1 x9_1).f0)≥ ((rd_T79 l1 x9_1).f1) then(spec_GoodEdges.j1 k1 a0 l1 x9_1 l1 (l1.length:Int) x9_1 true ((rd_T79 l1 x9_1).f0) ((rd_T79 l1 x9_1).f1) ((rd_T79 l1 x9_1).f2)) else((spec_l1In.f ((rd_T79 l1 x9_1).f2) 1 100).bind fun t285=>(spec_GoodEdges.j1 k1 a0 l1 x9_1 l1 (l1.length:Int) x9_1 (!t285) ((rd_T79 l1 x9_1).f0) ((rd_T79 l1 x9_1).f1) ((rd_T79 l1 x9_1).f2)))) else(spec_GoodEdges.j1 k1 a0 l1 x9_1 l1 (l1.length:Int) x9_1 true ((rd_T79 l1 x9_1).f0) ((rd_T79 l1 x9_1).f1) ((rd_T79 l1 x9_1).f2)))=some r:=H
      have A11:=Aside0.mk A110
      clear A110
      by_cases c12:t284=true
      ·subst c12
       have H1:(if ((rd_T79 l1 x9_1).f0)≥ ((rd_T79 l1 x9_1).f1) then(spec_GoodEdges.j1 k1 a0 l1 x9_1 l1 (l1.length:Int) x9_1 true ((rd_T79 l1 x9_1).f0) ((rd_T79 l1 x9_1).f1) ((rd_T79 l1 x9_1).f2)) else((spec_l1In.f ((rd_T79 l1 x9_1).f2) 1 100).bind fun t285=>(spec_GoodEdges.j1 k1 a0 l1 x9_1 l1 (l1.length:Int) x9_1 (!t285) ((rd_T79 l1 x9_1).f0) ((rd_T79 l1 x9_1).f1) ((rd_T79 l1 x9_1).f2))))=some r:=by rw [if_pos rfl] at H;exact H
       clear H
       have H:=H1
       clear H1
       by_cases c13:((rd_T79 l1 x9_1).f0)≥ ((rd_T79 l1 x9_1).f1)
       ·rw [if_pos c13] at H
        have c13b0:decide (((rd_T79 l1 x9_1).f1)≤ ((rd_T79 l1 x9_1).f0))=true:=decide_eq_true c13
        clear c13
        (first|rw [c13b0]|(simp only [i64_w,i32_w];rw [c13b0])|skip)
        have H':=Aside0.mk H
        clear H
        have hcz14_0:w7.cell? ⟨gb282,0,none⟩=some (.int .i64 0):=(blk_cell BK282.out 0).trans rfl
        have hcz14_1:w7.cell? ⟨gb282,1,none⟩=some (.int .i64 0):=(blk_cell BK282.out 1).trans rfl
        have hcz14_2:w7.cell? ⟨gb282,2,none⟩=some (.int .i64 0):=(blk_cell BK282.out 2).trans rfl
        have hfz14_0:=blk_frozen BK282.out 0
        have hfz14_1:=blk_frozen BK282.out 1
        have hfz14_2:=blk_frozen BK282.out 2
        go_wp2_with (first|(go_at_call 59;(with_reducible refine(spec_l1In.calls ((rd_T79 l1 x9_1).f0) 0 (wrap64 (a0 - 1)) true _ A9.out).mono ?_);rintro e w' ⟨rfl,⟨nd,rfl⟩⟩;(try first|exact⟨rfl,_,World.drewN_drewN _ _ _⟩|exact⟨rfl,_,Eq.trans (World.drewN_drewN _ _ _) (congrArg (World.drewN _) (Nat.add_assoc _ _ _))⟩))|(go_at_call 59;(with_reducible refine(spec_l1In.calls ((rd_T79 l1 x9_1).f1) 0 (wrap64 (a0 - 1)) true _ A11.out).mono ?_);rintro e w' ⟨rfl,⟨nd,rfl⟩⟩;(try first|exact⟨rfl,_,World.drewN_drewN _ _ _⟩|exact⟨rfl,_,Eq.trans (World.drewN_drewN _ _ _) (congrArg (World.drewN _) (Nat.add_assoc _ _ _))⟩)))
        repeat(go_quiet (first|(go_at_call 59;(with_reducible refine(spec_l1In.calls ((rd_T79 l1 x9_1).f0) 0 (wrap64 (a0 - 1)) true _ A9.out).mono ?_);rintro e w' ⟨rfl,⟨nd,rfl⟩⟩;(try first|exact⟨rfl,_,World.drewN_drewN _ _ _⟩|exact⟨rfl,_,Eq.trans (World.drewN_drewN _ _ _) (congrArg (World.drewN _) (Nat.add_assoc _ _ _))⟩))|(go_at_call 59;(with_reducible refine(spec_l1In.calls ((rd_T79 l1 x9_1).f1) 0 (wrap64 (a0 - 1)) true _ A11.out).mono ?_);rintro e w' ⟨rfl,⟨nd,rfl⟩⟩;(try first|exact⟨rfl,_,World.drewN_drewN _ _ _⟩|exact⟨rfl,_,Eq.trans (World.drewN_drewN _ _ _) (congrArg (World.drewN _) (Nat.add_assoc _ _ _))⟩)));try go_wp2_with (first|(go_at_call 59;(with_reducible refine(spec_l1In.calls ((rd_T79 l1 x9_1).f0) 0 (wrap64 (a0 - 1)) true _ A9.out).mono ?_);rintro e w' ⟨rfl,⟨nd,rfl⟩⟩;(try first|exact⟨rfl,_,World.drewN_drewN _ _ _⟩|exact⟨rfl,_,Eq.trans (World.drewN_drewN _ _ _) (congrArg (World.drewN _) (Nat.add_assoc _ _ _))⟩))|(go_at_call 59;(with_reducible refine(spec_l1In.calls ((rd_T79 l1 x9_1).f1) 0 (wrap64 (a0 - 1)) true _ A11.out).mono ?_);rintro e w' ⟨rfl,⟨nd,rfl⟩⟩;(try first|exact⟨rfl,_,World.drewN_drewN _ _ _⟩|exact⟨rfl,_,Eq.trans (World.drewN_drewN _ _ _) (congrArg (World.drewN _) (Nat.add_assoc _ _ _))⟩))))
        go_meet
        case rel=>exact⟨_,(true),(by first|rfl|(simp;done)|(simp [*];done)),H',⟨by have:=HK1.out;first|omega|exact Nat.le_refl _⟩,⟨by(with_reducible repeat(first|refine blk_drewN ?_ _|refine blk_drew ?_ |refine blk_alloc ?_ _));refine blk_put (cs:= #[.int .i64 ((rd_T79 l1 x9_1).f0),.int .i64 ((rd_T79 l1 x9_1).f1),.int .i64 0]) ?_ 2 _ rfl;(with_reducible repeat(first|refine blk_drewN ?_ _|refine blk_drew ?_ |refine blk_alloc ?_ _));refine blk_put (cs:= #[.int .i64 ((rd_T79 l1 x9_1).f0),.int .i64 0,.int .i64 0]) ?_ 1 _ rfl;(with_reducible repeat(first|refine blk_drewN ?_ _|refine blk_drew ?_ |refine blk_alloc ?_ _));refine blk_put (cs:= #[.int .i64 0,.int .i64 0,.int .i64 0]) ?_ 0 _ rfl;(with_reducible repeat(first|refine blk_drewN ?_ _|refine blk_drew ?_ |refine blk_alloc ?_ _));exact BK282.out⟩,⟨by exact zk2 HB GE282.out⟩⟩
       ·rw [if_neg c13] at H
        have c13b0:decide (((rd_T79 l1 x9_1).f1)≤ ((rd_T79 l1 x9_1).f0))=false:=decide_eq_false c13
        clear c13
        (first|rw [c13b0]|(simp only [i64_w,i32_w];rw [c13b0])|skip)
        replace H:=Option.bind_eq_some_iff.mp H
        obtain⟨t285,A150,H⟩:=H
        replace H:(spec_GoodEdges.j1 k1 a0 l1 x9_1 l1 (l1.length:Int) x9_1 (!t285) ((rd_T79 l1 x9_1).f0) ((rd_T79 l1 x9_1).f1) ((rd_T79 l1 x9_1).f2))=some r:=H
        have A15:=Aside0.mk A150
        clear A150
        have H':=Aside0.mk H
        clear H
        have hcz16_0:w7.cell? ⟨gb282,0,none⟩=some (.int .i64 0):=(blk_cell BK282.out 0).trans rfl
        have hcz16_1:w7.cell? ⟨gb282,1,none⟩=some (.int .i64 0):=(blk_cell BK282.out 1).trans rfl
        have hcz16_2:w7.cell? ⟨gb282,2,none⟩=some (.int .i64 0):=(blk_cell BK282.out 2).trans rfl
        have hfz16_0:=blk_frozen BK282.out 0
        have hfz16_1:=blk_frozen BK282.out 1
        have hfz16_2:=blk_frozen BK282.out 2
        go_wp2_with (first|(go_at_call 59;(with_reducible refine(spec_l1In.calls ((rd_T79 l1 x9_1).f0) 0 (wrap64 (a0 - 1)) true _ A9.out).mono ?_);rintro e w' ⟨rfl,⟨nd,rfl⟩⟩;(try first|exact⟨rfl,_,World.drewN_drewN _ _ _⟩|exact⟨rfl,_,Eq.trans (World.drewN_drewN _ _ _) (congrArg (World.drewN _) (Nat.add_assoc _ _ _))⟩))|(go_at_call 59;(with_reducible refine(spec_l1In.calls ((rd_T79 l1 x9_1).f1) 0 (wrap64 (a0 - 1)) true _ A11.out).mono ?_);rintro e w' ⟨rfl,⟨nd,rfl⟩⟩;(try first|exact⟨rfl,_,World.drewN_drewN _ _ _⟩|exact⟨rfl,_,Eq.trans (World.drewN_drewN _ _ _) (congrArg (World.drewN _) (Nat.add_assoc _ _ _))⟩))|(go_at_call 59;(with_reducible refine(spec_l1In.calls ((rd_T79 l1 x9_1).f2) 1 100 t285 _ A15.out).mono ?_);rintro e w' ⟨rfl,⟨nd,rfl⟩⟩;(try first|exact⟨rfl,_,World.drewN_drewN _ _ _⟩|exact⟨rfl,_,Eq.trans (World.drewN_drewN _ _ _) (congrArg (World.drewN _) (Nat.add_assoc _ _ _))⟩)))
        repeat(go_quiet (first|(go_at_call 59;(with_reducible refine(spec_l1In.calls ((rd_T79 l1 x9_1).f0) 0 (wrap64 (a0 - 1)) true _ A9.out).mono ?_);rintro e w' ⟨rfl,⟨nd,rfl⟩⟩;(try first|exact⟨rfl,_,World.drewN_drewN _ _ _⟩|exact⟨rfl,_,Eq.trans (World.drewN_drewN _ _ _) (congrArg (World.drewN _) (Nat.add_assoc _ _ _))⟩))|(go_at_call 59;(with_reducible refine(spec_l1In.calls ((rd_T79 l1 x9_1).f1) 0 (wrap64 (a0 - 1)) true _ A11.out).mono ?_);rintro e w' ⟨rfl,⟨nd,rfl⟩⟩;(try first|exact⟨rfl,_,World.drewN_drewN _ _ _⟩|exact⟨rfl,_,Eq.trans (World.drewN_drewN _ _ _) (congrArg (World.drewN _) (Nat.add_assoc _ _ _))⟩))|(go_at_call 59;(with_reducible refine(spec_l1In.calls ((rd_T79 l1 x9_1).f2) 1 100 t285 _ A15.out).mono ?_);rintro e w' ⟨rfl,⟨nd,rfl⟩⟩;(try first|exact⟨rfl,_,World.drewN_drewN _ _ _⟩|exact⟨rfl,_,Eq.trans (World.drewN_drewN _ _ _) (congrArg (World.drewN _) (Nat.add_assoc _ _ _))⟩)));try go_wp2_with (first|(go_at_call 59;(with_reducible refine(spec_l1In.calls ((rd_T79 l1 x9_1).f0) 0 (wrap64 (a0 - 1)) true _ A9.out).mono ?_);rintro e w' ⟨rfl,⟨nd,rfl⟩⟩;(try first|exact⟨rfl,_,World.drewN_drewN _ _ _⟩|exact⟨rfl,_,Eq.trans (World.drewN_drewN _ _ _) (congrArg (World.drewN _) (Nat.add_assoc _ _ _))⟩))|(go_at_call 59;(with_reducible refine(spec_l1In.calls ((rd_T79 l1 x9_1).f1) 0 (wrap64 (a0 - 1)) true _ A11.out).mono ?_);rintro e w' ⟨rfl,⟨nd,rfl⟩⟩;(try first|exact⟨rfl,_,World.drewN_drewN _ _ _⟩|exact⟨rfl,_,Eq.trans (World.drewN_drewN _ _ _) (congrArg (World.drewN _) (Nat.add_assoc _ _ _))⟩))|(go_at_call 59;(with_reducible refine(spec_l1In.calls ((rd_T79 l1 x9_1).f2) 1 100 t285 _ A15.out).mono ?_);rintro e w' ⟨rfl,⟨nd,rfl⟩⟩;(try first|exact⟨rfl,_,World.drewN_drewN _ _ _⟩|exact⟨rfl,_,Eq.trans (World.drewN_drewN _ _ _) (congrArg (World.drewN _) (Nat.add_assoc _ _ _))⟩))))
        go_meet
        case rel=>exact⟨_,(!t285),(by first|rfl|(simp;done)|(simp [*];done)),H',⟨by have:=HK1.out;first|omega|exact Nat.le_refl _⟩,⟨by(with_reducible repeat(first|refine blk_drewN ?_ _|refine blk_drew ?_ |refine blk_alloc ?_ _));refine blk_put (cs:= #[.int .i64 ((rd_T79 l1 x9_1).f0),.int .i64 ((rd_T79 l1 x9_1).f1),.int .i64 0]) ?_ 2 _ rfl;(with_reducible repeat(first|refine blk_drewN ?_ _|refine blk_drew ?_ |refine blk_alloc ?_ _));refine blk_put (cs:= #[.int .i64 ((rd_T79 l1 x9_1).f0),.int .i64 0,.int .i64 0]) ?_ 1 _ rfl;(with_reducible repeat(first|refine blk_drewN ?_ _|refine blk_drew ?_ |refine blk_alloc ?_ _));refine blk_put (cs:= #[.int .i64 0,.int .i64 0,.int .i64 0]) ?_ 0 _ rfl;(with_reducible repeat(first|refine blk_drewN ?_ _|refine blk_drew ?_ |refine blk_alloc ?_ _));exact BK282.out⟩,⟨by exact zk2 HB GE282.out⟩⟩
      ·replace c12:=Bool.eq_false_iff.mpr c12
       subst c12
       have H1:(spec_GoodEdges.j1 k1 a0 l1 x9_1 l1 (l1.length:Int) x9_1 true ((rd_T79 l1 x9_1).f0) ((rd_T79 l1 x9_1).f1) ((rd_T79 l1 x9_1).f2))=some r:=by rw [if_neg (show ¬ (false=true) by decide)] at H;exact H
       clear H
       have H:=H1
       clear H1
       have H':=Aside0.mk H
       clear H
       have hcz17_0:w7.cell? ⟨gb282,0,none⟩=some (.int .i64 0):=(blk_cell BK282.out 0).trans rfl
       have hcz17_1:w7.cell? ⟨gb282,1,none⟩=some (.int .i64 0):=(blk_cell BK282.out 1).trans rfl
       have hcz17_2:w7.cell? ⟨gb282,2,none⟩=some (.int .i64 0):=(blk_cell BK282.out 2).trans rfl
       have hfz17_0:=blk_frozen BK282.out 0
       have hfz17_1:=blk_frozen BK282.out 1
       have hfz17_2:=blk_frozen BK282.out 2
       go_wp2_with (first|(go_at_call 59;(with_reducible refine(spec_l1In.calls ((rd_T79 l1 x9_1).f0) 0 (wrap64 (a0 - 1)) true _ A9.out).mono ?_);rintro e w' ⟨rfl,⟨nd,rfl⟩⟩;(try first|exact⟨rfl,_,World.drewN_drewN _ _ _⟩|exact⟨rfl,_,Eq.trans (World.drewN_drewN _ _ _) (congrArg (World.drewN _) (Nat.add_assoc _ _ _))⟩))|(go_at_call 59;(with_reducible refine(spec_l1In.calls ((rd_T79 l1 x9_1).f1) 0 (wrap64 (a0 - 1)) false _ A11.out).mono ?_);rintro e w' ⟨rfl,⟨nd,rfl⟩⟩;(try first|exact⟨rfl,_,World.drewN_drewN _ _ _⟩|exact⟨rfl,_,Eq.trans (World.drewN_drewN _ _ _) (congrArg (World.drewN _) (Nat.add_assoc _ _ _))⟩)))
       repeat(go_quiet (first|(go_at_call 59;(with_reducible refine(spec_l1In.calls ((rd_T79 l1 x9_1).f0) 0 (wrap64 (a0 - 1)) true _ A9.out).mono ?_);rintro e w' ⟨rfl,⟨nd,rfl⟩⟩;(try first|exact⟨rfl,_,World.drewN_drewN _ _ _⟩|exact⟨rfl,_,Eq.trans (World.drewN_drewN _ _ _) (congrArg (World.drewN _) (Nat.add_assoc _ _ _))⟩))|(go_at_call 59;(with_reducible refine(spec_l1In.calls ((rd_T79 l1 x9_1).f1) 0 (wrap64 (a0 - 1)) false _ A11.out).mono ?_);rintro e w' ⟨rfl,⟨nd,rfl⟩⟩;(try first|exact⟨rfl,_,World.drewN_drewN _ _ _⟩|exact⟨rfl,_,Eq.trans (World.drewN_drewN _ _ _) (congrArg (World.drewN _) (Nat.add_assoc _ _ _))⟩)));try go_wp2_with (first|(go_at_call 59;(with_reducible refine(spec_l1In.calls ((rd_T79 l1 x9_1).f0) 0 (wrap64 (a0 - 1)) true _ A9.out).mono ?_);rintro e w' ⟨rfl,⟨nd,rfl⟩⟩;(try first|exact⟨rfl,_,World.drewN_drewN _ _ _⟩|exact⟨rfl,_,Eq.trans (World.drewN_drewN _ _ _) (congrArg (World.drewN _) (Nat.add_assoc _ _ _))⟩))|(go_at_call 59;(with_reducible refine(spec_l1In.calls ((rd_T79 l1 x9_1).f1) 0 (wrap64 (a0 - 1)) false _ A11.out).mono ?_);rintro e w' ⟨rfl,⟨nd,rfl⟩⟩;(try first|exact⟨rfl,_,World.drewN_drewN _ _ _⟩|exact⟨rfl,_,Eq.trans (World.drewN_drewN _ _ _) (congrArg (World.drewN _) (Nat.add_assoc _ _ _))⟩))))
       go_meet
       case rel=>exact⟨_,(true),(by first|rfl|(simp;done)|(simp [*];done)),H',⟨by have:=HK1.out;first|omega|exact Nat.le_refl _⟩,⟨by(with_reducible repeat(first|refine blk_drewN ?_ _|refine blk_drew ?_ |refine blk_alloc ?_ _));refine blk_put (cs:= #[.int .i64 ((rd_T79 l1 x9_1).f0),.int .i64 ((rd_T79 l1 x9_1).f1),.int .i64 0]) ?_ 2 _ rfl;(with_reducible repeat(first|refine blk_drewN ?_ _|refine blk_drew ?_ |refine blk_alloc ?_ _));refine blk_put (cs:= #[.int .i64 ((rd_T79 l1 x9_1).f0),.int .i64 0,.int .i64 0]) ?_ 1 _ rfl;(with_reducible repeat(first|refine blk_drewN ?_ _|refine blk_drew ?_ |refine blk_alloc ?_ _));refine blk_put (cs:= #[.int .i64 0,.int .i64 0,.int .i64 0]) ?_ 0 _ rfl;(with_reducible repeat(first|refine blk_drewN ?_ _|refine blk_drew ?_ |refine blk_alloc ?_ _));exact BK282.out⟩,⟨by exact zk2 HB GE282.out⟩⟩
     ·replace c10:=Bool.eq_false_iff.mpr c10
      subst c10
      have H1:(spec_GoodEdges.j1 k1 a0 l1 x9_1 l1 (l1.length:Int) x9_1 true ((rd_T79 l1 x9_1).f0) ((rd_T79 l1 x9_1).f1) ((rd_T79 l1 x9_1).f2))=some r:=by rw [if_neg (show ¬ (false=true) by decide)] at H;exact H
      clear H
      have H:=H1
      clear H1
      have H':=Aside0.mk H
      clear H
      have hcz18_0:w7.cell? ⟨gb282,0,none⟩=some (.int .i64 0):=(blk_cell BK282.out 0).trans rfl
      have hcz18_1:w7.cell? ⟨gb282,1,none⟩=some (.int .i64 0):=(blk_cell BK282.out 1).trans rfl
      have hcz18_2:w7.cell? ⟨gb282,2,none⟩=some (.int .i64 0):=(blk_cell BK282.out 2).trans rfl
      have hfz18_0:=blk_frozen BK282.out 0
      have hfz18_1:=blk_frozen BK282.out 1
      have hfz18_2:=blk_frozen BK282.out 2
      go_wp2_with (first|(go_at_call 59;(with_reducible refine(spec_l1In.calls ((rd_T79 l1 x9_1).f0) 0 (wrap64 (a0 - 1)) false _ A9.out).mono ?_);rintro e w' ⟨rfl,⟨nd,rfl⟩⟩;(try first|exact⟨rfl,_,World.drewN_drewN _ _ _⟩|exact⟨rfl,_,Eq.trans (World.drewN_drewN _ _ _) (congrArg (World.drewN _) (Nat.add_assoc _ _ _))⟩)))
      repeat(go_quiet (first|(go_at_call 59;(with_reducible refine(spec_l1In.calls ((rd_T79 l1 x9_1).f0) 0 (wrap64 (a0 - 1)) false _ A9.out).mono ?_);rintro e w' ⟨rfl,⟨nd,rfl⟩⟩;(try first|exact⟨rfl,_,World.drewN_drewN _ _ _⟩|exact⟨rfl,_,Eq.trans (World.drewN_drewN _ _ _) (congrArg (World.drewN _) (Nat.add_assoc _ _ _))⟩)));try go_wp2_with (first|(go_at_call 59;(with_reducible refine(spec_l1In.calls ((rd_T79 l1 x9_1).f0) 0 (wrap64 (a0 - 1)) false _ A9.out).mono ?_);rintro e w' ⟨rfl,⟨nd,rfl⟩⟩;(try first|exact⟨rfl,_,World.drewN_drewN _ _ _⟩|exact⟨rfl,_,Eq.trans (World.drewN_drewN _ _ _) (congrArg (World.drewN _) (Nat.add_assoc _ _ _))⟩))))
      go_meet
      case rel=>exact⟨_,(true),(by first|rfl|(simp;done)|(simp [*];done)),H',⟨by have:=HK1.out;first|omega|exact Nat.le_refl _⟩,⟨by(with_reducible repeat(first|refine blk_drewN ?_ _|refine blk_drew ?_ |refine blk_alloc ?_ _));refine blk_put (cs:= #[.int .i64 ((rd_T79 l1 x9_1).f0),.int .i64 ((rd_T79 l1 x9_1).f1),.int .i64 0]) ?_ 2 _ rfl;(with_reducible repeat(first|refine blk_drewN ?_ _|refine blk_drew ?_ |refine blk_alloc ?_ _));refine blk_put (cs:= #[.int .i64 ((rd_T79 l1 x9_1).f0),.int .i64 0,.int .i64 0]) ?_ 1 _ rfl;(with_reducible repeat(first|refine blk_drewN ?_ _|refine blk_drew ?_ |refine blk_alloc ?_ _));refine blk_put (cs:= #[.int .i64 0,.int .i64 0,.int .i64 0]) ?_ 0 _ rfl;(with_reducible repeat(first|refine blk_drewN ?_ _|refine blk_drew ?_ |refine blk_alloc ?_ _));exact BK282.out⟩,⟨by exact zk2 HB GE282.out⟩⟩
    case rest=>
     clear HC6
     try clear c1
     try clear p2
     try clear q2
     try clear hx2
     try clear c3
     try clear c3b0
     try clear c4
     try clear c4b0
     try clear c5
     try clear c5b0
     try clear c6
     try clear p6
     try clear c10
     try clear c12
     try clear c13
     try clear c13b0
     try clear hcz14_0
     try clear hcz14_1
     try clear hcz14_2
     try clear hcz16_0
     try clear hcz16_1
     try clear hcz16_2
     try clear hcz17_0
     try clear hcz17_1
     try clear hcz17_2
     try clear hcz18_0
     try clear hcz18_1
     try clear hcz18_2
     try clear hcz8_0
     try clear hcz8_1
     try clear hcz8_2
     try clear hfz14_0
     try clear hfz14_1
     try clear hfz14_2
     try clear hfz16_0
     try clear hfz16_1
     try clear hfz16_2
     try clear hfz17_0
     try clear hfz17_1
     try clear hfz17_2
     try clear hfz18_0
     try clear hfz18_1
     try clear hfz18_2
     try clear hfz8_0
     try clear hfz8_1
     try clear hfz8_2
     try clear hx281_0
     try clear hx281_1
     try clear hx281_2
     try clear p2
     try clear p281
     try clear q281
     obtain⟨kq,x40_5,rfl,HA,HJ5,BK282,HB⟩:=hcut
     cases kq with
     |zero=>exact absurd HA.out (by simp [spec_GoodEdges.j1])
     |succ kj5=>
      have H:=HA.out
      clear HA
      simp only [spec_GoodEdges.j1] at H
      by_cases c19:x40_5=true
      ·subst c19
       have H1:(some false)=some r:=by rw [if_pos rfl] at H;exact H
       clear H
       have H:=H1
       clear H1
       obtain rfl:=Option.some.inj H
       go_wp2
       repeat(go_quiet (fail);try go_wp2)
       go_ret
       exact⟨by first|rfl|(simp [errW_none,errW_some]<;>rfl)|(simp [*,errW_none,errW_some]<;>rfl),by exact zk2 HB GE282.out⟩
      ·replace c19:=Bool.eq_false_iff.mpr c19
       subst c19
       have H1:(if x9_1 > 0 then(if 0≤ (wrap64 (x9_1 - 1)) then(if (wrap64 (x9_1 - 1))< (l1.length:Int) then(if ((rd_T79 l1 (wrap64 (x9_1 - 1))).f0) > ((rd_T79 l1 x9_1).f0) then(some false) else(if ((rd_T79 l1 (wrap64 (x9_1 - 1))).f0)= ((rd_T79 l1 x9_1).f0) then(if ((rd_T79 l1 (wrap64 (x9_1 - 1))).f1)≥ ((rd_T79 l1 x9_1).f1) then(some false) else(spec_GoodEdges.l0 kj5 a0 l1 l1 (l1.length:Int) (wrap64 (x9_1+1)))) else(spec_GoodEdges.l0 kj5 a0 l1 l1 (l1.length:Int) (wrap64 (x9_1+1))))) else(none)) else(none)) else(spec_GoodEdges.l0 kj5 a0 l1 l1 (l1.length:Int) (wrap64 (x9_1+1))))=some r:=by rw [if_neg (show ¬ (false=true) by decide)] at H;exact H
       clear H
       have H:=H1
       clear H1
       by_cases c20:x9_1 > 0
       ·rw [if_pos c20] at H
        have c20b0:decide (0<x9_1)=true:=decide_eq_true c20
        clear c20
        obtain⟨ji21,hji21⟩ :∃ j_:Int,(wrap64 (x9_1 - 1))=j_:=⟨_,rfl⟩
        replace H:(if 0≤ (ji21) then(if (ji21)< (l1.length:Int) then(if ((rd_T79 l1 (ji21)).f0) > ((rd_T79 l1 x9_1).f0) then(some false) else(if ((rd_T79 l1 (ji21)).f0)= ((rd_T79 l1 x9_1).f0) then(if ((rd_T79 l1 (ji21)).f1)≥ ((rd_T79 l1 x9_1).f1) then(some false) else(spec_GoodEdges.l0 kj5 a0 l1 l1 (l1.length:Int) (wrap64 (x9_1+1)))) else(spec_GoodEdges.l0 kj5 a0 l1 l1 (l1.length:Int) (wrap64 (x9_1+1))))) else(none)) else(none))=some r:=by first|(rw [hji21] at H;exact H)|(simp only [hji21] at H ⊢;exact H)
        have hji21w:(IntKind.i64.wrap (x9_1 - 1))=ji21:=(i64_w _).trans hji21
        by_cases c22: 0≤ (ji21)
        case neg=>rw [if_neg c22] at H;exact absurd H (by simp)
        rw [if_pos c22] at H
        have c22b0:decide (0≤ (ji21))=true:=decide_eq_true c22
        clear c22
        by_cases c23:(ji21)< (l1.length:Int)
        case neg=>rw [if_neg c23] at H;exact absurd H (by simp)
        rw [if_pos c23] at H
        have c23b0:decide ((ji21)< (l1.length:Int))=true:=decide_eq_true c23
        clear c23
        by_cases c24:((rd_T79 l1 (ji21)).f0) > ((rd_T79 l1 x9_1).f0)
        ·rw [if_pos c24] at H
         have c24b0:decide (((rd_T79 l1 x9_1).f0)< ((rd_T79 l1 (ji21)).f0))=true:=decide_eq_true c24
         clear c24
         obtain rfl:=Option.some.inj H
         have p286: 0≤ ((ji21):Int):=of_decide_eq_true zq1
         have q286:(ji21)< (l1.length:Int):=of_decide_eq_true zq1
         obtain⟨ad286,e286,hx286_0,hx286_1,hx286_2⟩:=at_T79 HR1.out (ji21) p286 q286
         obtain rfl:ad281=ad286:=(by injection e286)
         replace hx286_0:=zhx HB hx286_0
         replace hx286_1:=zhx HB hx286_1
         replace hx286_2:=zhx HB hx286_2
         replace p286:=eq_true p286
         replace q286:=eq_true q286
         have hcz25_0:wc.cell? ⟨gb282,0,none⟩=some (.int .i64 ((rd_T79 l1 x9_1).f0)):=(blk_cell BK282.out 0).trans rfl
         have hcz25_1:wc.cell? ⟨gb282,1,none⟩=some (.int .i64 ((rd_T79 l1 x9_1).f1)):=(blk_cell BK282.out 1).trans rfl
         have hcz25_2:wc.cell? ⟨gb282,2,none⟩=some (.int .i64 ((rd_T79 l1 x9_1).f2)):=(blk_cell BK282.out 2).trans rfl
         have hfz25_0:=blk_frozen BK282.out 0
         have hfz25_1:=blk_frozen BK282.out 1
         have hfz25_2:=blk_frozen BK282.out 2
         go_wp2
         repeat(go_quiet (fail);try go_wp2)
         go_ret
         exact⟨by first|rfl|(simp [errW_none,errW_some]<;>rfl)|(simp only [← hji21];first|rfl|(simp [errW_none,errW_some]<;>rfl))|(simp [*,errW_none,errW_some]<;>rfl),by exact zk2 HB GE282.out⟩
        ·rw [if_neg c24] at H
         have c24b0:decide (((rd_T79 l1 x9_1).f0)< ((rd_T79 l1 (ji21)).f0))=false:=decide_eq_false c24
         clear c24
         by_cases c26:((rd_T79 l1 (ji21)).f0)= ((rd_T79 l1 x9_1).f0)
         ·rw [if_pos c26] at H
          have c26b0:(((rd_T79 l1 (ji21)).f0)== ((rd_T79 l1 x9_1).f0))=true:=beq_iff_eq.mpr c26
          have c26b1:(((rd_T79 l1 (ji21)).f0) != ((rd_T79 l1 x9_1).f0))=false:=bne_eq_false_iff_eq.mpr c26
          clear c26
          by_cases c27:((rd_T79 l1 (ji21)).f1)≥ ((rd_T79 l1 x9_1).f1)
          ·rw [if_pos c27] at H
           have c27b0:decide (((rd_T79 l1 x9_1).f1)≤ ((rd_T79 l1 (ji21)).f1))=true:=decide_eq_true c27
           clear c27
           obtain rfl:=Option.some.inj H
           have p286: 0≤ ((ji21):Int):=of_decide_eq_true zq1
           have q286:(ji21)< (l1.length:Int):=of_decide_eq_true zq1
           obtain⟨ad286,e286,hx286_0,hx286_1,hx286_2⟩:=at_T79 HR1.out (ji21) p286 q286
           obtain rfl:ad281=ad286:=(by injection e286)
           replace hx286_0:=zhx HB hx286_0
           replace hx286_1:=zhx HB hx286_1
           replace hx286_2:=zhx HB hx286_2
           replace p286:=eq_true p286
           replace q286:=eq_true q286
           have hcz28_0:wc.cell? ⟨gb282,0,none⟩=some (.int .i64 ((rd_T79 l1 x9_1).f0)):=(blk_cell BK282.out 0).trans rfl
           have hcz28_1:wc.cell? ⟨gb282,1,none⟩=some (.int .i64 ((rd_T79 l1 x9_1).f1)):=(blk_cell BK282.out 1).trans rfl
           have hcz28_2:wc.cell? ⟨gb282,2,none⟩=some (.int .i64 ((rd_T79 l1 x9_1).f2)):=(blk_cell BK282.out 2).trans rfl
           have hfz28_0:=blk_frozen BK282.out 0
           have hfz28_1:=blk_frozen BK282.out 1
           have hfz28_2:=blk_frozen BK282.out 2
           have p287: 0≤ ((ji21):Int):=of_decide_eq_true zq1
           have q287:(ji21)< (l1.length:Int):=of_decide_eq_true zq1
           obtain⟨ad287,e287,hx287_0,hx287_1,hx287_2⟩:=at_T79 HR1.out (ji21) p287 q287
           obtain rfl:ad281=ad287:=(by injection e287)
           replace hx287_0:=zhx HB hx287_0
           replace hx287_1:=zhx HB hx287_1
           replace hx287_2:=zhx HB hx287_2
           replace p287:=eq_true p287
           replace q287:=eq_true q287
           have p288: 0≤ ((ji21):Int):=of_decide_eq_true zq1
           have q288:(ji21)< (l1.length:Int):=of_decide_eq_true zq1
           obtain⟨ad288,e288,hx288_0,hx288_1,hx288_2⟩:=at_T79 HR1.out (ji21) p288 q288
           obtain rfl:ad281=ad288:=(by injection e288)
           replace hx288_0:=zhx HB hx288_0
           replace hx288_1:=zhx HB hx288_1
           replace hx288_2:=zhx HB hx288_2
           replace p288:=eq_true p288
           replace q288:=eq_true q288
           go_wp2
           repeat(go_quiet (fail);try go_wp2)
           go_ret
           exact⟨by first|rfl|(simp [errW_none,errW_some]<;>rfl)|(simp only [← hji21];first|rfl|(simp [errW_none,errW_some]<;>rfl))|(simp [*,errW_none,errW_some]<;>rfl),by exact zk2 HB GE282.out⟩
          ·rw [if_neg c27] at H
           have c27b0:decide (((rd_T79 l1 x9_1).f1)≤ ((rd_T79 l1 (ji21)).f1))=false:=decide_eq_false c27
           clear c27
           have H':=Aside0.mk H
           clear H
           have p286: 0≤ ((ji21):Int):=of_decide_eq_true zq1
           have q286:(ji21)< (l1.length:Int):=of_decide_eq_true zq1
           obtain⟨ad286,e286,hx286_0,hx286_1,hx286_2⟩:=at_T79 HR1.out (ji21) p286 q286
           obtain rfl:ad281=ad286:=(by injection e286)
           replace hx286_0:=zhx HB hx286_0
           replace hx286_1:=zhx HB hx286_1
           replace hx286_2:=zhx HB hx286_2
           replace p286:=eq_true p286
           replace q286:=eq_true q286
           have hcz29_0:wc.cell? ⟨gb282,0,none⟩=some (.int .i64 ((rd_T79 l1 x9_1).f0)):=(blk_cell BK282.out 0).trans rfl
           have hcz29_1:wc.cell? ⟨gb282,1,none⟩=some (.int .i64 ((rd_T79 l1 x9_1).f1)):=(blk_cell BK282.out 1).trans rfl
           have hcz29_2:wc.cell? ⟨gb282,2,none⟩=some (.int .i64 ((rd_T79 l1 x9_1).f2)):=(blk_cell BK282.out 2).trans rfl
           have hfz29_0:=blk_frozen BK282.out 0
           have hfz29_1:=blk_frozen BK282.out 1
           have hfz29_2:=blk_frozen BK282.out 2
           have p287: 0≤ ((ji21):Int):=of_decide_eq_true zq1
           have q287:(ji21)< (l1.length:Int):=of_decide_eq_true zq1
           obtain⟨ad287,e287,hx287_0,hx287_1,hx287_2⟩:=at_T79 HR1.out (ji21) p287 q287
           obtain rfl:ad281=ad287:=(by injection e287)
           replace hx287_0:=zhx HB hx287_0
           replace hx287_1:=zhx HB hx287_1
           replace hx287_2:=zhx HB hx287_2
           replace p287:=eq_true p287
           replace q287:=eq_true q287
           have p288: 0≤ ((ji21):Int):=of_decide_eq_true zq1
           have q288:(ji21)< (l1.length:Int):=of_decide_eq_true zq1
           obtain⟨ad288,e288,hx288_0,hx288_1,hx288_2⟩:=at_T79 HR1.out (ji21) p288 q288
           obtain rfl:ad281=ad288:=(by injection e288)
           replace hx288_0:=zhx HB hx288_0
           replace hx288_1:=zhx HB hx288_1
           replace hx288_2:=zhx HB hx288_2
           replace p288:=eq_true p288
           replace q288:=eq_true q288
           go_wp2
           repeat(go_quiet (fail);try go_wp2)
           go_roundg kj5
           case measure=>have:=HK1.out;have:=HJ5.out;omega
           case rel=>exact⟨(wrap64 (x9_1+1)),(by first|rfl|(simp;done)|(simp [*];done)),H',⟨by have:=HK1.out;have:=HJ5.out;omega⟩,⟨by exact zk2 HB GE282.out⟩⟩
         ·rw [if_neg c26] at H
          have c26b0:(((rd_T79 l1 (ji21)).f0)== ((rd_T79 l1 x9_1).f0))=false:=beq_eq_false_iff_ne.mpr c26
          have c26b1:(((rd_T79 l1 (ji21)).f0) != ((rd_T79 l1 x9_1).f0))=true:=bne_iff_ne.mpr c26
          have H':=Aside0.mk H
          clear H
          have p286: 0≤ ((ji21):Int):=of_decide_eq_true zq1
          have q286:(ji21)< (l1.length:Int):=of_decide_eq_true zq1
          obtain⟨ad286,e286,hx286_0,hx286_1,hx286_2⟩:=at_T79 HR1.out (ji21) p286 q286
          obtain rfl:ad281=ad286:=(by injection e286)
          replace hx286_0:=zhx HB hx286_0
          replace hx286_1:=zhx HB hx286_1
          replace hx286_2:=zhx HB hx286_2
          replace p286:=eq_true p286
          replace q286:=eq_true q286
          have hcz30_0:wc.cell? ⟨gb282,0,none⟩=some (.int .i64 ((rd_T79 l1 x9_1).f0)):=(blk_cell BK282.out 0).trans rfl
          have hcz30_1:wc.cell? ⟨gb282,1,none⟩=some (.int .i64 ((rd_T79 l1 x9_1).f1)):=(blk_cell BK282.out 1).trans rfl
          have hcz30_2:wc.cell? ⟨gb282,2,none⟩=some (.int .i64 ((rd_T79 l1 x9_1).f2)):=(blk_cell BK282.out 2).trans rfl
          have hfz30_0:=blk_frozen BK282.out 0
          have hfz30_1:=blk_frozen BK282.out 1
          have hfz30_2:=blk_frozen BK282.out 2
          have p287: 0≤ ((ji21):Int):=of_decide_eq_true zq1
          have q287:(ji21)< (l1.length:Int):=of_decide_eq_true zq1
          obtain⟨ad287,e287,hx287_0,hx287_1,hx287_2⟩:=at_T79 HR1.out (ji21) p287 q287
          obtain rfl:ad281=ad287:=(by injection e287)
          replace hx287_0:=zhx HB hx287_0
          replace hx287_1:=zhx HB hx287_1
          replace hx287_2:=zhx HB hx287_2
          replace p287:=eq_true p287
          replace q287:=eq_true q287
          go_wp2
          repeat(go_quiet (fail);try go_wp2)
          go_roundg kj5
          case measure=>have:=HK1.out;have:=HJ5.out;omega
          case rel=>exact⟨(wrap64 (x9_1+1)),(by first|rfl|(simp;done)|(simp [*];done)),H',⟨by have:=HK1.out;have:=HJ5.out;omega⟩,⟨by exact zk2 HB GE282.out⟩⟩
       ·rw [if_neg c20] at H
        have c20b0:decide (0<x9_1)=false:=decide_eq_false c20
        clear c20
        have H':=Aside0.mk H
        clear H
        go_wp2
        repeat(go_quiet (fail);try go_wp2)
        go_roundg kj5
        case measure=>have:=HK1.out;have:=HJ5.out;omega
        case rel=>exact⟨(wrap64 (x9_1+1)),(by first|rfl|(simp;done)|(simp [*];done)),H',⟨by have:=HK1.out;have:=HJ5.out;omega⟩,⟨by exact zk2 HB GE282.out⟩⟩
   ·rw [if_neg c3] at H
    have c3b0:decide (x9_1< (l1.length:Int))=false:=decide_eq_false c3
    clear c3
    replace H:=Option.bind_eq_some_iff.mp H
    obtain⟨t280,A310,H⟩:=H
    replace H:(if t280=true then(some (decide ((l1.length:Int)≤40))) else(some false))=some r:=H
    have A31:=Aside0.mk A310
    clear A310
    by_cases c32:t280=true
    ·subst c32
     have H1:(some (decide ((l1.length:Int)≤40)))=some r:=by rw [if_pos rfl] at H;exact H
     clear H
     have H:=H1
     clear H1
     obtain rfl:=Option.some.inj H
     go_wp2_with (first|(go_at_call 59;(with_reducible refine(spec_l1In.calls a0 1 12 true _ A31.out).mono ?_);rintro e w' ⟨rfl,⟨nd,rfl⟩⟩;(try first|exact⟨rfl,_,World.drewN_drewN _ _ _⟩|exact⟨rfl,_,Eq.trans (World.drewN_drewN _ _ _) (congrArg (World.drewN _) (Nat.add_assoc _ _ _))⟩)))
     repeat(go_quiet (first|(go_at_call 59;(with_reducible refine(spec_l1In.calls a0 1 12 true _ A31.out).mono ?_);rintro e w' ⟨rfl,⟨nd,rfl⟩⟩;(try first|exact⟨rfl,_,World.drewN_drewN _ _ _⟩|exact⟨rfl,_,Eq.trans (World.drewN_drewN _ _ _) (congrArg (World.drewN _) (Nat.add_assoc _ _ _))⟩)));try go_wp2_with (first|(go_at_call 59;(with_reducible refine(spec_l1In.calls a0 1 12 true _ A31.out).mono ?_);rintro e w' ⟨rfl,⟨nd,rfl⟩⟩;(try first|exact⟨rfl,_,World.drewN_drewN _ _ _⟩|exact⟨rfl,_,Eq.trans (World.drewN_drewN _ _ _) (congrArg (World.drewN _) (Nat.add_assoc _ _ _))⟩))))
     go_ret
     exact⟨by first|rfl|(simp [errW_none,errW_some]<;>rfl)|(simp [*,errW_none,errW_some]<;>rfl),by exact zk1 HB⟩
    ·replace c32:=Bool.eq_false_iff.mpr c32
     subst c32
     have H1:(some false)=some r:=by rw [if_neg (show ¬ (false=true) by decide)] at H;exact H
     clear H
     have H:=H1
     clear H1
     obtain rfl:=Option.some.inj H
     go_wp2_with (first|(go_at_call 59;(with_reducible refine(spec_l1In.calls a0 1 12 false _ A31.out).mono ?_);rintro e w' ⟨rfl,⟨nd,rfl⟩⟩;(try first|exact⟨rfl,_,World.drewN_drewN _ _ _⟩|exact⟨rfl,_,Eq.trans (World.drewN_drewN _ _ _) (congrArg (World.drewN _) (Nat.add_assoc _ _ _))⟩)))
     repeat(go_quiet (first|(go_at_call 59;(with_reducible refine(spec_l1In.calls a0 1 12 false _ A31.out).mono ?_);rintro e w' ⟨rfl,⟨nd,rfl⟩⟩;(try first|exact⟨rfl,_,World.drewN_drewN _ _ _⟩|exact⟨rfl,_,Eq.trans (World.drewN_drewN _ _ _) (congrArg (World.drewN _) (Nat.add_assoc _ _ _))⟩)));try go_wp2_with (first|(go_at_call 59;(with_reducible refine(spec_l1In.calls a0 1 12 false _ A31.out).mono ?_);rintro e w' ⟨rfl,⟨nd,rfl⟩⟩;(try first|exact⟨rfl,_,World.drewN_drewN _ _ _⟩|exact⟨rfl,_,Eq.trans (World.drewN_drewN _ _ _) (congrArg (World.drewN _) (Nat.add_assoc _ _ _))⟩))))
     go_ret
     exact⟨by first|rfl|(simp [errW_none,errW_some]<;>rfl)|(simp [*,errW_none,errW_some]<;>rfl),by exact zk1 HB⟩
def laws_toEdge.f (a0_0:Int) (a0_1:Int) (a0_2:Int):Option (Int × Int × Int):=some (a0_0,a0_1,a0_2)
theorem zfh {r q p:Prop} (a:r) (b:q) (h:r→q→p:=by intro z H;first|(rw [z];with_reducible exact H)|(have H2_:=(Option.bind_some _ _).symm.trans H;rw [z];with_reducible exact H2_)|(have H2_:=(Option.bind_some _ _).symm.trans H;with_reducible exact H2_)|with_reducible exact H|(rw [z];exact H)|exact H):p:=h a b
theorem zk3 {q r1 r2 p:Prop} (b:Aside0 q) (b1:r1) (b2:r2) (h:q→r1→r2→p:=by intro z g1 g2;repeat(first|(with_reducible first|exact z|apply below_alloc|apply pw_below_drewN|apply below_drew1|refine below_set ?_ g1|refine below_set ?_ g2)|exact z)):p:=h b.out b1 b2
theorem zk4 {q r1 r2 r3 p:Prop} (b:Aside0 q) (b1:r1) (b2:r2) (b3:r3) (h:q→r1→r2→r3→p:=by intro z g1 g2 g3;repeat(first|(with_reducible first|exact z|apply below_alloc|apply pw_below_drewN|apply below_drew1|refine below_set ?_ g1|refine below_set ?_ g2|refine below_set ?_ g3)|exact z)):p:=h b.out b1 b2 b3
theorem zq3 {q p:Prop} (b:Aside0 q) (h:q→p:=by intro z;(with_reducible repeat(first|refine blk_drewN ?_ _|refine blk_drew ?_ |refine blk_alloc ?_ _));exact z):p:=h b.out
theorem zq4 {q p:Prop} (b:Aside0 q) (h:q→p:=by intro z;(with_reducible repeat(first|apply Kd.R_alloc|apply Kd.R_drewN|apply Kd.R_drew));exact z):p:=h b.out
set_option maxHeartbeats 8000000 in
set_option maxRecDepth 100000 in
theorem laws_toEdge.calls (a0_0:Int) (a0_1:Int) (a0_2:Int) (r1:Int) (r2:Int) (r3:Int) (w:World) (h:laws_toEdge.f a0_0 a0_1 a0_2=some (r1,r2,r3)):
  Calls Try.prog 68 #[.agg #[.int .i64 a0_0,.int .i64 a0_1,.int .i64 a0_2]] w fun e w'=>e= .returned (.agg #[.int .i64 r1,.int .i64 r2,.int .i64 r3])∧Below w.heap.size w w':=by
 have hu81:=Try.underlying81
 have hu79:=Try.underlying79
 have HB:=Aside0.mk (Below.refl w.heap.size w)
 have H:(some (a0_0,a0_1,a0_2))=some (r1,r2,r3):=h
 clear h
 simp only [Option.some.injEq,Prod.mk.injEq] at H
 obtain⟨rfl,rfl,rfl⟩:=H
 go_enter Try.func68,Try.ntmps68
 go_wp2_with (first|((with_reducible refine gate_dst (N:=1) rfl ?_);refine box_event ?hg (N:=1) ?hd (cs:= #[.int .i64 a0_0,.int .i64 a0_1,.int .i64 a0_2]) (t:=81) ?hr ?_;(case hd=>rfl);(case hg=>rfl);(case hr=>first|(go_simp;done)|(go_simp;rfl));intro gb295 hg w2 hbox hb;have BK295:=Aside0.mk (hbox);have GW295:=Aside0.mk ((by rw [hg];exact(below_size (by exact zk1 HB)):w.heap.size≤gb295));have GE295:=Aside0.mk ((by rw [hg];exact(below_size (by exact zk1 HB)):w.heap.size≤gb295));replace HB:=Aside0.mk (below_step (by exact zk1 HB) hb);clear hb hbox hg)|((with_reducible refine gate_dst (N:=2) rfl ?_);refine box_event ?hg (N:=2) ?hd (cs:= #[.int .i64 0,.int .i64 0,.int .i64 0]) (t:=79) ?hr ?_;(case hd=>rfl);(case hg=>rfl);(case hr=>first|(go_simp;done)|(go_simp;rfl));intro gb296 hg w3 hbox hb;have BK296:=Aside0.mk (hbox);have GW296:=Aside0.mk ((by rw [hg];exact(below_size (by exact zk2 HB GE295.out)):w.heap.size≤gb296));have GE296:=Aside0.mk ((by rw [hg];exact(below_size (by exact zk2 HB GE295.out)):w.heap.size≤gb296));have NB295_296:=Aside0.mk ((by rw [hg];exact Nat.ne_of_lt (blk_lt (g:=gb295) (o:= .cells #[.int .i64 a0_0,.int .i64 a0_1,.int .i64 a0_2] 81 (0,0)) (zq3 BK295)):gb295≠gb296));have NB296_295:=Aside0.mk ((by rw [hg];exact Nat.ne_of_gt (blk_lt (g:=gb295) (o:= .cells #[.int .i64 a0_0,.int .i64 a0_1,.int .i64 a0_2] 81 (0,0)) (zq3 BK295)):gb296≠gb295));replace BK295:=Aside0.mk (blk_below (g:=gb295) (o:= .cells #[.int .i64 a0_0,.int .i64 a0_1,.int .i64 a0_2] 81 (0,0)) (zq3 BK295) hb);replace HB:=Aside0.mk (below_step (by exact zk2 HB GE295.out) hb);clear hb hbox hg)|((with_reducible refine gate_dst (N:=3) rfl ?_);refine box_event ?hg (N:=3) ?hd (cs:= #[.int .i64 0,.int .i64 0,.int .i64 0]) (t:=79) ?hr ?_;(case hd=>rfl);(case hg=>rfl);(case hr=>first|(go_simp;done)|(go_simp;rfl));intro gb297 hg w4 hbox hb;have BK297:=Aside0.mk (hbox);have GW297:=Aside0.mk ((by rw [hg];exact(below_size (by exact zk3 HB GE295.out GE296.out)):w.heap.size≤gb297));have GE297:=Aside0.mk ((by rw [hg];exact(below_size (by exact zk3 HB GE295.out GE296.out)):w.heap.size≤gb297));have NB295_297:=Aside0.mk ((by rw [hg];exact Nat.ne_of_lt (blk_lt (g:=gb295) (o:= .cells #[.int .i64 a0_0,.int .i64 a0_1,.int .i64 a0_2] 81 (0,0)) (zq3 BK295)):gb295≠gb297));have NB297_295:=Aside0.mk ((by rw [hg];exact Nat.ne_of_gt (blk_lt (g:=gb295) (o:= .cells #[.int .i64 a0_0,.int .i64 a0_1,.int .i64 a0_2] 81 (0,0)) (zq3 BK295)):gb297≠gb295));have NB296_297:=Aside0.mk ((by rw [hg];exact Nat.ne_of_lt (blk_lt (g:=gb296) (o:= .cells #[.int .i64 0,.int .i64 0,.int .i64 0] 79 (0,0)) (zq3 BK296)):gb296≠gb297));have NB297_296:=Aside0.mk ((by rw [hg];exact Nat.ne_of_gt (blk_lt (g:=gb296) (o:= .cells #[.int .i64 0,.int .i64 0,.int .i64 0] 79 (0,0)) (zq3 BK296)):gb297≠gb296));replace BK295:=Aside0.mk (blk_below (g:=gb295) (o:= .cells #[.int .i64 a0_0,.int .i64 a0_1,.int .i64 a0_2] 81 (0,0)) (zq3 BK295) hb);replace BK296:=Aside0.mk (blk_below (g:=gb296) (o:= .cells #[.int .i64 0,.int .i64 0,.int .i64 0] 79 (0,0)) (zq3 BK296) hb);replace HB:=Aside0.mk (below_step (by exact zk3 HB GE295.out GE296.out) hb);clear hb hbox hg;have hnb5:=NB295_296.out;have hnc5:=NB296_295.out;have hnb6:=NB295_297.out;have hnc6:=NB297_295.out;have hcz7_0:w4.cell? ⟨gb295,0,none⟩=some (.int .i64 a0_0):=(blk_cell BK295.out 0).trans rfl;have hcz7_1:w4.cell? ⟨gb295,1,none⟩=some (.int .i64 a0_1):=(blk_cell BK295.out 1).trans rfl;have hcz7_2:w4.cell? ⟨gb295,2,none⟩=some (.int .i64 a0_2):=(blk_cell BK295.out 2).trans rfl;have hfz7_0:=blk_frozen BK295.out 0;have hfz7_1:=blk_frozen BK295.out 1;have hfz7_2:=blk_frozen BK295.out 2;have hnb8:=NB297_296.out;have hnc8:=NB296_297.out;have hcz9_0:w4.cell? ⟨gb297,0,none⟩=some (.int .i64 0):=(blk_cell BK297.out 0).trans rfl;have hcz9_1:w4.cell? ⟨gb297,1,none⟩=some (.int .i64 0):=(blk_cell BK297.out 1).trans rfl;have hcz9_2:w4.cell? ⟨gb297,2,none⟩=some (.int .i64 0):=(blk_cell BK297.out 2).trans rfl;have hfz9_0:=blk_frozen BK297.out 0;have hfz9_1:=blk_frozen BK297.out 1;have hfz9_2:=blk_frozen BK297.out 2;have hcz10_0:w4.cell? ⟨gb296,0,none⟩=some (.int .i64 0):=(blk_cell BK296.out 0).trans rfl;have hcz10_1:w4.cell? ⟨gb296,1,none⟩=some (.int .i64 0):=(blk_cell BK296.out 1).trans rfl;have hcz10_2:w4.cell? ⟨gb296,2,none⟩=some (.int .i64 0):=(blk_cell BK296.out 2).trans rfl;have hfz10_0:=blk_frozen BK296.out 0;have hfz10_1:=blk_frozen BK296.out 1;have hfz10_2:=blk_frozen BK296.out 2))
 refine bodyPost_ret (results_cell_row rfl _ _ gb296 79 #[.int .i64 a0_0,.int .i64 a0_1,.int .i64 a0_2] (0,0) _ rfl (by(with_reducible repeat(first|refine blk_drewN ?_ _|refine blk_drew ?_ |refine blk_alloc ?_ _));refine blk_put (cs:= #[.int .i64 a0_0,.int .i64 a0_1,.int .i64 0]) ?_ 2 _ rfl;(with_reducible repeat(first|refine blk_drewN ?_ _|refine blk_drew ?_ |refine blk_alloc ?_ _));refine blk_put (cs:= #[.int .i64 a0_0,.int .i64 0,.int .i64 0]) ?_ 1 _ rfl;(with_reducible repeat(first|refine blk_drewN ?_ _|refine blk_drew ?_ |refine blk_alloc ?_ _));refine blk_put (cs:= #[.int .i64 0,.int .i64 0,.int .i64 0]) ?_ 0 _ rfl;(with_reducible repeat(first|refine blk_drewN ?_ _|refine blk_drew ?_ |refine blk_alloc ?_ _));refine blk_far ?_ NB296_297.out _;(with_reducible repeat(first|refine blk_drewN ?_ _|refine blk_drew ?_ |refine blk_alloc ?_ _));refine blk_far ?_ NB296_297.out _;(with_reducible repeat(first|refine blk_drewN ?_ _|refine blk_drew ?_ |refine blk_alloc ?_ _));refine blk_far ?_ NB296_297.out _;(with_reducible repeat(first|refine blk_drewN ?_ _|refine blk_drew ?_ |refine blk_alloc ?_ _));exact BK296.out) Try.underlying79 rfl (by kernel_rfl)) rfl ?_
 exact⟨by first|rfl|(simp [errW_none,errW_some]<;>rfl)|(simp [*,errW_none,errW_some]<;>rfl),by exact zk4 HB GE295.out GE296.out GE297.out⟩
def laws_toEdgeS.l0:Nat→List (S81)→List (S79)→Int→Option ((List (S79)))
 | 0,_,_,_=>none
 |k+1,x0,x3,x4=>if x4< (x0.length:Int) then(if 0≤x4 then((laws_toEdge.f ((rd_T81 x0 x4).f0) ((rd_T81 x0 x4).f1) ((rd_T81 x0 x4).f2)).bind fun bt302=>(if x4< (x3.length:Int) then(laws_toEdgeS.l0 k x0 (x3.set (x4:Int).toNat (⟨bt302.1,bt302.2.1,bt302.2.2⟩ :S79)) (wrap64 (x4+1))) else(none))) else(none)) else(some x3)
def laws_toEdgeS.f (k:Nat) (l0:List (S81)):Option ((List (S79))):=if 0≤ (l0.length:Int) then(if ((l0.length:Int):Int).toNat≤11728124029610 then(laws_toEdgeS.l0 k l0 (List.replicate ((l0.length:Int):Int).toNat z79) 0) else(none)) else(none)
set_option maxHeartbeats 8000000 in
set_option maxRecDepth 100000 in
theorem laws_toEdgeS.calls (k:Nat) (A0:Option Addr) (c0:Nat) (l0:List (S81)) (r:List (S79)) (w:World) (hr0:Kd.C k81 w A0 l0.length l0) (hc0:l0.length≤c0) (h:laws_toEdgeS.f k l0=some r):
  Calls Try.prog 25 #[.slice A0 l0.length c0] w fun e w'=> ∃ v0_:Value,e= .returned (v0_)∧Kd.R k79 79 w' w.heap.size (fun _=>True) v0_ r∧Below w.heap.size w w':=by
 have hu81:=Try.underlying81
 have hu79:=Try.underlying79
 have HR0:=Aside0.mk hr0
 have HC0:=Aside0.mk hc0
 clear hr0 hc0
 have HB:=Aside0.mk (Below.refl w.heap.size w)
 have H:(if 0≤ (l0.length:Int) then(if ((l0.length:Int):Int).toNat≤11728124029610 then(laws_toEdgeS.l0 k l0 (List.replicate ((l0.length:Int):Int).toNat z79) 0) else(none)) else(none))=some r:=h
 clear h
 by_cases c2: 0≤ (l0.length:Int)
 case neg=>rw [if_neg c2] at H;exact absurd H (by simp)
 rw [if_pos c2] at H
 have c2b0:=eq_true c2
 have c2b1:decide (0≤ (l0.length:Int))=true:=decide_eq_true c2
 clear c2
 by_cases c3:((l0.length:Int):Int).toNat≤11728124029610
 case neg=>rw [if_neg c3] at H;exact absurd H (by simp)
 rw [if_pos c3] at H
 have c3b0:=eq_true c3
 have c3b1:decide (((l0.length:Int):Int).toNat≤11728124029610)=true:=decide_eq_true c3
 clear c3
 obtain⟨y298,hy298⟩ :∃ y_:List (S79),y_= (List.replicate ((l0.length:Int):Int).toNat z79):=⟨_,rfl⟩
 replace H:(laws_toEdgeS.l0 k l0 y298 0)=some r:=zfh hy298 H
 have Ny298:=Aside0.mk hy298
 clear hy298
 have H':=Aside0.mk H
 clear H
 go_enter Try.func25,Try.ntmps25
 go_wp2_with (first|((with_reducible refine gate_dst (N:=7) rfl ?_);refine Kd.R_make k79 _ 79 rfl (N:=7) rfl 35 _ _ rfl (l0.length:Int) rfl rfl Try.underlying35 (.agg #[(.int .i64 0),(.int .i64 0),(.int .i64 0)]) 24 info79 rfl (by decide) (by omega) z79 (ok:=fun _=>True) (okp:=fun _=>True) (k79_mkM _ _ _ z79 ) (fun _ hk=>hk) trivial (of_decide_eq_true zq1) (Nat.le_trans (Nat.mul_le_mul_right _ (of_decide_eq_true zq1:(l0.length:Int).toNat≤11728124029610)) (by omega)) (Below.refl _ _) (Nat.le_refl _) ?_;intro v299 w4 ho5 hb hg_ hnew_;clear hg_ hnew_;(first|rw [← Ny298.out] at ho5|(simp only [Int.reduceToNat] at ho5;rw [← Ny298.out] at ho5));have HO300:=Aside0.mk (Kd.R_lower ho5 (below_size (by exact zk1 HB)));replace HB:=Aside0.mk (below_step (by exact zk1 HB) hb);clear hb ho5))
 go_loopg [4] k (fun kq v4 w'=> ∃ (x3_1:List (S79)) (x4_1:Int),v4= .int .i64 x4_1∧Aside0 (laws_toEdgeS.l0 kq l0 x3_1 x4_1=some r)∧Aside0 (kq≤k)∧Aside0 (Kd.R k79 79 w' w.heap.size (fun _=>True) v299 x3_1)∧Aside0 (Below w.heap.size w w'))
 case atStart=>exact⟨(y298),(0),(by first|rfl|(simp;done)|(simp [*];done)),H',⟨Nat.le_refl _⟩,⟨by(with_reducible repeat(first|apply Kd.R_alloc|apply Kd.R_drewN|apply Kd.R_drew));exact HO300.out⟩,⟨by exact zk1 HB⟩⟩
 case round=>
  clear H'
  try clear c2
  try clear c2b0
  try clear c2b1
  try clear p2
  try clear c3
  try clear c3b0
  try clear c3b1
  obtain⟨x3_1,x4_1,rfl,HA,HK1,HO_3,HB⟩:=hrel
  cases gk with
  |zero=>exact absurd HA.out (by simp [laws_toEdgeS.l0])
  |succ k1=>
   have H:=HA.out
   clear HA
   simp only [laws_toEdgeS.l0] at H
   by_cases c6:x4_1< (l0.length:Int)
   ·rw [if_pos c6] at H
    have c6b0:decide (x4_1< (l0.length:Int))=true:=decide_eq_true c6
    clear c6
    by_cases c7: 0≤x4_1
    case neg=>rw [if_neg c7] at H;exact absurd H (by simp)
    rw [if_pos c7] at H
    have c7b0:decide (0≤x4_1)=true:=decide_eq_true c7
    clear c7
    replace H:=Option.bind_eq_some_iff.mp H
    obtain⟨⟨t302,t303,t304⟩,A80,H⟩:=H
    replace H:(if x4_1< (x3_1.length:Int) then(laws_toEdgeS.l0 k1 l0 (x3_1.set (x4_1:Int).toNat (⟨t302,t303,t304⟩ :S79)) (wrap64 (x4_1+1))) else(none))=some r:=H
    have A8:=Aside0.mk A80
    clear A80
    by_cases c9:x4_1< (x3_1.length:Int)
    case neg=>rw [if_neg c9] at H;exact absurd H (by simp)
    rw [if_pos c9] at H
    have c9b0:decide (x4_1< (x3_1.length:Int))=true:=decide_eq_true c9
    clear c9
    obtain⟨y305,hy305⟩ :∃ y_:List (S79),y_= (x3_1.set (x4_1:Int).toNat (⟨t302,t303,t304⟩ :S79)):=⟨_,rfl⟩
    replace H:(laws_toEdgeS.l0 k1 l0 y305 (wrap64 (x4_1+1)))=some r:=zfh hy305 H
    have Ny305:=Aside0.mk hy305
    clear hy305
    have H':=Aside0.mk H
    clear H
    have p301: 0≤ (x4_1:Int):=of_decide_eq_true zq1
    have q301:x4_1< (l0.length:Int):=of_decide_eq_true zq1
    obtain⟨ad301,e301,hx301_0,hx301_1,hx301_2⟩:=at_T81 HR0.out x4_1 p301 q301
    cases e301
    replace hx301_0:=zhx HB hx301_0
    replace hx301_1:=zhx HB hx301_1
    replace hx301_2:=zhx HB hx301_2
    replace p301:=eq_true p301
    replace q301:=eq_true q301
    go_wp2_with (first|((with_reducible refine gate_callee (f:=68) rfl ?_);refine goesL_ (some 20) rfl rfl Try.func68 (by kernel_rfl) rfl #[.agg #[.int .i64 ((rd_T81 l0 x4_1).f0),.int .i64 ((rd_T81 l0 x4_1).f1),.int .i64 ((rd_T81 l0 x4_1).f2)]] rfl zq2 ?_;(with_reducible refine(laws_toEdge.calls ((rd_T81 l0 x4_1).f0) ((rd_T81 l0 x4_1).f1) ((rd_T81 l0 x4_1).f2) t302 t303 t304 _ A8.out).mono ?_);rintro e w11 ⟨rfl,hb⟩;refine⟨_,rfl,?_⟩;replace HO_3:=Aside0.mk (Kd.R_below (zq4 HO_3) hb);replace HB:=Aside0.mk (below_step (by exact zk1 HB) hb);(try clear hb);(try clear hb2);(try clear hk);(try clear hi);have p10: 0≤ (x4_1:Int):=of_decide_eq_true zq1;have q10:(x4_1:Int)< ((x3_1.length:Int):Int):=of_decide_eq_true zq1;obtain⟨go10,co10,eo10,gb10,gl10,cl10,HG10⟩:=Kd.R_form HO_3.out (by omega);(first|cases eo10|(injection eo10 with ea_ en_ ec_;(first|subst ea_|(injection ea_ with ea_;subst ea_));subst ec_;clear en_));have GB10:=Aside0.mk gb10;have GG10:=Aside0.mk HG10;clear gb10 gl10 HG10;obtain⟨ce10,hcl10,hM10,hcc10,hfr10⟩:=Kd.R_elem HO_3.out z79 (x4_1:Int) p10 q10;obtain rfl:=k79_openM hM10;have hx10_0:w11.cell? ⟨go10,(x4_1:Int).toNat * 3,none⟩=some (.int .i64 ((rd_T79 x3_1 x4_1).f0)):=hcc10 0 _ rfl;have hx10_1:w11.cell? ⟨go10,(x4_1:Int).toNat * 3+1,none⟩=some (.int .i64 ((rd_T79 x3_1 x4_1).f1)):=hcc10 1 _ rfl;have hx10_2:w11.cell? ⟨go10,(x4_1:Int).toNat * 3+2,none⟩=some (.int .i64 ((rd_T79 x3_1 x4_1).f2)):=hcc10 2 _ rfl;have hf10_0:w11.frozen? ⟨go10,(x4_1:Int).toNat * 3,none⟩=false:=hfr10 0;have hf10_1:w11.frozen? ⟨go10,(x4_1:Int).toNat * 3+1,none⟩=false:=hfr10 1;have hf10_2:w11.frozen? ⟨go10,(x4_1:Int).toNat * 3+2,none⟩=false:=hfr10 2;clear hcl10 hcc10 hfr10 hM10;replace p10:=eq_true p10;replace q10:=eq_true q10;have HX12:=Aside0.mk (show Kd.R k79 79 w11 w.heap.size (fun _=>True) (.slice (some ⟨go10,0,none⟩) x3_1.length co10) x3_1 from (zq4 HO_3));obtain⟨ce12,hcl12,hM12,hcc12,hfr12⟩:=Kd.R_elem HX12.out z79 (x4_1:Int) (of_decide_eq_true zq1) (by have h_:(x4_1:Int)< ((x3_1.length:Int):Int):=of_decide_eq_true zq1;first|exact h_|(have e_:=(Kd.R_reads' HO_3.out).1;omega)|simpa using h_);obtain rfl:=k79_openM hM12;have HP12:=Kd.R_seg HX12.out (x4_1:Int) (of_decide_eq_true zq1) (by have h_:(x4_1:Int)< ((x3_1.length:Int):Int):=of_decide_eq_true zq1;first|exact h_|(have e_:=(Kd.R_reads' HO_3.out).1;omega)|simpa using h_) (seg:= [.int .i64 t302,.int .i64 t303,.int .i64 t304]) (j:=0) hcl12 hcc12 (show 3≤3 from by decide) (x':=(⟨t302,t303,t304⟩ :S79)) (k79_mkM _ _ _ (⟨t302,t303,t304⟩ :S79) ) (fun _ hk=>hk);have hx12_0:=hcc12 0 _ rfl;(try simp only [show (k79).sz=3 from rfl,Nat.mul_one,Nat.add_zero] at hx12_0);have hf12_0:=hfr12 0;(try simp only [show (k79).sz=3 from rfl,Nat.mul_one,Nat.add_zero] at hf12_0);have hx12_1:=hcc12 1 _ rfl;(try simp only [show (k79).sz=3 from rfl,Nat.mul_one,Nat.add_zero] at hx12_1);have hf12_1:=hfr12 1;(try simp only [show (k79).sz=3 from rfl,Nat.mul_one,Nat.add_zero] at hf12_1);have hx12_2:=hcc12 2 _ rfl;(try simp only [show (k79).sz=3 from rfl,Nat.mul_one,Nat.add_zero] at hx12_2);have hf12_2:=hfr12 2;(try simp only [show (k79).sz=3 from rfl,Nat.mul_one,Nat.add_zero] at hf12_2);clear hcl12 hcc12 hfr12 hM12)|((with_reducible refine gate_store (t:=79) (p:=21) rfl ?_);refine store_event (t:=79) (p:=21) (v:=?vo_w13) (w1:=(((w11.setCell ⟨go10,(x4_1:Int).toNat * 3,none⟩ (.int .i64 t302)).setCell ⟨go10,(x4_1:Int).toNat * 3+1,none⟩ (.int .i64 t303)).setCell ⟨go10,(x4_1:Int).toNat * 3+2,none⟩ (.int .i64 t304))) ?hg ?ho ?hn ?hr ?_;(case ho=>rfl);(case hg=>rfl);(case hn=>rfl);(case hr=>first|(go_simp;done)|(go_simp;rfl));intro w13 hw;have hg:w11.grownBy w13 (some go10):=(by rw [hw];exact HP12.2);have hp_:Kd.R k79 79 w13 w.heap.size (fun _=>True) (.slice (some ⟨go10,0,none⟩) x3_1.length co10) y305:=(by rw [hw,Ny305.out];exact HP12.1);clear HP12;replace HO_3:=Aside0.mk (hp_);replace HB:=Aside0.mk ((by rw [hw];exact below_set (below_set (below_set (HB.out) GB10.out) GB10.out) GB10.out:Below w.heap.size w w13));clear hg hw hp_))
    go_roundg k1
    case measure=>have:=HK1.out;omega
    case rel=>exact⟨(y305),(wrap64 (x4_1+1)),(by first|rfl|(simp;done)|(simp [*];done)),H',⟨by have:=HK1.out;omega⟩,⟨by(with_reducible repeat(first|apply Kd.R_alloc|apply Kd.R_drewN|apply Kd.R_drew));exact HO_3.out⟩,⟨by exact zk1 HB⟩⟩
   ·rw [if_neg c6] at H
    have c6b0:decide (x4_1< (l0.length:Int))=false:=decide_eq_false c6
    clear c6
    obtain rfl:=Option.some.inj H
    go_wp2
    go_ret
    exact⟨_,by first|rfl|(simp [errW_none,errW_some]<;>rfl)|(simp [*,errW_none,errW_some]<;>rfl),by(with_reducible repeat(first|apply Kd.R_alloc|apply Kd.R_drewN|apply Kd.R_drew));exact HO_3.out,by exact zk1 HB⟩
def impl_byEnds.f (a0_0:Int) (a0_1:Int) (a0_2:Int) (a1_0:Int) (a1_1:Int) (a1_2:Int):Option (Int):=if a0_0=a1_0 then(some (wrap64 (a0_1 - a1_1))) else(some (wrap64 (a0_0 - a1_0)))
set_option maxHeartbeats 8000000 in
set_option maxRecDepth 100000 in
theorem impl_byEnds.calls (a0_0:Int) (a0_1:Int) (a0_2:Int) (a1_0:Int) (a1_1:Int) (a1_2:Int) (r:Int) (w:World) (h:impl_byEnds.f a0_0 a0_1 a0_2 a1_0 a1_1 a1_2=some r):
  Calls Try.prog 93 #[.agg #[.int .i64 a0_0,.int .i64 a0_1,.int .i64 a0_2],.agg #[.int .i64 a1_0,.int .i64 a1_1,.int .i64 a1_2]] w fun e w'=>e= .returned (.int .i64 r)∧Below w.heap.size w w':=by
 have hu79:=Try.underlying79
 have HB:=Aside0.mk (Below.refl w.heap.size w)
 have H:(if a0_0=a1_0 then(some (wrap64 (a0_1 - a1_1))) else(some (wrap64 (a0_0 - a1_0))))=some r:=h
 clear h
 by_cases c3:a0_0=a1_0
 ·rw [if_pos c3] at H
  have c3b0:(a0_0==a1_0)=true:=beq_iff_eq.mpr c3
  have c3b1:(a0_0 !=a1_0)=false:=bne_eq_false_iff_eq.mpr c3
  clear c3
  obtain rfl:=Option.some.inj H
  go_enter Try.func93,Try.ntmps93
  go_wp2_with (first|((with_reducible refine gate_dst (N:=2) rfl ?_);refine box_event ?hg (N:=2) ?hd (cs:= #[.int .i64 a0_0,.int .i64 a0_1,.int .i64 a0_2]) (t:=79) ?hr ?_;(case hd=>rfl);(case hg=>rfl);(case hr=>first|(go_simp;done)|(go_simp;rfl));intro gb306 hg w4 hbox hb;have BK306:=Aside0.mk (hbox);have GW306:=Aside0.mk ((by rw [hg];exact(below_size (by exact zk1 HB)):w.heap.size≤gb306));have GE306:=Aside0.mk ((by rw [hg];exact(below_size (by exact zk1 HB)):w.heap.size≤gb306));replace HB:=Aside0.mk (below_step (by exact zk1 HB) hb);clear hb hbox hg)|((with_reducible refine gate_dst (N:=3) rfl ?_);refine box_event ?hg (N:=3) ?hd (cs:= #[.int .i64 a1_0,.int .i64 a1_1,.int .i64 a1_2]) (t:=79) ?hr ?_;(case hd=>rfl);(case hg=>rfl);(case hr=>first|(go_simp;done)|(go_simp;rfl));intro gb307 hg w5 hbox hb;have BK307:=Aside0.mk (hbox);have GW307:=Aside0.mk ((by rw [hg];exact(below_size (by exact zk2 HB GE306.out)):w.heap.size≤gb307));have GE307:=Aside0.mk ((by rw [hg];exact(below_size (by exact zk2 HB GE306.out)):w.heap.size≤gb307));have NB306_307:=Aside0.mk ((by rw [hg];exact Nat.ne_of_lt (blk_lt (g:=gb306) (o:= .cells #[.int .i64 a0_0,.int .i64 a0_1,.int .i64 a0_2] 79 (0,0)) (zq3 BK306)):gb306≠gb307));have NB307_306:=Aside0.mk ((by rw [hg];exact Nat.ne_of_gt (blk_lt (g:=gb306) (o:= .cells #[.int .i64 a0_0,.int .i64 a0_1,.int .i64 a0_2] 79 (0,0)) (zq3 BK306)):gb307≠gb306));replace BK306:=Aside0.mk (blk_below (g:=gb306) (o:= .cells #[.int .i64 a0_0,.int .i64 a0_1,.int .i64 a0_2] 79 (0,0)) (zq3 BK306) hb);replace HB:=Aside0.mk (below_step (by exact zk2 HB GE306.out) hb);clear hb hbox hg;have hnb6:=NB306_307.out;have hnc6:=NB307_306.out;have hcz7_0:w5.cell? ⟨gb306,0,none⟩=some (.int .i64 a0_0):=(blk_cell BK306.out 0).trans rfl;have hcz7_1:w5.cell? ⟨gb306,1,none⟩=some (.int .i64 a0_1):=(blk_cell BK306.out 1).trans rfl;have hcz7_2:w5.cell? ⟨gb306,2,none⟩=some (.int .i64 a0_2):=(blk_cell BK306.out 2).trans rfl;have hfz7_0:=blk_frozen BK306.out 0;have hfz7_1:=blk_frozen BK306.out 1;have hfz7_2:=blk_frozen BK306.out 2;have hcz8_0:w5.cell? ⟨gb307,0,none⟩=some (.int .i64 a1_0):=(blk_cell BK307.out 0).trans rfl;have hcz8_1:w5.cell? ⟨gb307,1,none⟩=some (.int .i64 a1_1):=(blk_cell BK307.out 1).trans rfl;have hcz8_2:w5.cell? ⟨gb307,2,none⟩=some (.int .i64 a1_2):=(blk_cell BK307.out 2).trans rfl;have hfz8_0:=blk_frozen BK307.out 0;have hfz8_1:=blk_frozen BK307.out 1;have hfz8_2:=blk_frozen BK307.out 2))
  go_ret
  exact⟨by first|rfl|(simp [errW_none,errW_some]<;>rfl)|(simp [*,errW_none,errW_some]<;>rfl),by exact zk3 HB GE306.out GE307.out⟩
 ·rw [if_neg c3] at H
  have c3b0:(a0_0==a1_0)=false:=beq_eq_false_iff_ne.mpr c3
  have c3b1:(a0_0 !=a1_0)=true:=bne_iff_ne.mpr c3
  obtain rfl:=Option.some.inj H
  go_enter Try.func93,Try.ntmps93
  go_wp2_with (first|((with_reducible refine gate_dst (N:=2) rfl ?_);refine box_event ?hg (N:=2) ?hd (cs:= #[.int .i64 a0_0,.int .i64 a0_1,.int .i64 a0_2]) (t:=79) ?hr ?_;(case hd=>rfl);(case hg=>rfl);(case hr=>first|(go_simp;done)|(go_simp;rfl));intro gb306 hg w9 hbox hb;have BK306:=Aside0.mk (hbox);have GW306:=Aside0.mk ((by rw [hg];exact(below_size (by exact zk1 HB)):w.heap.size≤gb306));have GE306:=Aside0.mk ((by rw [hg];exact(below_size (by exact zk1 HB)):w.heap.size≤gb306));replace HB:=Aside0.mk (below_step (by exact zk1 HB) hb);clear hb hbox hg)|((with_reducible refine gate_dst (N:=3) rfl ?_);refine box_event ?hg (N:=3) ?hd (cs:= #[.int .i64 a1_0,.int .i64 a1_1,.int .i64 a1_2]) (t:=79) ?hr ?_;(case hd=>rfl);(case hg=>rfl);(case hr=>first|(go_simp;done)|(go_simp;rfl));intro gb307 hg w10 hbox hb;have BK307:=Aside0.mk (hbox);have GW307:=Aside0.mk ((by rw [hg];exact(below_size (by exact zk2 HB GE306.out)):w.heap.size≤gb307));have GE307:=Aside0.mk ((by rw [hg];exact(below_size (by exact zk2 HB GE306.out)):w.heap.size≤gb307));have NB306_307:=Aside0.mk ((by rw [hg];exact Nat.ne_of_lt (blk_lt (g:=gb306) (o:= .cells #[.int .i64 a0_0,.int .i64 a0_1,.int .i64 a0_2] 79 (0,0)) (zq3 BK306)):gb306≠gb307));have NB307_306:=Aside0.mk ((by rw [hg];exact Nat.ne_of_gt (blk_lt (g:=gb306) (o:= .cells #[.int .i64 a0_0,.int .i64 a0_1,.int .i64 a0_2] 79 (0,0)) (zq3 BK306)):gb307≠gb306));replace BK306:=Aside0.mk (blk_below (g:=gb306) (o:= .cells #[.int .i64 a0_0,.int .i64 a0_1,.int .i64 a0_2] 79 (0,0)) (zq3 BK306) hb);replace HB:=Aside0.mk (below_step (by exact zk2 HB GE306.out) hb);clear hb hbox hg;have hnb11:=NB306_307.out;have hnc11:=NB307_306.out;have hcz12_0:w10.cell? ⟨gb306,0,none⟩=some (.int .i64 a0_0):=(blk_cell BK306.out 0).trans rfl;have hcz12_1:w10.cell? ⟨gb306,1,none⟩=some (.int .i64 a0_1):=(blk_cell BK306.out 1).trans rfl;have hcz12_2:w10.cell? ⟨gb306,2,none⟩=some (.int .i64 a0_2):=(blk_cell BK306.out 2).trans rfl;have hfz12_0:=blk_frozen BK306.out 0;have hfz12_1:=blk_frozen BK306.out 1;have hfz12_2:=blk_frozen BK306.out 2;have hcz13_0:w10.cell? ⟨gb307,0,none⟩=some (.int .i64 a1_0):=(blk_cell BK307.out 0).trans rfl;have hcz13_1:w10.cell? ⟨gb307,1,none⟩=some (.int .i64 a1_1):=(blk_cell BK307.out 1).trans rfl;have hcz13_2:w10.cell? ⟨gb307,2,none⟩=some (.int .i64 a1_2):=(blk_cell BK307.out 2).trans rfl;have hfz13_0:=blk_frozen BK307.out 0;have hfz13_1:=blk_frozen BK307.out 1;have hfz13_2:=blk_frozen BK307.out 2))
  go_ret
  exact⟨by first|rfl|(simp [errW_none,errW_some]<;>rfl)|(simp [*,errW_none,errW_some]<;>rfl),by exact zk3 HB GE306.out GE307.out⟩
end Go.Proofs.Ytedegfbheihopaa.P
