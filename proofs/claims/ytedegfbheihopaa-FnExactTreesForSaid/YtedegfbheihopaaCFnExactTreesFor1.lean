/- Functions, walks and plain lemmas that the law FnExactTreesFor reaches, part 1. -/
import Derived.Test.YtedegfbheihopaaCFnExactTreesFor0
import Derived.WalkKit
import Derived.ProofKit
import Derived.OpenShut
import Derived.ChangeOld
import Derived.Below
import Derived.SizedLaws
import Derived.ChangeArms
import Derived.DataElems
import Derived.Deep.Draws
import Derived.Deep.AppendLies
import Derived.Maps.AppendAt
import Derived.OwnWalk
import Derived.Laws.BytesArg
import Derived.Laws.MakeOwn
import Derived.Laws.OwnMore
import Derived.Deep.OwnRows
import Derived.Tactics
import Derived.Lib.ConvBytes
import Derived.Laws.Slices
import Derived.KernelRfl
import Derived.RowKit3
import Derived.Deep.LoopGhost
import Derived.Deep.QuietTactic
import Derived.BigQuiet
import Derived.WideLaws
import Derived.Deep.DeepCutAuto
import Derived.Deep.CutBlock
import Derived.Deep.RegionHeld3
import Derived.Laws.Rows
import Derived.Lib.AppendStr
import Derived.ArgAppend
import Derived.Laws.IdiomCopy
import Derived.OrdersHeld
import Derived.Laws.BitsLemmas
import Derived.RowKit
import Derived.WalkSpells
import Derived.Lib.SliceRun
import Derived.Shelf.Abstract
import Derived.ShutString
namespace Go.Proofs.YtedegfbheihopaaOpen
open Go.ChangeShapes Go.WideShapes Go.ChangeAt Go.RowKit Go.Proofs.YtedegfbheihopaaW.PrintWords
variable {H : Type} {enc : TypeId × Value → H} {P : Program} {W : World}
/-- Whatever reads as data of type t reads by the kind d, and is as wf says. -/
def Opens {H : Type} (enc : TypeId × Value → H) (P : Program) (W : World) (t : TypeId) {α : Type} (d : Kd α) (wf : α → Prop) : Prop :=
 ∀ (fuel : Nat) (cs : List Value) (x : DataW H × List MemPlace), DataW.trod enc P W 0 (fun _ => true) true fuel t cs = some x → ∃ a, d.K W a cs ∧ wf a
theorem opens_int {t : TypeId} {k : IntKind} (hu : P.underlying t = some (.int k)) : Opens enc P W t (Kd.int k) (fun n => (Lit.int k n).wf = true) := by
 intro fuel cs x h
 obtain ⟨n, rfl, _, hw⟩ := DataW.trod_int hu h
 exact ⟨n, rfl, hw⟩
theorem list_of {α : Type} {Q : Nat → α → Prop} : ∀ (n : Nat), (∀ i, i < n → ∃ a, Q i a) → ∃ l : List α, l.length = n ∧ ∀ i a, l[i]? = some a → Q i a
 | 0, _ => ⟨[], rfl, fun i a h => by simp at h⟩
 | n + 1, h => by
  obtain ⟨l, hl, hq⟩ := list_of n (fun i hi => h i (by omega))
  obtain ⟨a, ha⟩ := h n (by omega)
  refine ⟨l ++ [a], by simp [hl], fun i b hb => ?_⟩
  by_cases hi : i < l.length
  ·rw [List.getElem?_append_left hi] at hb
   exact hq i b hb
  ·rw [List.getElem?_append_right (by omega)] at hb
   have hz : i - l.length = 0 := by
    by_cases hz : i - l.length = 0
    ·exact hz
    ·rw [List.getElem?_eq_none (by simp; omega)] at hb
     cases hb
   rw [hz] at hb
   simp only [List.getElem?_cons_zero, Option.some.injEq] at hb
   subst hb
   have : i = n := by omega
   subst this
   exact ha
theorem opens_slice {t e : TypeId} {α : Type} {d : Kd α} {wf : α → Prop} (hu : P.underlying t = some (.slice e)) (hc : P.cellsOf e = d.sz) (hd : Opens enc P W e d wf) :
  Opens enc P W t (Kd.slice e d) (fun l => l.length ≤ maxLen ∧ ∀ x ∈ l, wf x) := by
 intro fuel cs x h
 rcases DataW.trod_slice hu h with ⟨rfl, _⟩ | ⟨a, len, cap, elems, rest, n, _, rfl, _, _, hl, hm, hlen, hel, _, _⟩
 ·refine ⟨[], ⟨none, 0, rfl, Nat.le_refl _, rfl, by simp, fun hp => absurd hp (by simp)⟩, by simp, by simp⟩
 ·have each : ∀ i, i < len → ∃ b : α, (∃ c : List Value, c.length = d.sz ∧ d.K W b c ∧ ∀ j u, c[j]? = some u → W.cell? (a.add (i * d.sz + j)) = some u) ∧ wf b := by
   intro i hi
   have h1 := hel i hi
   have hi' : i < elems.length := by omega
   rw [List.getElem?_eq_getElem hi', Option.bind_eq_some_iff] at h1
   obtain ⟨c, hcs, ht⟩ := h1
   obtain ⟨b, hb, hwf⟩ := hd _ _ _ ht
   obtain ⟨_, hclen, hcell⟩ := World.cells?_some hcs
   refine ⟨b, ⟨c, by rw [hclen, hc], hb, fun j u hj => ?_⟩, hwf⟩
   have hj' : j < P.cellsOf e := by
    have := (List.getElem?_eq_some_iff.1 hj).1
    omega
   have h2 := hcell j hj'
   rw [Addr.add_add, hj, hc] at h2
   exact h2
  obtain ⟨l, hll, hq⟩ := list_of len each
  subst hll
  refine ⟨l, ⟨some a, cap, rfl, hl, rfl, ?_, fun _ => ⟨a, rfl, fun j p hj => ?_⟩⟩, ?_, fun y hy => ?_⟩
  ·have : cap ≤ 9223372036854775807 := by unfold maxLen at hm; exact hm
   omega
  ·obtain ⟨⟨c, h1, h2, h3⟩, _⟩ := hq j p hj
   exact ⟨c, h1, h2, h3⟩
  ·omega
  ·obtain ⟨j, hj⟩ := List.getElem?_of_mem hy
   exact (hq j y hj).2
theorem cut3 {cs : List Value} {a b c : Nat} (h : cs.length = a + (b + c)) : cs = cs.take a ++ ((cs.drop a).take b ++ (cs.drop (a + b)).take c) := by
 rw [List.take_of_length_le (by simp; omega : (cs.drop (a + b)).length ≤ c), ← List.drop_drop, List.take_append_drop, List.take_append_drop]
theorem opens_struct3 {t : TypeId} {f0 f1 f2 : Field} {α β γ S : Type} {d0 : Kd α} {d1 : Kd β} {d2 : Kd γ} {w0 : α → Prop} {w1 : β → Prop} {w2 : γ → Prop} {f : S → α × (β × γ)} (g : α × (β × γ) → S)
  (hu : P.underlying t = some (.struct #[f0, f1, f2])) (hg : ∀ x, f (g x) = x) (hC : P.cellsOf t = d0.sz + (d1.sz + d2.sz))
  (o0 : f0.offset = 0) (o1 : f1.offset = d0.sz) (o2 : f2.offset = d0.sz + d1.sz) (c0 : P.cellsOf f0.type = d0.sz) (c1 : P.cellsOf f1.type = d1.sz) (c2 : P.cellsOf f2.type = d2.sz)
  (h0 : Opens enc P W f0.type d0 w0) (h1 : Opens enc P W f1.type d1 w1) (h2 : Opens enc P W f2.type d2 w2) :
  Opens enc P W t (Kd.iso (Kd.pair d0 (Kd.pair d1 d2)) f) (fun s => w0 (f s).1 ∧ w1 (f s).2.1 ∧ w2 (f s).2.2) := by
 intro fuel cs x h
 obtain ⟨xs, n, _, _, hl, hlen, hf⟩ := DataW.trod_struct hu h
 have e0 := hf 0 f0 rfl
 have e1 := hf 1 f1 rfl
 have e2 := hf 2 f2 rfl
 have hlen2 : xs.length = 3 := hlen
 rw [List.getElem?_eq_getElem (by omega)] at e0 e1 e2
 obtain ⟨a, ha, wa⟩ := h0 _ _ _ e0
 obtain ⟨b, hb, wb⟩ := h1 _ _ _ e1
 obtain ⟨c, hc, wc⟩ := h2 _ _ _ e2
 rw [o0, c0, List.drop_zero] at ha
 rw [o1, c1] at hb
 rw [o2, c2] at hc
 refine ⟨g (a, (b, c)), ?_, ?_⟩
 ·show (Kd.pair d0 (Kd.pair d1 d2)).K W (f (g (a, (b, c)))) cs
  rw [hg]
  exact ⟨_, _, cut3 (by rw [hl, hC]), ha, ⟨_, _, rfl, hb, hc⟩⟩
 ·simp only [hg]
  exact ⟨wa, wb, wc⟩
end Go.Proofs.YtedegfbheihopaaOpen

namespace Go.Proofs.Ytedegfbheihopaa.P
open Go.RowKit Go.Proofs.YtedegfbheihopaaW.PrintWords Go.Proofs.YtedegfbheihopaaW.PrintLast Go.Proofs.YtedegfbheihopaaW.PrintMore
attribute [local go_sem] max2_int min2_int max_two min_two max_three min_three max_four min_four   -- for this text's walks alone
set_option linter.unusedVariables false
set_option linter.unusedSimpArgs false
theorem info3:(Try.prog.info? 3).map (fun i=>(i.zero,i.size,i.bytes))=some (some (.int .i64 0),1,8):=by kernel_rfl
theorem info22:(Try.prog.info? 22).map (fun i=>(i.zero,i.size,i.bytes))=some (some (.slice none 0 0),1,24):=by kernel_rfl
theorem info79:(Try.prog.info? 79).map (fun i=>(i.zero,i.size,i.bytes))=some (some (.agg #[(.int .i64 0),(.int .i64 0),(.int .i64 0)]),3,24):=by kernel_rfl
structure S81 where
 f0:Int
 f1:Int
 f2:Int
def z81:S81:=⟨(0:Int),(0:Int),(0:Int)⟩
def k81:Kd S81:=Kd.iso (Kd.pair (Kd.int .i64) (Kd.pair (Kd.int .i64) (Kd.int .i64))) (fun x:S81=>(x.f0,x.f1,x.f2))
theorem k81_open {w:World} {x:S81} {cs:List Value} (h:k81.K w x cs):cs= [.int .i64 x.f0,.int .i64 x.f1,.int .i64 x.f2]:=by
 obtain⟨_,_,rfl,rfl,⟨_,_,rfl,rfl,rfl⟩⟩:=h
 exact rfl
def rd_T81 (xs:List S81) (i:Int):S81:=xs.getD i.toNat z81
theorem at_T81 {w:World} {A:Option Addr} {n:Nat} {xs:List S81} (h:Kd.C k81 w A n xs) (i:Int) (h0: 0≤i) (h1:i<n):∃ ad ,A=some ad∧w.cell? (ad.add (i.toNat * 3))=some (.int .i64 (rd_T81 xs i).f0)∧w.cell? ⟨(ad.add (i.toNat * 3)).block,(ad.add (i.toNat * 3)).off+1,none⟩=some (.int .i64 (rd_T81 xs i).f1)∧w.cell? ⟨(ad.add (i.toNat * 3)).block,(ad.add (i.toNat * 3)).off+2,none⟩=some (.int .i64 (rd_T81 xs i).f2):=by
 obtain⟨ad,c,e,_,hK,hc0⟩:=Kd.C_get h z81 i h0 h1
 have hc:∀ j u,c[j]?=some u→w.cell? (ad.add (i.toNat * 3+j))=some u:=hc0
 obtain rfl:=k81_open hK
 exact⟨ad,e,hc 0 _ rfl,by rw [← add_field _ _ 1 (by omega)];exact hc 1 _ rfl,by rw [← add_field _ _ 2 (by omega)];exact hc 2 _ rfl⟩
structure S79 where
 f0:Int
 f1:Int
 f2:Int
def z79:S79:=⟨(0:Int),(0:Int),(0:Int)⟩
def k79:Kd S79:=Kd.iso (Kd.pair (Kd.int .i64) (Kd.pair (Kd.int .i64) (Kd.int .i64))) (fun x:S79=>(x.f0,x.f1,x.f2))
theorem k79_open {w:World} {x:S79} {cs:List Value} (h:k79.K w x cs):cs= [.int .i64 x.f0,.int .i64 x.f1,.int .i64 x.f2]:=by
 obtain⟨_,_,rfl,rfl,⟨_,_,rfl,rfl,rfl⟩⟩:=h
 exact rfl
theorem k79_openM {w:World} {base:Nat} {ok:Nat→Prop} {x:S79} {cs:List Value} (h:k79.M w base ok x cs):cs= [.int .i64 x.f0,.int .i64 x.f1,.int .i64 x.f2]:=by
 obtain⟨_,_,rfl,rfl,⟨_,_,rfl,rfl,rfl⟩⟩:=h
 exact rfl
theorem k79_mkM (w:World) (base:Nat) (ok:Nat→Prop) (x:S79)  :k79.M w base ok x [.int .i64 x.f0,.int .i64 x.f1,.int .i64 x.f2]:=⟨[.int .i64 x.f0],[.int .i64 x.f1,.int .i64 x.f2],rfl,rfl,⟨[.int .i64 x.f1],[.int .i64 x.f2],rfl,rfl,rfl⟩⟩
def rd_T79 (xs:List S79) (i:Int):S79:=xs.getD i.toNat z79
theorem at_T79 {w:World} {A:Option Addr} {n:Nat} {xs:List S79} (h:Kd.C k79 w A n xs) (i:Int) (h0: 0≤i) (h1:i<n):∃ ad ,A=some ad∧w.cell? (ad.add (i.toNat * 3))=some (.int .i64 (rd_T79 xs i).f0)∧w.cell? ⟨(ad.add (i.toNat * 3)).block,(ad.add (i.toNat * 3)).off+1,none⟩=some (.int .i64 (rd_T79 xs i).f1)∧w.cell? ⟨(ad.add (i.toNat * 3)).block,(ad.add (i.toNat * 3)).off+2,none⟩=some (.int .i64 (rd_T79 xs i).f2):=by
 obtain⟨ad,c,e,_,hK,hc0⟩:=Kd.C_get h z79 i h0 h1
 have hc:∀ j u,c[j]?=some u→w.cell? (ad.add (i.toNat * 3+j))=some u:=hc0
 obtain rfl:=k79_open hK
 exact⟨ad,e,hc 0 _ rfl,by rw [← add_field _ _ 1 (by omega)];exact hc 1 _ rfl,by rw [← add_field _ _ 2 (by omega)];exact hc 2 _ rfl⟩
def rd_L6 (xs:List (List Int)) (i:Int):(List Int):=xs.getD i.toNat ([] :List Int)
theorem at_L6 {w:World} {A:Option Addr} {n:Nat} {xs:List (List Int)} (h:Kd.C (Kd.slice 3 (Kd.int .i64)) w A n xs) (i:Int) (h0: 0≤i) (h1:i<n):∃ ad A0 c0,A=some ad∧w.cell? (ad.add i.toNat)=some (.slice A0 (rd_L6 xs i).length c0)∧ (rd_L6 xs i).length≤c0∧ (Kd.int .i64).C w A0 (rd_L6 xs i).length (rd_L6 xs i):=by
 obtain⟨ad,c,e,_,hK,hc0⟩:=Kd.C_get h ([] :List Int) i h0 h1
 have hc:∀ j u,c[j]?=some u→w.cell? (ad.add (i.toNat * 1+j))=some u:=hc0
 obtain⟨A0,c0,rfl,l0,g0⟩:=hK
 exact⟨ad,A0,c0,e,by have hq:=hc 0 _ rfl;rwa [Nat.mul_one,Nat.add_zero] at hq,l0,g0⟩
end Go.Proofs.Ytedegfbheihopaa.P

namespace Go.Proofs.Ytedegfbheihopaa.P
open Go.RowKit Go.Proofs.YtedegfbheihopaaW.PrintWords Go.Proofs.YtedegfbheihopaaW.PrintLast Go.Proofs.YtedegfbheihopaaW.PrintMore
attribute [local go_sem] max2_int min2_int max_two min_two max_three min_three max_four min_four   -- for this text's walks alone
set_option linter.unusedVariables false
set_option linter.unusedSimpArgs false
def laws_heldIntS.l0:Nat→List Int→Int→Int→Option (Int)
 | 0,_,_,_=>none
 |k+1,x0,x1,x5=>if x5< (x0.length:Int) then(if 0≤x5 then(if (rd x0 x5)=x1 then(laws_heldIntS.l0 k x0 (wrap64 (x1+1)) (wrap64 (x5+1))) else(some (-1))) else(none)) else(some x1)
def laws_heldIntS.f (k:Nat) (l0:List Int) (a1:Int):Option (Int):=laws_heldIntS.l0 k l0 a1 0
theorem zq1 {p:Prop} (h:p:=by first|(with_reducible assumption)|assumption):p:=h
set_option maxHeartbeats 8000000 in
set_option maxRecDepth 100000 in
theorem laws_heldIntS.calls (k:Nat) (A0:Option Addr) (c0:Nat) (l0:List Int) (a1:Int) (r:Int) (w:World) (hr0:Kd.C (Kd.int .i64) w A0 l0.length l0) (hc0:l0.length≤c0) (h:laws_heldIntS.f k l0 a1=some r):
  Calls Try.prog 22 #[.slice A0 l0.length c0,.int .i64 a1] w fun e w'=>e= .returned (.int .i64 r)∧Drawn0 w w':=by
 have HR0:=Aside0.mk hr0
 have HC0:=Aside0.mk hc0
 clear hr0 hc0
 have H:(laws_heldIntS.l0 k l0 a1 0)=some r:=h
 clear h
 have H':=Aside0.mk H
 clear H
 go_enter Try.func22,Try.ntmps22
 go_wp2
 go_loopg [1,5] k (fun kq v1 v5 w'=> ∃ (x1_1:Int) (x5_1:Int),v1= .int .i64 x1_1∧v5= .int .i64 x5_1∧Aside0 (laws_heldIntS.l0 kq l0 x1_1 x5_1=some r)∧Aside0 (kq≤k)∧Drawn0 w w')
 case atStart=>exact⟨(a1),(0),(by first|rfl|(simp;done)|(simp [*];done)),(by first|rfl|(simp;done)|(simp [*];done)),H',⟨Nat.le_refl _⟩,by repeat(first|exact Drawn0.refl _|apply Drawn0.step)⟩
 case round=>
  clear H'
  try clear c2
  try clear p2
  obtain⟨x1_1,x5_1,rfl,rfl,HA,HK1,⟨m1,rfl⟩⟩:=hrel
  cases gk with
  |zero=>exact absurd HA.out (by simp [laws_heldIntS.l0])
  |succ k1=>
   have H:=HA.out
   clear HA
   simp only [laws_heldIntS.l0] at H
   by_cases c3:x5_1< (l0.length:Int)
   ·rw [if_pos c3] at H
    have c3b0:decide (x5_1< (l0.length:Int))=true:=decide_eq_true c3
    clear c3
    by_cases c4: 0≤x5_1
    ·rw [if_pos c4] at H
     have c4b0:decide (0≤x5_1)=true:=decide_eq_true c4
     clear c4
     by_cases c5:(rd l0 x5_1)=x1_1
     ·rw [if_pos c5] at H
      have c5b0:((rd l0 x5_1)==x1_1)=true:=beq_iff_eq.mpr c5
      have c5b1:((rd l0 x5_1) !=x1_1)=false:=bne_eq_false_iff_eq.mpr c5
      clear c5
      have H':=Aside0.mk H
      clear H
      have p217: 0≤ (x5_1:Int):=of_decide_eq_true zq1
      have q217:x5_1< (l0.length:Int):=of_decide_eq_true zq1
      obtain⟨ad217,e217,hx217_0⟩:=Kd.at_int HR0.out x5_1 p217 q217
      cases e217
      replace p217:=eq_true p217
      replace q217:=eq_true q217
      go_wp2
      go_roundg k1
      case measure=>have:=HK1.out;omega
      case rel=>exact⟨(wrap64 (x1_1+1)),(wrap64 (x5_1+1)),(by first|rfl|(simp;done)|(simp [*];done)),(by first|rfl|(simp;done)|(simp [*];done)),H',⟨by have:=HK1.out;omega⟩,by repeat(first|exact Drawn0.refl _|apply Drawn0.step)⟩
     ·rw [if_neg c5] at H
      have c5b0:((rd l0 x5_1)==x1_1)=false:=beq_eq_false_iff_ne.mpr c5
      have c5b1:((rd l0 x5_1) !=x1_1)=true:=bne_iff_ne.mpr c5
      obtain rfl:=Option.some.inj H
      have p217: 0≤ (x5_1:Int):=of_decide_eq_true zq1
      have q217:x5_1< (l0.length:Int):=of_decide_eq_true zq1
      obtain⟨ad217,e217,hx217_0⟩:=Kd.at_int HR0.out x5_1 p217 q217
      cases e217
      replace p217:=eq_true p217
      replace q217:=eq_true q217
      go_wp2
      go_ret
      exact⟨by first|rfl|(simp;done)|(simp [*];done),by repeat(first|exact Drawn0.refl _|apply Drawn0.step)⟩
    ·rw [if_neg c4] at H
     exact absurd H (by simp)
   ·rw [if_neg c3] at H
    have c3b0:decide (x5_1< (l0.length:Int))=false:=decide_eq_false c3
    clear c3
    obtain rfl:=Option.some.inj H
    go_wp2
    go_ret
    exact⟨by first|rfl|(simp;done)|(simp [*];done),by repeat(first|exact Drawn0.refl _|apply Drawn0.step)⟩
-- NOT PRINTED: function 5 (laws_FnExactOnTree)
def laws_szEdgeS.f (l0:List (S81)) (a1:Int):Option (Int):=if (wrap64 (a1 - (l0.length:Int)))< 0 then(some (-1)) else(some (wrap64 (a1 - (l0.length:Int))))
set_option maxHeartbeats 8000000 in
set_option maxRecDepth 100000 in
theorem laws_szEdgeS.calls (A0:Option Addr) (c0:Nat) (l0:List (S81)) (a1:Int) (r:Int) (w:World) (hr0:Kd.C k81 w A0 l0.length l0) (hc0:l0.length≤c0) (h:laws_szEdgeS.f l0 a1=some r):
  Calls Try.prog 23 #[.slice A0 l0.length c0,.int .i64 a1] w fun e w'=>e= .returned (.int .i64 r)∧Drawn0 w w':=by
 have HR0:=Aside0.mk hr0
 have HC0:=Aside0.mk hc0
 clear hr0 hc0
 have H:(if (wrap64 (a1 - (l0.length:Int)))< 0 then(some (-1)) else(some (wrap64 (a1 - (l0.length:Int)))))=some r:=h
 clear h
 by_cases c3:(wrap64 (a1 - (l0.length:Int)))< 0
 ·rw [if_pos c3] at H
  have c3b0:decide ((wrap64 (a1 - (l0.length:Int)))< 0)=true:=decide_eq_true c3
  clear c3
  obtain rfl:=Option.some.inj H
  go_enter Try.func23,Try.ntmps23
  go_wp2
  go_ret
  exact⟨by first|rfl|(simp;done)|(simp [*];done),by repeat(first|exact Drawn0.refl _|apply Drawn0.step)⟩
 ·rw [if_neg c3] at H
  have c3b0:decide ((wrap64 (a1 - (l0.length:Int)))< 0)=false:=decide_eq_false c3
  clear c3
  obtain rfl:=Option.some.inj H
  go_enter Try.func23,Try.ntmps23
  go_wp2
  go_ret
  exact⟨by first|rfl|(simp;done)|(simp [*];done),by repeat(first|exact Drawn0.refl _|apply Drawn0.step)⟩
end Go.Proofs.Ytedegfbheihopaa.P

namespace Go.Proofs.Ytedegfbheihopaa.P
open Go.RowKit Go.Proofs.YtedegfbheihopaaW.PrintWords Go.Proofs.YtedegfbheihopaaW.PrintLast Go.Proofs.YtedegfbheihopaaW.PrintMore
attribute [local go_sem] max2_int min2_int max_two min_two max_three min_three max_four min_four   -- for this text's walks alone
set_option linter.unusedVariables false
set_option linter.unusedSimpArgs false
def spec_l1In.f (a0:Int) (a1:Int) (a2:Int):Option (Bool):=if a0≥a1 then(some (decide (a0≤a2))) else(some false)
set_option maxHeartbeats 8000000 in
set_option maxRecDepth 100000 in
theorem spec_l1In.calls (a0:Int) (a1:Int) (a2:Int) (r:Bool) (w:World) (h:spec_l1In.f a0 a1 a2=some r):
  Calls Try.prog 59 #[.int .i64 a0,.int .i64 a1,.int .i64 a2] w fun e w'=>e= .returned (.bool r)∧Drawn0 w w':=by
 have H:(if a0≥a1 then(some (decide (a0≤a2))) else(some false))=some r:=h
 clear h
 by_cases c4:a0≥a1
 ·rw [if_pos c4] at H
  have c4b0:decide (a1≤a0)=true:=decide_eq_true c4
  clear c4
  obtain rfl:=Option.some.inj H
  go_enter Try.func59,Try.ntmps59
  go_wp2
  go_ret
  exact⟨by first|rfl|(simp;done)|(simp [*];done),by repeat(first|exact Drawn0.refl _|apply Drawn0.step)⟩
 ·rw [if_neg c4] at H
  have c4b0:decide (a1≤a0)=false:=decide_eq_false c4
  clear c4
  obtain rfl:=Option.some.inj H
  go_enter Try.func59,Try.ntmps59
  go_wp2
  go_ret
  exact⟨by first|rfl|(simp;done)|(simp [*];done),by repeat(first|exact Drawn0.refl _|apply Drawn0.step)⟩
def impl_in.f (a0:Int) (a1:Int) (a2:Int):Option (Bool):=if a0≥a1 then(some (decide (a0≤a2))) else(some false)
set_option maxHeartbeats 8000000 in
set_option maxRecDepth 100000 in
theorem impl_in.calls (a0:Int) (a1:Int) (a2:Int) (r:Bool) (w:World) (h:impl_in.f a0 a1 a2=some r):
  Calls Try.prog 78 #[.int .i64 a0,.int .i64 a1,.int .i64 a2] w fun e w'=>e= .returned (.bool r)∧Drawn0 w w':=by
 have H:(if a0≥a1 then(some (decide (a0≤a2))) else(some false))=some r:=h
 clear h
 by_cases c4:a0≥a1
 ·rw [if_pos c4] at H
  have c4b0:decide (a1≤a0)=true:=decide_eq_true c4
  clear c4
  obtain rfl:=Option.some.inj H
  go_enter Try.func78,Try.ntmps78
  go_wp2
  go_ret
  exact⟨by first|rfl|(simp;done)|(simp [*];done),by repeat(first|exact Drawn0.refl _|apply Drawn0.step)⟩
 ·rw [if_neg c4] at H
  have c4b0:decide (a1≤a0)=false:=decide_eq_false c4
  clear c4
  obtain rfl:=Option.some.inj H
  go_enter Try.func78,Try.ntmps78
  go_wp2
  go_ret
  exact⟨by first|rfl|(simp;done)|(simp [*];done),by repeat(first|exact Drawn0.refl _|apply Drawn0.step)⟩
def impl_isSpots.f (a0:Int):Option (Bool):=(impl_in.f a0 1 12).bind fun t112=>(some t112)
theorem zq2 {p:Prop} (h:p:=by(try simp only [List.map_toArray,List.map_cons,List.map_nil]);first|done|rfl|(simp only [List.length_drop,List.length_take];rfl)):p:=h
set_option maxHeartbeats 8000000 in
set_option maxRecDepth 100000 in
theorem impl_isSpots.calls (a0:Int) (r:Bool) (w:World) (h:impl_isSpots.f a0=some r):
  Calls Try.prog 60 #[.int .i64 a0] w fun e w'=>e= .returned (.bool r)∧Drawn0 w w':=by
 have H:((impl_in.f a0 1 12).bind fun t112=>(some t112))=some r:=h
 clear h
 replace H:=Option.bind_eq_some_iff.mp H
 obtain⟨t112,A20,H⟩:=H
 replace H:(some t112)=some r:=H
 have A2:=Aside0.mk A20
 clear A20
 obtain rfl:=Option.some.inj H
 go_enter Try.func60,Try.ntmps60
 go_wp2_with (first|((with_reducible refine gate_callee (f:=78) rfl ?_);refine goesL_ (some 4) rfl rfl Try.func78 (by kernel_rfl) rfl #[.int .i64 a0,.int .i64 1,.int .i64 12] rfl zq2 ?_;(with_reducible refine(impl_in.calls a0 1 12 t112 _ A2.out).mono ?_);rintro e w' ⟨rfl,⟨nd,rfl⟩⟩;refine⟨_,rfl,?_⟩))
 go_ret
 exact⟨by first|rfl|(simp;done)|(simp [*];done),by repeat(first|exact Drawn0.refl _|apply Drawn0.step)⟩
end Go.Proofs.Ytedegfbheihopaa.P

namespace Go.Proofs.Ytedegfbheihopaa.P
open Go.RowKit Go.Proofs.YtedegfbheihopaaW.PrintWords Go.Proofs.YtedegfbheihopaaW.PrintLast Go.Proofs.YtedegfbheihopaaW.PrintMore
attribute [local go_sem] max2_int min2_int max_two min_two max_three min_three max_four min_four   -- for this text's walks alone
set_option linter.unusedVariables false
set_option linter.unusedSimpArgs false
mutual
def spec_GoodEdges.l0:Nat→Int→List (S79)→List (S79)→Int→Int→Option (Bool)
 | 0,_,_,_,_,_=>none
 |k+1,x0,x1,x7,x8,x9=>if x9<x8 then(if 0≤x9 then(if x9< (x7.length:Int) then((spec_l1In.f ((rd_T79 x7 x9).f0) 0 (wrap64 (x0 - 1))).bind fun t231=>(if t231=true then((spec_l1In.f ((rd_T79 x7 x9).f1) 0 (wrap64 (x0 - 1))).bind fun t232=>(if t232=true then(if ((rd_T79 x7 x9).f0)≥ ((rd_T79 x7 x9).f1) then(spec_GoodEdges.j1 k x0 x1 x9 x7 x8 x9 true ((rd_T79 x7 x9).f0) ((rd_T79 x7 x9).f1) ((rd_T79 x7 x9).f2)) else((spec_l1In.f ((rd_T79 x7 x9).f2) 1 100).bind fun t233=>(spec_GoodEdges.j1 k x0 x1 x9 x7 x8 x9 (!t233) ((rd_T79 x7 x9).f0) ((rd_T79 x7 x9).f1) ((rd_T79 x7 x9).f2)))) else(spec_GoodEdges.j1 k x0 x1 x9 x7 x8 x9 true ((rd_T79 x7 x9).f0) ((rd_T79 x7 x9).f1) ((rd_T79 x7 x9).f2)))) else(spec_GoodEdges.j1 k x0 x1 x9 x7 x8 x9 true ((rd_T79 x7 x9).f0) ((rd_T79 x7 x9).f1) ((rd_T79 x7 x9).f2)))) else(none)) else(none)) else((spec_l1In.f x0 1 12).bind fun t228=>(if t228=true then(some (decide ((x1.length:Int)≤40))) else(some false)))
def spec_GoodEdges.j1:Nat→Int→List (S79)→Int→List (S79)→Int→Int→Bool→Int→Int→Int→Option (Bool)
 | 0,_,_,_,_,_,_,_,_,_,_=>none
 |k+1,x0,x1,x5,x7,x8,x9,x40,x231000,x231001,x231002=>if x40=true then(some false) else(if x5 > 0 then(if 0≤ (wrap64 (x5 - 1)) then(if (wrap64 (x5 - 1))< (x1.length:Int) then(if ((rd_T79 x1 (wrap64 (x5 - 1))).f0) > x231000 then(some false) else(if ((rd_T79 x1 (wrap64 (x5 - 1))).f0)=x231000 then(if ((rd_T79 x1 (wrap64 (x5 - 1))).f1)≥x231001 then(some false) else(spec_GoodEdges.l0 k x0 x1 x7 x8 (wrap64 (x9+1)))) else(spec_GoodEdges.l0 k x0 x1 x7 x8 (wrap64 (x9+1))))) else(none)) else(none)) else(spec_GoodEdges.l0 k x0 x1 x7 x8 (wrap64 (x9+1))))
end
def spec_GoodEdges.f (k:Nat) (a0:Int) (l1:List (S79)):Option (Bool):=spec_GoodEdges.l0 k a0 l1 l1 (l1.length:Int) 0
theorem zb0 {q p:Prop} (b:Aside0 q) (h:q→p:=by intro z;repeat(first|(with_reducible first|exact z|apply below_alloc|apply pw_below_drewN|apply below_drew1)|exact z)):p:=h b.out
set_option maxHeartbeats 8000000 in
set_option maxRecDepth 100000 in
theorem spec_GoodEdges.calls (k:Nat) (a0:Int) (A1:Option Addr) (c1:Nat) (l1:List (S79)) (r:Bool) (w:World) (hr1:Kd.C k79 w A1 l1.length l1) (hc1:l1.length≤c1) (h:spec_GoodEdges.f k a0 l1=some r):
  Calls Try.prog 66 #[.int .i64 a0,.slice A1 l1.length c1] w fun e w'=>e= .returned (.bool r)∧Below w.heap.size w w':=by
 have hu79:=Try.underlying79
 have HR1:=Aside0.mk hr1
 have HC1:=Aside0.mk hc1
 clear hr1 hc1
 have HB:=Aside0.mk (Below.refl w.heap.size w)
 have H:(spec_GoodEdges.l0 k a0 l1 l1 (l1.length:Int) 0)=some r:=h
 clear h
 have H':=Aside0.mk H
 clear H
 go_enter Try.func66,Try.ntmps66
 go_wp2
 repeat(go_quiet (fail);try go_wp2)
 go_loopg [9] k (fun kq v9 w'=> ∃ (x9_1:Int),v9= .int .i64 x9_1∧Aside0 (spec_GoodEdges.l0 kq a0 l1 l1 (l1.length:Int) x9_1=some r)∧Aside0 (kq≤k)∧Aside0 (Below w.heap.size w w'))
 case atStart=>exact⟨(0),(by first|rfl|(simp;done)|(simp [*];done)),H',⟨Nat.le_refl _⟩,⟨by repeat(first|(with_reducible first|exact HB.out|apply below_alloc|apply pw_below_drewN|apply below_drew1)|exact HB.out)⟩⟩
 case round=>
  clear H'
  try clear c1
  try clear p2
  obtain⟨x9_1,rfl,HA,HK1,HB⟩:=hrel
  cases gk with
  |zero=>exact absurd HA.out (by simp [spec_GoodEdges.l0])
  |succ k1=>
   have H:=HA.out
   clear HA
   simp only [spec_GoodEdges.l0] at H
   by_cases c3:x9_1< (l1.length:Int)
   ·rw [if_pos c3] at H
    have c3b0:decide (x9_1< (l1.length:Int))=true:=decide_eq_true c3
    clear c3
    by_cases c4: 0≤x9_1
    ·rw [if_pos c4] at H
     have c4b0:decide (0≤x9_1)=true:=decide_eq_true c4
     clear c4
     by_cases c5:x9_1< (l1.length:Int)
     ·rw [if_pos c5] at H
      have c5b0:decide (x9_1< (l1.length:Int))=true:=decide_eq_true c5
      clear c5
      have HC6:=Aside0.mk H
      clear H
      have p229: 0≤ (x9_1:Int):=of_decide_eq_true zq1
      have q229:x9_1< (l1.length:Int):=of_decide_eq_true zq1
      obtain⟨ad229,e229,hx229_0,hx229_1,hx229_2⟩:=at_T79 HR1.out x9_1 p229 q229
      cases e229
      replace hx229_0:=(HB.out.cell (World.block_lt_of_cell? w _ hx229_0)).trans hx229_0
      replace hx229_1:=(HB.out.cell (World.block_lt_of_cell? w _ hx229_1)).trans hx229_1
      replace hx229_2:=(HB.out.cell (World.block_lt_of_cell? w _ hx229_2)).trans hx229_2
      replace p229:=eq_true p229
      replace q229:=eq_true q229
      go_upto_region 4 with (first|((with_reducible refine gate_dst (N:=6) rfl ?_);(try(refine gate_guard (by rfl) ?_;dsimp only));refine box_event ?hg (N:=6) ?hd (cs:= #[.int .i64 0,.int .i64 0,.int .i64 0]) (t:=79) ?hr ?_;(case hd=>rfl);(case hg=>rfl);(case hr=>first|(go_simp;done)|(go_simp;rfl));intro gb230 hg w7 hbox hb;have n0_:=Aside0.mk (below_step (zb0 HB) hb);have n1_:=Aside0.mk (hbox);have n2_:=Aside0.mk ((by rw [hg];exact(below_size (zb0 HB)):w.heap.size≤gb230));have n3_:=Aside0.mk ((by rw [hg];exact(below_size (zb0 HB)):w.heap.size≤gb230));clear HB;have HB:=n0_;have BK230:=n1_;have GW230:=n2_;have GE230:=n3_;clear n0_ n1_ n2_ n3_;clear hb hbox hg;have hcz8_0:w7.cell? ⟨gb230,0,none⟩=some (.int .i64 0):=(blk_cell BK230.out 0).trans rfl;have hcz8_1:w7.cell? ⟨gb230,1,none⟩=some (.int .i64 0):=(blk_cell BK230.out 1).trans rfl;have hcz8_2:w7.cell? ⟨gb230,2,none⟩=some (.int .i64 0):=(blk_cell BK230.out 2).trans rfl;have hfz8_0:=blk_frozen BK230.out 0;have hfz8_1:=blk_frozen BK230.out 1;have hfz8_2:=blk_frozen BK230.out 2))
      repeat(go_quiet (first|((with_reducible refine gate_dst (N:=6) rfl ?_);(try(refine gate_guard (by rfl) ?_;dsimp only));refine box_event ?hg (N:=6) ?hd (cs:= #[.int .i64 0,.int .i64 0,.int .i64 0]) (t:=79) ?hr ?_;(case hd=>rfl);(case hg=>rfl);(case hr=>first|(go_simp;done)|(go_simp;rfl));intro gb230 hg w7 hbox hb;have n0_:=Aside0.mk (below_step (zb0 HB) hb);have n1_:=Aside0.mk (hbox);have n2_:=Aside0.mk ((by rw [hg];exact(below_size (zb0 HB)):w.heap.size≤gb230));have n3_:=Aside0.mk ((by rw [hg];exact(below_size (zb0 HB)):w.heap.size≤gb230));clear HB;have HB:=n0_;have BK230:=n1_;have GW230:=n2_;have GE230:=n3_;clear n0_ n1_ n2_ n3_;clear hb hbox hg;have hcz8_0:w7.cell? ⟨gb230,0,none⟩=some (.int .i64 0):=(blk_cell BK230.out 0).trans rfl;have hcz8_1:w7.cell? ⟨gb230,1,none⟩=some (.int .i64 0):=(blk_cell BK230.out 1).trans rfl;have hcz8_2:w7.cell? ⟨gb230,2,none⟩=some (.int .i64 0):=(blk_cell BK230.out 2).trans rfl;have hfz8_0:=blk_frozen BK230.out 0;have hfz8_1:=blk_frozen BK230.out 1;have hfz8_2:=blk_frozen BK230.out 2));go_upto_region 4 with (first|((with_reducible refine gate_dst (N:=6) rfl ?_);(try(refine gate_guard (by rfl) ?_;dsimp only));refine box_event ?hg (N:=6) ?hd (cs:= #[.int .i64 0,.int .i64 0,.int .i64 0]) (t:=79) ?hr ?_;(case hd=>rfl);(case hg=>rfl);(case hr=>first|(go_simp;done)|(go_simp;rfl));intro gb230 hg w7 hbox hb;have n0_:=Aside0.mk (below_step (zb0 HB) hb);have n1_:=Aside0.mk (hbox);have n2_:=Aside0.mk ((by rw [hg];exact(below_size (zb0 HB)):w.heap.size≤gb230));have n3_:=Aside0.mk ((by rw [hg];exact(below_size (zb0 HB)):w.heap.size≤gb230));clear HB;have HB:=n0_;have BK230:=n1_;have GW230:=n2_;have GE230:=n3_;clear n0_ n1_ n2_ n3_;clear hb hbox hg;have hcz8_0:w7.cell? ⟨gb230,0,none⟩=some (.int .i64 0):=(blk_cell BK230.out 0).trans rfl;have hcz8_1:w7.cell? ⟨gb230,1,none⟩=some (.int .i64 0):=(blk_cell BK230.out 1).trans rfl;have hcz8_2:w7.cell? ⟨gb230,2,none⟩=some (.int .i64 0):=(blk_cell BK230.out 2).trans rfl;have hfz8_0:=blk_frozen BK230.out 0;have hfz8_1:=blk_frozen BK230.out 1;have hfz8_2:=blk_frozen BK230.out 2)))
      (try simp only [Act.put,List.setIfInBounds_toArray,List.set_cons_zero,List.set_cons_succ])
      go_cut [40] (fun v40 wc=> ∃ (kq:Nat) (x40_5:Bool),v40= .bool x40_5∧Aside0 (spec_GoodEdges.j1 kq a0 l1 x9_1 l1 (l1.length:Int) x9_1 x40_5 ((rd_T79 l1 x9_1).f0) ((rd_T79 l1 x9_1).f1) ((rd_T79 l1 x9_1).f2)=some r)∧Aside0 (kq≤k1)∧Aside0 (wc.heap[gb230]?=some (.cells #[.int .i64 ((rd_T79 l1 x9_1).f0),.int .i64 ((rd_T79 l1 x9_1).f1),.int .i64 ((rd_T79 l1 x9_1).f2)] 79 (0,0)))∧Aside0 (Below w.heap.size w wc))
      case first=>
       have H:=HC6.out
       clear HC6
       replace H:=Option.bind_eq_some_iff.mp H
       obtain⟨t231,A90,H⟩:=H
       replace H:(if t231=true then((spec_l1In.f ((rd_T79 l1 x9_1).f1) 0 (wrap64 (a0 - 1))).bind fun t232=>(if t232=true then(if ((rd_T79 l1 x9_1).f0)≥ ((rd_T79 l1 x9_1).f1) then(spec_GoodEdges.j1 k1 a0 l1 x9_1 l1 (l1.length:Int) x9_1 true ((rd_T79 l1 x9_1).f0) ((rd_T79 l1 x9_1).f1) ((rd_T79 l1 x9_1).f2)) else((spec_l1In.f ((rd_T79 l1 x9_1).f2) 1 100).bind fun t233=>(spec_GoodEdges.j1 k1 a0 l1 x9_1 l1 (l1.length:Int) x9_1 (!t233) ((rd_T79 l1 x9_1).f0) ((rd_T79 l1 x9_1).f1) ((rd_T79 l1 x9_1).f2)))) else(spec_GoodEdges.j1 k1 a0 l1 x9_1 l1 (l1.length:Int) x9_1 true ((rd_T79 l1 x9_1).f0) ((rd_T79 l1 x9_1).f1) ((rd_T79 l1 x9_1).f2)))) else(spec_GoodEdges.j1 k1 a0 l1 x9_1 l1 (l1.length:Int) x9_1 true ((rd_T79 l1 x9_1).f0) ((rd_T79 l1 x9_1).f1) ((rd_T79 l1 x9_1).f2)))=some r:=H
       have A9:=Aside0.mk A90
       clear A90
       by_cases c10:t231=true
       ·subst c10
        have H1:((spec_l1In.f ((rd_T79 l1 x9_1).f1) 0 (wrap64 (a0 - 1))).bind fun t232=>(if t232=true then(if ((rd_T79 l1 x9_1).f0)≥ ((rd_T79 l1 x9_1).f1) then(spec_GoodEdges.j1 k1 a0 l1 x9_1 l1 (l1.length:Int) x9_1 true ((rd_T79 l1 x9_1).f0) ((rd_T79 l1 x9_1).f1) ((rd_T79 l1 x9_1).f2)) else((spec_l1In.f ((rd_T79 l1 x9_1).f2) 1 100).bind fun t233=>(spec_GoodEdges.j1 k1 a0 l1 x9_1 l1 (l1.length:Int) x9_1 (!t233) ((rd_T79 l1 x9_1).f0) ((rd_T79 l1 x9_1).f1) ((rd_T79 l1 x9_1).f2)))) else(spec_GoodEdges.j1 k1 a0 l1 x9_1 l1 (l1.length:Int) x9_1 true ((rd_T79 l1 x9_1).f0) ((rd_T79 l1 x9_1).f1) ((rd_T79 l1 x9_1).f2))))=some r:=by rw [if_pos rfl] at H;exact H
        clear H
        have H:=H1
        clear H1
        replace H:=Option.bind_eq_some_iff.mp H
        obtain⟨t232,A110,H⟩:=H
        replace H:(if t232=true then(if ((rd_T79 l1 x9_1).f0)≥ ((rd_T79 l1 x9_1).f1) then(spec_GoodEdges.j1 k1 a0 l1 x9_1 l1 (l1.length:Int) x9_1 true ((rd_T79 l1 x9_1).f0) ((rd_T79 l1 x9_1).f1) ((rd_T79 l1 x9_1).f2)) else((spec_l1In.f ((rd_T79 l1 x9_1).f2) 1 100).bind fun t233=>(spec_GoodEdges.j1 k1 a0 l1 x9_1 l1 (l1.length:Int) x9_1 (!t233) ((rd_T79 l1 x9_1).f0) ((rd_T79 l1 x9_1).f1) ((rd_T79 l1 x9_1).f2)))) else(spec_GoodEdges.j1 k1 a0 l1 x9_1 l1 (l1.length:Int) x9_1 true ((rd_T79 l1 x9_1).f0) ((rd_T79 l1 x9_1).f1) ((rd_T79 l1 x9_1).f2)))=some r:=H
        have A11:=Aside0.mk A110
        clear A110
        by_cases c12:t232=true
        ·subst c12
         have H1:(if ((rd_T79 l1 x9_1).f0)≥ ((rd_T79 l1 x9_1).f1) then(spec_GoodEdges.j1 k1 a0 l1 x9_1 l1 (l1.length:Int) x9_1 true ((rd_T79 l1 x9_1).f0) ((rd_T79 l1 x9_1).f1) ((rd_T79 l1 x9_1).f2)) else((spec_l1In.f ((rd_T79 l1 x9_1).f2) 1 100).bind fun t233=>(spec_GoodEdges.j1 k1 a0 l1 x9_1 l1 (l1.length:Int) x9_1 (!t233) ((rd_T79 l1 x9_1).f0) ((rd_T79 l1 x9_1).f1) ((rd_T79 l1 x9_1).f2))))=some r:=by rw [if_pos rfl] at H;exact H
         clear H
         have H:=H1
         clear H1
         by_cases c13:((rd_T79 l1 x9_1).f0)≥ ((rd_T79 l1 x9_1).f1)
         ·rw [if_pos c13] at H
          have c13b0:decide (((rd_T79 l1 x9_1).f1)≤ ((rd_T79 l1 x9_1).f0))=true:=decide_eq_true c13
          clear c13
          (first|rw [c13b0]|(simp only [i64_w,i32_w];rw [c13b0])|skip)
          have H':=Aside0.mk H
          clear H
          have hcz14_0:w7.cell? ⟨gb230,0,none⟩=some (.int .i64 0):=(blk_cell BK230.out 0).trans rfl
          have hcz14_1:w7.cell? ⟨gb230,1,none⟩=some (.int .i64 0):=(blk_cell BK230.out 1).trans rfl
          have hcz14_2:w7.cell? ⟨gb230,2,none⟩=some (.int .i64 0):=(blk_cell BK230.out 2).trans rfl
          have hfz14_0:=blk_frozen BK230.out 0
          have hfz14_1:=blk_frozen BK230.out 1
          have hfz14_2:=blk_frozen BK230.out 2
          go_wp2_with (first|(go_at_call 59;(with_reducible refine(spec_l1In.calls ((rd_T79 l1 x9_1).f0) 0 (wrap64 (a0 - 1)) true _ A9.out).mono ?_);rintro e w' ⟨rfl,⟨nd,rfl⟩⟩;(try first|exact⟨rfl,_,World.drewN_drewN _ _ _⟩|exact⟨rfl,_,Eq.trans (World.drewN_drewN _ _ _) (congrArg (World.drewN _) (Nat.add_assoc _ _ _))⟩))|(go_at_call 59;(with_reducible refine(spec_l1In.calls ((rd_T79 l1 x9_1).f1) 0 (wrap64 (a0 - 1)) true _ A11.out).mono ?_);rintro e w' ⟨rfl,⟨nd,rfl⟩⟩;(try first|exact⟨rfl,_,World.drewN_drewN _ _ _⟩|exact⟨rfl,_,Eq.trans (World.drewN_drewN _ _ _) (congrArg (World.drewN _) (Nat.add_assoc _ _ _))⟩)))
          repeat(go_quiet (first|(go_at_call 59;(with_reducible refine(spec_l1In.calls ((rd_T79 l1 x9_1).f0) 0 (wrap64 (a0 - 1)) true _ A9.out).mono ?_);rintro e w' ⟨rfl,⟨nd,rfl⟩⟩;(try first|exact⟨rfl,_,World.drewN_drewN _ _ _⟩|exact⟨rfl,_,Eq.trans (World.drewN_drewN _ _ _) (congrArg (World.drewN _) (Nat.add_assoc _ _ _))⟩))|(go_at_call 59;(with_reducible refine(spec_l1In.calls ((rd_T79 l1 x9_1).f1) 0 (wrap64 (a0 - 1)) true _ A11.out).mono ?_);rintro e w' ⟨rfl,⟨nd,rfl⟩⟩;(try first|exact⟨rfl,_,World.drewN_drewN _ _ _⟩|exact⟨rfl,_,Eq.trans (World.drewN_drewN _ _ _) (congrArg (World.drewN _) (Nat.add_assoc _ _ _))⟩)));try go_wp2_with (first|(go_at_call 59;(with_reducible refine(spec_l1In.calls ((rd_T79 l1 x9_1).f0) 0 (wrap64 (a0 - 1)) true _ A9.out).mono ?_);rintro e w' ⟨rfl,⟨nd,rfl⟩⟩;(try first|exact⟨rfl,_,World.drewN_drewN _ _ _⟩|exact⟨rfl,_,Eq.trans (World.drewN_drewN _ _ _) (congrArg (World.drewN _) (Nat.add_assoc _ _ _))⟩))|(go_at_call 59;(with_reducible refine(spec_l1In.calls ((rd_T79 l1 x9_1).f1) 0 (wrap64 (a0 - 1)) true _ A11.out).mono ?_);rintro e w' ⟨rfl,⟨nd,rfl⟩⟩;(try first|exact⟨rfl,_,World.drewN_drewN _ _ _⟩|exact⟨rfl,_,Eq.trans (World.drewN_drewN _ _ _) (congrArg (World.drewN _) (Nat.add_assoc _ _ _))⟩))))
          go_meet
          case rel=>exact⟨_,(true),(by first|rfl|(simp;done)|(simp [*];done)),H',⟨by have:=HK1.out;first|omega|exact Nat.le_refl _⟩,⟨by(with_reducible repeat(first|refine blk_drewN ?_ _|refine blk_drew ?_ |refine blk_alloc ?_ _));refine blk_put (cs:= #[.int .i64 ((rd_T79 l1 x9_1).f0),.int .i64 ((rd_T79 l1 x9_1).f1),.int .i64 0]) ?_ 2 _ rfl;(with_reducible repeat(first|refine blk_drewN ?_ _|refine blk_drew ?_ |refine blk_alloc ?_ _));refine blk_put (cs:= #[.int .i64 ((rd_T79 l1 x9_1).f0),.int .i64 0,.int .i64 0]) ?_ 1 _ rfl;(with_reducible repeat(first|refine blk_drewN ?_ _|refine blk_drew ?_ |refine blk_alloc ?_ _));refine blk_put (cs:= #[.int .i64 0,.int .i64 0,.int .i64 0]) ?_ 0 _ rfl;(with_reducible repeat(first|refine blk_drewN ?_ _|refine blk_drew ?_ |refine blk_alloc ?_ _));exact BK230.out⟩,⟨by repeat(first|(with_reducible first|exact HB.out|apply below_alloc|apply pw_below_drewN|apply below_drew1|refine below_set ?_ GE230.out)|exact HB.out)⟩⟩
         ·rw [if_neg c13] at H
          have c13b0:decide (((rd_T79 l1 x9_1).f1)≤ ((rd_T79 l1 x9_1).f0))=false:=decide_eq_false c13
          clear c13
          (first|rw [c13b0]|(simp only [i64_w,i32_w];rw [c13b0])|skip)
          replace H:=Option.bind_eq_some_iff.mp H
          obtain⟨t233,A150,H⟩:=H
          replace H:(spec_GoodEdges.j1 k1 a0 l1 x9_1 l1 (l1.length:Int) x9_1 (!t233) ((rd_T79 l1 x9_1).f0) ((rd_T79 l1 x9_1).f1) ((rd_T79 l1 x9_1).f2))=some r:=H
          have A15:=Aside0.mk A150
          clear A150
          have H':=Aside0.mk H
          clear H
          have hcz16_0:w7.cell? ⟨gb230,0,none⟩=some (.int .i64 0):=(blk_cell BK230.out 0).trans rfl
          have hcz16_1:w7.cell? ⟨gb230,1,none⟩=some (.int .i64 0):=(blk_cell BK230.out 1).trans rfl
          have hcz16_2:w7.cell? ⟨gb230,2,none⟩=some (.int .i64 0):=(blk_cell BK230.out 2).trans rfl
          have hfz16_0:=blk_frozen BK230.out 0
          have hfz16_1:=blk_frozen BK230.out 1
          have hfz16_2:=blk_frozen BK230.out 2
          go_wp2_with (first|(go_at_call 59;(with_reducible refine(spec_l1In.calls ((rd_T79 l1 x9_1).f0) 0 (wrap64 (a0 - 1)) true _ A9.out).mono ?_);rintro e w' ⟨rfl,⟨nd,rfl⟩⟩;(try first|exact⟨rfl,_,World.drewN_drewN _ _ _⟩|exact⟨rfl,_,Eq.trans (World.drewN_drewN _ _ _) (congrArg (World.drewN _) (Nat.add_assoc _ _ _))⟩))|(go_at_call 59;(with_reducible refine(spec_l1In.calls ((rd_T79 l1 x9_1).f1) 0 (wrap64 (a0 - 1)) true _ A11.out).mono ?_);rintro e w' ⟨rfl,⟨nd,rfl⟩⟩;(try first|exact⟨rfl,_,World.drewN_drewN _ _ _⟩|exact⟨rfl,_,Eq.trans (World.drewN_drewN _ _ _) (congrArg (World.drewN _) (Nat.add_assoc _ _ _))⟩))|(go_at_call 59;(with_reducible refine(spec_l1In.calls ((rd_T79 l1 x9_1).f2) 1 100 t233 _ A15.out).mono ?_);rintro e w' ⟨rfl,⟨nd,rfl⟩⟩;(try first|exact⟨rfl,_,World.drewN_drewN _ _ _⟩|exact⟨rfl,_,Eq.trans (World.drewN_drewN _ _ _) (congrArg (World.drewN _) (Nat.add_assoc _ _ _))⟩)))
          repeat(go_quiet (first|(go_at_call 59;(with_reducible refine(spec_l1In.calls ((rd_T79 l1 x9_1).f0) 0 (wrap64 (a0 - 1)) true _ A9.out).mono ?_);rintro e w' ⟨rfl,⟨nd,rfl⟩⟩;(try first|exact⟨rfl,_,World.drewN_drewN _ _ _⟩|exact⟨rfl,_,Eq.trans (World.drewN_drewN _ _ _) (congrArg (World.drewN _) (Nat.add_assoc _ _ _))⟩))|(go_at_call 59;(with_reducible refine(spec_l1In.calls ((rd_T79 l1 x9_1).f1) 0 (wrap64 (a0 - 1)) true _ A11.out).mono ?_);rintro e w' ⟨rfl,⟨nd,rfl⟩⟩;(try first|exact⟨rfl,_,World.drewN_drewN _ _ _⟩|exact⟨rfl,_,Eq.trans (World.drewN_drewN _ _ _) (congrArg (World.drewN _) (Nat.add_assoc _ _ _))⟩))|(go_at_call 59;(with_reducible refine(spec_l1In.calls ((rd_T79 l1 x9_1).f2) 1 100 t233 _ A15.out).mono ?_);rintro e w' ⟨rfl,⟨nd,rfl⟩⟩;(try first|exact⟨rfl,_,World.drewN_drewN _ _ _⟩|exact⟨rfl,_,Eq.trans (World.drewN_drewN _ _ _) (congrArg (World.drewN _) (Nat.add_assoc _ _ _))⟩)));try go_wp2_with (first|(go_at_call 59;(with_reducible refine(spec_l1In.calls ((rd_T79 l1 x9_1).f0) 0 (wrap64 (a0 - 1)) true _ A9.out).mono ?_);rintro e w' ⟨rfl,⟨nd,rfl⟩⟩;(try first|exact⟨rfl,_,World.drewN_drewN _ _ _⟩|exact⟨rfl,_,Eq.trans (World.drewN_drewN _ _ _) (congrArg (World.drewN _) (Nat.add_assoc _ _ _))⟩))|(go_at_call 59;(with_reducible refine(spec_l1In.calls ((rd_T79 l1 x9_1).f1) 0 (wrap64 (a0 - 1)) true _ A11.out).mono ?_);rintro e w' ⟨rfl,⟨nd,rfl⟩⟩;(try first|exact⟨rfl,_,World.drewN_drewN _ _ _⟩|exact⟨rfl,_,Eq.trans (World.drewN_drewN _ _ _) (congrArg (World.drewN _) (Nat.add_assoc _ _ _))⟩))|(go_at_call 59;(with_reducible refine(spec_l1In.calls ((rd_T79 l1 x9_1).f2) 1 100 t233 _ A15.out).mono ?_);rintro e w' ⟨rfl,⟨nd,rfl⟩⟩;(try first|exact⟨rfl,_,World.drewN_drewN _ _ _⟩|exact⟨rfl,_,Eq.trans (World.drewN_drewN _ _ _) (congrArg (World.drewN _) (Nat.add_assoc _ _ _))⟩))))
          go_meet
          case rel=>exact⟨_,(!t233),(by first|rfl|(simp;done)|(simp [*];done)),H',⟨by have:=HK1.out;first|omega|exact Nat.le_refl _⟩,⟨by(with_reducible repeat(first|refine blk_drewN ?_ _|refine blk_drew ?_ |refine blk_alloc ?_ _));refine blk_put (cs:= #[.int .i64 ((rd_T79 l1 x9_1).f0),.int .i64 ((rd_T79 l1 x9_1).f1),.int .i64 0]) ?_ 2 _ rfl;(with_reducible repeat(first|refine blk_drewN ?_ _|refine blk_drew ?_ |refine blk_alloc ?_ _));refine blk_put (cs:= #[.int .i64 ((rd_T79 l1 x9_1).f0),.int .i64 0,.int .i64 0]) ?_ 1 _ rfl;(with_reducible repeat(first|refine blk_drewN ?_ _|refine blk_drew ?_ |refine blk_alloc ?_ _));refine blk_put (cs:= #[.int .i64 0,.int .i64 0,.int .i64 0]) ?_ 0 _ rfl;(with_reducible repeat(first|refine blk_drewN ?_ _|refine blk_drew ?_ |refine blk_alloc ?_ _));exact BK230.out⟩,⟨by repeat(first|(with_reducible first|exact HB.out|apply below_alloc|apply pw_below_drewN|apply below_drew1|refine below_set ?_ GE230.out)|exact HB.out)⟩⟩
        ·replace c12:=Bool.eq_false_iff.mpr c12
         subst c12
         have H1:(spec_GoodEdges.j1 k1 a0 l1 x9_1 l1 (l1.length:Int) x9_1 true ((rd_T79 l1 x9_1).f0) ((rd_T79 l1 x9_1).f1) ((rd_T79 l1 x9_1).f2))=some r:=by rw [if_neg (show ¬ (false=true) by decide)] at H;exact H
         clear H
         have H:=H1
         clear H1
         have H':=Aside0.mk H
         clear H
         have hcz17_0:w7.cell? ⟨gb230,0,none⟩=some (.int .i64 0):=(blk_cell BK230.out 0).trans rfl
         have hcz17_1:w7.cell? ⟨gb230,1,none⟩=some (.int .i64 0):=(blk_cell BK230.out 1).trans rfl
         have hcz17_2:w7.cell? ⟨gb230,2,none⟩=some (.int .i64 0):=(blk_cell BK230.out 2).trans rfl
         have hfz17_0:=blk_frozen BK230.out 0
         have hfz17_1:=blk_frozen BK230.out 1
         have hfz17_2:=blk_frozen BK230.out 2
         go_wp2_with (first|(go_at_call 59;(with_reducible refine(spec_l1In.calls ((rd_T79 l1 x9_1).f0) 0 (wrap64 (a0 - 1)) true _ A9.out).mono ?_);rintro e w' ⟨rfl,⟨nd,rfl⟩⟩;(try first|exact⟨rfl,_,World.drewN_drewN _ _ _⟩|exact⟨rfl,_,Eq.trans (World.drewN_drewN _ _ _) (congrArg (World.drewN _) (Nat.add_assoc _ _ _))⟩))|(go_at_call 59;(with_reducible refine(spec_l1In.calls ((rd_T79 l1 x9_1).f1) 0 (wrap64 (a0 - 1)) false _ A11.out).mono ?_);rintro e w' ⟨rfl,⟨nd,rfl⟩⟩;(try first|exact⟨rfl,_,World.drewN_drewN _ _ _⟩|exact⟨rfl,_,Eq.trans (World.drewN_drewN _ _ _) (congrArg (World.drewN _) (Nat.add_assoc _ _ _))⟩)))
         repeat(go_quiet (first|(go_at_call 59;(with_reducible refine(spec_l1In.calls ((rd_T79 l1 x9_1).f0) 0 (wrap64 (a0 - 1)) true _ A9.out).mono ?_);rintro e w' ⟨rfl,⟨nd,rfl⟩⟩;(try first|exact⟨rfl,_,World.drewN_drewN _ _ _⟩|exact⟨rfl,_,Eq.trans (World.drewN_drewN _ _ _) (congrArg (World.drewN _) (Nat.add_assoc _ _ _))⟩))|(go_at_call 59;(with_reducible refine(spec_l1In.calls ((rd_T79 l1 x9_1).f1) 0 (wrap64 (a0 - 1)) false _ A11.out).mono ?_);rintro e w' ⟨rfl,⟨nd,rfl⟩⟩;(try first|exact⟨rfl,_,World.drewN_drewN _ _ _⟩|exact⟨rfl,_,Eq.trans (World.drewN_drewN _ _ _) (congrArg (World.drewN _) (Nat.add_assoc _ _ _))⟩)));try go_wp2_with (first|(go_at_call 59;(with_reducible refine(spec_l1In.calls ((rd_T79 l1 x9_1).f0) 0 (wrap64 (a0 - 1)) true _ A9.out).mono ?_);rintro e w' ⟨rfl,⟨nd,rfl⟩⟩;(try first|exact⟨rfl,_,World.drewN_drewN _ _ _⟩|exact⟨rfl,_,Eq.trans (World.drewN_drewN _ _ _) (congrArg (World.drewN _) (Nat.add_assoc _ _ _))⟩))|(go_at_call 59;(with_reducible refine(spec_l1In.calls ((rd_T79 l1 x9_1).f1) 0 (wrap64 (a0 - 1)) false _ A11.out).mono ?_);rintro e w' ⟨rfl,⟨nd,rfl⟩⟩;(try first|exact⟨rfl,_,World.drewN_drewN _ _ _⟩|exact⟨rfl,_,Eq.trans (World.drewN_drewN _ _ _) (congrArg (World.drewN _) (Nat.add_assoc _ _ _))⟩))))
         go_meet
         case rel=>exact⟨_,(true),(by first|rfl|(simp;done)|(simp [*];done)),H',⟨by have:=HK1.out;first|omega|exact Nat.le_refl _⟩,⟨by(with_reducible repeat(first|refine blk_drewN ?_ _|refine blk_drew ?_ |refine blk_alloc ?_ _));refine blk_put (cs:= #[.int .i64 ((rd_T79 l1 x9_1).f0),.int .i64 ((rd_T79 l1 x9_1).f1),.int .i64 0]) ?_ 2 _ rfl;(with_reducible repeat(first|refine blk_drewN ?_ _|refine blk_drew ?_ |refine blk_alloc ?_ _));refine blk_put (cs:= #[.int .i64 ((rd_T79 l1 x9_1).f0),.int .i64 0,.int .i64 0]) ?_ 1 _ rfl;(with_reducible repeat(first|refine blk_drewN ?_ _|refine blk_drew ?_ |refine blk_alloc ?_ _));refine blk_put (cs:= #[.int .i64 0,.int .i64 0,.int .i64 0]) ?_ 0 _ rfl;(with_reducible repeat(first|refine blk_drewN ?_ _|refine blk_drew ?_ |refine blk_alloc ?_ _));exact BK230.out⟩,⟨by repeat(first|(with_reducible first|exact HB.out|apply below_alloc|apply pw_below_drewN|apply below_drew1|refine below_set ?_ GE230.out)|exact HB.out)⟩⟩
       ·replace c10:=Bool.eq_false_iff.mpr c10
        subst c10
        have H1:(spec_GoodEdges.j1 k1 a0 l1 x9_1 l1 (l1.length:Int) x9_1 true ((rd_T79 l1 x9_1).f0) ((rd_T79 l1 x9_1).f1) ((rd_T79 l1 x9_1).f2))=some r:=by rw [if_neg (show ¬ (false=true) by decide)] at H;exact H
        clear H
        have H:=H1
        clear H1
        have H':=Aside0.mk H
        clear H
        have hcz18_0:w7.cell? ⟨gb230,0,none⟩=some (.int .i64 0):=(blk_cell BK230.out 0).trans rfl
        have hcz18_1:w7.cell? ⟨gb230,1,none⟩=some (.int .i64 0):=(blk_cell BK230.out 1).trans rfl
        have hcz18_2:w7.cell? ⟨gb230,2,none⟩=some (.int .i64 0):=(blk_cell BK230.out 2).trans rfl
        have hfz18_0:=blk_frozen BK230.out 0
        have hfz18_1:=blk_frozen BK230.out 1
        have hfz18_2:=blk_frozen BK230.out 2
        go_wp2_with (first|(go_at_call 59;(with_reducible refine(spec_l1In.calls ((rd_T79 l1 x9_1).f0) 0 (wrap64 (a0 - 1)) false _ A9.out).mono ?_);rintro e w' ⟨rfl,⟨nd,rfl⟩⟩;(try first|exact⟨rfl,_,World.drewN_drewN _ _ _⟩|exact⟨rfl,_,Eq.trans (World.drewN_drewN _ _ _) (congrArg (World.drewN _) (Nat.add_assoc _ _ _))⟩)))
        repeat(go_quiet (first|(go_at_call 59;(with_reducible refine(spec_l1In.calls ((rd_T79 l1 x9_1).f0) 0 (wrap64 (a0 - 1)) false _ A9.out).mono ?_);rintro e w' ⟨rfl,⟨nd,rfl⟩⟩;(try first|exact⟨rfl,_,World.drewN_drewN _ _ _⟩|exact⟨rfl,_,Eq.trans (World.drewN_drewN _ _ _) (congrArg (World.drewN _) (Nat.add_assoc _ _ _))⟩)));try go_wp2_with (first|(go_at_call 59;(with_reducible refine(spec_l1In.calls ((rd_T79 l1 x9_1).f0) 0 (wrap64 (a0 - 1)) false _ A9.out).mono ?_);rintro e w' ⟨rfl,⟨nd,rfl⟩⟩;(try first|exact⟨rfl,_,World.drewN_drewN _ _ _⟩|exact⟨rfl,_,Eq.trans (World.drewN_drewN _ _ _) (congrArg (World.drewN _) (Nat.add_assoc _ _ _))⟩))))
        go_meet
        case rel=>exact⟨_,(true),(by first|rfl|(simp;done)|(simp [*];done)),H',⟨by have:=HK1.out;first|omega|exact Nat.le_refl _⟩,⟨by(with_reducible repeat(first|refine blk_drewN ?_ _|refine blk_drew ?_ |refine blk_alloc ?_ _));refine blk_put (cs:= #[.int .i64 ((rd_T79 l1 x9_1).f0),.int .i64 ((rd_T79 l1 x9_1).f1),.int .i64 0]) ?_ 2 _ rfl;(with_reducible repeat(first|refine blk_drewN ?_ _|refine blk_drew ?_ |refine blk_alloc ?_ _));refine blk_put (cs:= #[.int .i64 ((rd_T79 l1 x9_1).f0),.int .i64 0,.int .i64 0]) ?_ 1 _ rfl;(with_reducible repeat(first|refine blk_drewN ?_ _|refine blk_drew ?_ |refine blk_alloc ?_ _));refine blk_put (cs:= #[.int .i64 0,.int .i64 0,.int .i64 0]) ?_ 0 _ rfl;(with_reducible repeat(first|refine blk_drewN ?_ _|refine blk_drew ?_ |refine blk_alloc ?_ _));exact BK230.out⟩,⟨by repeat(first|(with_reducible first|exact HB.out|apply below_alloc|apply pw_below_drewN|apply below_drew1|refine below_set ?_ GE230.out)|exact HB.out)⟩⟩
      case rest=>
       clear HC6
       try clear c1
       try clear p2
       try clear q2
       try clear hx2
       try clear c3
       try clear c3b0
       try clear c4
       try clear c4b0
       try clear c5
       try clear c5b0
       try clear c6
       try clear p6
       try clear c10
       try clear c12
       try clear c13
       try clear c13b0
       try clear hcz14_0
       try clear hcz14_1
       try clear hcz14_2
       try clear hcz16_0
       try clear hcz16_1
       try clear hcz16_2
       try clear hcz17_0
       try clear hcz17_1
       try clear hcz17_2
       try clear hcz18_0
       try clear hcz18_1
       try clear hcz18_2
       try clear hcz8_0
       try clear hcz8_1
       try clear hcz8_2
       try clear hfz14_0
       try clear hfz14_1
       try clear hfz14_2
       try clear hfz16_0
       try clear hfz16_1
       try clear hfz16_2
       try clear hfz17_0
       try clear hfz17_1
       try clear hfz17_2
       try clear hfz18_0
       try clear hfz18_1
       try clear hfz18_2
       try clear hfz8_0
       try clear hfz8_1
       try clear hfz8_2
       try clear hx229_0
       try clear hx229_1
       try clear hx229_2
       try clear p2
       try clear p229
       try clear q229
       obtain⟨kq,x40_5,rfl,HA,HJ5,BK230,HB⟩:=hcut
       cases kq with
       |zero=>exact absurd HA.out (by simp [spec_GoodEdges.j1])
       |succ kj5=>
        have H:=HA.out
        clear HA
        simp only [spec_GoodEdges.j1] at H
        by_cases c19:x40_5=true
        ·subst c19
         have H1:(some false)=some r:=by rw [if_pos rfl] at H;exact H
         clear H
         have H:=H1
         clear H1
         obtain rfl:=Option.some.inj H
         go_wp2
         repeat(go_quiet (fail);try go_wp2)
         go_ret
         exact⟨by first|rfl|(simp [errW_none,errW_some]<;>rfl)|(simp [*,errW_none,errW_some]<;>rfl),by repeat(first|(with_reducible first|exact HB.out|apply below_alloc|apply pw_below_drewN|apply below_drew1|refine below_set ?_ GE230.out)|exact HB.out)⟩
        ·replace c19:=Bool.eq_false_iff.mpr c19
         subst c19
         have H1:(if x9_1 > 0 then(if 0≤ (wrap64 (x9_1 - 1)) then(if (wrap64 (x9_1 - 1))< (l1.length:Int) then(if ((rd_T79 l1 (wrap64 (x9_1 - 1))).f0) > ((rd_T79 l1 x9_1).f0) then(some false) else(if ((rd_T79 l1 (wrap64 (x9_1 - 1))).f0)= ((rd_T79 l1 x9_1).f0) then(if ((rd_T79 l1 (wrap64 (x9_1 - 1))).f1)≥ ((rd_T79 l1 x9_1).f1) then(some false) else(spec_GoodEdges.l0 kj5 a0 l1 l1 (l1.length:Int) (wrap64 (x9_1+1)))) else(spec_GoodEdges.l0 kj5 a0 l1 l1 (l1.length:Int) (wrap64 (x9_1+1))))) else(none)) else(none)) else(spec_GoodEdges.l0 kj5 a0 l1 l1 (l1.length:Int) (wrap64 (x9_1+1))))=some r:=by rw [if_neg (show ¬ (false=true) by decide)] at H;exact H
         clear H
         have H:=H1
         clear H1
         by_cases c20:x9_1 > 0
         ·rw [if_pos c20] at H
          have c20b0:decide (0<x9_1)=true:=decide_eq_true c20
          clear c20
          obtain⟨ji21,hji21⟩ :∃ j_:Int,(wrap64 (x9_1 - 1))=j_:=⟨_,rfl⟩
          replace H:(if 0≤ (ji21) then(if (ji21)< (l1.length:Int) then(if ((rd_T79 l1 (ji21)).f0) > ((rd_T79 l1 x9_1).f0) then(some false) else(if ((rd_T79 l1 (ji21)).f0)= ((rd_T79 l1 x9_1).f0) then(if ((rd_T79 l1 (ji21)).f1)≥ ((rd_T79 l1 x9_1).f1) then(some false) else(spec_GoodEdges.l0 kj5 a0 l1 l1 (l1.length:Int) (wrap64 (x9_1+1)))) else(spec_GoodEdges.l0 kj5 a0 l1 l1 (l1.length:Int) (wrap64 (x9_1+1))))) else(none)) else(none))=some r:=by first|(rw [hji21] at H;exact H)|(simp only [hji21] at H ⊢;exact H)
          have hji21w:(IntKind.i64.wrap (x9_1 - 1))=ji21:=(i64_w _).trans hji21
          by_cases c22: 0≤ (ji21)
          ·rw [if_pos c22] at H
           have c22b0:decide (0≤ (ji21))=true:=decide_eq_true c22
           clear c22
           by_cases c23:(ji21)< (l1.length:Int)
           ·rw [if_pos c23] at H
            have c23b0:decide ((ji21)< (l1.length:Int))=true:=decide_eq_true c23
            clear c23
            by_cases c24:((rd_T79 l1 (ji21)).f0) > ((rd_T79 l1 x9_1).f0)
            ·rw [if_pos c24] at H
             have c24b0:decide (((rd_T79 l1 x9_1).f0)< ((rd_T79 l1 (ji21)).f0))=true:=decide_eq_true c24
             clear c24
             obtain rfl:=Option.some.inj H
             have p234: 0≤ ((ji21):Int):=of_decide_eq_true zq1
             have q234:(ji21)< (l1.length:Int):=of_decide_eq_true zq1
             obtain⟨ad234,e234,hx234_0,hx234_1,hx234_2⟩:=at_T79 HR1.out (ji21) p234 q234
             obtain rfl:ad229=ad234:=(by injection e234)
             replace hx234_0:=(HB.out.cell (World.block_lt_of_cell? w _ hx234_0)).trans hx234_0
             replace hx234_1:=(HB.out.cell (World.block_lt_of_cell? w _ hx234_1)).trans hx234_1
             replace hx234_2:=(HB.out.cell (World.block_lt_of_cell? w _ hx234_2)).trans hx234_2
             replace p234:=eq_true p234
             replace q234:=eq_true q234
             have hcz25_0:wc.cell? ⟨gb230,0,none⟩=some (.int .i64 ((rd_T79 l1 x9_1).f0)):=(blk_cell BK230.out 0).trans rfl
             have hcz25_1:wc.cell? ⟨gb230,1,none⟩=some (.int .i64 ((rd_T79 l1 x9_1).f1)):=(blk_cell BK230.out 1).trans rfl
             have hcz25_2:wc.cell? ⟨gb230,2,none⟩=some (.int .i64 ((rd_T79 l1 x9_1).f2)):=(blk_cell BK230.out 2).trans rfl
             have hfz25_0:=blk_frozen BK230.out 0
             have hfz25_1:=blk_frozen BK230.out 1
             have hfz25_2:=blk_frozen BK230.out 2
             go_wp2
             repeat(go_quiet (fail);try go_wp2)
             go_ret
             exact⟨by first|rfl|(simp [errW_none,errW_some]<;>rfl)|(simp only [← hji21];first|rfl|(simp [errW_none,errW_some]<;>rfl))|(simp [*,errW_none,errW_some]<;>rfl),by repeat(first|(with_reducible first|exact HB.out|apply below_alloc|apply pw_below_drewN|apply below_drew1|refine below_set ?_ GE230.out)|exact HB.out)⟩
            ·rw [if_neg c24] at H
             have c24b0:decide (((rd_T79 l1 x9_1).f0)< ((rd_T79 l1 (ji21)).f0))=false:=decide_eq_false c24
             clear c24
             by_cases c26:((rd_T79 l1 (ji21)).f0)= ((rd_T79 l1 x9_1).f0)
             ·rw [if_pos c26] at H
              have c26b0:(((rd_T79 l1 (ji21)).f0)== ((rd_T79 l1 x9_1).f0))=true:=beq_iff_eq.mpr c26
              have c26b1:(((rd_T79 l1 (ji21)).f0) != ((rd_T79 l1 x9_1).f0))=false:=bne_eq_false_iff_eq.mpr c26
              clear c26
              by_cases c27:((rd_T79 l1 (ji21)).f1)≥ ((rd_T79 l1 x9_1).f1)
              ·rw [if_pos c27] at H
               have c27b0:decide (((rd_T79 l1 x9_1).f1)≤ ((rd_T79 l1 (ji21)).f1))=true:=decide_eq_true c27
               clear c27
               obtain rfl:=Option.some.inj H
               have p234: 0≤ ((ji21):Int):=of_decide_eq_true zq1
               have q234:(ji21)< (l1.length:Int):=of_decide_eq_true zq1
               obtain⟨ad234,e234,hx234_0,hx234_1,hx234_2⟩:=at_T79 HR1.out (ji21) p234 q234
               obtain rfl:ad229=ad234:=(by injection e234)
               replace hx234_0:=(HB.out.cell (World.block_lt_of_cell? w _ hx234_0)).trans hx234_0
               replace hx234_1:=(HB.out.cell (World.block_lt_of_cell? w _ hx234_1)).trans hx234_1
               replace hx234_2:=(HB.out.cell (World.block_lt_of_cell? w _ hx234_2)).trans hx234_2
               replace p234:=eq_true p234
               replace q234:=eq_true q234
               have hcz28_0:wc.cell? ⟨gb230,0,none⟩=some (.int .i64 ((rd_T79 l1 x9_1).f0)):=(blk_cell BK230.out 0).trans rfl
               have hcz28_1:wc.cell? ⟨gb230,1,none⟩=some (.int .i64 ((rd_T79 l1 x9_1).f1)):=(blk_cell BK230.out 1).trans rfl
               have hcz28_2:wc.cell? ⟨gb230,2,none⟩=some (.int .i64 ((rd_T79 l1 x9_1).f2)):=(blk_cell BK230.out 2).trans rfl
               have hfz28_0:=blk_frozen BK230.out 0
               have hfz28_1:=blk_frozen BK230.out 1
               have hfz28_2:=blk_frozen BK230.out 2
               have p235: 0≤ ((ji21):Int):=of_decide_eq_true zq1
               have q235:(ji21)< (l1.length:Int):=of_decide_eq_true zq1
               obtain⟨ad235,e235,hx235_0,hx235_1,hx235_2⟩:=at_T79 HR1.out (ji21) p235 q235
               obtain rfl:ad229=ad235:=(by injection e235)
               replace hx235_0:=(HB.out.cell (World.block_lt_of_cell? w _ hx235_0)).trans hx235_0
               replace hx235_1:=(HB.out.cell (World.block_lt_of_cell? w _ hx235_1)).trans hx235_1
               replace hx235_2:=(HB.out.cell (World.block_lt_of_cell? w _ hx235_2)).trans hx235_2
               replace p235:=eq_true p235
               replace q235:=eq_true q235
               have p236: 0≤ ((ji21):Int):=of_decide_eq_true zq1
               have q236:(ji21)< (l1.length:Int):=of_decide_eq_true zq1
               obtain⟨ad236,e236,hx236_0,hx236_1,hx236_2⟩:=at_T79 HR1.out (ji21) p236 q236
               obtain rfl:ad229=ad236:=(by injection e236)
               replace hx236_0:=(HB.out.cell (World.block_lt_of_cell? w _ hx236_0)).trans hx236_0
               replace hx236_1:=(HB.out.cell (World.block_lt_of_cell? w _ hx236_1)).trans hx236_1
               replace hx236_2:=(HB.out.cell (World.block_lt_of_cell? w _ hx236_2)).trans hx236_2
               replace p236:=eq_true p236
               replace q236:=eq_true q236
               go_wp2
               repeat(go_quiet (fail);try go_wp2)
               go_ret
               exact⟨by first|rfl|(simp [errW_none,errW_some]<;>rfl)|(simp only [← hji21];first|rfl|(simp [errW_none,errW_some]<;>rfl))|(simp [*,errW_none,errW_some]<;>rfl),by repeat(first|(with_reducible first|exact HB.out|apply below_alloc|apply pw_below_drewN|apply below_drew1|refine below_set ?_ GE230.out)|exact HB.out)⟩
              ·rw [if_neg c27] at H
               have c27b0:decide (((rd_T79 l1 x9_1).f1)≤ ((rd_T79 l1 (ji21)).f1))=false:=decide_eq_false c27
               clear c27
               have H':=Aside0.mk H
               clear H
               have p234: 0≤ ((ji21):Int):=of_decide_eq_true zq1
               have q234:(ji21)< (l1.length:Int):=of_decide_eq_true zq1
               obtain⟨ad234,e234,hx234_0,hx234_1,hx234_2⟩:=at_T79 HR1.out (ji21) p234 q234
               obtain rfl:ad229=ad234:=(by injection e234)
               replace hx234_0:=(HB.out.cell (World.block_lt_of_cell? w _ hx234_0)).trans hx234_0
               replace hx234_1:=(HB.out.cell (World.block_lt_of_cell? w _ hx234_1)).trans hx234_1
               replace hx234_2:=(HB.out.cell (World.block_lt_of_cell? w _ hx234_2)).trans hx234_2
               replace p234:=eq_true p234
               replace q234:=eq_true q234
               have hcz29_0:wc.cell? ⟨gb230,0,none⟩=some (.int .i64 ((rd_T79 l1 x9_1).f0)):=(blk_cell BK230.out 0).trans rfl
               have hcz29_1:wc.cell? ⟨gb230,1,none⟩=some (.int .i64 ((rd_T79 l1 x9_1).f1)):=(blk_cell BK230.out 1).trans rfl
               have hcz29_2:wc.cell? ⟨gb230,2,none⟩=some (.int .i64 ((rd_T79 l1 x9_1).f2)):=(blk_cell BK230.out 2).trans rfl
               have hfz29_0:=blk_frozen BK230.out 0
               have hfz29_1:=blk_frozen BK230.out 1
               have hfz29_2:=blk_frozen BK230.out 2
               have p235: 0≤ ((ji21):Int):=of_decide_eq_true zq1
               have q235:(ji21)< (l1.length:Int):=of_decide_eq_true zq1
               obtain⟨ad235,e235,hx235_0,hx235_1,hx235_2⟩:=at_T79 HR1.out (ji21) p235 q235
               obtain rfl:ad229=ad235:=(by injection e235)
               replace hx235_0:=(HB.out.cell (World.block_lt_of_cell? w _ hx235_0)).trans hx235_0
               replace hx235_1:=(HB.out.cell (World.block_lt_of_cell? w _ hx235_1)).trans hx235_1
               replace hx235_2:=(HB.out.cell (World.block_lt_of_cell? w _ hx235_2)).trans hx235_2
               replace p235:=eq_true p235
               replace q235:=eq_true q235
               have p236: 0≤ ((ji21):Int):=of_decide_eq_true zq1
               have q236:(ji21)< (l1.length:Int):=of_decide_eq_true zq1
               obtain⟨ad236,e236,hx236_0,hx236_1,hx236_2⟩:=at_T79 HR1.out (ji21) p236 q236
               obtain rfl:ad229=ad236:=(by injection e236)
               replace hx236_0:=(HB.out.cell (World.block_lt_of_cell? w _ hx236_0)).trans hx236_0
               replace hx236_1:=(HB.out.cell (World.block_lt_of_cell? w _ hx236_1)).trans hx236_1
               replace hx236_2:=(HB.out.cell (World.block_lt_of_cell? w _ hx236_2)).trans hx236_2
               replace p236:=eq_true p236
               replace q236:=eq_true q236
               go_wp2
               repeat(go_quiet (fail);try go_wp2)
               go_roundg kj5
               case measure=>have:=HK1.out;have:=HJ5.out;omega
               case rel=>exact⟨(wrap64 (x9_1+1)),(by first|rfl|(simp;done)|(simp [*];done)),H',⟨by have:=HK1.out;have:=HJ5.out;omega⟩,⟨by repeat(first|(with_reducible first|exact HB.out|apply below_alloc|apply pw_below_drewN|apply below_drew1|refine below_set ?_ GE230.out)|exact HB.out)⟩⟩
             ·rw [if_neg c26] at H
              have c26b0:(((rd_T79 l1 (ji21)).f0)== ((rd_T79 l1 x9_1).f0))=false:=beq_eq_false_iff_ne.mpr c26
              have c26b1:(((rd_T79 l1 (ji21)).f0) != ((rd_T79 l1 x9_1).f0))=true:=bne_iff_ne.mpr c26
              have H':=Aside0.mk H
              clear H
              have p234: 0≤ ((ji21):Int):=of_decide_eq_true zq1
              have q234:(ji21)< (l1.length:Int):=of_decide_eq_true zq1
              obtain⟨ad234,e234,hx234_0,hx234_1,hx234_2⟩:=at_T79 HR1.out (ji21) p234 q234
              obtain rfl:ad229=ad234:=(by injection e234)
              replace hx234_0:=(HB.out.cell (World.block_lt_of_cell? w _ hx234_0)).trans hx234_0
              replace hx234_1:=(HB.out.cell (World.block_lt_of_cell? w _ hx234_1)).trans hx234_1
              replace hx234_2:=(HB.out.cell (World.block_lt_of_cell? w _ hx234_2)).trans hx234_2
              replace p234:=eq_true p234
              replace q234:=eq_true q234
              have hcz30_0:wc.cell? ⟨gb230,0,none⟩=some (.int .i64 ((rd_T79 l1 x9_1).f0)):=(blk_cell BK230.out 0).trans rfl
              have hcz30_1:wc.cell? ⟨gb230,1,none⟩=some (.int .i64 ((rd_T79 l1 x9_1).f1)):=(blk_cell BK230.out 1).trans rfl
              have hcz30_2:wc.cell? ⟨gb230,2,none⟩=some (.int .i64 ((rd_T79 l1 x9_1).f2)):=(blk_cell BK230.out 2).trans rfl
              have hfz30_0:=blk_frozen BK230.out 0
              have hfz30_1:=blk_frozen BK230.out 1
              have hfz30_2:=blk_frozen BK230.out 2
              have p235: 0≤ ((ji21):Int):=of_decide_eq_true zq1
              have q235:(ji21)< (l1.length:Int):=of_decide_eq_true zq1
              obtain⟨ad235,e235,hx235_0,hx235_1,hx235_2⟩:=at_T79 HR1.out (ji21) p235 q235
              obtain rfl:ad229=ad235:=(by injection e235)
              replace hx235_0:=(HB.out.cell (World.block_lt_of_cell? w _ hx235_0)).trans hx235_0
              replace hx235_1:=(HB.out.cell (World.block_lt_of_cell? w _ hx235_1)).trans hx235_1
              replace hx235_2:=(HB.out.cell (World.block_lt_of_cell? w _ hx235_2)).trans hx235_2
              replace p235:=eq_true p235
              replace q235:=eq_true q235
              go_wp2
              repeat(go_quiet (fail);try go_wp2)
              go_roundg kj5
              case measure=>have:=HK1.out;have:=HJ5.out;omega
              case rel=>exact⟨(wrap64 (x9_1+1)),(by first|rfl|(simp;done)|(simp [*];done)),H',⟨by have:=HK1.out;have:=HJ5.out;omega⟩,⟨by repeat(first|(with_reducible first|exact HB.out|apply below_alloc|apply pw_below_drewN|apply below_drew1|refine below_set ?_ GE230.out)|exact HB.out)⟩⟩
           ·rw [if_neg c23] at H
            exact absurd H (by simp)
          ·rw [if_neg c22] at H
           exact absurd H (by simp)
         ·rw [if_neg c20] at H
          have c20b0:decide (0<x9_1)=false:=decide_eq_false c20
          clear c20
          have H':=Aside0.mk H
          clear H
          go_wp2
          repeat(go_quiet (fail);try go_wp2)
          go_roundg kj5
          case measure=>have:=HK1.out;have:=HJ5.out;omega
          case rel=>exact⟨(wrap64 (x9_1+1)),(by first|rfl|(simp;done)|(simp [*];done)),H',⟨by have:=HK1.out;have:=HJ5.out;omega⟩,⟨by repeat(first|(with_reducible first|exact HB.out|apply below_alloc|apply pw_below_drewN|apply below_drew1|refine below_set ?_ GE230.out)|exact HB.out)⟩⟩
     ·rw [if_neg c5] at H
      exact absurd H (by simp)
    ·rw [if_neg c4] at H
     exact absurd H (by simp)
   ·rw [if_neg c3] at H
    have c3b0:decide (x9_1< (l1.length:Int))=false:=decide_eq_false c3
    clear c3
    replace H:=Option.bind_eq_some_iff.mp H
    obtain⟨t228,A310,H⟩:=H
    replace H:(if t228=true then(some (decide ((l1.length:Int)≤40))) else(some false))=some r:=H
    have A31:=Aside0.mk A310
    clear A310
    by_cases c32:t228=true
    ·subst c32
     have H1:(some (decide ((l1.length:Int)≤40)))=some r:=by rw [if_pos rfl] at H;exact H
     clear H
     have H:=H1
     clear H1
     obtain rfl:=Option.some.inj H
     go_wp2_with (first|(go_at_call 59;(with_reducible refine(spec_l1In.calls a0 1 12 true _ A31.out).mono ?_);rintro e w' ⟨rfl,⟨nd,rfl⟩⟩;(try first|exact⟨rfl,_,World.drewN_drewN _ _ _⟩|exact⟨rfl,_,Eq.trans (World.drewN_drewN _ _ _) (congrArg (World.drewN _) (Nat.add_assoc _ _ _))⟩)))
     repeat(go_quiet (first|(go_at_call 59;(with_reducible refine(spec_l1In.calls a0 1 12 true _ A31.out).mono ?_);rintro e w' ⟨rfl,⟨nd,rfl⟩⟩;(try first|exact⟨rfl,_,World.drewN_drewN _ _ _⟩|exact⟨rfl,_,Eq.trans (World.drewN_drewN _ _ _) (congrArg (World.drewN _) (Nat.add_assoc _ _ _))⟩)));try go_wp2_with (first|(go_at_call 59;(with_reducible refine(spec_l1In.calls a0 1 12 true _ A31.out).mono ?_);rintro e w' ⟨rfl,⟨nd,rfl⟩⟩;(try first|exact⟨rfl,_,World.drewN_drewN _ _ _⟩|exact⟨rfl,_,Eq.trans (World.drewN_drewN _ _ _) (congrArg (World.drewN _) (Nat.add_assoc _ _ _))⟩))))
     go_ret
     exact⟨by first|rfl|(simp [errW_none,errW_some]<;>rfl)|(simp [*,errW_none,errW_some]<;>rfl),by repeat(first|(with_reducible first|exact HB.out|apply below_alloc|apply pw_below_drewN|apply below_drew1)|exact HB.out)⟩
    ·replace c32:=Bool.eq_false_iff.mpr c32
     subst c32
     have H1:(some false)=some r:=by rw [if_neg (show ¬ (false=true) by decide)] at H;exact H
     clear H
     have H:=H1
     clear H1
     obtain rfl:=Option.some.inj H
     go_wp2_with (first|(go_at_call 59;(with_reducible refine(spec_l1In.calls a0 1 12 false _ A31.out).mono ?_);rintro e w' ⟨rfl,⟨nd,rfl⟩⟩;(try first|exact⟨rfl,_,World.drewN_drewN _ _ _⟩|exact⟨rfl,_,Eq.trans (World.drewN_drewN _ _ _) (congrArg (World.drewN _) (Nat.add_assoc _ _ _))⟩)))
     repeat(go_quiet (first|(go_at_call 59;(with_reducible refine(spec_l1In.calls a0 1 12 false _ A31.out).mono ?_);rintro e w' ⟨rfl,⟨nd,rfl⟩⟩;(try first|exact⟨rfl,_,World.drewN_drewN _ _ _⟩|exact⟨rfl,_,Eq.trans (World.drewN_drewN _ _ _) (congrArg (World.drewN _) (Nat.add_assoc _ _ _))⟩)));try go_wp2_with (first|(go_at_call 59;(with_reducible refine(spec_l1In.calls a0 1 12 false _ A31.out).mono ?_);rintro e w' ⟨rfl,⟨nd,rfl⟩⟩;(try first|exact⟨rfl,_,World.drewN_drewN _ _ _⟩|exact⟨rfl,_,Eq.trans (World.drewN_drewN _ _ _) (congrArg (World.drewN _) (Nat.add_assoc _ _ _))⟩))))
     go_ret
     exact⟨by first|rfl|(simp [errW_none,errW_some]<;>rfl)|(simp [*,errW_none,errW_some]<;>rfl),by repeat(first|(with_reducible first|exact HB.out|apply below_alloc|apply pw_below_drewN|apply below_drew1)|exact HB.out)⟩
end Go.Proofs.Ytedegfbheihopaa.P

namespace Go.Proofs.Ytedegfbheihopaa.P
open Go.RowKit Go.Proofs.YtedegfbheihopaaW.PrintWords Go.Proofs.YtedegfbheihopaaW.PrintLast Go.Proofs.YtedegfbheihopaaW.PrintMore
attribute [local go_sem] max2_int min2_int max_two min_two max_three min_three max_four min_four   -- for this text's walks alone
set_option linter.unusedVariables false
set_option linter.unusedSimpArgs false
def spec_l9Edge.l0:Nat→Int→Int→List (S79)→Int→Int→Option (Int)
 | 0,_,_,_,_,_=>none
 |k+1,x1,x2,x9,x10,x11=>if x11<x10 then(if 0≤x11 then(if x11< (x9.length:Int) then(if ((rd_T79 x9 x11).f0)=x1 then(if ((rd_T79 x9 x11).f1)=x2 then(some ((rd_T79 x9 x11).f2)) else(if ((rd_T79 x9 x11).f0)=x2 then(if ((rd_T79 x9 x11).f1)=x1 then(some ((rd_T79 x9 x11).f2)) else(spec_l9Edge.l0 k x1 x2 x9 x10 (wrap64 (x11+1)))) else(spec_l9Edge.l0 k x1 x2 x9 x10 (wrap64 (x11+1))))) else(if ((rd_T79 x9 x11).f0)=x2 then(if ((rd_T79 x9 x11).f1)=x1 then(some ((rd_T79 x9 x11).f2)) else(spec_l9Edge.l0 k x1 x2 x9 x10 (wrap64 (x11+1)))) else(spec_l9Edge.l0 k x1 x2 x9 x10 (wrap64 (x11+1))))) else(none)) else(none)) else(some 0)
def spec_l9Edge.f (k:Nat) (l0:List (S79)) (a1:Int) (a2:Int):Option (Int):=spec_l9Edge.l0 k a1 a2 l0 (l0.length:Int) 0
set_option maxHeartbeats 8000000 in
set_option maxRecDepth 100000 in
theorem spec_l9Edge.calls (k:Nat) (A0:Option Addr) (c0:Nat) (l0:List (S79)) (a1:Int) (a2:Int) (r:Int) (w:World) (hr0:Kd.C k79 w A0 l0.length l0) (hc0:l0.length≤c0) (h:spec_l9Edge.f k l0 a1 a2=some r):
  Calls Try.prog 67 #[.slice A0 l0.length c0,.int .i64 a1,.int .i64 a2] w fun e w'=>e= .returned (.int .i64 r)∧Below w.heap.size w w':=by
 have hu79:=Try.underlying79
 have HR0:=Aside0.mk hr0
 have HC0:=Aside0.mk hc0
 clear hr0 hc0
 have HB:=Aside0.mk (Below.refl w.heap.size w)
 have H:(spec_l9Edge.l0 k a1 a2 l0 (l0.length:Int) 0)=some r:=h
 clear h
 have H':=Aside0.mk H
 clear H
 go_enter Try.func67,Try.ntmps67
 go_wp2
 go_loopg [11] k (fun kq v11 w'=> ∃ (x11_1:Int),v11= .int .i64 x11_1∧Aside0 (spec_l9Edge.l0 kq a1 a2 l0 (l0.length:Int) x11_1=some r)∧Aside0 (kq≤k)∧Aside0 (Below w.heap.size w w'))
 case atStart=>exact⟨(0),(by first|rfl|(simp;done)|(simp [*];done)),H',⟨Nat.le_refl _⟩,⟨by repeat(first|(with_reducible first|exact HB.out|apply below_alloc|apply pw_below_drewN|apply below_drew1)|exact HB.out)⟩⟩
 case round=>
  clear H'
  try clear p2
  obtain⟨x11_1,rfl,HA,HK1,HB⟩:=hrel
  cases gk with
  |zero=>exact absurd HA.out (by simp [spec_l9Edge.l0])
  |succ k1=>
   have H:=HA.out
   clear HA
   simp only [spec_l9Edge.l0] at H
   by_cases c4:x11_1< (l0.length:Int)
   ·rw [if_pos c4] at H
    have c4b0:decide (x11_1< (l0.length:Int))=true:=decide_eq_true c4
    clear c4
    by_cases c5: 0≤x11_1
    ·rw [if_pos c5] at H
     have c5b0:decide (0≤x11_1)=true:=decide_eq_true c5
     clear c5
     by_cases c6:x11_1< (l0.length:Int)
     ·rw [if_pos c6] at H
      have c6b0:decide (x11_1< (l0.length:Int))=true:=decide_eq_true c6
      clear c6
      by_cases c7:((rd_T79 l0 x11_1).f0)=a1
      ·rw [if_pos c7] at H
       have c7b0:(((rd_T79 l0 x11_1).f0)==a1)=true:=beq_iff_eq.mpr c7
       have c7b1:(((rd_T79 l0 x11_1).f0) !=a1)=false:=bne_eq_false_iff_eq.mpr c7
       clear c7
       by_cases c8:((rd_T79 l0 x11_1).f1)=a2
       ·rw [if_pos c8] at H
        have c8b0:(((rd_T79 l0 x11_1).f1)==a2)=true:=beq_iff_eq.mpr c8
        have c8b1:(((rd_T79 l0 x11_1).f1) !=a2)=false:=bne_eq_false_iff_eq.mpr c8
        clear c8
        obtain rfl:=Option.some.inj H
        have p237: 0≤ (x11_1:Int):=of_decide_eq_true zq1
        have q237:x11_1< (l0.length:Int):=of_decide_eq_true zq1
        obtain⟨ad237,e237,hx237_0,hx237_1,hx237_2⟩:=at_T79 HR0.out x11_1 p237 q237
        cases e237
        replace hx237_0:=(HB.out.cell (World.block_lt_of_cell? w _ hx237_0)).trans hx237_0
        replace hx237_1:=(HB.out.cell (World.block_lt_of_cell? w _ hx237_1)).trans hx237_1
        replace hx237_2:=(HB.out.cell (World.block_lt_of_cell? w _ hx237_2)).trans hx237_2
        replace p237:=eq_true p237
        replace q237:=eq_true q237
        go_wp2_with (first|((with_reducible refine gate_dst (N:=8) rfl ?_);refine box_event ?hg (N:=8) ?hd (cs:= #[.int .i64 0,.int .i64 0,.int .i64 0]) (t:=79) ?hr ?_;(case hd=>rfl);(case hg=>rfl);(case hr=>first|(go_simp;done)|(go_simp;rfl));intro gb238 hg w9 hbox hb;have n0_:=Aside0.mk (below_step (zb0 HB) hb);have n1_:=Aside0.mk (hbox);have n2_:=Aside0.mk ((by rw [hg];exact(below_size (zb0 HB)):w.heap.size≤gb238));have n3_:=Aside0.mk ((by rw [hg];exact(below_size (zb0 HB)):w.heap.size≤gb238));clear HB;have HB:=n0_;have BK238:=n1_;have GW238:=n2_;have GE238:=n3_;clear n0_ n1_ n2_ n3_;clear hb hbox hg;have hcz10_0:w9.cell? ⟨gb238,0,none⟩=some (.int .i64 0):=(blk_cell BK238.out 0).trans rfl;have hcz10_1:w9.cell? ⟨gb238,1,none⟩=some (.int .i64 0):=(blk_cell BK238.out 1).trans rfl;have hcz10_2:w9.cell? ⟨gb238,2,none⟩=some (.int .i64 0):=(blk_cell BK238.out 2).trans rfl;have hfz10_0:=blk_frozen BK238.out 0;have hfz10_1:=blk_frozen BK238.out 1;have hfz10_2:=blk_frozen BK238.out 2))
        go_ret
        exact⟨by first|rfl|(simp [errW_none,errW_some]<;>rfl)|(simp [*,errW_none,errW_some]<;>rfl),by repeat(first|(with_reducible first|exact HB.out|apply below_alloc|apply pw_below_drewN|apply below_drew1|refine below_set ?_ GE238.out)|exact HB.out)⟩
       ·rw [if_neg c8] at H
        have c8b0:(((rd_T79 l0 x11_1).f1)==a2)=false:=beq_eq_false_iff_ne.mpr c8
        have c8b1:(((rd_T79 l0 x11_1).f1) !=a2)=true:=bne_iff_ne.mpr c8
        by_cases c11:((rd_T79 l0 x11_1).f0)=a2
        ·rw [if_pos c11] at H
         have c11b0:(((rd_T79 l0 x11_1).f0)==a2)=true:=beq_iff_eq.mpr c11
         have c11b1:(((rd_T79 l0 x11_1).f0) !=a2)=false:=bne_eq_false_iff_eq.mpr c11
         clear c11
         by_cases c12:((rd_T79 l0 x11_1).f1)=a1
         ·rw [if_pos c12] at H
          have c12b0:(((rd_T79 l0 x11_1).f1)==a1)=true:=beq_iff_eq.mpr c12
          have c12b1:(((rd_T79 l0 x11_1).f1) !=a1)=false:=bne_eq_false_iff_eq.mpr c12
          clear c12
          obtain rfl:=Option.some.inj H
          have p237: 0≤ (x11_1:Int):=of_decide_eq_true zq1
          have q237:x11_1< (l0.length:Int):=of_decide_eq_true zq1
          obtain⟨ad237,e237,hx237_0,hx237_1,hx237_2⟩:=at_T79 HR0.out x11_1 p237 q237
          cases e237
          replace hx237_0:=(HB.out.cell (World.block_lt_of_cell? w _ hx237_0)).trans hx237_0
          replace hx237_1:=(HB.out.cell (World.block_lt_of_cell? w _ hx237_1)).trans hx237_1
          replace hx237_2:=(HB.out.cell (World.block_lt_of_cell? w _ hx237_2)).trans hx237_2
          replace p237:=eq_true p237
          replace q237:=eq_true q237
          go_wp2_with (first|((with_reducible refine gate_dst (N:=8) rfl ?_);refine box_event ?hg (N:=8) ?hd (cs:= #[.int .i64 0,.int .i64 0,.int .i64 0]) (t:=79) ?hr ?_;(case hd=>rfl);(case hg=>rfl);(case hr=>first|(go_simp;done)|(go_simp;rfl));intro gb238 hg w13 hbox hb;have n0_:=Aside0.mk (below_step (zb0 HB) hb);have n1_:=Aside0.mk (hbox);have n2_:=Aside0.mk ((by rw [hg];exact(below_size (zb0 HB)):w.heap.size≤gb238));have n3_:=Aside0.mk ((by rw [hg];exact(below_size (zb0 HB)):w.heap.size≤gb238));clear HB;have HB:=n0_;have BK238:=n1_;have GW238:=n2_;have GE238:=n3_;clear n0_ n1_ n2_ n3_;clear hb hbox hg;have hcz14_0:w13.cell? ⟨gb238,0,none⟩=some (.int .i64 0):=(blk_cell BK238.out 0).trans rfl;have hcz14_1:w13.cell? ⟨gb238,1,none⟩=some (.int .i64 0):=(blk_cell BK238.out 1).trans rfl;have hcz14_2:w13.cell? ⟨gb238,2,none⟩=some (.int .i64 0):=(blk_cell BK238.out 2).trans rfl;have hfz14_0:=blk_frozen BK238.out 0;have hfz14_1:=blk_frozen BK238.out 1;have hfz14_2:=blk_frozen BK238.out 2))
          go_ret
          exact⟨by first|rfl|(simp [errW_none,errW_some]<;>rfl)|(simp [*,errW_none,errW_some]<;>rfl),by repeat(first|(with_reducible first|exact HB.out|apply below_alloc|apply pw_below_drewN|apply below_drew1|refine below_set ?_ GE238.out)|exact HB.out)⟩
         ·rw [if_neg c12] at H
          have c12b0:(((rd_T79 l0 x11_1).f1)==a1)=false:=beq_eq_false_iff_ne.mpr c12
          have c12b1:(((rd_T79 l0 x11_1).f1) !=a1)=true:=bne_iff_ne.mpr c12
          have H':=Aside0.mk H
          clear H
          have p237: 0≤ (x11_1:Int):=of_decide_eq_true zq1
          have q237:x11_1< (l0.length:Int):=of_decide_eq_true zq1
          obtain⟨ad237,e237,hx237_0,hx237_1,hx237_2⟩:=at_T79 HR0.out x11_1 p237 q237
          cases e237
          replace hx237_0:=(HB.out.cell (World.block_lt_of_cell? w _ hx237_0)).trans hx237_0
          replace hx237_1:=(HB.out.cell (World.block_lt_of_cell? w _ hx237_1)).trans hx237_1
          replace hx237_2:=(HB.out.cell (World.block_lt_of_cell? w _ hx237_2)).trans hx237_2
          replace p237:=eq_true p237
          replace q237:=eq_true q237
          go_wp2_with (first|((with_reducible refine gate_dst (N:=8) rfl ?_);refine box_event ?hg (N:=8) ?hd (cs:= #[.int .i64 0,.int .i64 0,.int .i64 0]) (t:=79) ?hr ?_;(case hd=>rfl);(case hg=>rfl);(case hr=>first|(go_simp;done)|(go_simp;rfl));intro gb238 hg w15 hbox hb;have n0_:=Aside0.mk (below_step (zb0 HB) hb);have n1_:=Aside0.mk (hbox);have n2_:=Aside0.mk ((by rw [hg];exact(below_size (zb0 HB)):w.heap.size≤gb238));have n3_:=Aside0.mk ((by rw [hg];exact(below_size (zb0 HB)):w.heap.size≤gb238));clear HB;have HB:=n0_;have BK238:=n1_;have GW238:=n2_;have GE238:=n3_;clear n0_ n1_ n2_ n3_;clear hb hbox hg;have hcz16_0:w15.cell? ⟨gb238,0,none⟩=some (.int .i64 0):=(blk_cell BK238.out 0).trans rfl;have hcz16_1:w15.cell? ⟨gb238,1,none⟩=some (.int .i64 0):=(blk_cell BK238.out 1).trans rfl;have hcz16_2:w15.cell? ⟨gb238,2,none⟩=some (.int .i64 0):=(blk_cell BK238.out 2).trans rfl;have hfz16_0:=blk_frozen BK238.out 0;have hfz16_1:=blk_frozen BK238.out 1;have hfz16_2:=blk_frozen BK238.out 2))
          go_roundg k1
          case measure=>have:=HK1.out;omega
          case rel=>exact⟨(wrap64 (x11_1+1)),(by first|rfl|(simp;done)|(simp [*];done)),H',⟨by have:=HK1.out;omega⟩,⟨by repeat(first|(with_reducible first|exact HB.out|apply below_alloc|apply pw_below_drewN|apply below_drew1|refine below_set ?_ GE238.out)|exact HB.out)⟩⟩
        ·rw [if_neg c11] at H
         have c11b0:(((rd_T79 l0 x11_1).f0)==a2)=false:=beq_eq_false_iff_ne.mpr c11
         have c11b1:(((rd_T79 l0 x11_1).f0) !=a2)=true:=bne_iff_ne.mpr c11
         have H':=Aside0.mk H
         clear H
         have p237: 0≤ (x11_1:Int):=of_decide_eq_true zq1
         have q237:x11_1< (l0.length:Int):=of_decide_eq_true zq1
         obtain⟨ad237,e237,hx237_0,hx237_1,hx237_2⟩:=at_T79 HR0.out x11_1 p237 q237
         cases e237
         replace hx237_0:=(HB.out.cell (World.block_lt_of_cell? w _ hx237_0)).trans hx237_0
         replace hx237_1:=(HB.out.cell (World.block_lt_of_cell? w _ hx237_1)).trans hx237_1
         replace hx237_2:=(HB.out.cell (World.block_lt_of_cell? w _ hx237_2)).trans hx237_2
         replace p237:=eq_true p237
         replace q237:=eq_true q237
         go_wp2_with (first|((with_reducible refine gate_dst (N:=8) rfl ?_);refine box_event ?hg (N:=8) ?hd (cs:= #[.int .i64 0,.int .i64 0,.int .i64 0]) (t:=79) ?hr ?_;(case hd=>rfl);(case hg=>rfl);(case hr=>first|(go_simp;done)|(go_simp;rfl));intro gb238 hg w17 hbox hb;have n0_:=Aside0.mk (below_step (zb0 HB) hb);have n1_:=Aside0.mk (hbox);have n2_:=Aside0.mk ((by rw [hg];exact(below_size (zb0 HB)):w.heap.size≤gb238));have n3_:=Aside0.mk ((by rw [hg];exact(below_size (zb0 HB)):w.heap.size≤gb238));clear HB;have HB:=n0_;have BK238:=n1_;have GW238:=n2_;have GE238:=n3_;clear n0_ n1_ n2_ n3_;clear hb hbox hg;have hcz18_0:w17.cell? ⟨gb238,0,none⟩=some (.int .i64 0):=(blk_cell BK238.out 0).trans rfl;have hcz18_1:w17.cell? ⟨gb238,1,none⟩=some (.int .i64 0):=(blk_cell BK238.out 1).trans rfl;have hcz18_2:w17.cell? ⟨gb238,2,none⟩=some (.int .i64 0):=(blk_cell BK238.out 2).trans rfl;have hfz18_0:=blk_frozen BK238.out 0;have hfz18_1:=blk_frozen BK238.out 1;have hfz18_2:=blk_frozen BK238.out 2))
         go_roundg k1
         case measure=>have:=HK1.out;omega
         case rel=>exact⟨(wrap64 (x11_1+1)),(by first|rfl|(simp;done)|(simp [*];done)),H',⟨by have:=HK1.out;omega⟩,⟨by repeat(first|(with_reducible first|exact HB.out|apply below_alloc|apply pw_below_drewN|apply below_drew1|refine below_set ?_ GE238.out)|exact HB.out)⟩⟩
      ·rw [if_neg c7] at H
       have c7b0:(((rd_T79 l0 x11_1).f0)==a1)=false:=beq_eq_false_iff_ne.mpr c7
       have c7b1:(((rd_T79 l0 x11_1).f0) !=a1)=true:=bne_iff_ne.mpr c7
       by_cases c19:((rd_T79 l0 x11_1).f0)=a2
       ·rw [if_pos c19] at H
        have c19b0:(((rd_T79 l0 x11_1).f0)==a2)=true:=beq_iff_eq.mpr c19
        have c19b1:(((rd_T79 l0 x11_1).f0) !=a2)=false:=bne_eq_false_iff_eq.mpr c19
        clear c19
        by_cases c20:((rd_T79 l0 x11_1).f1)=a1
        ·rw [if_pos c20] at H
         have c20b0:(((rd_T79 l0 x11_1).f1)==a1)=true:=beq_iff_eq.mpr c20
         have c20b1:(((rd_T79 l0 x11_1).f1) !=a1)=false:=bne_eq_false_iff_eq.mpr c20
         clear c20
         obtain rfl:=Option.some.inj H
         have p237: 0≤ (x11_1:Int):=of_decide_eq_true zq1
         have q237:x11_1< (l0.length:Int):=of_decide_eq_true zq1
         obtain⟨ad237,e237,hx237_0,hx237_1,hx237_2⟩:=at_T79 HR0.out x11_1 p237 q237
         cases e237
         replace hx237_0:=(HB.out.cell (World.block_lt_of_cell? w _ hx237_0)).trans hx237_0
         replace hx237_1:=(HB.out.cell (World.block_lt_of_cell? w _ hx237_1)).trans hx237_1
         replace hx237_2:=(HB.out.cell (World.block_lt_of_cell? w _ hx237_2)).trans hx237_2
         replace p237:=eq_true p237
         replace q237:=eq_true q237
         go_wp2_with (first|((with_reducible refine gate_dst (N:=8) rfl ?_);refine box_event ?hg (N:=8) ?hd (cs:= #[.int .i64 0,.int .i64 0,.int .i64 0]) (t:=79) ?hr ?_;(case hd=>rfl);(case hg=>rfl);(case hr=>first|(go_simp;done)|(go_simp;rfl));intro gb238 hg w21 hbox hb;have n0_:=Aside0.mk (below_step (zb0 HB) hb);have n1_:=Aside0.mk (hbox);have n2_:=Aside0.mk ((by rw [hg];exact(below_size (zb0 HB)):w.heap.size≤gb238));have n3_:=Aside0.mk ((by rw [hg];exact(below_size (zb0 HB)):w.heap.size≤gb238));clear HB;have HB:=n0_;have BK238:=n1_;have GW238:=n2_;have GE238:=n3_;clear n0_ n1_ n2_ n3_;clear hb hbox hg;have hcz22_0:w21.cell? ⟨gb238,0,none⟩=some (.int .i64 0):=(blk_cell BK238.out 0).trans rfl;have hcz22_1:w21.cell? ⟨gb238,1,none⟩=some (.int .i64 0):=(blk_cell BK238.out 1).trans rfl;have hcz22_2:w21.cell? ⟨gb238,2,none⟩=some (.int .i64 0):=(blk_cell BK238.out 2).trans rfl;have hfz22_0:=blk_frozen BK238.out 0;have hfz22_1:=blk_frozen BK238.out 1;have hfz22_2:=blk_frozen BK238.out 2))
         go_ret
         exact⟨by first|rfl|(simp [errW_none,errW_some]<;>rfl)|(simp [*,errW_none,errW_some]<;>rfl),by repeat(first|(with_reducible first|exact HB.out|apply below_alloc|apply pw_below_drewN|apply below_drew1|refine below_set ?_ GE238.out)|exact HB.out)⟩
        ·rw [if_neg c20] at H
         have c20b0:(((rd_T79 l0 x11_1).f1)==a1)=false:=beq_eq_false_iff_ne.mpr c20
         have c20b1:(((rd_T79 l0 x11_1).f1) !=a1)=true:=bne_iff_ne.mpr c20
         have H':=Aside0.mk H
         clear H
         have p237: 0≤ (x11_1:Int):=of_decide_eq_true zq1
         have q237:x11_1< (l0.length:Int):=of_decide_eq_true zq1
         obtain⟨ad237,e237,hx237_0,hx237_1,hx237_2⟩:=at_T79 HR0.out x11_1 p237 q237
         cases e237
         replace hx237_0:=(HB.out.cell (World.block_lt_of_cell? w _ hx237_0)).trans hx237_0
         replace hx237_1:=(HB.out.cell (World.block_lt_of_cell? w _ hx237_1)).trans hx237_1
         replace hx237_2:=(HB.out.cell (World.block_lt_of_cell? w _ hx237_2)).trans hx237_2
         replace p237:=eq_true p237
         replace q237:=eq_true q237
         go_wp2_with (first|((with_reducible refine gate_dst (N:=8) rfl ?_);refine box_event ?hg (N:=8) ?hd (cs:= #[.int .i64 0,.int .i64 0,.int .i64 0]) (t:=79) ?hr ?_;(case hd=>rfl);(case hg=>rfl);(case hr=>first|(go_simp;done)|(go_simp;rfl));intro gb238 hg w23 hbox hb;have n0_:=Aside0.mk (below_step (zb0 HB) hb);have n1_:=Aside0.mk (hbox);have n2_:=Aside0.mk ((by rw [hg];exact(below_size (zb0 HB)):w.heap.size≤gb238));have n3_:=Aside0.mk ((by rw [hg];exact(below_size (zb0 HB)):w.heap.size≤gb238));clear HB;have HB:=n0_;have BK238:=n1_;have GW238:=n2_;have GE238:=n3_;clear n0_ n1_ n2_ n3_;clear hb hbox hg;have hcz24_0:w23.cell? ⟨gb238,0,none⟩=some (.int .i64 0):=(blk_cell BK238.out 0).trans rfl;have hcz24_1:w23.cell? ⟨gb238,1,none⟩=some (.int .i64 0):=(blk_cell BK238.out 1).trans rfl;have hcz24_2:w23.cell? ⟨gb238,2,none⟩=some (.int .i64 0):=(blk_cell BK238.out 2).trans rfl;have hfz24_0:=blk_frozen BK238.out 0;have hfz24_1:=blk_frozen BK238.out 1;have hfz24_2:=blk_frozen BK238.out 2))
         go_roundg k1
         case measure=>have:=HK1.out;omega
         case rel=>exact⟨(wrap64 (x11_1+1)),(by first|rfl|(simp;done)|(simp [*];done)),H',⟨by have:=HK1.out;omega⟩,⟨by repeat(first|(with_reducible first|exact HB.out|apply below_alloc|apply pw_below_drewN|apply below_drew1|refine below_set ?_ GE238.out)|exact HB.out)⟩⟩
       ·rw [if_neg c19] at H
        have c19b0:(((rd_T79 l0 x11_1).f0)==a2)=false:=beq_eq_false_iff_ne.mpr c19
        have c19b1:(((rd_T79 l0 x11_1).f0) !=a2)=true:=bne_iff_ne.mpr c19
        have H':=Aside0.mk H
        clear H
        have p237: 0≤ (x11_1:Int):=of_decide_eq_true zq1
        have q237:x11_1< (l0.length:Int):=of_decide_eq_true zq1
        obtain⟨ad237,e237,hx237_0,hx237_1,hx237_2⟩:=at_T79 HR0.out x11_1 p237 q237
        cases e237
        replace hx237_0:=(HB.out.cell (World.block_lt_of_cell? w _ hx237_0)).trans hx237_0
        replace hx237_1:=(HB.out.cell (World.block_lt_of_cell? w _ hx237_1)).trans hx237_1
        replace hx237_2:=(HB.out.cell (World.block_lt_of_cell? w _ hx237_2)).trans hx237_2
        replace p237:=eq_true p237
        replace q237:=eq_true q237
        go_wp2_with (first|((with_reducible refine gate_dst (N:=8) rfl ?_);refine box_event ?hg (N:=8) ?hd (cs:= #[.int .i64 0,.int .i64 0,.int .i64 0]) (t:=79) ?hr ?_;(case hd=>rfl);(case hg=>rfl);(case hr=>first|(go_simp;done)|(go_simp;rfl));intro gb238 hg w25 hbox hb;have n0_:=Aside0.mk (below_step (zb0 HB) hb);have n1_:=Aside0.mk (hbox);have n2_:=Aside0.mk ((by rw [hg];exact(below_size (zb0 HB)):w.heap.size≤gb238));have n3_:=Aside0.mk ((by rw [hg];exact(below_size (zb0 HB)):w.heap.size≤gb238));clear HB;have HB:=n0_;have BK238:=n1_;have GW238:=n2_;have GE238:=n3_;clear n0_ n1_ n2_ n3_;clear hb hbox hg;have hcz26_0:w25.cell? ⟨gb238,0,none⟩=some (.int .i64 0):=(blk_cell BK238.out 0).trans rfl;have hcz26_1:w25.cell? ⟨gb238,1,none⟩=some (.int .i64 0):=(blk_cell BK238.out 1).trans rfl;have hcz26_2:w25.cell? ⟨gb238,2,none⟩=some (.int .i64 0):=(blk_cell BK238.out 2).trans rfl;have hfz26_0:=blk_frozen BK238.out 0;have hfz26_1:=blk_frozen BK238.out 1;have hfz26_2:=blk_frozen BK238.out 2))
        go_roundg k1
        case measure=>have:=HK1.out;omega
        case rel=>exact⟨(wrap64 (x11_1+1)),(by first|rfl|(simp;done)|(simp [*];done)),H',⟨by have:=HK1.out;omega⟩,⟨by repeat(first|(with_reducible first|exact HB.out|apply below_alloc|apply pw_below_drewN|apply below_drew1|refine below_set ?_ GE238.out)|exact HB.out)⟩⟩
     ·rw [if_neg c6] at H
      exact absurd H (by simp)
    ·rw [if_neg c5] at H
     exact absurd H (by simp)
   ·rw [if_neg c4] at H
    have c4b0:decide (x11_1< (l0.length:Int))=false:=decide_eq_false c4
    clear c4
    obtain rfl:=Option.some.inj H
    go_wp2
    go_ret
    exact⟨by first|rfl|(simp [errW_none,errW_some]<;>rfl)|(simp [*,errW_none,errW_some]<;>rfl),by repeat(first|(with_reducible first|exact HB.out|apply below_alloc|apply pw_below_drewN|apply below_drew1)|exact HB.out)⟩
end Go.Proofs.Ytedegfbheihopaa.P

namespace Go.Proofs.Ytedegfbheihopaa.P
open Go.RowKit Go.Proofs.YtedegfbheihopaaW.PrintWords Go.Proofs.YtedegfbheihopaaW.PrintLast Go.Proofs.YtedegfbheihopaaW.PrintMore
attribute [local go_sem] max2_int min2_int max_two min_two max_three min_three max_four min_four   -- for this text's walks alone
set_option linter.unusedVariables false
set_option linter.unusedSimpArgs false
def laws_toEdge.f (a0_0:Int) (a0_1:Int) (a0_2:Int):Option (Int × Int × Int):=some (a0_0,a0_1,a0_2)
theorem zb1 {q p q0:Prop} (b:Aside0 q) (b0:Aside0 q0) (h:q→q0→p:=by intro z z0;repeat(first|(with_reducible first|exact z|apply below_alloc|apply pw_below_drewN|apply below_drew1|refine below_set ?_ z0)|exact z)):p:=h b.out b0.out
theorem zb2 {q p q0 q1:Prop} (b:Aside0 q) (b0:Aside0 q0) (b1:Aside0 q1) (h:q→q0→q1→p:=by intro z z0 z1;repeat(first|(with_reducible first|exact z|apply below_alloc|apply pw_below_drewN|apply below_drew1|refine below_set ?_ z0|refine below_set ?_ z1)|exact z)):p:=h b.out b0.out b1.out
theorem zq3 {q p:Prop} (b:Aside0 q) (h:q→p:=by intro z;(with_reducible repeat(first|refine blk_drewN ?_ _|refine blk_drew ?_ |refine blk_alloc ?_ _));exact z):p:=h b.out
theorem zq4 {q p:Prop} (b:Aside0 q) (h:q→p:=by intro z;(with_reducible repeat(first|apply Kd.R_alloc|apply Kd.R_drewN|apply Kd.R_drew));exact z):p:=h b.out
set_option maxHeartbeats 8000000 in
set_option maxRecDepth 100000 in
theorem laws_toEdge.calls (a0_0:Int) (a0_1:Int) (a0_2:Int) (r1:Int) (r2:Int) (r3:Int) (w:World) (h:laws_toEdge.f a0_0 a0_1 a0_2=some (r1,r2,r3)):
  Calls Try.prog 68 #[.agg #[.int .i64 a0_0,.int .i64 a0_1,.int .i64 a0_2]] w fun e w'=>e= .returned (.agg #[.int .i64 r1,.int .i64 r2,.int .i64 r3])∧Below w.heap.size w w':=by
 have hu81:=Try.underlying81
 have hu79:=Try.underlying79
 have HB:=Aside0.mk (Below.refl w.heap.size w)
 have H:(some (a0_0,a0_1,a0_2))=some (r1,r2,r3):=h
 clear h
 simp only [Option.some.injEq,Prod.mk.injEq] at H
 obtain⟨rfl,rfl,rfl⟩:=H
 go_enter Try.func68,Try.ntmps68
 go_wp2_with (first|((with_reducible refine gate_dst (N:=1) rfl ?_);refine box_event ?hg (N:=1) ?hd (cs:= #[.int .i64 a0_0,.int .i64 a0_1,.int .i64 a0_2]) (t:=81) ?hr ?_;(case hd=>rfl);(case hg=>rfl);(case hr=>first|(go_simp;done)|(go_simp;rfl));intro gb243 hg w2 hbox hb;have n0_:=Aside0.mk (below_step (zb0 HB) hb);have n1_:=Aside0.mk (hbox);have n2_:=Aside0.mk ((by rw [hg];exact(below_size (zb0 HB)):w.heap.size≤gb243));have n3_:=Aside0.mk ((by rw [hg];exact(below_size (zb0 HB)):w.heap.size≤gb243));clear HB;have HB:=n0_;have BK243:=n1_;have GW243:=n2_;have GE243:=n3_;clear n0_ n1_ n2_ n3_;clear hb hbox hg)|((with_reducible refine gate_dst (N:=2) rfl ?_);refine box_event ?hg (N:=2) ?hd (cs:= #[.int .i64 0,.int .i64 0,.int .i64 0]) (t:=79) ?hr ?_;(case hd=>rfl);(case hg=>rfl);(case hr=>first|(go_simp;done)|(go_simp;rfl));intro gb244 hg w3 hbox hb;have n0_:=Aside0.mk (blk_below (g:=gb243) (o:= .cells #[.int .i64 a0_0,.int .i64 a0_1,.int .i64 a0_2] 81 (0,0)) (zq3 BK243) hb);have n1_:=Aside0.mk (below_step (zb1 HB GE243) hb);have n2_:=Aside0.mk (hbox);have n3_:=Aside0.mk ((by rw [hg];exact(below_size (zb1 HB GE243)):w.heap.size≤gb244));have n4_:=Aside0.mk ((by rw [hg];exact(below_size (zb1 HB GE243)):w.heap.size≤gb244));have n5_:=Aside0.mk ((by rw [hg];exact Nat.ne_of_lt (blk_lt (g:=gb243) (o:= .cells #[.int .i64 a0_0,.int .i64 a0_1,.int .i64 a0_2] 81 (0,0)) (zq3 BK243)):gb243≠gb244));have n6_:=Aside0.mk ((by rw [hg];exact Nat.ne_of_gt (blk_lt (g:=gb243) (o:= .cells #[.int .i64 a0_0,.int .i64 a0_1,.int .i64 a0_2] 81 (0,0)) (zq3 BK243)):gb244≠gb243));clear BK243;clear HB;have BK243:=n0_;have HB:=n1_;have BK244:=n2_;have GW244:=n3_;have GE244:=n4_;have NB243_244:=n5_;have NB244_243:=n6_;clear n0_ n1_ n2_ n3_ n4_ n5_ n6_;clear hb hbox hg)|((with_reducible refine gate_dst (N:=3) rfl ?_);refine box_event ?hg (N:=3) ?hd (cs:= #[.int .i64 0,.int .i64 0,.int .i64 0]) (t:=79) ?hr ?_;(case hd=>rfl);(case hg=>rfl);(case hr=>first|(go_simp;done)|(go_simp;rfl));intro gb245 hg w4 hbox hb;have n0_:=Aside0.mk (blk_below (g:=gb243) (o:= .cells #[.int .i64 a0_0,.int .i64 a0_1,.int .i64 a0_2] 81 (0,0)) (zq3 BK243) hb);have n1_:=Aside0.mk (blk_below (g:=gb244) (o:= .cells #[.int .i64 0,.int .i64 0,.int .i64 0] 79 (0,0)) (zq3 BK244) hb);have n2_:=Aside0.mk (below_step (zb2 HB GE243 GE244) hb);have n3_:=Aside0.mk (hbox);have n4_:=Aside0.mk ((by rw [hg];exact(below_size (zb2 HB GE243 GE244)):w.heap.size≤gb245));have n5_:=Aside0.mk ((by rw [hg];exact(below_size (zb2 HB GE243 GE244)):w.heap.size≤gb245));have n6_:=Aside0.mk ((by rw [hg];exact Nat.ne_of_lt (blk_lt (g:=gb243) (o:= .cells #[.int .i64 a0_0,.int .i64 a0_1,.int .i64 a0_2] 81 (0,0)) (zq3 BK243)):gb243≠gb245));have n7_:=Aside0.mk ((by rw [hg];exact Nat.ne_of_gt (blk_lt (g:=gb243) (o:= .cells #[.int .i64 a0_0,.int .i64 a0_1,.int .i64 a0_2] 81 (0,0)) (zq3 BK243)):gb245≠gb243));have n8_:=Aside0.mk ((by rw [hg];exact Nat.ne_of_lt (blk_lt (g:=gb244) (o:= .cells #[.int .i64 0,.int .i64 0,.int .i64 0] 79 (0,0)) (zq3 BK244)):gb244≠gb245));have n9_:=Aside0.mk ((by rw [hg];exact Nat.ne_of_gt (blk_lt (g:=gb244) (o:= .cells #[.int .i64 0,.int .i64 0,.int .i64 0] 79 (0,0)) (zq3 BK244)):gb245≠gb244));clear BK243;clear BK244;clear HB;have BK243:=n0_;have BK244:=n1_;have HB:=n2_;have BK245:=n3_;have GW245:=n4_;have GE245:=n5_;have NB243_245:=n6_;have NB245_243:=n7_;have NB244_245:=n8_;have NB245_244:=n9_;clear n0_ n1_ n2_ n3_ n4_ n5_ n6_ n7_ n8_ n9_;clear hb hbox hg;have hnb5:=NB243_244.out;have hnc5:=NB244_243.out;have hnb6:=NB243_245.out;have hnc6:=NB245_243.out;have hcz7_0:w4.cell? ⟨gb243,0,none⟩=some (.int .i64 a0_0):=(blk_cell BK243.out 0).trans rfl;have hcz7_1:w4.cell? ⟨gb243,1,none⟩=some (.int .i64 a0_1):=(blk_cell BK243.out 1).trans rfl;have hcz7_2:w4.cell? ⟨gb243,2,none⟩=some (.int .i64 a0_2):=(blk_cell BK243.out 2).trans rfl;have hfz7_0:=blk_frozen BK243.out 0;have hfz7_1:=blk_frozen BK243.out 1;have hfz7_2:=blk_frozen BK243.out 2;have hnb8:=NB245_244.out;have hnc8:=NB244_245.out;have hcz9_0:w4.cell? ⟨gb245,0,none⟩=some (.int .i64 0):=(blk_cell BK245.out 0).trans rfl;have hcz9_1:w4.cell? ⟨gb245,1,none⟩=some (.int .i64 0):=(blk_cell BK245.out 1).trans rfl;have hcz9_2:w4.cell? ⟨gb245,2,none⟩=some (.int .i64 0):=(blk_cell BK245.out 2).trans rfl;have hfz9_0:=blk_frozen BK245.out 0;have hfz9_1:=blk_frozen BK245.out 1;have hfz9_2:=blk_frozen BK245.out 2;have hcz10_0:w4.cell? ⟨gb244,0,none⟩=some (.int .i64 0):=(blk_cell BK244.out 0).trans rfl;have hcz10_1:w4.cell? ⟨gb244,1,none⟩=some (.int .i64 0):=(blk_cell BK244.out 1).trans rfl;have hcz10_2:w4.cell? ⟨gb244,2,none⟩=some (.int .i64 0):=(blk_cell BK244.out 2).trans rfl;have hfz10_0:=blk_frozen BK244.out 0;have hfz10_1:=blk_frozen BK244.out 1;have hfz10_2:=blk_frozen BK244.out 2))
 refine bodyPost_ret (results_cell_row rfl _ _ gb244 79 #[.int .i64 a0_0,.int .i64 a0_1,.int .i64 a0_2] (0,0) _ rfl (by(with_reducible repeat(first|refine blk_drewN ?_ _|refine blk_drew ?_ |refine blk_alloc ?_ _));refine blk_put (cs:= #[.int .i64 a0_0,.int .i64 a0_1,.int .i64 0]) ?_ 2 _ rfl;(with_reducible repeat(first|refine blk_drewN ?_ _|refine blk_drew ?_ |refine blk_alloc ?_ _));refine blk_put (cs:= #[.int .i64 a0_0,.int .i64 0,.int .i64 0]) ?_ 1 _ rfl;(with_reducible repeat(first|refine blk_drewN ?_ _|refine blk_drew ?_ |refine blk_alloc ?_ _));refine blk_put (cs:= #[.int .i64 0,.int .i64 0,.int .i64 0]) ?_ 0 _ rfl;(with_reducible repeat(first|refine blk_drewN ?_ _|refine blk_drew ?_ |refine blk_alloc ?_ _));refine blk_far ?_ NB244_245.out _;(with_reducible repeat(first|refine blk_drewN ?_ _|refine blk_drew ?_ |refine blk_alloc ?_ _));refine blk_far ?_ NB244_245.out _;(with_reducible repeat(first|refine blk_drewN ?_ _|refine blk_drew ?_ |refine blk_alloc ?_ _));refine blk_far ?_ NB244_245.out _;(with_reducible repeat(first|refine blk_drewN ?_ _|refine blk_drew ?_ |refine blk_alloc ?_ _));exact BK244.out) Try.underlying79 rfl (by kernel_rfl)) rfl ?_
 exact⟨by first|rfl|(simp [errW_none,errW_some]<;>rfl)|(simp [*,errW_none,errW_some]<;>rfl),by repeat(first|(with_reducible first|exact HB.out|apply below_alloc|apply pw_below_drewN|apply below_drew1|refine below_set ?_ GE243.out|refine below_set ?_ GE244.out|refine below_set ?_ GE245.out)|exact HB.out)⟩
def laws_toEdgeS.l0:Nat→List (S81)→List (S79)→Int→Option ((List (S79)))
 | 0,_,_,_=>none
 |k+1,x0,x3,x4=>if x4< (x0.length:Int) then(if 0≤x4 then((laws_toEdge.f ((rd_T81 x0 x4).f0) ((rd_T81 x0 x4).f1) ((rd_T81 x0 x4).f2)).bind fun bt250=>(if x4< (x3.length:Int) then(laws_toEdgeS.l0 k x0 (x3.set (x4:Int).toNat (⟨bt250.1,bt250.2.1,bt250.2.2⟩ :S79)) (wrap64 (x4+1))) else(none))) else(none)) else(some x3)
def laws_toEdgeS.f (k:Nat) (l0:List (S81)):Option ((List (S79))):=if 0≤ (l0.length:Int) then(if ((l0.length:Int):Int).toNat≤11728124029610 then(laws_toEdgeS.l0 k l0 (List.replicate ((l0.length:Int):Int).toNat z79) 0) else(none)) else(none)
set_option maxHeartbeats 8000000 in
set_option maxRecDepth 100000 in
theorem laws_toEdgeS.calls (k:Nat) (A0:Option Addr) (c0:Nat) (l0:List (S81)) (r:List (S79)) (w:World) (hr0:Kd.C k81 w A0 l0.length l0) (hc0:l0.length≤c0) (h:laws_toEdgeS.f k l0=some r):
  Calls Try.prog 25 #[.slice A0 l0.length c0] w fun e w'=> ∃ v0_:Value,e= .returned (v0_)∧Kd.R k79 79 w' w.heap.size (fun _=>True) v0_ r∧Below w.heap.size w w':=by
 have hu81:=Try.underlying81
 have hu79:=Try.underlying79
 have HR0:=Aside0.mk hr0
 have HC0:=Aside0.mk hc0
 clear hr0 hc0
 have HB:=Aside0.mk (Below.refl w.heap.size w)
 have H:(if 0≤ (l0.length:Int) then(if ((l0.length:Int):Int).toNat≤11728124029610 then(laws_toEdgeS.l0 k l0 (List.replicate ((l0.length:Int):Int).toNat z79) 0) else(none)) else(none))=some r:=h
 clear h
 by_cases c2: 0≤ (l0.length:Int)
 ·rw [if_pos c2] at H
  have c2b0:=eq_true c2
  have c2b1:decide (0≤ (l0.length:Int))=true:=decide_eq_true c2
  clear c2
  by_cases c3:((l0.length:Int):Int).toNat≤11728124029610
  ·rw [if_pos c3] at H
   have c3b0:=eq_true c3
   have c3b1:decide (((l0.length:Int):Int).toNat≤11728124029610)=true:=decide_eq_true c3
   clear c3
   obtain⟨y246,hy246⟩ :∃ y_:List (S79),y_= (List.replicate ((l0.length:Int):Int).toNat z79):=⟨_,rfl⟩
   replace H:(laws_toEdgeS.l0 k l0 y246 0)=some r:=by first|(rw [hy246];with_reducible exact H)|(have H2_:=(Option.bind_some _ _).symm.trans H;rw [hy246];with_reducible exact H2_)|(have H2_:=(Option.bind_some _ _).symm.trans H;with_reducible exact H2_)|with_reducible exact H|(rw [hy246];exact H)|exact H
   have Ny246:=Aside0.mk hy246
   clear hy246
   have H':=Aside0.mk H
   clear H
   go_enter Try.func25,Try.ntmps25
   go_wp2_with (first|((with_reducible refine gate_dst (N:=7) rfl ?_);refine Kd.R_make k79 _ 79 rfl (N:=7) rfl 35 _ _ rfl (l0.length:Int) rfl rfl Try.underlying35 (.agg #[(.int .i64 0),(.int .i64 0),(.int .i64 0)]) 24 info79 rfl (by decide) (by omega) z79 (ok:=fun _=>True) (okp:=fun _=>True) (k79_mkM _ _ _ z79 ) (fun _ hk=>hk) trivial (of_decide_eq_true zq1) (Nat.le_trans (Nat.mul_le_mul_right _ (of_decide_eq_true zq1:(l0.length:Int).toNat≤11728124029610)) (by omega)) (Below.refl _ _) (Nat.le_refl _) ?_;intro v247 w4 ho5 hb hg_ hnew_;clear hg_ hnew_;(first|rw [← Ny246.out] at ho5|(simp only [Int.reduceToNat] at ho5;rw [← Ny246.out] at ho5));have n0_:=Aside0.mk (Kd.R_lower ho5 (below_size (zb0 HB)));have n1_:=Aside0.mk (below_step (zb0 HB) hb);clear HB;have HO248:=n0_;have HB:=n1_;clear n0_ n1_;clear hb ho5))
   go_loopg [4] k (fun kq v4 w'=> ∃ (x3_1:List (S79)) (x4_1:Int),v4= .int .i64 x4_1∧Aside0 (laws_toEdgeS.l0 kq l0 x3_1 x4_1=some r)∧Aside0 (kq≤k)∧Aside0 (Kd.R k79 79 w' w.heap.size (fun _=>True) v247 x3_1)∧Aside0 (Below w.heap.size w w'))
   case atStart=>exact⟨(y246),(0),(by first|rfl|(simp;done)|(simp [*];done)),H',⟨Nat.le_refl _⟩,⟨by(with_reducible repeat(first|apply Kd.R_alloc|apply Kd.R_drewN|apply Kd.R_drew));exact HO248.out⟩,⟨by repeat(first|(with_reducible first|exact HB.out|apply below_alloc|apply pw_below_drewN|apply below_drew1)|exact HB.out)⟩⟩
   case round=>
    clear H'
    try clear c2
    try clear c2b0
    try clear c2b1
    try clear p2
    try clear c3
    try clear c3b0
    try clear c3b1
    obtain⟨x3_1,x4_1,rfl,HA,HK1,HO_3,HB⟩:=hrel
    cases gk with
    |zero=>exact absurd HA.out (by simp [laws_toEdgeS.l0])
    |succ k1=>
     have H:=HA.out
     clear HA
     simp only [laws_toEdgeS.l0] at H
     by_cases c6:x4_1< (l0.length:Int)
     ·rw [if_pos c6] at H
      have c6b0:decide (x4_1< (l0.length:Int))=true:=decide_eq_true c6
      clear c6
      by_cases c7: 0≤x4_1
      ·rw [if_pos c7] at H
       have c7b0:decide (0≤x4_1)=true:=decide_eq_true c7
       clear c7
       replace H:=Option.bind_eq_some_iff.mp H
       obtain⟨⟨t250,t251,t252⟩,A80,H⟩:=H
       replace H:(if x4_1< (x3_1.length:Int) then(laws_toEdgeS.l0 k1 l0 (x3_1.set (x4_1:Int).toNat (⟨t250,t251,t252⟩ :S79)) (wrap64 (x4_1+1))) else(none))=some r:=H
       have A8:=Aside0.mk A80
       clear A80
       by_cases c9:x4_1< (x3_1.length:Int)
       ·rw [if_pos c9] at H
        have c9b0:decide (x4_1< (x3_1.length:Int))=true:=decide_eq_true c9
        clear c9
        obtain⟨y253,hy253⟩ :∃ y_:List (S79),y_= (x3_1.set (x4_1:Int).toNat (⟨t250,t251,t252⟩ :S79)):=⟨_,rfl⟩
        replace H:(laws_toEdgeS.l0 k1 l0 y253 (wrap64 (x4_1+1)))=some r:=by first|(rw [hy253];with_reducible exact H)|(have H2_:=(Option.bind_some _ _).symm.trans H;rw [hy253];with_reducible exact H2_)|(have H2_:=(Option.bind_some _ _).symm.trans H;with_reducible exact H2_)|with_reducible exact H|(rw [hy253];exact H)|exact H
        have Ny253:=Aside0.mk hy253
        clear hy253
        have H':=Aside0.mk H
        clear H
        have p249: 0≤ (x4_1:Int):=of_decide_eq_true zq1
        have q249:x4_1< (l0.length:Int):=of_decide_eq_true zq1
        obtain⟨ad249,e249,hx249_0,hx249_1,hx249_2⟩:=at_T81 HR0.out x4_1 p249 q249
        cases e249
        replace hx249_0:=(HB.out.cell (World.block_lt_of_cell? w _ hx249_0)).trans hx249_0
        replace hx249_1:=(HB.out.cell (World.block_lt_of_cell? w _ hx249_1)).trans hx249_1
        replace hx249_2:=(HB.out.cell (World.block_lt_of_cell? w _ hx249_2)).trans hx249_2
        replace p249:=eq_true p249
        replace q249:=eq_true q249
        go_wp2_with (first|((with_reducible refine gate_callee (f:=68) rfl ?_);refine goesL_ (some 20) rfl rfl Try.func68 (by kernel_rfl) rfl #[.agg #[.int .i64 ((rd_T81 l0 x4_1).f0),.int .i64 ((rd_T81 l0 x4_1).f1),.int .i64 ((rd_T81 l0 x4_1).f2)]] rfl zq2 ?_;(with_reducible refine(laws_toEdge.calls ((rd_T81 l0 x4_1).f0) ((rd_T81 l0 x4_1).f1) ((rd_T81 l0 x4_1).f2) t250 t251 t252 _ A8.out).mono ?_);rintro e w11 ⟨rfl,hb⟩;refine⟨_,rfl,?_⟩;have n0_:=Aside0.mk (Kd.R_below (zq4 HO_3) hb);have n1_:=Aside0.mk (below_step (zb0 HB) hb);clear HO_3;clear HB;have HO_3:=n0_;have HB:=n1_;clear n0_ n1_;(try clear hb);(try clear hb2);(try clear hk);(try clear hi);have p10: 0≤ (x4_1:Int):=of_decide_eq_true zq1;have q10:(x4_1:Int)< ((x3_1.length:Int):Int):=of_decide_eq_true zq1;obtain⟨go10,co10,eo10,gb10,gl10,cl10,HG10⟩:=Kd.R_form HO_3.out (by omega);(first|cases eo10|(injection eo10 with ea_ en_ ec_;(first|subst ea_|(injection ea_ with ea_;subst ea_));subst ec_;clear en_));have GB10:=Aside0.mk gb10;have GG10:=Aside0.mk HG10;clear gb10 gl10 HG10;obtain⟨ce10,hcl10,hM10,hcc10,hfr10⟩:=Kd.R_elem HO_3.out z79 (x4_1:Int) p10 q10;obtain rfl:=k79_openM hM10;have hx10_0:w11.cell? ⟨go10,(x4_1:Int).toNat * 3,none⟩=some (.int .i64 ((rd_T79 x3_1 x4_1).f0)):=hcc10 0 _ rfl;have hx10_1:w11.cell? ⟨go10,(x4_1:Int).toNat * 3+1,none⟩=some (.int .i64 ((rd_T79 x3_1 x4_1).f1)):=hcc10 1 _ rfl;have hx10_2:w11.cell? ⟨go10,(x4_1:Int).toNat * 3+2,none⟩=some (.int .i64 ((rd_T79 x3_1 x4_1).f2)):=hcc10 2 _ rfl;have hf10_0:w11.frozen? ⟨go10,(x4_1:Int).toNat * 3,none⟩=false:=hfr10 0;have hf10_1:w11.frozen? ⟨go10,(x4_1:Int).toNat * 3+1,none⟩=false:=hfr10 1;have hf10_2:w11.frozen? ⟨go10,(x4_1:Int).toNat * 3+2,none⟩=false:=hfr10 2;clear hcl10 hcc10 hfr10 hM10;replace p10:=eq_true p10;replace q10:=eq_true q10;have HX12:=Aside0.mk (show Kd.R k79 79 w11 w.heap.size (fun _=>True) (.slice (some ⟨go10,0,none⟩) x3_1.length co10) x3_1 from (zq4 HO_3));obtain⟨ce12,hcl12,hM12,hcc12,hfr12⟩:=Kd.R_elem HX12.out z79 (x4_1:Int) (of_decide_eq_true zq1) (by have h_:(x4_1:Int)< ((x3_1.length:Int):Int):=of_decide_eq_true zq1;first|exact h_|(have e_:=(Kd.R_reads' HO_3.out).1;omega)|simpa using h_);obtain rfl:=k79_openM hM12;have HP12:=Kd.R_seg HX12.out (x4_1:Int) (of_decide_eq_true zq1) (by have h_:(x4_1:Int)< ((x3_1.length:Int):Int):=of_decide_eq_true zq1;first|exact h_|(have e_:=(Kd.R_reads' HO_3.out).1;omega)|simpa using h_) (seg:= [.int .i64 t250,.int .i64 t251,.int .i64 t252]) (j:=0) hcl12 hcc12 (show 3≤3 from by decide) (x':=(⟨t250,t251,t252⟩ :S79)) (k79_mkM _ _ _ (⟨t250,t251,t252⟩ :S79) ) (fun _ hk=>hk);have hx12_0:=hcc12 0 _ rfl;(try simp only [show (k79).sz=3 from rfl,Nat.mul_one,Nat.add_zero] at hx12_0);have hf12_0:=hfr12 0;(try simp only [show (k79).sz=3 from rfl,Nat.mul_one,Nat.add_zero] at hf12_0);have hx12_1:=hcc12 1 _ rfl;(try simp only [show (k79).sz=3 from rfl,Nat.mul_one,Nat.add_zero] at hx12_1);have hf12_1:=hfr12 1;(try simp only [show (k79).sz=3 from rfl,Nat.mul_one,Nat.add_zero] at hf12_1);have hx12_2:=hcc12 2 _ rfl;(try simp only [show (k79).sz=3 from rfl,Nat.mul_one,Nat.add_zero] at hx12_2);have hf12_2:=hfr12 2;(try simp only [show (k79).sz=3 from rfl,Nat.mul_one,Nat.add_zero] at hf12_2);clear hcl12 hcc12 hfr12 hM12)|((with_reducible refine gate_store (t:=79) (p:=21) rfl ?_);refine store_event (t:=79) (p:=21) (v:=?vo_w13) (w1:=(((w11.setCell ⟨go10,(x4_1:Int).toNat * 3,none⟩ (.int .i64 t250)).setCell ⟨go10,(x4_1:Int).toNat * 3+1,none⟩ (.int .i64 t251)).setCell ⟨go10,(x4_1:Int).toNat * 3+2,none⟩ (.int .i64 t252))) ?hg ?ho ?hn ?hr ?_;(case ho=>rfl);(case hg=>rfl);(case hn=>rfl);(case hr=>first|(go_simp;done)|(go_simp;rfl));intro w13 hw;have hg:w11.grownBy w13 (some go10):=(by rw [hw];exact HP12.2);have hp_:Kd.R k79 79 w13 w.heap.size (fun _=>True) (.slice (some ⟨go10,0,none⟩) x3_1.length co10) y253:=(by rw [hw,Ny253.out];exact HP12.1);clear HP12;have n0_:=Aside0.mk (hp_);have n1_:=Aside0.mk ((by rw [hw];exact below_set (below_set (below_set (HB.out) GB10.out) GB10.out) GB10.out:Below w.heap.size w w13));clear HO_3;clear HB;have HO_3:=n0_;have HB:=n1_;clear n0_ n1_;clear hg hw hp_))
        go_roundg k1
        case measure=>have:=HK1.out;omega
        case rel=>exact⟨(y253),(wrap64 (x4_1+1)),(by first|rfl|(simp;done)|(simp [*];done)),H',⟨by have:=HK1.out;omega⟩,⟨by(with_reducible repeat(first|apply Kd.R_alloc|apply Kd.R_drewN|apply Kd.R_drew));exact HO_3.out⟩,⟨by repeat(first|(with_reducible first|exact HB.out|apply below_alloc|apply pw_below_drewN|apply below_drew1)|exact HB.out)⟩⟩
       ·rw [if_neg c9] at H
        exact absurd H (by simp)
      ·rw [if_neg c7] at H
       exact absurd H (by simp)
     ·rw [if_neg c6] at H
      have c6b0:decide (x4_1< (l0.length:Int))=false:=decide_eq_false c6
      clear c6
      obtain rfl:=Option.some.inj H
      go_wp2
      go_ret
      exact⟨_,by first|rfl|(simp [errW_none,errW_some]<;>rfl)|(simp [*,errW_none,errW_some]<;>rfl),by(with_reducible repeat(first|apply Kd.R_alloc|apply Kd.R_drewN|apply Kd.R_drew));exact HO_3.out,by repeat(first|(with_reducible first|exact HB.out|apply below_alloc|apply pw_below_drewN|apply below_drew1)|exact HB.out)⟩
  ·rw [if_neg c3] at H
   exact absurd H (by simp)
 ·rw [if_neg c2] at H
  exact absurd H (by simp)
def impl_byEnds.f (a0_0:Int) (a0_1:Int) (a0_2:Int) (a1_0:Int) (a1_1:Int) (a1_2:Int):Option (Int):=if a0_0=a1_0 then(some (wrap64 (a0_1 - a1_1))) else(some (wrap64 (a0_0 - a1_0)))
set_option maxHeartbeats 8000000 in
set_option maxRecDepth 100000 in
theorem impl_byEnds.calls (a0_0:Int) (a0_1:Int) (a0_2:Int) (a1_0:Int) (a1_1:Int) (a1_2:Int) (r:Int) (w:World) (h:impl_byEnds.f a0_0 a0_1 a0_2 a1_0 a1_1 a1_2=some r):
  Calls Try.prog 93 #[.agg #[.int .i64 a0_0,.int .i64 a0_1,.int .i64 a0_2],.agg #[.int .i64 a1_0,.int .i64 a1_1,.int .i64 a1_2]] w fun e w'=>e= .returned (.int .i64 r)∧Below w.heap.size w w':=by
 have hu79:=Try.underlying79
 have HB:=Aside0.mk (Below.refl w.heap.size w)
 have H:(if a0_0=a1_0 then(some (wrap64 (a0_1 - a1_1))) else(some (wrap64 (a0_0 - a1_0))))=some r:=h
 clear h
 by_cases c3:a0_0=a1_0
 ·rw [if_pos c3] at H
  have c3b0:(a0_0==a1_0)=true:=beq_iff_eq.mpr c3
  have c3b1:(a0_0 !=a1_0)=false:=bne_eq_false_iff_eq.mpr c3
  clear c3
  obtain rfl:=Option.some.inj H
  go_enter Try.func93,Try.ntmps93
  go_wp2_with (first|((with_reducible refine gate_dst (N:=2) rfl ?_);refine box_event ?hg (N:=2) ?hd (cs:= #[.int .i64 a0_0,.int .i64 a0_1,.int .i64 a0_2]) (t:=79) ?hr ?_;(case hd=>rfl);(case hg=>rfl);(case hr=>first|(go_simp;done)|(go_simp;rfl));intro gb254 hg w4 hbox hb;have n0_:=Aside0.mk (below_step (zb0 HB) hb);have n1_:=Aside0.mk (hbox);have n2_:=Aside0.mk ((by rw [hg];exact(below_size (zb0 HB)):w.heap.size≤gb254));have n3_:=Aside0.mk ((by rw [hg];exact(below_size (zb0 HB)):w.heap.size≤gb254));clear HB;have HB:=n0_;have BK254:=n1_;have GW254:=n2_;have GE254:=n3_;clear n0_ n1_ n2_ n3_;clear hb hbox hg)|((with_reducible refine gate_dst (N:=3) rfl ?_);refine box_event ?hg (N:=3) ?hd (cs:= #[.int .i64 a1_0,.int .i64 a1_1,.int .i64 a1_2]) (t:=79) ?hr ?_;(case hd=>rfl);(case hg=>rfl);(case hr=>first|(go_simp;done)|(go_simp;rfl));intro gb255 hg w5 hbox hb;have n0_:=Aside0.mk (blk_below (g:=gb254) (o:= .cells #[.int .i64 a0_0,.int .i64 a0_1,.int .i64 a0_2] 79 (0,0)) (zq3 BK254) hb);have n1_:=Aside0.mk (below_step (zb1 HB GE254) hb);have n2_:=Aside0.mk (hbox);have n3_:=Aside0.mk ((by rw [hg];exact(below_size (zb1 HB GE254)):w.heap.size≤gb255));have n4_:=Aside0.mk ((by rw [hg];exact(below_size (zb1 HB GE254)):w.heap.size≤gb255));have n5_:=Aside0.mk ((by rw [hg];exact Nat.ne_of_lt (blk_lt (g:=gb254) (o:= .cells #[.int .i64 a0_0,.int .i64 a0_1,.int .i64 a0_2] 79 (0,0)) (zq3 BK254)):gb254≠gb255));have n6_:=Aside0.mk ((by rw [hg];exact Nat.ne_of_gt (blk_lt (g:=gb254) (o:= .cells #[.int .i64 a0_0,.int .i64 a0_1,.int .i64 a0_2] 79 (0,0)) (zq3 BK254)):gb255≠gb254));clear BK254;clear HB;have BK254:=n0_;have HB:=n1_;have BK255:=n2_;have GW255:=n3_;have GE255:=n4_;have NB254_255:=n5_;have NB255_254:=n6_;clear n0_ n1_ n2_ n3_ n4_ n5_ n6_;clear hb hbox hg;have hnb6:=NB254_255.out;have hnc6:=NB255_254.out;have hcz7_0:w5.cell? ⟨gb254,0,none⟩=some (.int .i64 a0_0):=(blk_cell BK254.out 0).trans rfl;have hcz7_1:w5.cell? ⟨gb254,1,none⟩=some (.int .i64 a0_1):=(blk_cell BK254.out 1).trans rfl;have hcz7_2:w5.cell? ⟨gb254,2,none⟩=some (.int .i64 a0_2):=(blk_cell BK254.out 2).trans rfl;have hfz7_0:=blk_frozen BK254.out 0;have hfz7_1:=blk_frozen BK254.out 1;have hfz7_2:=blk_frozen BK254.out 2;have hcz8_0:w5.cell? ⟨gb255,0,none⟩=some (.int .i64 a1_0):=(blk_cell BK255.out 0).trans rfl;have hcz8_1:w5.cell? ⟨gb255,1,none⟩=some (.int .i64 a1_1):=(blk_cell BK255.out 1).trans rfl;have hcz8_2:w5.cell? ⟨gb255,2,none⟩=some (.int .i64 a1_2):=(blk_cell BK255.out 2).trans rfl;have hfz8_0:=blk_frozen BK255.out 0;have hfz8_1:=blk_frozen BK255.out 1;have hfz8_2:=blk_frozen BK255.out 2))
  go_ret
  exact⟨by first|rfl|(simp [errW_none,errW_some]<;>rfl)|(simp [*,errW_none,errW_some]<;>rfl),by repeat(first|(with_reducible first|exact HB.out|apply below_alloc|apply pw_below_drewN|apply below_drew1|refine below_set ?_ GE254.out|refine below_set ?_ GE255.out)|exact HB.out)⟩
 ·rw [if_neg c3] at H
  have c3b0:(a0_0==a1_0)=false:=beq_eq_false_iff_ne.mpr c3
  have c3b1:(a0_0 !=a1_0)=true:=bne_iff_ne.mpr c3
  obtain rfl:=Option.some.inj H
  go_enter Try.func93,Try.ntmps93
  go_wp2_with (first|((with_reducible refine gate_dst (N:=2) rfl ?_);refine box_event ?hg (N:=2) ?hd (cs:= #[.int .i64 a0_0,.int .i64 a0_1,.int .i64 a0_2]) (t:=79) ?hr ?_;(case hd=>rfl);(case hg=>rfl);(case hr=>first|(go_simp;done)|(go_simp;rfl));intro gb254 hg w9 hbox hb;have n0_:=Aside0.mk (below_step (zb0 HB) hb);have n1_:=Aside0.mk (hbox);have n2_:=Aside0.mk ((by rw [hg];exact(below_size (zb0 HB)):w.heap.size≤gb254));have n3_:=Aside0.mk ((by rw [hg];exact(below_size (zb0 HB)):w.heap.size≤gb254));clear HB;have HB:=n0_;have BK254:=n1_;have GW254:=n2_;have GE254:=n3_;clear n0_ n1_ n2_ n3_;clear hb hbox hg)|((with_reducible refine gate_dst (N:=3) rfl ?_);refine box_event ?hg (N:=3) ?hd (cs:= #[.int .i64 a1_0,.int .i64 a1_1,.int .i64 a1_2]) (t:=79) ?hr ?_;(case hd=>rfl);(case hg=>rfl);(case hr=>first|(go_simp;done)|(go_simp;rfl));intro gb255 hg w10 hbox hb;have n0_:=Aside0.mk (blk_below (g:=gb254) (o:= .cells #[.int .i64 a0_0,.int .i64 a0_1,.int .i64 a0_2] 79 (0,0)) (zq3 BK254) hb);have n1_:=Aside0.mk (below_step (zb1 HB GE254) hb);have n2_:=Aside0.mk (hbox);have n3_:=Aside0.mk ((by rw [hg];exact(below_size (zb1 HB GE254)):w.heap.size≤gb255));have n4_:=Aside0.mk ((by rw [hg];exact(below_size (zb1 HB GE254)):w.heap.size≤gb255));have n5_:=Aside0.mk ((by rw [hg];exact Nat.ne_of_lt (blk_lt (g:=gb254) (o:= .cells #[.int .i64 a0_0,.int .i64 a0_1,.int .i64 a0_2] 79 (0,0)) (zq3 BK254)):gb254≠gb255));have n6_:=Aside0.mk ((by rw [hg];exact Nat.ne_of_gt (blk_lt (g:=gb254) (o:= .cells #[.int .i64 a0_0,.int .i64 a0_1,.int .i64 a0_2] 79 (0,0)) (zq3 BK254)):gb255≠gb254));clear BK254;clear HB;have BK254:=n0_;have HB:=n1_;have BK255:=n2_;have GW255:=n3_;have GE255:=n4_;have NB254_255:=n5_;have NB255_254:=n6_;clear n0_ n1_ n2_ n3_ n4_ n5_ n6_;clear hb hbox hg;have hnb11:=NB254_255.out;have hnc11:=NB255_254.out;have hcz12_0:w10.cell? ⟨gb254,0,none⟩=some (.int .i64 a0_0):=(blk_cell BK254.out 0).trans rfl;have hcz12_1:w10.cell? ⟨gb254,1,none⟩=some (.int .i64 a0_1):=(blk_cell BK254.out 1).trans rfl;have hcz12_2:w10.cell? ⟨gb254,2,none⟩=some (.int .i64 a0_2):=(blk_cell BK254.out 2).trans rfl;have hfz12_0:=blk_frozen BK254.out 0;have hfz12_1:=blk_frozen BK254.out 1;have hfz12_2:=blk_frozen BK254.out 2;have hcz13_0:w10.cell? ⟨gb255,0,none⟩=some (.int .i64 a1_0):=(blk_cell BK255.out 0).trans rfl;have hcz13_1:w10.cell? ⟨gb255,1,none⟩=some (.int .i64 a1_1):=(blk_cell BK255.out 1).trans rfl;have hcz13_2:w10.cell? ⟨gb255,2,none⟩=some (.int .i64 a1_2):=(blk_cell BK255.out 2).trans rfl;have hfz13_0:=blk_frozen BK255.out 0;have hfz13_1:=blk_frozen BK255.out 1;have hfz13_2:=blk_frozen BK255.out 2))
  go_ret
  exact⟨by first|rfl|(simp [errW_none,errW_some]<;>rfl)|(simp [*,errW_none,errW_some]<;>rfl),by repeat(first|(with_reducible first|exact HB.out|apply below_alloc|apply pw_below_drewN|apply below_drew1|refine below_set ?_ GE254.out|refine below_set ?_ GE255.out)|exact HB.out)⟩
end Go.Proofs.Ytedegfbheihopaa.P
