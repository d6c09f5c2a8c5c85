/- Functions, walks and plain lemmas that the law FnLeastTree reaches, part 10. -/
import Derived.Test.YtedegfbheihopaaCFnLeastTree9
import Derived.Below
import Derived.Deep.Draws
import Derived.Deep.AppendLies
import Derived.Maps.AppendAt
import Derived.OwnWalk
import Derived.Laws.BytesArg
import Derived.Laws.MakeOwn
import Derived.Laws.OwnMore
import Derived.Deep.OwnRows
import Derived.Tactics
import Derived.Lib.ConvBytes
import Derived.Laws.Slices
import Derived.WalkKit
import Derived.KernelRfl
import Derived.RowKit3
import Derived.Deep.LoopGhost
import Derived.Deep.QuietTactic
import Derived.BigQuiet
import Derived.WideLaws
import Derived.Deep.DeepCutAuto
import Derived.Deep.CutBlock
import Derived.Deep.RegionHeld3
import Derived.Laws.Rows
import Derived.Lib.AppendStr
import Derived.ArgAppend
import Derived.Laws.IdiomCopy
import Derived.OrdersHeld
import Derived.Laws.BitsLemmas
import Derived.RowKit
import Derived.WalkSpells
import Derived.Lib.SliceRun
import Derived.Shelf.Abstract
import Derived.Maps.OwnSet
import Derived.Maps.OwnOps
import Derived.ProofKit
import Derived.OpenShut
import Derived.ShutString
import Derived.ChangeOld
import Derived.SizedLaws
namespace Go.Proofs.Ytedegfbheihopaa.P
open Go.RowKit Go.Proofs.YtedegfbheihopaaW.PrintWords Go.Proofs.YtedegfbheihopaaW.PrintLast
set_option linter.unusedVariables false
set_option linter.unusedSimpArgs false
def isEdge (m:Int) (x:S79):Bool:=decide (0≤x.f0∧x.f0≤m∧0≤x.f1∧x.f1≤m∧x.f0<x.f1∧1≤x.f2∧x.f2≤100)
def edgeLt (y x:S79):Bool:=decide (y.f0<x.f0∨y.f0=x.f0∧y.f1<x.f1)
def goodEF (m:Int):Option S79→List S79→Bool
 |_,[]=>true
 |none,x::r=>isEdge m x && goodEF m (some x) r
 |some y,x::r=>isEdge m x && (edgeLt y x && goodEF m (some x) r)
def goodE (n:Int) (l:List S79):Bool:=goodEF (wrap64 (n - 1)) none l && (decide (1≤n∧n≤12) && decide (l.length≤40))
theorem isEdge_iff (m:Int) (x:S79):isEdge m x=true↔ (0≤x.f0∧x.f0≤m∧0≤x.f1∧x.f1≤m∧x.f0<x.f1∧1≤x.f2∧x.f2≤100):=by unfold isEdge;simp only [decide_eq_true_eq]
theorem specGoodE_l (n:Int) (suf:List S79):∀ (pre:List S79),(pre.length:Int)+suf.length≤1099511627776→
  Ev (fun k=>spec_GoodEdges.l0 k n (pre++suf) (pre++suf) ((pre++suf).length:Int) (pre.length:Int)) (goodEF (wrap64 (n - 1)) pre.getLast? suf && (decide (1≤n∧n≤12) && decide ((pre++suf).length≤40))):=by
 induction suf with
 |nil=>
  intro pre hb
  refine Ev.succ ?_
  simp only [spec_GoodEdges.l0]
  simp only [if_neg (show ¬ (pre.length:Int)< ((pre++ ([] :List S79)).length:Int) by simp),specIn,Option.bind_some]
  have:goodEF (wrap64 (n - 1)) pre.getLast? []=true:=by cases pre.getLast?<;>rfl
  rw [this,Bool.true_and]
  by_cases h: 1≤n∧n≤12
  ·simp only [h,and_self,decide_true,if_true,Bool.true_and]
   refine Ev.some_ ?_
   congr 1
   simp only [eq_iff_iff]
   omega
  ·simp only [h,decide_false,Bool.false_eq_true,if_false,Bool.false_and]
   exact Ev.now _
 |cons x suf ih=>
  intro pre hb
  simp only [List.length_cons] at hb
  have c1:(pre.length:Int)< ((pre++x::suf).length:Int):=by simp<;>omega
  have c0:(0:Int)≤ (pre.length:Int):=by omega
  have h:=ih (pre++ [x]) (by simp<;>omega)
  rw [← app_one,len_one,List.getLast?_concat] at h
  refine Ev.succ ?_
  simp only [spec_GoodEdges.l0]
  simp only [if_pos c1,if_pos c0,rdEdge_mid,specIn,Option.bind_some]
  generalize wrap64 (n - 1)=m at h ⊢
  generalize hfin:(decide (1≤n∧n≤12) && decide ((pre++x::suf).length≤40))=fin at h ⊢
  have bad:∀ (b:Bool),isEdge m x=false→b=true→Ev (fun k=>spec_GoodEdges.j1 k n (pre++x::suf) (pre.length:Int) (pre++x::suf) ((pre++x::suf).length:Int) (pre.length:Int) b x.f0 x.f1 x.f2) (goodEF m pre.getLast? (x::suf) && fin):=by
   intro b he hb
   refine Ev.succ ?_
   simp only [spec_GoodEdges.j1,hb,if_true]
   refine Ev.some_ ?_
   cases pre.getLast?<;>simp [goodEF,he]
  by_cases h1: 0≤x.f0∧x.f0≤m
  ·simp only [h1,and_self,decide_true,if_true]
   by_cases h2: 0≤x.f1∧x.f1≤m
   ·simp only [h2,and_self,decide_true,if_true]
    by_cases h3:x.f0≥x.f1
    ·simp only [if_pos h3]
     refine bad true ?_ rfl
     unfold isEdge;simp only [decide_eq_false_iff_not];omega
    ·simp only [if_neg h3]
     by_cases h4: 1≤x.f2∧x.f2≤100
     ·have he:isEdge m x=true:=by rw [isEdge_iff];omega
      simp only [h4,and_self,decide_true,Bool.not_true]
      refine Ev.succ ?_
      simp only [spec_GoodEdges.j1,Bool.false_eq_true,if_false]
      rw [wrap_id (x:=(pre.length:Int)+1) (by omega) (by omega)]
      rcases nil_or_snoc pre with rfl|⟨pre',y,rfl⟩
      ·simp only [if_neg (show ¬ (([] :List S79).length:Int) > 0 by simp)]
       have e:goodEF m ([] :List S79).getLast? (x::suf)=goodEF m (some x) suf:=by simp [goodEF,he]
       rw [e]
       exact h
      ·have hy:rd_T79 ((pre'++ [y])++x::suf) (((pre'++ [y]).length:Int) - 1)=y:=by
        rw [show ((pre'++ [y])++x::suf)=pre'++y:: (x::suf) by simp,show (((pre'++ [y]).length:Int) - 1)= (pre'.length:Int) by simp]
        exact rdEdge_mid _ _ _
       have q0:(((pre'++ [y]).length:Int)) > 0:=by simp<;>omega
       rw [wrap_id (x:=((pre'++ [y]).length:Int) - 1) (by omega) (by omega)]
       simp only [if_pos q0,if_pos (show 0≤ ((pre'++ [y]).length:Int) - 1 by omega),if_pos (show ((pre'++ [y]).length:Int) - 1< (((pre'++ [y])++x::suf).length:Int) by omega),hy]
       have e:goodEF m (pre'++ [y]).getLast? (x::suf)= (edgeLt y x && goodEF m (some x) suf):=by simp [goodEF,he]
       rw [e]
       by_cases g1:y.f0 > x.f0
       ·simp only [if_pos g1]
        refine Ev.some_ ?_
        have:edgeLt y x=false:=by unfold edgeLt;simp only [decide_eq_false_iff_not];omega
        rw [this];rfl
       ·simp only [if_neg g1]
        by_cases g2:y.f0=x.f0
        ·simp only [if_pos g2]
         by_cases g3:y.f1≥x.f1
         ·simp only [if_pos g3]
          refine Ev.some_ ?_
          have:edgeLt y x=false:=by unfold edgeLt;simp only [decide_eq_false_iff_not];omega
          rw [this];rfl
         ·simp only [if_neg g3]
          have:edgeLt y x=true:=by unfold edgeLt;simp only [decide_eq_true_eq];omega
          rw [this,Bool.true_and]
          exact h
        ·simp only [if_neg g2]
         have:edgeLt y x=true:=by unfold edgeLt;simp only [decide_eq_true_eq];omega
         rw [this,Bool.true_and]
         exact h
     ·simp only [h4,decide_false,Bool.not_false]
      refine bad true ?_ rfl
      unfold isEdge;simp only [decide_eq_false_iff_not];omega
   ·simp only [h2,decide_false,Bool.false_eq_true,if_false]
    refine bad true ?_ rfl
    unfold isEdge;simp only [decide_eq_false_iff_not];omega
  ·simp only [h1,decide_false,Bool.false_eq_true,if_false]
   refine bad true ?_ rfl
   unfold isEdge;simp only [decide_eq_false_iff_not];omega
theorem specGoodE_ev (n:Int) (l:List S79) (hl:l.length≤1048576):Ev (fun k=>spec_GoodEdges.f k n l) (goodE n l):=by
 unfold spec_GoodEdges.f
 exact specGoodE_l n l [] (by simp<;>omega)
theorem implGoodE_l (n:Int) (hm:wrap64 (n - 1)≤9223372036854775807) (suf:List S79):∀ (pre:List S79),(pre.length:Int)+suf.length≤1099511627776→ (∀ y,pre.getLast?=some y→isEdge (wrap64 (n - 1)) y=true)→
  Ev (fun k=>impl_GoodEdges.l0 k n (pre++suf) (pre++suf) ((pre++suf).length:Int) (pre.length:Int)) (goodEF (wrap64 (n - 1)) pre.getLast? suf && (decide (1≤n∧n≤12) && decide ((pre++suf).length≤40))):=by
 induction suf with
 |nil=>
  intro pre hb _
  refine Ev.succ ?_
  simp only [impl_GoodEdges.l0]
  simp only [if_neg (show ¬ (pre.length:Int)< ((pre++ ([] :List S79)).length:Int) by simp),impl_isSpots.f,implIn,Option.bind_some]
  have:goodEF (wrap64 (n - 1)) pre.getLast? []=true:=by cases pre.getLast?<;>rfl
  rw [this,Bool.true_and]
  by_cases h: 1≤n∧n≤12
  ·simp only [h,and_self,decide_true,if_true,Bool.true_and]
   refine Ev.some_ ?_
   congr 1
   simp only [eq_iff_iff]
   omega
  ·simp only [h,decide_false,Bool.false_eq_true,if_false,Bool.false_and]
   exact Ev.now _
 |cons x suf ih=>
  intro pre hb hlast
  simp only [List.length_cons] at hb
  have c1:(pre.length:Int)< ((pre++x::suf).length:Int):=by simp<;>omega
  have c0:(0:Int)≤ (pre.length:Int):=by omega
  have h:=ih (pre++ [x]) (by simp<;>omega)
  rw [← app_one,len_one,List.getLast?_concat] at h
  refine Ev.succ ?_
  simp only [impl_GoodEdges.l0]
  simp only [if_pos c1,if_pos c0,rdEdge_mid,implIn,Option.bind_some]
  generalize wrap64 (n - 1)=m at h hm hlast ⊢
  generalize hfin:(decide (1≤n∧n≤12) && decide ((pre++x::suf).length≤40))=fin at h ⊢
  have bad:isEdge m x=false→Ev (fun k=>some false) (goodEF m pre.getLast? (x::suf) && fin):=by
   intro he
   refine Ev.some_ ?_
   cases pre.getLast?<;>simp [goodEF,he]
  by_cases h1: 0≤x.f0∧x.f0≤m
  ·simp only [h1,and_self,decide_true,if_true]
   by_cases h2: 0≤x.f1∧x.f1≤m
   ·simp only [h2,and_self,decide_true,if_true]
    by_cases h3:x.f0≥x.f1
    ·simp only [if_pos h3]
     refine bad ?_
     unfold isEdge;simp only [decide_eq_false_iff_not];omega
    ·simp only [if_neg h3]
     by_cases h4: 1≤x.f2∧x.f2≤100
     ·have he:isEdge m x=true:=by rw [isEdge_iff];omega
      have h:=h (fun y hy=>by cases hy;exact he)
      simp only [h4,and_self,decide_true,if_true]
      rw [wrap_id (x:=(pre.length:Int)+1) (by omega) (by omega)]
      rcases nil_or_snoc pre with rfl|⟨pre',y,rfl⟩
      ·simp only [if_neg (show ¬ (([] :List S79).length:Int) > 0 by simp)]
       have e:goodEF m ([] :List S79).getLast? (x::suf)=goodEF m (some x) suf:=by simp [goodEF,he]
       rw [e]
       exact h
      ·have hy:rd_T79 ((pre'++ [y])++x::suf) (((pre'++ [y]).length:Int) - 1)=y:=by
        rw [show ((pre'++ [y])++x::suf)=pre'++y:: (x::suf) by simp,show (((pre'++ [y]).length:Int) - 1)= (pre'.length:Int) by simp]
        exact rdEdge_mid _ _ _
       have hye:=(isEdge_iff m y).1 (hlast y (by simp))
       have hxe:=(isEdge_iff m x).1 he
       have q0:(((pre'++ [y]).length:Int)) > 0:=by simp<;>omega
       rw [wrap_id (x:=((pre'++ [y]).length:Int) - 1) (by omega) (by omega)]
       simp only [if_pos q0,if_pos (show 0≤ ((pre'++ [y]).length:Int) - 1 by omega),if_pos (show ((pre'++ [y]).length:Int) - 1< (((pre'++ [y])++x::suf).length:Int) by omega),hy]
       have e:goodEF m (pre'++ [y]).getLast? (x::suf)= (edgeLt y x && goodEF m (some x) suf):=by simp [goodEF,he]
       rw [e]
       have eb:impl_byEnds.f y.f0 y.f1 y.f2 x.f0 x.f1 x.f2=some (if y.f0=x.f0 then y.f1 - x.f1 else y.f0 - x.f0):=by
        unfold impl_byEnds.f
        split
        ·rw [wrap_id (by omega) (by omega)]
        ·rw [wrap_id (by omega) (by omega)]
       simp only [eb,Option.bind_some]
       by_cases g:edgeLt y x=true
       ·have g':(y.f0<x.f0∨y.f0=x.f0∧y.f1<x.f1):=by unfold edgeLt at g;simpa only [decide_eq_true_eq] using g
        rw [g,Bool.true_and]
        simp only [if_neg (show ¬ (if y.f0=x.f0 then y.f1 - x.f1 else y.f0 - x.f0)≥0 by split<;>omega)]
        exact h
       ·have g':¬ (y.f0<x.f0∨y.f0=x.f0∧y.f1<x.f1):=by unfold edgeLt at g;simpa only [decide_eq_true_eq] using g
        simp only [if_pos (show (if y.f0=x.f0 then y.f1 - x.f1 else y.f0 - x.f0)≥0 by split<;>omega)]
        refine Ev.some_ ?_
        rw [Bool.not_eq_true] at g
        rw [g];rfl
     ·simp only [h4,decide_false,Bool.false_eq_true,if_false]
      refine bad ?_
      unfold isEdge;simp only [decide_eq_false_iff_not];omega
   ·simp only [h2,decide_false,Bool.false_eq_true,if_false]
    refine bad ?_
    unfold isEdge;simp only [decide_eq_false_iff_not];omega
  ·simp only [h1,decide_false,Bool.false_eq_true,if_false]
   refine bad ?_
   unfold isEdge;simp only [decide_eq_false_iff_not];omega
theorem wrap_top (x:Int): -9223372036854775808≤wrap64 x∧wrap64 x≤9223372036854775807:=by unfold wrap64;omega
theorem implGoodE_ev (n:Int) (l:List S79) (hl:l.length≤1048576):Ev (fun k=>impl_GoodEdges.f k n l) (goodE n l):=by
 unfold impl_GoodEdges.f
 exact implGoodE_l n (wrap_top _).2 l [] (by simp<;>omega) (fun y hy=>by simp at hy)
/-- What good edges are. -/
theorem goodE_n {n:Int} {l:List S79} (h:goodE n l=true): 1≤n∧n≤12∧l.length≤40:=by
 unfold goodE at h
 simp only [Bool.and_eq_true,decide_eq_true_eq] at h
 exact⟨h.2.1.1,h.2.1.2,h.2.2⟩
theorem goodEF_all {m:Int} :∀ (l:List S79) (o:Option S79),goodEF m o l=true→ ∀ x ∈ l,isEdge m x=true
 | [],_,_,x,hx=>by simp at hx
 |y::r,o,h,x,hx=>by
  have h2:isEdge m y=true∧goodEF m (some y) r=true:=by
   cases o with
   |none=>simpa [goodEF] using h
   |some z=>
    simp only [goodEF,Bool.and_eq_true] at h
    exact⟨h.1,h.2.2⟩
  rcases List.mem_cons.1 hx with rfl|hx
  ·exact h2.1
  ·exact goodEF_all r _ h2.2 x hx
theorem goodE_edge {n:Int} {l:List S79} (h:goodE n l=true):∀ x ∈ l,0≤x.f0∧x.f0<x.f1∧x.f1<n∧1≤x.f2∧x.f2≤100:=by
 have hn:=goodE_n h
 intro x hx
 unfold goodE at h
 simp only [Bool.and_eq_true] at h
 have:=(isEdge_iff _ _).1 (goodEF_all l none h.1 x hx)
 rw [wrap_id (by omega) (by omega)] at this
 omega
theorem goodEF_rise {m:Int} :∀ (l:List S79) (y:S79),goodEF m (some y) l=true→ ∀ x ∈ l,(y.f0<x.f0∨y.f0=x.f0∧y.f1<x.f1)
 | [],_,_,x,hx=>by simp at hx
 |a::r,y,h,x,hx=>by
  simp only [goodEF,Bool.and_eq_true,edgeLt,decide_eq_true_eq] at h
  rcases List.mem_cons.1 hx with rfl|hx
  ·exact h.2.1
  ·have:=goodEF_rise r a h.2.2 x hx
   omega
theorem goodEF_pair {m:Int} :∀ (l:List S79) (o:Option S79),goodEF m o l=true→l.Pairwise (fun y x=>y.f0<x.f0∨y.f0=x.f0∧y.f1<x.f1)
 | [],_,_=>List.Pairwise.nil
 |y::r,o,h=>by
  have h2:goodEF m (some y) r=true:=by
   cases o with
   |none=>simp only [goodEF,Bool.and_eq_true] at h;exact h.2
   |some z=>simp only [goodEF,Bool.and_eq_true] at h;exact h.2.2
  exact List.Pairwise.cons (goodEF_rise r y h2) (goodEF_pair r _ h2)
theorem goodE_pair {n:Int} {l:List S79} (h:goodE n l=true):l.Pairwise (fun y x=>y.f0<x.f0∨y.f0=x.f0∧y.f1<x.f1):=by
 unfold goodE at h
 simp only [Bool.and_eq_true] at h
 exact goodEF_pair l none h.1
def at_ (out:List Int) (v:Nat):Int:=out.getD v 0
def stepG (out:List Int) (e:Nat × Nat):List Int:=(out.set e.1 (min (at_ out e.1) (at_ out e.2))).set e.2 (min (at_ out e.1) (at_ out e.2))
def roundG (E:List (Nat × Nat)) (out:List Int):List Int:=E.foldl stepG out
def iterG (E:List (Nat × Nat)) (out:List Int):Nat→List Int
 | 0=>out
 |k+1=>roundG E (iterG E out k)
def InG (n:Nat) (E:List (Nat × Nat)):Prop:= ∀ e ∈ E,e.1<n∧e.2<n
inductive Conn (E:List (Nat × Nat)):Nat→Nat→Prop
 |refl (v:Nat):Conn E v v
 |fwd {v a b:Nat} :Conn E v a→ (a,b) ∈ E→Conn E v b
 |bwd {v a b:Nat} :Conn E v b→ (a,b) ∈ E→Conn E v a
theorem Conn.trans {E:List (Nat × Nat)} {u v w:Nat} (h:Conn E u v) (k:Conn E v w):Conn E u w:=by
 induction k with
 |refl=>exact h
 |fwd _ he ih=>exact .fwd ih he
 |bwd _ he ih=>exact .bwd ih he
theorem Conn.symm {E:List (Nat × Nat)} {u v:Nat} (h:Conn E u v):Conn E v u:=by
 induction h with
 |refl=>exact .refl _
 |fwd _ he ih=>exact(Conn.bwd (.refl _) he).trans ih
 |bwd _ he ih=>exact(Conn.fwd (.refl _) he).trans ih
theorem Conn.lt {n:Nat} {E:List (Nat × Nat)} (hE:InG n E) {u v:Nat} (h:Conn E u v) (hu:u<n):v<n:=by
 induction h with
 |refl=>exact hu
 |fwd _ he _=>exact(hE _ he).2
 |bwd _ he _=>exact(hE _ he).1
theorem stepG_len (out:List Int) (e:Nat × Nat):(stepG out e).length=out.length:=by simp [stepG]
theorem at_set (out:List Int) (a v:Nat) (x:Int) (ha:a<out.length):at_ (out.set a x) v=if v=a then x else at_ out v:=by
 unfold at_
 rw [List.getD_eq_getElem?_getD,List.getD_eq_getElem?_getD]
 by_cases h:v=a
 ·subst h;rw [List.getElem?_set_self ha,if_pos rfl];rfl
 ·rw [List.getElem?_set_ne (fun e=>h e.symm),if_neg h]
theorem stepG_at (out:List Int) (e:Nat × Nat) (h1:e.1<out.length) (h2:e.2<out.length) (v:Nat):at_ (stepG out e) v=if v=e.1∨v=e.2 then min (at_ out e.1) (at_ out e.2) else at_ out v:=by
 unfold stepG
 rw [at_set _ _ _ _ (by simpa using h2),at_set _ _ _ _ h1]
 by_cases h:v=e.2
 ·simp [h]
 ·by_cases h':v=e.1<;>simp [h,h']
theorem stepG_le (out:List Int) (e:Nat × Nat) (h1:e.1<out.length) (h2:e.2<out.length) (v:Nat):at_ (stepG out e) v≤at_ out v:=by
 rw [stepG_at out e h1 h2]
 split
 ·rename_i h
  rcases h with rfl|rfl<;>omega
 ·exact Int.le_refl _
theorem roundG_len:∀ (E:List (Nat × Nat)) (out:List Int),(roundG E out).length=out.length
 | [],_=>rfl
 |e::E,out=>by
  show (roundG E (stepG out e)).length=_
  rw [roundG_len E,stepG_len]
theorem roundG_le:∀ (E:List (Nat × Nat)) (out:List Int),InG out.length E→ ∀ v,at_ (roundG E out) v≤at_ out v
 | [],_,_,v=>Int.le_refl _
 |e::E,out,h,v=>by
  have he:=h e (by simp)
  have h1:=roundG_le E (stepG out e) (by rw [stepG_len];exact fun x hx=>h x (by simp [hx])) v
  have h2:=stepG_le out e he.1 he.2 v
  show at_ (roundG E (stepG out e)) v≤_
  omega
/-- Behind a round both ends of an edge have no more than either had. -/
theorem roundG_edge:∀ (E:List (Nat × Nat)) (out:List Int),InG out.length E→ ∀ a b,(a,b) ∈ E→at_ (roundG E out) a≤at_ out b∧at_ (roundG E out) b≤at_ out a
 | [],_,_,a,b,h=>by simp at h
 |e::E,out,h,a,b,hab=>by
  have he:=h e (by simp)
  have hE:InG (stepG out e).length E:=by rw [stepG_len];exact fun x hx=>h x (by simp [hx])
  show at_ (roundG E (stepG out e)) a≤_∧at_ (roundG E (stepG out e)) b≤_
  rcases List.mem_cons.1 hab with rfl|hab
  ·have ha:=roundG_le E (stepG out (a,b)) hE a
   have hb:=roundG_le E (stepG out (a,b)) hE b
   rw [stepG_at out (a,b) he.1 he.2] at ha hb
   simp only [true_or,or_true,if_true] at ha hb
   omega
  ·have h1:=roundG_edge E (stepG out e) hE a b hab
   have h2:=stepG_le out e he.1 he.2 a
   have h3:=stepG_le out e he.1 he.2 b
   omega
theorem iterG_len (E:List (Nat × Nat)) (out:List Int):∀ k,(iterG E out k).length=out.length
 | 0=>rfl
 |k+1=>by simp only [iterG];rw [roundG_len,iterG_len E out k]
/-- Each label is a spot that is joined. -/
def LabG (E:List (Nat × Nat)) (out:List Int):Prop:= ∀ v,v<out.length→ ∃ u:Nat,at_ out v=u∧Conn E v u
theorem stepG_lab {E:List (Nat × Nat)} {out:List Int} (e:Nat × Nat) (he:e ∈ E) (h1:e.1<out.length) (h2:e.2<out.length) (h:LabG E out):LabG E (stepG out e):=by
 intro v hv
 rw [stepG_len] at hv
 rw [stepG_at out e h1 h2]
 split
 ·rename_i hve
  obtain⟨x,y⟩:=e
  obtain⟨u1,e1,c1⟩:=h x h1
  obtain⟨u2,e2,c2⟩:=h y h2
  have cxy:Conn E x y:= .fwd (.refl _) he
  have cv:Conn E v x∧Conn E v y:=by
   rcases hve with rfl|rfl
   ·exact⟨.refl _,cxy⟩
   ·exact⟨cxy.symm,.refl _⟩
  simp only
  rw [e1,e2]
  rcases Int.le_total (u1:Int) u2 with hle|hle
  ·exact⟨u1,by omega,cv.1.trans c1⟩
  ·exact⟨u2,by omega,cv.2.trans c2⟩
 ·exact h v hv
theorem foldl_lab {E:List (Nat × Nat)} :∀ (D:List (Nat × Nat)) (out:List Int),(∀ e ∈ D,e ∈ E)→InG out.length D→LabG E out→LabG E (D.foldl stepG out)
 | [],_,_,_,h=>h
 |e::D,out,hD,hin,h=>by
  have he:=hin e (by simp)
  exact foldl_lab D (stepG out e) (fun x hx=>hD x (by simp [hx])) (by rw [stepG_len];exact fun x hx=>hin x (by simp [hx])) (stepG_lab e (hD e (by simp)) he.1 he.2 h)
theorem iterG_lab {E:List (Nat × Nat)} {out:List Int} (hin:InG out.length E) (h:LabG E out):∀ k,LabG E (iterG E out k)
 | 0=>h
 |k+1=>foldl_lab E _ (fun _ he=>he) (by rw [iterG_len];exact hin) (iterG_lab hin h k)
/-- How many spots have at most m. -/
def cntG (out:List Int) (m:Int):Nat:=(List.range out.length).countP fun v=>decide (at_ out v≤m)
theorem countP_mono {α :Type} (p q: α →Bool) (l:List α) (h:∀ x ∈ l,p x=true→q x=true):l.countP p≤l.countP q:=List.countP_mono_left h
theorem countP_lt {α :Type} (p q: α →Bool):∀ (l:List α),(∀ x ∈ l,p x=true→q x=true)→ (∃ x ∈ l,p x=false∧q x=true)→l.countP p<l.countP q
 | [],_,⟨x,hx,_⟩=>by simp at hx
 |y::l,h,⟨x,hx,hp,hq⟩=>by
  have h1:=countP_mono p q l (fun z hz=>h z (by simp [hz]))
  rw [List.countP_cons,List.countP_cons]
  rcases List.mem_cons.1 hx with rfl|hx
  ·simp only [hp,hq,if_true,Bool.false_eq_true,if_false]
   omega
  ·have h2:=countP_lt p q l (fun z hz=>h z (by simp [hz])) ⟨x,hx,hp,hq⟩
   have h3:=h y (by simp)
   cases hy:p y with
   |false=>simp only [Bool.false_eq_true,if_false];omega
   |true=>simp only [h3 hy,if_true];omega
/-- The spots that have at most m: all that are joined with m, or they grow. -/
theorem spread_one {E:List (Nat × Nat)} {out:List Int} (hin:InG out.length E) (m:Nat) (hm:at_ out m≤m) (hmn:m<out.length):
  (∀ v,Conn E m v→at_ out v≤m)∨cntG out m<cntG (roundG E out) m:=by
 by_cases hc:∀ a b,(a,b) ∈ E→ (at_ out a≤m↔at_ out b≤m)
 ·left
  intro v hv
  induction hv with
  |refl=>exact hm
  |fwd _ he ih=>exact(hc _ _ he).1 ih
  |bwd _ he ih=>exact(hc _ _ he).2 ih
 ·right
  have hc2:∃ a b,(a,b) ∈ E∧ ¬ (at_ out a≤m↔at_ out b≤m):=Classical.byContradiction fun hn=>hc fun a b he=>Classical.byContradiction fun h=>hn ⟨a,b,he,h⟩
  obtain⟨a,b,he,hne⟩:=hc2
  have hlen:=roundG_len E out
  unfold cntG
  rw [hlen]
  have hab:=hin _ he
  have hr:=roundG_edge E out hin a b he
  refine countP_lt _ _ _ (fun v _ hv=>?_) ?_
  ·simp only [decide_eq_true_eq] at hv ⊢
   have:=roundG_le E out hin v
   omega
  ·by_cases ha:at_ out a≤m
   ·have hb:¬ at_ out b≤m:=fun hb=>hne ⟨fun _=>hb,fun _=>ha⟩
    exact⟨b,List.mem_range.2 hab.2,by simpa using hb,by simp only [decide_eq_true_eq];omega⟩
   ·have hb:at_ out b≤m:=Classical.byContradiction fun hb=>hne ⟨fun h=>absurd h ha,fun h=>absurd h hb⟩
    exact⟨a,List.mem_range.2 hab.1,by simpa using ha,by simp only [decide_eq_true_eq];omega⟩
theorem iterG_le {E:List (Nat × Nat)} {out:List Int} (hin:InG out.length E) (v:Nat) (k:Nat):at_ (iterG E out (k+1)) v≤at_ (iterG E out k) v:=
 roundG_le E _ (by rw [iterG_len];exact hin) v
theorem spread_all {E:List (Nat × Nat)} {out:List Int} (hin:InG out.length E) (m:Nat) (hm:at_ out m≤m) (hmn:m<out.length):∀ k,at_ (iterG E out k) m≤m∧ ((∀ v,Conn E m v→at_ (iterG E out k) v≤m)∨k+1≤cntG (iterG E out k) m)
 | 0=>by
  refine⟨hm,.inr ?_⟩
  have: 0<cntG out m:=by
   unfold cntG
   rw [List.countP_pos_iff]
   exact⟨m,List.mem_range.2 hmn,by simpa using hm⟩
  show 0+1≤cntG out m
  omega
 |k+1=>by
  obtain⟨h1,h2⟩:=spread_all hin m hm hmn k
  have hin2:InG (iterG E out k).length E:=by rw [iterG_len];exact hin
  refine⟨Int.le_trans (iterG_le hin m k) h1,?_⟩
  rcases h2 with h2|h2
  ·exact .inl fun v hv=>Int.le_trans (iterG_le hin v k) (h2 v hv)
  ·rcases spread_one hin2 m h1 (by rw [iterG_len];exact hmn) with h3|h3
   ·exact .inl fun v hv=>Int.le_trans (iterG_le hin v k) (h3 v hv)
   ·right
    show k+1+1≤cntG (roundG E (iterG E out k)) m
    omega
theorem spread_done {E:List (Nat × Nat)} {out:List Int} (hin:InG out.length E) (m:Nat) (hm:at_ out m≤m) (hmn:m<out.length) {k:Nat} (hk:out.length≤k+1):∀ v,Conn E m v→at_ (iterG E out k) v≤m:=by
 rcases (spread_all hin m hm hmn k).2 with h|h
 ·exact h
 ·intro v hv
  refine Classical.byContradiction fun hn=>?_
  have hv2:=hv.lt hin hmn
  have:cntG (iterG E out k) m< (List.range out.length).countP (fun _=>true):=by
   unfold cntG
   rw [iterG_len]
   refine countP_lt _ _ _ (fun _ _ _=>rfl) ⟨v,List.mem_range.2 hv2,by simpa using hn,rfl⟩
  rw [show (List.range out.length).countP (fun _=>true)=out.length by simp] at this
  omega
/-- The spots' own numbers. -/
def own0 (n:Nat):List Int:=(List.range n).map fun(i:Nat)=>(i:Int)
theorem own0_len (n:Nat):(own0 n).length=n:=by simp [own0]
theorem own0_at {n v:Nat} (h:v<n):at_ (own0 n) v=v:=by
 unfold at_ own0
 rw [List.getD_eq_getElem?_getD,List.getElem?_map,List.getElem?_range h]
 rfl
/-- The groups: to each spot the least one that edges lead to from it. -/
def grp (n:Nat) (E:List (Nat × Nat)):List Int:=iterG E (own0 n) n
theorem grp_len (n:Nat) (E:List (Nat × Nat)):(grp n E).length=n:=by unfold grp;rw [iterG_len,own0_len]
theorem grp_ok {n:Nat} {E:List (Nat × Nat)} (hE:InG n E) {v:Nat} (hv:v<n):∃ u:Nat,at_ (grp n E) v=u∧Conn E v u∧u<n∧ ∀ m,Conn E v m→u≤m:=by
 have hin:InG (own0 n).length E:=by rw [own0_len];exact hE
 have hlab:LabG E (own0 n):=fun v hv=>by
  rw [own0_len] at hv
  exact⟨v,own0_at hv,.refl _⟩
 obtain⟨u,e,c⟩:=iterG_lab hin hlab n v (by rw [iterG_len,own0_len];exact hv)
 refine⟨u,e,c,c.lt hE hv,fun m hm=>?_⟩
 have hmn:=hm.lt hE hv
 have:=spread_done hin m (by rw [own0_at hmn];exact Int.le_refl _) (by rw [own0_len];exact hmn) (k:=n) (by rw [own0_len];omega) v hm.symm
 rw [e] at this
 omega
/-- From as many rounds on as there are spots nothing changes. -/
theorem iterG_fix {n:Nat} {E:List (Nat × Nat)} (hE:InG n E):roundG E (grp n E)=grp n E:=by
 have hin:InG (own0 n).length E:=by rw [own0_len];exact hE
 apply List.ext_getElem?
 intro v
 by_cases hv:v<n
 ·have l1:v< (roundG E (grp n E)).length:=by rw [roundG_len,grp_len];exact hv
  have l2:v< (grp n E).length:=by rw [grp_len];exact hv
  obtain⟨u,e,c,hu,_⟩:=grp_ok hE hv
  have hlab:LabG E (own0 n):=fun v hv=>by
   rw [own0_len] at hv
   exact⟨v,own0_at hv,.refl _⟩
  obtain⟨u2,e2,c2⟩:=iterG_lab hin hlab (n+1) v (by rw [iterG_len,own0_len];exact hv)
  have e2':at_ (roundG E (grp n E)) v=u2:=e2
  obtain⟨u3,e3,_,_,h3⟩:=grp_ok hE hv
  have h4:=roundG_le E (grp n E) (by rw [grp_len];exact hE) v
  have h5:=h3 u2 c2
  have:at_ (roundG E (grp n E)) v=at_ (grp n E) v:=by
   rw [e2',e3]
   rw [e2',e3] at h4
   omega
  unfold at_ at this
  rw [List.getD_eq_getElem?_getD,List.getD_eq_getElem?_getD,List.getElem?_eq_getElem l1,List.getElem?_eq_getElem l2] at this
  rw [List.getElem?_eq_getElem l1,List.getElem?_eq_getElem l2]
  exact congrArg some this
 ·rw [List.getElem?_eq_none (by rw [roundG_len,grp_len];omega),List.getElem?_eq_none (by rw [grp_len];omega)]
-- sweeps over a list of numbers; the least of two
theorem least_is (a b:Int):spec_l1Least.f a b=some (min a b):=by
 unfold spec_l1Least.f
 split
 ·rw [Int.min_eq_left (by omega)]
 ·rw [Int.min_eq_right (by omega)]
theorem mn_is (a b:Int):mn a b=min a b:=by
 unfold mn
 split
 ·rw [Int.min_eq_right (by omega)]
 ·rw [Int.min_eq_left (by omega)]
theorem own0_succ (n:Nat):own0 (n+1)=own0 n++ [(n:Int)]:=by
 unfold own0
 rw [List.range_succ,List.map_append]
 rfl
theorem mx_is (a b:Int):mx a b=max a b:=by
 unfold mx
 split<;>omega
theorem own0_mem (n:Nat) (x:Int):x ∈ own0 n↔0≤x∧x<n:=by
 unfold own0
 rw [List.mem_map]
 constructor
 ·rintro⟨i,hi,rfl⟩
  have:=List.mem_range.1 hi
  omega
 ·intro ⟨h0,h1⟩
  exact⟨x.toNat,List.mem_range.2 (by omega),by omega⟩
theorem own0_sorted:∀ (n:Nat),(own0 n).Pairwise (· < ·)
 | 0=>by simp [own0]
 |n+1=>by
  rw [own0_succ]
  refine List.pairwise_append.2 ⟨own0_sorted n,by simp,fun a ha b hb=>?_⟩
  have:=(own0_mem n a).1 ha
  simp only [List.mem_singleton] at hb
  omega
-- the groups of the program
def prs (l:List S79):List (Nat × Nat):=l.map fun e=>(e.f0.toNat,e.f1.toNat)
theorem prs_in {n:Int} {l:List S79} (h:∀ x ∈ l,0≤x.f0∧x.f0<x.f1∧x.f1<n):InG n.toNat (prs l):=by
 intro e he
 unfold prs at he
 obtain⟨x,hx,rfl⟩:=List.mem_map.1 he
 have:=h x hx
 constructor
 ·show x.f0.toNat<n.toNat
  omega
 ·show x.f1.toNat<n.toNat
  omega
def groupsM (n:Int) (l:List S79):List Int:=grp n.toNat (prs l)
theorem stepG_ne {out:List Int} {e:Nat × Nat} (h1:e.1<out.length) (h2:e.2<out.length):stepG out e=out↔ (at_ out e.1=min (at_ out e.1) (at_ out e.2)∧at_ out e.2=min (at_ out e.1) (at_ out e.2)):=by
 constructor
 ·intro h
  have a1:=stepG_at out e h1 h2 e.1
  have a2:=stepG_at out e h1 h2 e.2
  rw [h] at a1 a2
  simp only [true_or,or_true,if_true] at a1 a2
  exact⟨a1,a2⟩
 ·intro h
  apply List.ext_getElem?
  intro v
  by_cases hv:v<out.length
  ·have l1:v< (stepG out e).length:=by rw [stepG_len];exact hv
   have a:=stepG_at out e h1 h2 v
   have:at_ (stepG out e) v=at_ out v:=by
    rw [a]
    split
    ·rename_i hve
     rcases hve with rfl|rfl
     ·exact h.1.symm
     ·exact h.2.symm
    ·rfl
   unfold at_ at this
   rw [List.getD_eq_getElem?_getD,List.getD_eq_getElem?_getD,List.getElem?_eq_getElem l1,List.getElem?_eq_getElem hv] at this
   rw [List.getElem?_eq_getElem l1,List.getElem?_eq_getElem hv]
   exact congrArg some this
  ·rw [List.getElem?_eq_none (by rw [stepG_len];omega),List.getElem?_eq_none (by omega)]
theorem round_moved {out:List Int} {e:Nat × Nat} {E:List (Nat × Nat)} (h1:e.1<out.length) (h2:e.2<out.length) (hE:InG out.length E) (h:stepG out e≠out):roundG E (stepG out e)≠out:=by
 intro hc
 refine h ((stepG_ne h1 h2).2 ?_)
 have key:∀ v,at_ out v≤at_ (stepG out e) v:=fun v=>by
  have:=roundG_le E (stepG out e) (by rw [stepG_len];exact hE) v
  rw [hc] at this
  exact this
 have a1:=stepG_at out e h1 h2 e.1
 have a2:=stepG_at out e h1 h2 e.2
 simp only [true_or,or_true,if_true] at a1 a2
 have k1:=key e.1
 have k2:=key e.2
 omega
def pairs (l:List S79):List (List Int):=l.map fun e=> [e.f0,e.f1]
theorem rdLL_mid (pre:List (List Int)) (x:List Int) (suf:List (List Int)):rd_L6 (pre++x::suf) (pre.length:Int)=x:=getD_mid _ pre x suf
theorem implGroups_l2 (P:List (List Int)) (R:List Int) (suf:List S79):∀ (pre:List S79) (out:List Int) (b:Bool),pairs (pre++suf)=P→ (P.length:Int)≤1099511627776→ (∀ x ∈ suf,0≤x.f0∧x.f0<x.f1∧x.f1<out.length)→
  Ev (fun k=>impl_groups.l1 k P (roundG (prs suf) out) (b || !decide (roundG (prs suf) out=out))) R→
  Ev (fun k=>impl_groups.l2 k P out b P (P.length:Int) (pre.length:Int)) R:=by
 induction suf with
 |nil=>
  intro pre out b he hb hx h
  refine Ev.succ ?_
  simp only [impl_groups.l2]
  have c1:¬ (pre.length:Int)< (P.length:Int):=by rw [← he];simp [pairs]
  simp only [if_neg c1]
  have e:roundG (prs []) out=out:=rfl
  rw [e] at h
  simpa using h
 |cons x suf ih=>
  intro pre out b he hb hx h
  have hl:P.length=pre.length+suf.length+1:=by rw [← he];simp [pairs]<;>omega
  have c1:(pre.length:Int)< (P.length:Int):=by omega
  have c0:(0:Int)≤ (pre.length:Int):=by omega
  have hr:rd_L6 P (pre.length:Int)= [x.f0,x.f1]:=by
   rw [← he]
   have:=rdLL_mid (pairs pre) [x.f0,x.f1] (pairs suf)
   unfold pairs at this ⊢
   rw [List.length_map] at this
   simpa using this
  have hxx:=hx x (by simp)
  have i1:x.f0.toNat<out.length:=by omega
  have i2:x.f1.toNat<out.length:=by omega
  have hE:InG out.length (prs suf):=by
   have:=prs_in (n:=(out.length:Int)) (l:=suf) (fun y hy=>hx y (by simp [hy]))
   simpa using this
  refine Ev.succ ?_
  simp only [impl_groups.l2]
  have r0:rd [x.f0,x.f1] 0=x.f0:=rfl
  have r1:rd [x.f0,x.f1] 1=x.f1:=rfl
  have q1:(0:Int)< (([x.f0,x.f1] :List Int).length:Int):=by simp
  have q2:(1:Int)< (([x.f0,x.f1] :List Int).length:Int):=by simp
  simp only [if_pos c1,if_pos c0,hr,if_pos q1,if_pos q2,r0,r1,if_pos (show 0≤x.f0 by omega),if_pos (show x.f0< (out.length:Int) by omega),if_pos (show 0≤x.f1 by omega),if_pos (show x.f1< (out.length:Int) by omega),mn_is,wrap_id (x:=(pre.length:Int)+1) (by omega) (by omega)]
  have go:∀ b2:Bool,b2= (b || !decide (stepG out (x.f0.toNat,x.f1.toNat)=out))→
    Ev (fun k=>impl_groups.l2 k P (stepG out (x.f0.toNat,x.f1.toNat)) b2 P (P.length:Int) ((pre.length:Int)+1)) R:=by
   intro b2 hb2
   have h2:=ih (pre++ [x]) (stepG out (x.f0.toNat,x.f1.toNat)) b2 (by rw [← he];simp) hb (by rw [stepG_len];exact fun y hy=>hx y (by simp [hy])) (by
    have e:(b2 || !decide (roundG (prs suf) (stepG out (x.f0.toNat,x.f1.toNat))=stepG out (x.f0.toNat,x.f1.toNat)))= (b || !decide (roundG (prs (x::suf)) out=out)):=by
     rw [hb2]
     have er:roundG (prs (x::suf)) out=roundG (prs suf) (stepG out (x.f0.toNat,x.f1.toNat)):=rfl
     rw [er]
     by_cases hs:stepG out (x.f0.toNat,x.f1.toNat)=out
     ·simp only [hs,decide_true,Bool.not_true,Bool.or_false]
     ·have hm:=round_moved i1 i2 hE hs
      simp [hs,hm]
    rw [e]
    exact h)
   rw [len_one] at h2
   exact h2
  have hs:=stepG_ne (out:=out) (e:=(x.f0.toNat,x.f1.toNat)) i1 i2
  have es:(out.set x.f0.toNat (min (rd out x.f0) (rd out x.f1))).set x.f1.toNat (min (rd out x.f0) (rd out x.f1))=stepG out (x.f0.toNat,x.f1.toNat):=rfl
  have e1:rd out x.f0=at_ out x.f0.toNat:=rfl
  have e2:rd out x.f1=at_ out x.f1.toNat:=rfl
  rw [es]
  cases b with
  |true=>
   simp only [if_true]
   exact go true (by simp)
  |false=>
   simp only [Bool.false_eq_true,if_false]
   by_cases g1:rd out x.f0=min (rd out x.f0) (rd out x.f1)
   ·simp only [if_pos g1]
    refine go _ ?_
    rw [Bool.false_or]
    by_cases g2:rd out x.f1=min (rd out x.f0) (rd out x.f1)
    ·have:stepG out (x.f0.toNat,x.f1.toNat)=out:=hs.2 ⟨g1,g2⟩
     rw [← g2]
     simp [this]
    ·have:stepG out (x.f0.toNat,x.f1.toNat)≠out:=fun h=>g2 (hs.1 h).2
     simp only [this,decide_false,Bool.not_false]
     rw [bne_iff_ne]
     exact g2
   ·simp only [if_neg g1]
    refine go true ?_
    have:stepG out (x.f0.toNat,x.f1.toNat)≠out:=fun h=>g1 (hs.1 h).1
    simp [this]
theorem implGroups_l1 (l:List S79) (n:Nat) (hb:(l.length:Int)≤1048576) (hx:∀ x ∈ l,0≤x.f0∧x.f0<x.f1∧x.f1<n) (d:Nat):∀ (c:Nat),c+d=n+1→
  Ev (fun k=>impl_groups.l1 k (pairs l) (iterG (prs l) (own0 n) c) true) (grp n (prs l)):=by
 have hE:InG n (prs l):=by
  have:=prs_in (n:=(n:Int)) (l:=l) hx
  simpa using this
 have stay:∀ j,iterG (prs l) (own0 n) (n+j)=grp n (prs l):=by
  intro j
  induction j with
  |zero=>rfl
  |succ j ihj=>
   show roundG (prs l) (iterG (prs l) (own0 n) (n+j))=_
   rw [ihj]
   exact iterG_fix hE
 have fixed:∀ c,c≤n→roundG (prs l) (iterG (prs l) (own0 n) c)=iterG (prs l) (own0 n) c→iterG (prs l) (own0 n) c=grp n (prs l):=by
  intro c hc hf
  have:∀ j,iterG (prs l) (own0 n) (c+j)=iterG (prs l) (own0 n) c:=by
   intro j
   induction j with
   |zero=>rfl
   |succ j ihj=>
    show roundG (prs l) (iterG (prs l) (own0 n) (c+j))=_
    rw [ihj]
    exact hf
  have h:=this (n - c)
  rw [show c+ (n - c)=n by omega] at h
  exact h.symm
 induction d with
 |zero=>
  intro c hc
  have hc:c=n+1:=by omega
  subst hc
  refine Ev.succ ?_
  simp only [impl_groups.l1,if_true]
  refine implGroups_l2 (pairs l) _ l [] _ false rfl (by simp [pairs];omega) (by rw [iterG_len,own0_len];exact hx) ?_
  have e1:iterG (prs l) (own0 n) (n+1)=grp n (prs l):=stay 1
  rw [e1,iterG_fix hE]
  simp only [decide_true,Bool.not_true,Bool.or_false]
  refine Ev.succ ?_
  simp only [impl_groups.l1,Bool.false_eq_true,if_false]
  exact Ev.now _
 |succ d ih=>
  intro c hc
  refine Ev.succ ?_
  simp only [impl_groups.l1,if_true]
  refine implGroups_l2 (pairs l) _ l [] _ false rfl (by simp [pairs];omega) (by rw [iterG_len,own0_len];exact hx) ?_
  by_cases hf:roundG (prs l) (iterG (prs l) (own0 n) c)=iterG (prs l) (own0 n) c
  ·rw [hf]
   simp only [decide_true,Bool.not_true,Bool.or_false]
   refine Ev.succ ?_
   simp only [impl_groups.l1,Bool.false_eq_true,if_false]
   exact Ev.some_ (fixed c (by omega) hf)
  ·simp only [hf,decide_false,Bool.not_false,Bool.or_true]
   exact ih (c+1) (by omega)
theorem implGroups_l0 (n:Nat) (hn:n≤1000) (l:List S79) (hb:(l.length:Int)≤1048576) (hx:∀ x ∈ l,0≤x.f0∧x.f0<x.f1∧x.f1<n) (d:Nat):∀ (c:Nat),c+d=n→
  Ev (fun k=>impl_groups.l0 k (pairs l) (own0 c++List.replicate d 0) (n:Int) (c:Int)) (grp n (prs l)):=by
 induction d with
 |zero=>
  intro c hc
  have hc:c=n:=by omega
  subst hc
  refine Ev.succ ?_
  simp only [impl_groups.l0]
  simp only [if_neg (show ¬ (c:Int)< (c:Int) by omega),List.replicate_zero,List.append_nil]
  exact implGroups_l1 l c hb hx (c+1) 0 (by omega)
 |succ d ih=>
  intro c hc
  refine Ev.succ ?_
  simp only [impl_groups.l0]
  have hl:(own0 c++List.replicate (d+1) (0:Int)).length=n:=by simp [own0_len];omega
  simp only [if_pos (show (c:Int)< (n:Int) by omega),if_pos (show (0:Int)≤ (c:Int) by omega),if_pos (show (c:Int)< ((own0 c++List.replicate (d+1) (0:Int)).length:Int) by omega),wrap_id (x:=(c:Int)+1) (by omega) (by omega)]
  have h:=ih (c+1) (by omega)
  have e:(own0 c++List.replicate (d+1) (0:Int)).set ((c:Int)).toNat (c:Int)=own0 (c+1)++List.replicate d 0:=by
   rw [own0_succ,List.replicate_succ]
   have:=set_mid (own0 c) (0:Int) (c:Int) (List.replicate d 0)
   rw [own0_len] at this
   rw [this]
   simp
  rw [e,show ((c:Int))+1= ((c+1:Nat):Int) by omega]
  exact h
theorem implGroups_ev (n:Int) (l:List S79) (h0: 0≤n) (hn:n≤1000) (hb:(l.length:Int)≤1048576) (hx:∀ x ∈ l,0≤x.f0∧x.f0<x.f1∧x.f1<n):Ev (fun k=>impl_groups.f k n (pairs l)) (groupsM n l):=by
 obtain⟨m,rfl⟩:=Int.eq_ofNat_of_zero_le h0
 unfold impl_groups.f groupsM
 simp only [if_pos h0,Int.toNat_natCast,if_pos (show m≤35184372088832 by omega),Option.bind_some,List.length_replicate]
 have h:=implGroups_l0 m (by omega) l hb hx m 0 (by omega)
 exact h
theorem implGroupsOf_l0 (n:Int) (R:List Int) (suf:List S79):∀ (pre:List S79),((pre++suf).length:Int)≤1048576→Ev (fun k=>impl_groups.f k n (pairs (pre++suf))) R→
  Ev (fun k=>impl_groupsOf.l0 k n (pairs pre) (pre++suf) ((pre++suf).length:Int) (pre.length:Int)) R:=by
 induction suf with
 |nil=>
  intro pre hb h
  refine Ev.succ ?_
  simp only [impl_groupsOf.l0]
  simp only [if_neg (show ¬ (pre.length:Int)< ((pre++ ([] :List S79)).length:Int) by simp)]
  rw [List.append_nil] at h
  exact Ev.bind h (Ev.now _)
 |cons x suf ih=>
  intro pre hb h
  have c1:(pre.length:Int)< ((pre++x::suf).length:Int):=by simp<;>omega
  have c0:(0:Int)≤ (pre.length:Int):=by omega
  have hp:(pairs pre).length< 5864062014805:=by simp [pairs];omega
  refine Ev.succ ?_
  simp only [impl_groupsOf.l0]
  simp only [if_pos c1,if_pos c0,rdEdge_mid,if_pos hp,wrap_id (x:=(pre.length:Int)+1) (by omega) (by omega)]
  have h2:=ih (pre++ [x]) (by rw [← app_one];exact hb) (by rw [← app_one];exact h)
  rw [← app_one,len_one] at h2
  have e:pairs (pre++ [x])=pairs pre++ [[x.f0,x.f1]]:=by simp [pairs]
  rw [e] at h2
  exact h2
theorem implGroupsOf_ev (n:Int) (l:List S79) (h0: 0≤n) (hn:n≤1000) (hb:(l.length:Int)≤1048576) (hx:∀ x ∈ l,0≤x.f0∧x.f0<x.f1∧x.f1<n):Ev (fun k=>impl_groupsOf.f k n l) (groupsM n l):=by
 unfold impl_groupsOf.f
 exact implGroupsOf_l0 n _ l [] (by simpa using hb) (implGroups_ev n l h0 hn hb hx)
theorem groupsM_len (n:Int) (l:List S79):(groupsM n l).length=n.toNat:=grp_len _ _
theorem specGroups_l2 (l:List S79) (m:Nat) (c:Int) (R:List Int) (suf:List S79):∀ (pre:List S79) (out:List Int),pre++suf=l→ (l.length:Int)≤1099511627776→out.length=m→ (∀ x ∈ suf,0≤x.f0∧x.f0<x.f1∧x.f1<m)→
  Ev (fun k=>spec_l8Groups.l1 k l (roundG (prs suf) out) (m:Int) (wrap64 (c+1))) R→
  Ev (fun k=>spec_l8Groups.l2 k l out (m:Int) c l (l.length:Int) (pre.length:Int)) R:=by
 induction suf with
 |nil=>
  intro pre out he hb ho hx h
  refine Ev.succ ?_
  simp only [spec_l8Groups.l2]
  have c1:¬ (pre.length:Int)< (l.length:Int):=by rw [← he];simp
  simp only [if_neg c1]
  exact h
 |cons x suf ih=>
  intro pre out he hb ho hx h
  have hl:l.length=pre.length+suf.length+1:=by rw [← he];simp<;>omega
  have c1:(pre.length:Int)< (l.length:Int):=by omega
  have c0:(0:Int)≤ (pre.length:Int):=by omega
  have hr:rd_T79 l (pre.length:Int)=x:=by rw [← he];exact rdEdge_mid _ _ _
  have hxx:=hx x (by simp)
  refine Ev.succ ?_
  simp only [spec_l8Groups.l2]
  simp only [if_pos c1,if_pos c0,hr,if_pos (show 0≤x.f0 by omega),if_pos (show x.f0< (out.length:Int) by omega),if_pos (show 0≤x.f1 by omega),if_pos (show x.f1< (out.length:Int) by omega),least_is,Option.bind_some,wrap_id (x:=(pre.length:Int)+1) (by omega) (by omega)]
  have h2:=ih (pre++ [x]) (stepG out (x.f0.toNat,x.f1.toNat)) (by rw [← he];simp) hb (by rw [stepG_len];exact ho) (fun y hy=>hx y (by simp [hy])) h
  rw [len_one] at h2
  exact h2
theorem specGroups_l1 (l:List S79) (o0:List Int) (hb:(l.length:Int)≤1099511627776) (hm:o0.length≤1000) (hx:∀ x ∈ l,0≤x.f0∧x.f0<x.f1∧x.f1<o0.length) (d:Nat):∀ (c:Nat),c+d=o0.length→
  Ev (fun k=>spec_l8Groups.l1 k l (iterG (prs l) o0 c) (o0.length:Int) (c:Int)) (iterG (prs l) o0 o0.length):=by
 induction d with
 |zero=>
  intro c hc
  refine Ev.succ ?_
  simp only [spec_l8Groups.l1]
  simp only [if_neg (show ¬ (c:Int)< (o0.length:Int) by omega)]
  refine Ev.some_ ?_
  rw [show c=o0.length by omega]
 |succ d ih=>
  intro c hc
  refine Ev.succ ?_
  simp only [spec_l8Groups.l1]
  simp only [if_pos (show (c:Int)< (o0.length:Int) by omega)]
  refine specGroups_l2 l o0.length (c:Int) _ l [] _ rfl hb (iterG_len _ _ _) hx ?_
  have h:=ih (c+1) (by omega)
  rw [wrap_id (x:=(c:Int)+1) (by omega) (by omega),show (c:Int)+1= ((c+1:Nat):Int) by omega]
  exact h
theorem specGroups_l0 (n:Nat) (hn:n≤1000) (l:List S79) (hb:(l.length:Int)≤1099511627776) (hx:∀ x ∈ l,0≤x.f0∧x.f0<x.f1∧x.f1<n) (d:Nat):∀ (c:Nat),c+d=n→
  Ev (fun k=>spec_l8Groups.l0 k (n:Int) l (own0 c) (c:Int)) (grp n (prs l)):=by
 induction d with
 |zero=>
  intro c hc
  refine Ev.succ ?_
  simp only [spec_l8Groups.l0]
  simp only [if_neg (show ¬ (c:Int)< (n:Int) by omega)]
  have e:c=n:=by omega
  subst e
  have h:=specGroups_l1 l (own0 c) hb (by rw [own0_len];exact hn) (by rw [own0_len];exact hx) c 0 (by rw [own0_len];omega)
  unfold grp
  rw [own0_len] at h ⊢
  exact h
 |succ d ih=>
  intro c hc
  refine Ev.succ ?_
  simp only [spec_l8Groups.l0]
  simp only [if_pos (show (c:Int)< (n:Int) by omega),if_pos (show (own0 c).length< 17592186044416 by rw [own0_len];omega),wrap_id (x:=(c:Int)+1) (by omega) (by omega)]
  have h:=ih (c+1) (by omega)
  rw [own0_succ,show ((c+1:Nat):Int)= (c:Int)+1 by omega] at h
  exact h
theorem specGroups_ev (n:Int) (l:List S79) (h0: 0≤n) (hn:n≤1000) (hb:(l.length:Int)≤1048576) (hx:∀ x ∈ l,0≤x.f0∧x.f0<x.f1∧x.f1<n):Ev (fun k=>spec_l8Groups.f k n l) (groupsM n l):=by
 obtain⟨m,rfl⟩:=Int.eq_ofNat_of_zero_le h0
 unfold spec_l8Groups.f groupsM
 rw [Int.toNat_natCast]
 have h:=specGroups_l0 m (by omega) l (by omega) hx m 0 (by omega)
 exact h
def kst (n:Int) (st:List Ed × Int) (e:Ed):List Ed × Int:=if rd (groupsM n st.1) e.f0=rd (groupsM n st.1) e.f1 then st else(st.1++ [e],st.2+e.f2)
def kfold (n:Int) (l:List Ed) (st:List Ed × Int):List Ed × Int:=l.foldl (kst n) st
structure KInv (n:Int) (st:List Ed × Int) (c:Nat):Prop where
 ok:∀ x ∈ st.1,0≤x.f0∧x.f0<x.f1∧x.f1<n
 len:st.1.length≤c
 low: 0≤st.2
 high:st.2≤100 * c
def okX (n:Int) (e:Ed):Prop:=(0≤e.f0∧e.f0<e.f1∧e.f1<n)∧1≤e.f2∧e.f2≤100
theorem KInv.mono {n:Int} {st:List Ed × Int} {c d:Nat} (h:KInv n st c) (hd:c≤d):KInv n st d:=⟨h.ok,Nat.le_trans h.len hd,h.low,by have:=h.high;omega⟩
theorem KInv.step {n:Int} {st:List Ed × Int} {c:Nat} {e:Ed} (h:KInv n st c) (he:okX n e):KInv n (kst n st e) (c+1):=by
 unfold kst
 split
 ·exact h.mono (Nat.le_succ _)
 ·refine⟨fun x hx=>?_,?_,?_,?_⟩
  ·rcases List.mem_append.1 hx with hx|hx
   ·exact h.ok x hx
   ·rw [List.mem_singleton] at hx;rw [hx];exact he.1
  ·show (st.1++ [e]).length≤c+1
   rw [List.length_append,List.length_singleton];have:=h.len;omega
  ·show 0≤st.2+e.f2
   have:=h.low;have:=he.2.1;omega
  ·show st.2+e.f2≤100 * ((c+1:Nat):Int)
   have:=h.high;have:=he.2.2;omega
theorem kfold_inv {n:Int} :∀ (l:List Ed) (st:List Ed × Int) (c:Nat),KInv n st c→ (∀ e ∈ l,okX n e)→KInv n (kfold n l st) (c+l.length)
 | [],st,c,h,_=>h
 |e::l,st,c,h,hl=>by
  have:=kfold_inv l (kst n st e) (c+1) (h.step (hl e (by simp))) (fun x hx=>hl x (by simp [hx]))
  rw [List.length_cons,show c+ (l.length+1)=c+1+l.length by omega]
  exact this
theorem implLT_l {n:Int} (h0: 0≤n) (hn:n≤12) (L:List Ed) (hL:L.length≤1000):∀ (suf pre:List Ed) (st:List Ed × Int),pre++suf=L→KInv n st pre.length→ (∀ e ∈ suf,okX n e)→
  Ev (fun k=>impl_LeastTree.l0 k n st.1 st.2 L L.length pre.length) ((kfold n suf st).1,(kfold n suf st).2,true)
 | [],pre,st,e,h,_=>by
  rw [List.append_nil] at e
  subst e
  refine Ev.succ ?_
  simp only [impl_LeastTree.l0,Int.lt_irrefl,if_false]
  exact Ev.now _
 |x::suf,pre,st,e,h,hx=>by
  have hlen:=lenE_mid pre x suf
  rw [e] at hlen
  have hr:rd_T79 L (pre.length:Int)=x:=by rw [← e];exact rdE_mid pre x suf _ rfl
  have hxx:=hx x (by simp)
  obtain⟨⟨hx0,hx1,hx2⟩,hx3,hx4⟩:=hxx
  have hxx:=hx x (by simp)
  have hgl:=groupsM_len n st.1
  have hil:=h.len
  have hih:=h.high
  have hilo:=h.low
  have hrec:=implLT_l h0 hn L hL suf (pre++ [x]) (kst n st x) (by rw [← app_one];exact e) (by rw [List.length_append,List.length_singleton];exact h.step hxx) (fun y hy=>hx y (by simp [hy]))
  rw [len_one] at hrec
  refine Ev.succ ?_
  simp only [impl_LeastTree.l0,if_pos (show (pre.length:Int)<L.length by omega),if_pos (show (0:Int)≤pre.length by omega),hr]
  refine Ev.bind (implGroupsOf_ev n st.1 h0 (by omega) (by omega) h.ok) ?_
  have hgz:((groupsM n st.1).length:Int)=n:=by rw [hgl];omega
  simp only [hgz,if_pos hxx.1.1,if_pos (show x.f0<n by omega),if_pos (show 0≤x.f1 by omega),if_pos hxx.1.2.2,wrap_id (show (-9223372036854775808:Int)≤ (pre.length:Int)+1 by omega) (show (pre.length:Int)+1≤9223372036854775807 by omega),eta3]
  show Ev _ ((kfold n suf (kst n st x)).1,(kfold n suf (kst n st x)).2,true)
  unfold kst at hrec ⊢
  by_cases hg:rd (groupsM n st.1) x.f0=rd (groupsM n st.1) x.f1
  ·rw [if_pos hg] at hrec ⊢
   simp only [if_pos hg]
   exact hrec
  ·rw [if_neg hg] at hrec ⊢
   simp only [if_neg hg,if_pos (show st.1.length< 5864062014805 by omega),wrap_id (show (-9223372036854775808:Int)≤st.2+x.f2 by omega) (show st.2+x.f2≤9223372036854775807 by omega)]
   exact hrec
theorem specLT_l1 {n:Int} (h0: 0≤n) (hn:n≤12) (L:List Ed) (hL:L.length≤1000) (c:Int) (R:List Ed × Int × Bool):∀ (suf pre:List Ed) (st:List Ed × Int) (m:Nat),pre++suf=L→KInv n st m→m≤1000000→ (∀ e ∈ suf,okX n e)→
  Ev (fun k=>spec_LeastTree.l0 k n L (kfold n (ofK c suf) st).1 (kfold n (ofK c suf) st).2 (wrap64 (c+1))) R→m+suf.length≤1000000→
  Ev (fun k=>spec_LeastTree.l1 k n L st.1 st.2 c L L.length pre.length) R
 | [],pre,st,m,e,h,hm,_,hR,_=>by
  rw [List.append_nil] at e
  subst e
  refine Ev.succ ?_
  simp only [spec_LeastTree.l1,Int.lt_irrefl,if_false]
  exact hR
 |x::suf,pre,st,m,e,h,hm,hx,hR,hms=>by
  have hlen:=lenE_mid pre x suf
  rw [e] at hlen
  have hr:rd_T79 L (pre.length:Int)=x:=by rw [← e];exact rdE_mid pre x suf _ rfl
  have hxx:=hx x (by simp)
  obtain⟨⟨hx0,hx1,hx2⟩,hx3,hx4⟩:=hxx
  have hxx:=hx x (by simp)
  have hgl:=groupsM_len n st.1
  have hil:=h.len
  have hih:=h.high
  have hilo:=h.low
  rw [List.length_cons] at hms
  have hgz:((groupsM n st.1).length:Int)=n:=by rw [hgl];omega
  refine Ev.succ ?_
  simp only [spec_LeastTree.l1,if_pos (show (pre.length:Int)<L.length by omega),if_pos (show (0:Int)≤pre.length by omega),hr]
  refine Ev.bind (specGroups_ev n st.1 h0 (by omega) (by omega) h.ok) ?_
  simp only [hgz,if_pos hxx.1.1,if_pos (show x.f0<n by omega),if_pos (show 0≤x.f1 by omega),if_pos hxx.1.2.2,wrap_id (show (-9223372036854775808:Int)≤ (pre.length:Int)+1 by omega) (show (pre.length:Int)+1≤9223372036854775807 by omega),eta3]
  by_cases hc:x.f2=c
  ·simp only [if_pos hc]
   have hR':Ev (fun k=>spec_LeastTree.l0 k n L (kfold n (ofK c suf) (kst n st x)).1 (kfold n (ofK c suf) (kst n st x)).2 (wrap64 (c+1))) R:=by
    unfold ofK at hR ⊢
    rw [List.filter_cons_of_pos (by simp [hc])] at hR
    exact hR
   have hrec:=specLT_l1 h0 hn L hL c R suf (pre++ [x]) (kst n st x) (m+1) (by rw [← app_one];exact e) (h.step hxx) (by omega) (fun y hy=>hx y (by simp [hy])) hR' (by omega)
   rw [len_one] at hrec
   unfold kst at hrec
   by_cases hg:rd (groupsM n st.1) x.f0=rd (groupsM n st.1) x.f1
   ·rw [if_pos hg] at hrec
    simp only [if_pos hg]
    exact hrec
   ·rw [if_neg hg] at hrec
    simp only [if_neg hg,if_pos (show st.1.length< 5864062014805 by omega),wrap_id (show (-9223372036854775808:Int)≤st.2+c by omega) (show st.2+c≤9223372036854775807 by omega)]
    rw [← hc]
    rw [hc] at hrec ⊢
    exact hrec
  ·simp only [if_neg hc]
   have hR':Ev (fun k=>spec_LeastTree.l0 k n L (kfold n (ofK c suf) st).1 (kfold n (ofK c suf) st).2 (wrap64 (c+1))) R:=by
    unfold ofK at hR ⊢
    rw [List.filter_cons_of_neg (by simp [hc])] at hR
    exact hR
   have hrec:=specLT_l1 h0 hn L hL c R suf (pre++ [x]) st m (by rw [← app_one];exact e) h hm (fun y hy=>hx y (by simp [hy])) hR' (by omega)
   rw [len_one] at hrec
   exact hrec
def catK (l:List Ed):Nat→Int→List Ed
 | 0,_=> []
 |d+1,c=>ofK c l++catK l d (c+1)
theorem specLT_l0 {n:Int} (h0: 0≤n) (hn:n≤12) (L:List Ed) (hL:L.length≤1000) (hx:∀ e ∈ L,okX n e):∀ (d:Nat) (c:Int) (st:List Ed × Int) (m:Nat),c+d=101→1≤c→KInv n st m→m+d * 1000≤1000000 - 1000→
  Ev (fun k=>spec_LeastTree.l0 k n L st.1 st.2 c) ((kfold n (catK L d c) st).1,(kfold n (catK L d c) st).2,true)
 | 0,c,st,m,hc,_,h,hm=>by
  refine Ev.succ ?_
  simp only [spec_LeastTree.l0,if_neg (show ¬ c≤100 by omega),catK]
  exact Ev.now _
 |d+1,c,st,m,hc,hc1,h,hm=>by
  refine Ev.succ ?_
  simp only [spec_LeastTree.l0,if_pos (show c≤100 by omega)]
  have hfl:(ofK c L).length≤1000:=Nat.le_trans (List.length_filter_le _ _) hL
  have hinv:=(kfold_inv (ofK c L) st m h (fun e he=>hx e (List.mem_filter.1 he).1)).mono (show m+ (ofK c L).length≤m+1000 by omega)
  have hrec:=specLT_l0 h0 hn L hL hx d (c+1) (kfold n (ofK c L) st) (m+1000) (by omega) (by omega) hinv (by omega)
  have e:kfold n (catK L (d+1) c) st=kfold n (catK L d (c+1)) (kfold n (ofK c L) st):=by
   unfold kfold
   rw [catK,List.foldl_append]
  rw [e]
  exact specLT_l1 h0 hn L hL c _ L [] st m rfl h (by omega) hx (by rw [wrap_id (by omega) (by omega)];exact hrec) (by omega)
theorem catK_ge (l:List Ed):∀ (d:Nat) (c:Int), ∀ x ∈ catK l d c,c≤x.f2
 | 0,c,x,hx=>by simp [catK] at hx
 |d+1,c,x,hx=>by
  rw [catK] at hx
  rcases List.mem_append.1 hx with hx|hx
  ·have:=of_decide_eq_true (List.mem_filter.1 hx).2;omega
  ·have:=catK_ge l d (c+1) x hx;omega
theorem catK_srt (l:List Ed):∀ (d:Nat) (c:Int),Srt (catK l d c)
 | 0,c=>List.Pairwise.nil
 |d+1,c=>by
  rw [catK]
  refine Srt_app.2 ⟨?_,catK_srt l d (c+1),fun x hx y hy=>?_⟩
  ·refine List.Pairwise.imp_of_mem (R:=fun _ _=>True) (fun {x y} hx hy _=>?_) (List.pairwise_of_forall (fun _ _=>trivial))
   have:=of_decide_eq_true (List.mem_filter.1 hx).2
   have:=of_decide_eq_true (List.mem_filter.1 hy).2
   omega
  ·have:=of_decide_eq_true (List.mem_filter.1 hx).2
   have:=catK_ge l d (c+1) y hy
   omega
theorem ofK_ofK (b c:Int) (l:List Ed):ofK b (ofK c l)=if b=c then ofK c l else []:=by
 split
 ·rename_i h
  subst h
  unfold ofK
  rw [List.filter_filter]
  refine List.filter_congr fun y _=>?_
  simp
 ·rename_i h
  refine ofK_none fun x hx=>?_
  have:=of_decide_eq_true (List.mem_filter.1 hx).2
  omega
theorem catK_of (l:List Ed):∀ (d:Nat) (c b:Int),ofK b (catK l d c)=if c≤b∧b<c+d then ofK b l else []
 | 0,c,b=>by rw [catK,if_neg (by omega)];rfl
 |d+1,c,b=>by
  rw [catK,ofK_app,ofK_ofK,catK_of l d (c+1) b]
  by_cases h:b=c
  ·subst h
   rw [if_pos rfl,if_neg (by omega),if_pos (by omega),List.append_nil]
  ·rw [if_neg h,List.nil_append]
   by_cases h2:c+1≤b∧b<c+1+d
   ·rw [if_pos h2,if_pos (by omega)]
   ·rw [if_neg h2,if_neg (by omega)]
theorem ins_cat (l:List Ed) (h:∀ e ∈ l,1≤e.f2∧e.f2≤100):insS l=catK l 100 1:=by
 refine srt_uniq _ _ (insS_srt l) (catK_srt l 100 1) fun c=>?_
 rw [(insS_stab l).2,catK_of]
 split
 ·rfl
 ·refine ofK_none fun x hx=>?_
  have:=h x hx
  omega
def leastT (n:Int) (l:List Ed):List Ed × Int × Bool:=if goodE n l=true then((kfold n (insS l) ([],0)).1,(kfold n (insS l) ([],0)).2,true) else([],0,false)
theorem good_okX {n:Int} {l:List Ed} (h:goodE n l=true):∀ e ∈ l,okX n e:=fun e he=>by
 have:=goodE_edge h e he
 exact⟨⟨this.1,this.2.1,this.2.2.1⟩,this.2.2.2.1,this.2.2.2.2⟩
theorem KInv.nil (n:Int):KInv n ([],0) 0:=⟨by simp,by simp,by simp,by simp⟩
theorem leastT_len (n:Int) (l:List Ed):(leastT n l).1.length≤40:=by
 unfold leastT
 split
 ·rename_i h
  have hn:=goodE_n h
  have:=(kfold_inv (insS l) ([],0) 0 (KInv.nil n) (fun e he=>good_okX h e ((insS_stab l).mem he))).len
  rw [(insS_stab l).1] at this
  show (kfold n (insS l) ([],0)).1.length≤40
  omega
 ·simp
theorem specLT_ev (n:Int) (l:List Ed) (hl:l.length≤1048576):Ev (fun k=>spec_LeastTree.f k n l) (leastT n l):=by
 unfold spec_LeastTree.f leastT
 refine Ev.bind (specGoodE_ev n l hl) ?_
 by_cases h:goodE n l=true
 ·have hn:=goodE_n h
  simp only [if_pos h]
  rw [ins_cat l (fun e he=>(good_okX h e he).2)]
  exact specLT_l0 (by omega) hn.2.1 l (by omega) (good_okX h) 100 1 ([],0) 0 (by omega) (by omega) (KInv.nil n) (by omega)
 ·simp only [if_neg h]
  exact Ev.now _
theorem implLT_ev (n:Int) (l:List Ed) (hl:l.length≤1048576):Ev (fun k=>impl_LeastTree.f k n l) (leastT n l):=by
 unfold impl_LeastTree.f leastT
 refine Ev.bind (implGoodE_ev n l hl) ?_
 by_cases h:goodE n l=true
 ·have hn:=goodE_n h
  simp only [if_pos h,slices_Clone_Edge.f,if_pos (show l.length< 5864062014805 by omega),Option.bind_some]
  refine Ev.bind (sortS_ev l (fun e he=>by have:=(good_okX h e he).2;omega) (by omega) 0) ?_
  have:=implLT_l (n:=n) (by omega) hn.2.1 (insS l) (by rw [(insS_stab l).1];omega) (insS l) [] ([],0) rfl (KInv.nil n) (fun e he=>good_okX h e ((insS_stab l).mem he))
  rw [show ((insS l).length:Int)=l.length by rw [(insS_stab l).1]] at this
  exact this
 ·simp only [if_neg h]
  exact Ev.now _
-- a tree by its parents: the climb from every node ends
def inr (n x:Int):Bool:=decide (-1≤x∧x≤wrap64 (n - 1))
def inn (n:Int):Bool:=decide (1≤n∧n≤12)
def upOk (l:List Int):Nat→Int→Bool
 | 0,u=>decide (u< 0)
 |d+1,u=>if u≥0 then inr (l.length:Int) (rd l u) && upOk l d (rd l u) else true
def climb (l:List Int):Nat→Int→Int
 | 0,u=>u
 |d+1,u=>if u≥0 then climb l d (rd l u) else climb l d u
def chkS (l:List Int):List Int→Nat→Bool
 | [],_=>inn (l.length:Int)
 |x::suf,i=>inr (l.length:Int) x && (upOk l l.length i && chkS l suf (i+1))
def chkI (l:List Int):Nat→Nat→Bool
 | 0,_=>true
 |d+1,i=>decide (climb l l.length i< 0) && chkI l d (i+1)
theorem topLen {l:List Int} (hl:l.length≤1048576):wrap64 ((l.length:Int) - 1)= (l.length:Int) - 1:=wrap_id (by omega) (by omega)
theorem specPar_l1 (l:List Int) (hl:l.length≤1048576) (X:List Int) (m i:Int) (R:Bool) (d:Nat):∀ (h:Nat) (u:Int),h+d=l.length→ -1≤u→u<l.length→
  (upOk l d u=true→Ev (fun k=>spec_GoodParents.l0 k l l.length X m (wrap64 (i+1))) R)→ (upOk l d u=false→R=false)→
  Ev (fun k=>spec_GoodParents.l1 k l l.length h u X m i) R:=by
 induction d with
 |zero=>
  intro h u hd h0 h1 hT hF
  refine Ev.succ ?_
  by_cases hu:u≥0
  ·simp only [spec_GoodParents.l1,if_pos hu,wrap_id (show (-9223372036854775808:Int)≤h+1 by omega) (show ((h:Int)+1≤9223372036854775807) by omega),if_pos (show (h:Int)+1 > l.length by omega)]
   exact Ev.some_ (hF (by rw [upOk];exact decide_eq_false (by omega))).symm
  ·simp only [spec_GoodParents.l1,if_neg hu]
   exact hT (by rw [upOk];exact decide_eq_true (by omega))
 |succ d ih=>
  intro h u hd h0 h1 hT hF
  refine Ev.succ ?_
  by_cases hu:u≥0
  ·simp only [spec_GoodParents.l1,if_pos hu,wrap_id (show (-9223372036854775808:Int)≤h+1 by omega) (show ((h:Int)+1≤9223372036854775807) by omega),if_neg (show ¬ (h:Int)+1 > l.length by omega),if_pos (show 0≤u from hu),if_pos h1,specIn,Option.bind_some,decide_eq_true_eq]
   rw [upOk,if_pos hu] at hT hF
   by_cases hr: -1≤rd l u∧rd l u≤wrap64 ((l.length:Int) - 1)
   ·simp only [if_pos hr]
    rw [inr,decide_eq_true hr,Bool.true_and] at hT hF
    rw [topLen hl] at hr
    have:=ih (h+1) (rd l u) (by omega) hr.1 (by omega) hT hF
    exact this
   ·simp only [if_neg hr]
    rw [inr,decide_eq_false hr,Bool.false_and] at hF
    exact Ev.some_ (hF rfl).symm
  ·simp only [spec_GoodParents.l1,if_neg hu]
   exact hT (by rw [upOk,if_neg hu])
theorem specPar_l0 (l:List Int) (hl:l.length≤1048576) (suf:List Int):∀ (pre:List Int),pre++suf=l→
  Ev (fun k=>spec_GoodParents.l0 k l l.length l l.length pre.length) (chkS l suf pre.length):=by
 induction suf with
 |nil=>
  intro pre h
  refine Ev.succ ?_
  rw [List.append_nil] at h
  subst h
  simp only [spec_GoodParents.l0,Int.lt_irrefl,if_false,specIn,Option.bind_some]
  exact Ev.now _
 |cons x suf ih=>
  intro pre h
  refine Ev.succ ?_
  have hn:(l.length:Int)=pre.length+suf.length+1:=by rw [← h,len_mid]
  have hx:rd l (pre.length:Int)=x:=by rw [← h,rd_mid]
  simp only [spec_GoodParents.l0,if_pos (show (pre.length:Int)<l.length by omega),if_pos (show (0:Int)≤pre.length by omega),hx,specIn,Option.bind_some,decide_eq_true_eq]
  rw [chkS]
  by_cases hr: -1≤x∧x≤wrap64 ((l.length:Int) - 1)
  ·simp only [if_pos hr]
   rw [inr,decide_eq_true hr,Bool.true_and]
   refine specPar_l1 l hl l l.length pre.length _ l.length 0 pre.length (by omega) (by omega) (by omega) ?_ ?_
   ·intro ho
    rw [ho,Bool.true_and,wrap_id (show (-9223372036854775808:Int)≤pre.length+1 by omega) (show ((pre.length:Int)+1≤9223372036854775807) by omega)]
    have:=ih (pre++ [x]) (by rw [← app_one];exact h)
    rw [len_one,List.length_append,List.length_singleton] at this
    exact this
   ·intro ho
    rw [ho,Bool.false_and]
  ·simp only [if_neg hr]
   rw [inr,decide_eq_false hr,Bool.false_and]
   exact Ev.now _
theorem implPar_l1 (l:List Int) (hl:l.length≤1048576) (ha:allIn (-1) ((l.length:Int) - 1) l=true) (m i:Int) (R:Bool) (d:Nat):∀ (c:Nat) (u:Int),c+d=l.length→ -1≤u→u<l.length→
  Ev (fun k=>if climb l d u≥0 then some false else impl_GoodParents.l0 k l m (wrap64 (i+1))) R→
  Ev (fun k=>impl_GoodParents.l1 k l u m i l.length c) R:=by
 induction d with
 |zero=>
  intro c u hd h0 h1 hR
  refine Ev.succ ?_
  simp only [impl_GoodParents.l1,if_neg (show ¬ (c:Int)<l.length by omega)]
  exact hR
 |succ d ih=>
  intro c u hd h0 h1 hR
  refine Ev.succ ?_
  rw [climb] at hR
  simp only [impl_GoodParents.l1,if_pos (show (c:Int)<l.length by omega),wrap_id (show (-9223372036854775808:Int)≤c+1 by omega) (show ((c:Int)+1≤9223372036854775807) by omega)]
  by_cases hu:u≥0
  ·simp only [if_pos hu,if_pos (show 0≤u from hu),if_pos h1] at hR ⊢
   have hm:rd l u ∈ l:=by
    unfold rd
    rw [List.getD_eq_getElem?_getD,List.getElem?_eq_getElem (show u.toNat<l.length by omega)]
    exact List.getElem_mem _
   have:=List.all_eq_true.1 ha _ hm
   rw [decide_eq_true_eq] at this
   exact ih (c+1) _ (by omega) this.1 (by omega) hR
  ·simp only [if_neg hu] at hR ⊢
   exact ih (c+1) _ (by omega) h0 h1 hR
theorem implPar_l0 (l:List Int) (hl:l.length≤1048576) (ha:allIn (-1) ((l.length:Int) - 1) l=true) (d:Nat):∀ (c:Nat),c+d=l.length→
  Ev (fun k=>impl_GoodParents.l0 k l l.length c) (chkI l d c):=by
 induction d with
 |zero=>
  intro c h
  refine Ev.succ ?_
  simp only [impl_GoodParents.l0,if_neg (show ¬ (c:Int)<l.length by omega)]
  exact Ev.now _
 |succ d ih=>
  intro c h
  refine Ev.succ ?_
  simp only [impl_GoodParents.l0,if_pos (show (c:Int)<l.length by omega)]
  refine implPar_l1 l hl ha l.length c _ l.length 0 c (by omega) (by omega) (by omega) ?_
  rw [chkI]
  by_cases hc:climb l l.length c≥0
  ·simp only [if_pos hc]
   rw [decide_eq_false (by omega),Bool.false_and]
   exact Ev.now _
  ·simp only [if_neg hc]
   rw [decide_eq_true (by omega),Bool.true_and,wrap_id (show (-9223372036854775808:Int)≤c+1 by omega) (show ((c:Int)+1≤9223372036854775807) by omega)]
   exact ih (c+1) (by omega)
theorem climb_neg (l:List Int):∀ (d:Nat) (u:Int),u< 0→climb l d u=u
 | 0,_,_=>rfl
 |d+1,u,h=>by rw [climb,if_neg (by omega)];exact climb_neg l d u h
theorem upOk_climb (l:List Int) (hl:l.length≤1048576) (ha:allIn (-1) ((l.length:Int) - 1) l=true):∀ (d:Nat) (u:Int), -1≤u→u<l.length→upOk l d u=decide (climb l d u< 0)
 | 0,_,_,_=>rfl
 |d+1,u,h0,h1=>by
  rw [upOk,climb]
  by_cases hu:u≥0
  ·have hm:rd l u ∈ l:=by
    unfold rd
    rw [List.getD_eq_getElem?_getD,List.getElem?_eq_getElem (show u.toNat<l.length by omega)]
    exact List.getElem_mem _
   have:=List.all_eq_true.1 ha _ hm
   rw [decide_eq_true_eq] at this
   rw [if_pos hu,if_pos hu,inr,topLen hl,decide_eq_true this,Bool.true_and]
   exact upOk_climb l hl ha d _ this.1 (by omega)
  ·rw [if_neg hu,if_neg hu,climb_neg l d u (by omega)]
   exact(decide_eq_true (by omega)).symm
theorem chk_same (l:List Int) (hl:l.length≤1048576) (ha:allIn (-1) ((l.length:Int) - 1) l=true):∀ (suf:List Int) (c:Nat),(∀ x ∈ suf,x ∈ l)→c+suf.length=l.length→chkS l suf c= (chkI l suf.length c && inn (l.length:Int))
 | [],c,_,_=>by rw [chkS,List.length_nil,chkI,Bool.true_and]
 |x::suf,c,hm,hc=>by
  have hx:=List.all_eq_true.1 ha x (hm x (List.mem_cons_self ..))
  rw [decide_eq_true_eq] at hx
  rw [List.length_cons] at hc
  rw [chkS,List.length_cons,chkI,inr,topLen hl,decide_eq_true hx,Bool.true_and,upOk_climb l hl ha l.length c (by omega) (by omega),chk_same l hl ha suf (c+1) (fun y hy=>hm y (List.mem_cons_of_mem _ hy)) (by omega),Bool.and_assoc]
theorem chk_all (l:List Int) (hl:l.length≤1048576):∀ (suf:List Int) (c:Nat),chkS l suf c=true→allIn (-1) ((l.length:Int) - 1) suf=true
 | [],_,_=>rfl
 |x::suf,c,h=>by
  rw [chkS,Bool.and_eq_true,Bool.and_eq_true,inr,topLen hl] at h
  rw [allIn,List.all_cons,h.1,Bool.true_and]
  exact chk_all l hl suf (c+1) h.2.2
def goodP (l:List Int):Bool:=chkS l l 0
theorem specGoodP_ev (l:List Int) (hl:l.length≤1048576):Ev (fun k=>spec_GoodParents.f k l) (goodP l):=by
 have:=specPar_l0 l hl l [] rfl
 exact this
theorem implGoodP_ev (l:List Int) (hl:l.length≤1048576):Ev (fun k=>impl_GoodParents.f k l) (goodP l):=by
 unfold impl_GoodParents.f impl_isSpots.f goodP
 simp only [implIn,Option.bind_some,decide_eq_true_eq]
 have bad:Ev (fun k=>impl_GoodParents.j0 k l true) false:=by
  refine Ev.succ ?_
  simp only [impl_GoodParents.j0,if_true]
  exact Ev.now _
 by_cases hn: 1≤ (l.length:Int)∧ (l.length:Int)≤12
 ·simp only [if_pos hn]
  refine Ev.bind (implAll_ev _ _ l (by omega)) ?_
  rw [topLen hl]
  by_cases ha:allIn (-1) ((l.length:Int) - 1) l=true
  ·rw [ha,chk_same l hl ha l 0 (fun x h=>h) (by omega),inn,decide_eq_true hn,Bool.and_true]
   refine Ev.succ ?_
   simp only [impl_GoodParents.j0,Bool.not_true,Bool.false_eq_true,if_false]
   exact implPar_l0 l hl ha l.length 0 (by omega)
  ·rw [show chkS l l 0=false from Bool.eq_false_iff.2 fun hc=>ha (chk_all l hl l 0 hc),Bool.eq_false_iff.2 ha]
   exact bad
 ·simp only [if_neg hn]
  rw [show chkS l l 0=false from ?_]
  ·exact bad
  ·refine Bool.eq_false_iff.2 fun hc=>?_
   have ha:=chk_all l hl l 0 hc
   rw [chk_same l hl ha l 0 (fun x h=>h) (by omega),inn,decide_eq_false hn,Bool.and_false] at hc
   exact Bool.false_ne_true hc
-- one round of shortening, both sides
def relStep (old out:List Int) (e:S79):List Int:=(out.set e.f0.toNat (min (rd out e.f0) (wrap64 (rd old e.f1+e.f2)))).set e.f1.toNat (min (rd (out.set e.f0.toNat (min (rd out e.f0) (wrap64 (rd old e.f1+e.f2)))) e.f1) (wrap64 (rd old e.f0+e.f2)))
theorem relStep_len (old out:List Int) (e:S79):(relStep old out e).length=out.length:=by simp [relStep]
def relaxM (l:List S79) (old:List Int):List Int:=l.foldl (relStep old) old
theorem relFold_len (old:List Int):∀ (l:List S79) (out:List Int),(l.foldl (relStep old) out).length=out.length
 | [],_=>rfl
 |e::l,out=>by rw [List.foldl_cons,relFold_len old l,relStep_len]
theorem relaxM_len (l:List S79) (old:List Int):(relaxM l old).length=old.length:=relFold_len old l old
theorem specRelax_l (old:List Int) (suf:List S79):∀ (pre:List S79) (out:List Int),((pre++suf).length:Int)≤1099511627776→out.length=old.length→ (∀ x ∈ suf,0≤x.f0∧x.f0<x.f1∧x.f1<old.length)→
  Ev (fun k=>spec_l9Relax.l0 k old out (pre++suf) ((pre++suf).length:Int) pre.length) (suf.foldl (relStep old) out):=by
 induction suf with
 |nil=>
  intro pre out h ho hx
  refine Ev.succ ?_
  simp only [spec_l9Relax.l0,List.append_nil,Int.lt_irrefl,if_false,List.foldl_nil]
  exact Ev.now _
 |cons e suf ih=>
  intro pre out h ho hx
  refine Ev.succ ?_
  rw [len_mid] at h ⊢
  have hs:=relStep_len old out e
  have:=ih (pre++ [e]) (relStep old out e) (by rw [← app_one,len_mid];exact h) (by omega) (fun x hm=>hx x (List.mem_cons_of_mem _ hm))
  rw [← app_one,len_mid,len_one] at this
  have he:=hx e (List.mem_cons_self ..)
  simp only [spec_l9Relax.l0,List.foldl_cons]
  simp only [if_pos (show ((pre.length:Int)<pre.length+suf.length+1) by omega),if_pos (show (0:Int)≤pre.length by omega),len_mid,rdEdge_mid,wrap_id (show (-9223372036854775808:Int)≤pre.length+1 by omega) (show ((pre.length:Int)+1≤9223372036854775807) by omega),if_pos he.1,if_pos (show e.f0< (out.length:Int) by omega),if_pos (show 0≤e.f1 by omega),if_pos he.2.2,if_pos (show e.f1< (out.length:Int) by omega),if_pos (show e.f0< (old.length:Int) by omega),least_is,Option.bind_some]
  exact this
theorem implRelax_l (old:List Int) (suf:List S79):∀ (pre:List S79) (out:List Int),((pre++suf).length:Int)≤1099511627776→out.length=old.length→ (∀ x ∈ suf,0≤x.f0∧x.f0<x.f1∧x.f1<old.length)→
  Ev (fun k=>impl_relaxed.l0 k old out (pre++suf) ((pre++suf).length:Int) pre.length) (suf.foldl (relStep old) out):=by
 induction suf with
 |nil=>
  intro pre out h ho hx
  refine Ev.succ ?_
  simp only [impl_relaxed.l0,List.append_nil,Int.lt_irrefl,if_false,List.foldl_nil]
  exact Ev.now _
 |cons e suf ih=>
  intro pre out h ho hx
  refine Ev.succ ?_
  rw [len_mid] at h ⊢
  have hs:=relStep_len old out e
  have:=ih (pre++ [e]) (relStep old out e) (by rw [← app_one,len_mid];exact h) (by omega) (fun x hm=>hx x (List.mem_cons_of_mem _ hm))
  rw [← app_one,len_mid,len_one] at this
  have he:=hx e (List.mem_cons_self ..)
  simp only [impl_relaxed.l0,List.foldl_cons]
  simp only [if_pos (show ((pre.length:Int)<pre.length+suf.length+1) by omega),if_pos (show (0:Int)≤pre.length by omega),len_mid,rdEdge_mid,wrap_id (show (-9223372036854775808:Int)≤pre.length+1 by omega) (show ((pre.length:Int)+1≤9223372036854775807) by omega),if_pos he.1,if_pos (show e.f0< (out.length:Int) by omega),if_pos (show 0≤e.f1 by omega),if_pos he.2.2,if_pos (show e.f1< (out.length:Int) by omega),if_pos (show e.f0< (old.length:Int) by omega),mn_is,Option.bind_some]
  exact this
theorem specRelax_ev (l:List S79) (old:List Int) (hb:(l.length:Int)≤1099511627776) (ho:old.length≤1048576) (hx:∀ x ∈ l,0≤x.f0∧x.f0<x.f1∧x.f1<old.length):Ev (fun k=>spec_l9Relax.f k l old) (relaxM l old):=by
 unfold spec_l9Relax.f
 simp only [Option.bind_some,List.length_nil,Nat.zero_add,List.nil_append,if_pos (show old.length< 17592186044416 by omega)]
 have:=specRelax_l old l [] old hb rfl hx
 exact this
theorem implRelax_ev (l:List S79) (old:List Int) (hb:(l.length:Int)≤1099511627776) (ho:old.length≤1048576) (hx:∀ x ∈ l,0≤x.f0∧x.f0<x.f1∧x.f1<old.length):Ev (fun k=>impl_relaxed.f k l old) (relaxM l old):=by
 unfold impl_relaxed.f
 simp only [Option.bind_some,List.length_nil,Nat.zero_add,List.nil_append,if_pos (show old.length< 17592186044416 by omega)]
 have:=implRelax_l old l [] old hb rfl hx
 exact this
-- the neighbours of a node: the sorted puts and the sweep over costs give one list
def putI:List Int→Int→List Int
 | [],x=> [x]
 |y::r,x=>if y<x then y::putI r x else if y=x then y::r else x::y::r
theorem putI_len:∀ (l:List Int) (x:Int),(putI l x).length≤l.length+1
 | [],x=>by simp [putI]
 |y::r,x=>by
  have:=putI_len r x
  unfold putI
  split
  ·simp;omega
  ·split<;>simp
theorem putI_mem:∀ (l:List Int) (x z:Int),z ∈ putI l x↔z=x∨z ∈ l
 | [],x,z=>by simp [putI]
 |y::r,x,z=>by
  have:=putI_mem r x z
  unfold putI
  split
  ·simp only [List.mem_cons,this]
   constructor
   ·rintro(h|h|h)<;>simp [h]
   ·rintro(h|h|h)<;>simp [h]
  ·split
   ·rename_i h
    subst h
    simp
   ·simp
theorem putI_sorted:∀ (l:List Int) (x:Int),l.Pairwise (· < ·)→ (putI l x).Pairwise (· < ·)
 | [],x,_=>by simp [putI]
 |y::r,x,h=>by
  have h1:=List.pairwise_cons.1 h
  have:=putI_sorted r x h1.2
  unfold putI
  split
  ·rename_i hyx
   refine List.pairwise_cons.2 ⟨fun z hz=>?_,this⟩
   rcases (putI_mem r x z).1 hz with h2|h2
   ·omega
   ·exact h1.1 z h2
  ·split
   ·exact h
   ·refine List.pairwise_cons.2 ⟨fun z hz=>?_,h⟩
    rcases List.mem_cons.1 hz with h2|h2
    ·omega
    ·have:=h1.1 z h2
     omega
theorem sorted_ext:∀ (a b:List Int),a.Pairwise (· < ·)→b.Pairwise (· < ·)→ (∀ x,x ∈ a↔x ∈ b)→a=b
 | [],[],_,_,_=>rfl
 | [],y::b,_,_,h=>by have:=(h y).2 (List.mem_cons_self ..);simp at this
 |x::a,[],_,_,h=>by have:=(h x).1 (List.mem_cons_self ..);simp at this
 |x::a,y::b,ha,hb,h=>by
  have ha1:=List.pairwise_cons.1 ha
  have hb1:=List.pairwise_cons.1 hb
  have hxy:x=y:=by
   rcases List.mem_cons.1 ((h x).1 (List.mem_cons_self ..)) with h1|h1
   ·exact h1
   ·rcases List.mem_cons.1 ((h y).2 (List.mem_cons_self ..)) with h2|h2
    ·exact h2.symm
    ·have:=ha1.1 y h2
     have:=hb1.1 x h1
     omega
  subst hxy
  rw [sorted_ext a b ha1.2 hb1.2 fun z=>?_]
  constructor
  ·intro hz
   rcases List.mem_cons.1 ((h z).1 (List.mem_cons_of_mem _ hz)) with h1|h1
   ·have:=ha1.1 z hz
    omega
   ·exact h1
  ·intro hz
   rcases List.mem_cons.1 ((h z).2 (List.mem_cons_of_mem _ hz)) with h1|h1
   ·have:=hb1.1 z hz
    omega
   ·exact h1
theorem put_l (x:Int) (suf:List Int):∀ (pre:List Int),((pre++suf).length:Int)≤4398046511104→Ev (fun k=>spec_l1Put.l0 k (pre++suf) x pre.length) (pre++putI suf x):=by
 induction suf with
 |nil=>
  intro pre h
  refine Ev.succ ?_
  simp only [List.append_nil] at h ⊢
  have h0:pre.length< 17592186044416:=by omega
  simp only [spec_l1Put.l0,Int.lt_irrefl,if_false,Option.bind_some,if_pos (show (0:Int)≤pre.length by omega),if_pos (Int.le_refl (pre.length:Int)),Int.toNat_natCast,List.take_length,List.drop_length,List.nil_append,List.length_nil,Nat.zero_add,if_pos h0,List.length_append,List.length_cons,Nat.add_zero,List.append_nil,if_pos (show pre.length+ (0+1)< 17592186044416 by omega),if_pos (show pre.length+1< 17592186044416 by omega),putI]
  exact Ev.now _
 |cons y suf ih=>
  intro pre h
  refine Ev.succ ?_
  have hl:=len_mid pre y suf
  rw [hl] at h
  simp only [spec_l1Put.l0,hl,rd_mid,if_pos (show ((pre.length:Int)<pre.length+suf.length+1) by omega),if_pos (show (0:Int)≤pre.length by omega),wrap_id (show (-9223372036854775808:Int)≤pre.length+1 by omega) (show ((pre.length:Int)+1≤9223372036854775807) by omega)]
  by_cases h1:y<x
  ·have:=ih (pre++ [y]) (by rw [← app_one,hl];exact h)
   rw [← app_one,len_one] at this
   simp only [if_pos h1,putI]
   rw [app_one] at this
   rw [app_one pre y (putI suf x)]
   rw [← app_one] at this
   exact this
  ·by_cases h2:y=x
   ·simp only [if_neg h1,if_pos h2,putI]
    exact Ev.now _
   ·have h0:pre.length< 17592186044416:=by omega
    simp only [if_neg h1,if_neg h2,putI,Option.bind_some,if_pos (show (pre.length:Int)≤pre.length+suf.length+1 by omega),Int.toNat_natCast,List.take_left,List.drop_left,List.nil_append,List.length_nil,Nat.zero_add,if_pos h0,List.length_append,List.length_cons,if_pos (show pre.length+1+ (suf.length+1)< 17592186044416 by omega),if_pos (show pre.length+ (0+1)+ (suf.length+1)< 17592186044416 by omega),List.append_assoc,List.cons_append]
    exact Ev.now _
theorem put_ev (l:List Int) (x:Int) (h:(l.length:Int)≤4398046511104):Ev (fun k=>spec_l1Put.f k l x) (putI l x):=by
 have:=put_l x l [] h
 exact this
def nearStep (v:Int) (out:List Int) (e:S79):List Int:=if e.f0=v then(if e.f1=v then putI (putI out e.f1) e.f0 else putI out e.f1) else(if e.f1=v then putI out e.f0 else out)
theorem nearStep_len (v:Int) (out:List Int) (e:S79):(nearStep v out e).length≤out.length+2:=by
 unfold nearStep
 split
 ·split
  ·have:=putI_len (putI out e.f1) e.f0
   have:=putI_len out e.f1
   omega
  ·have:=putI_len out e.f1
   omega
 ·split
  ·have:=putI_len out e.f0
   omega
  ·omega
theorem specNear_l (v:Int) (suf:List S79):∀ (pre:List S79) (out:List Int),((pre++suf).length:Int)≤1099511627776→ (out.length:Int)≤2 * pre.length→
  Ev (fun k=>spec_l8Near.l0 k v out (pre++suf) ((pre++suf).length:Int) pre.length) (suf.foldl (nearStep v) out):=by
 induction suf with
 |nil=>
  intro pre out h ho
  refine Ev.succ ?_
  simp only [spec_l8Near.l0,List.append_nil,Int.lt_irrefl,if_false,List.foldl_nil]
  exact Ev.now _
 |cons e suf ih=>
  intro pre out h ho
  refine Ev.succ ?_
  rw [len_mid] at h ⊢
  have hs:=nearStep_len v out e
  have:=ih (pre++ [e]) (nearStep v out e) (by rw [← app_one,len_mid];exact h) (by rw [len_one];omega)
  rw [← app_one,len_mid,len_one] at this
  simp only [spec_l8Near.l0,List.foldl_cons]
  simp only [if_pos (show ((pre.length:Int)<pre.length+suf.length+1) by omega),if_pos (show (0:Int)≤pre.length by omega),len_mid,rdEdge_mid,wrap_id (show (-9223372036854775808:Int)≤pre.length+1 by omega) (show ((pre.length:Int)+1≤9223372036854775807) by omega)]
  have hp:=putI_len out e.f1
  by_cases h1:e.f0=v
  ·by_cases h2:e.f1=v
   ·simp only [if_pos h1,if_pos h2]
    refine Ev.bind (put_ev _ _ (by omega)) ?_
    refine Ev.bind (put_ev _ _ (by omega)) ?_
    rw [show nearStep v out e=putI (putI out e.f1) e.f0 by simp [nearStep,h1,h2]] at this
    rw [show nearStep v out e=putI (putI out e.f1) e.f0 by simp [nearStep,h1,h2]]
    exact this
   ·simp only [if_pos h1,if_neg h2]
    refine Ev.bind (put_ev _ _ (by omega)) ?_
    rw [show nearStep v out e=putI out e.f1 by simp only [nearStep,if_pos h1,if_neg h2]] at this
    rw [show nearStep v out e=putI out e.f1 by simp only [nearStep,if_pos h1,if_neg h2]]
    exact this
  ·by_cases h2:e.f1=v
   ·simp only [if_neg h1,if_pos h2]
    refine Ev.bind (put_ev _ _ (by omega)) ?_
    rw [show nearStep v out e=putI out e.f0 by simp only [nearStep,if_neg h1,if_pos h2]] at this
    rw [show nearStep v out e=putI out e.f0 by simp only [nearStep,if_neg h1,if_pos h2]]
    exact this
   ·simp only [if_neg h1,if_neg h2]
    rw [show nearStep v out e=out by simp only [nearStep,if_neg h1,if_neg h2]] at this
    rw [show nearStep v out e=out by simp only [nearStep,if_neg h1,if_neg h2]]
    exact this
def nearS (l:List S79) (v:Int):List Int:=l.foldl (nearStep v) []
theorem specNear_ev (l:List S79) (v:Int) (h:(l.length:Int)≤1099511627776):Ev (fun k=>spec_l8Near.f k l v) (nearS l v):=by
 have:=specNear_l v l [] [] h (by simp)
 exact this
theorem foldNear (v:Int):∀ (l:List S79) (out:List Int),out.Pairwise (· < ·)→ (l.foldl (nearStep v) out).Pairwise (· < ·)∧ ∀ x,x ∈ l.foldl (nearStep v) out↔x ∈ out∨ ∃ e ∈ l,(e.f0=v∧e.f1=x)∨ (e.f1=v∧e.f0=x)
 | [],out,h=>by simp [h]
 |e::l,out,h=>by
  have h1:(nearStep v out e).Pairwise (· < ·):=by
   unfold nearStep
   split
   ·split
    ·exact putI_sorted _ _ (putI_sorted _ _ h)
    ·exact putI_sorted _ _ h
   ·split
    ·exact putI_sorted _ _ h
    ·exact h
  have h2:∀ x,x ∈ nearStep v out e↔x ∈ out∨ (e.f0=v∧e.f1=x)∨ (e.f1=v∧e.f0=x):=by
   intro x
   unfold nearStep
   split
   ·rename_i a
    split
    ·rename_i b
     rw [putI_mem,putI_mem]
     constructor
     ·rintro(c|c|c)
      ·exact .inr (.inr ⟨b,c.symm⟩)
      ·exact .inr (.inl ⟨a,c.symm⟩)
      ·exact .inl c
     ·rintro(c|c|c)
      ·exact .inr (.inr c)
      ·exact .inr (.inl c.2.symm)
      ·exact .inl c.2.symm
    ·rename_i b
     rw [putI_mem]
     constructor
     ·rintro(c|c)
      ·exact .inr (.inl ⟨a,c.symm⟩)
      ·exact .inl c
     ·rintro(c|c|c)
      ·exact .inr c
      ·exact .inl c.2.symm
      ·exact absurd c.1 b
   ·rename_i a
    split
    ·rename_i b
     rw [putI_mem]
     constructor
     ·rintro(c|c)
      ·exact .inr (.inr ⟨b,c.symm⟩)
      ·exact .inl c
     ·rintro(c|c|c)
      ·exact .inr c
      ·exact absurd c.1 a
      ·exact .inl c.2.symm
    ·rename_i b
     constructor
     ·exact .inl
     ·rintro(c|c|c)
      ·exact c
      ·exact absurd c.1 a
      ·exact absurd c.1 b
  have h3:=foldNear v l (nearStep v out e) h1
  refine⟨h3.1,fun x=>?_⟩
  rw [List.foldl_cons,h3.2,h2]
  constructor
  ·rintro((c|c)|⟨y,c,d⟩)
   ·exact .inl c
   ·exact .inr ⟨e,List.mem_cons_self ..,c⟩
   ·exact .inr ⟨y,List.mem_cons_of_mem _ c,d⟩
  ·rintro(c|⟨y,c,d⟩)
   ·exact .inl (.inl c)
   ·rcases List.mem_cons.1 c with rfl|c
    ·exact .inl (.inr d)
    ·exact .inr ⟨y,c,d⟩
def isAt (a b:Int) (e:S79):Bool:=decide (e.f0=min a b∧e.f1=max a b)
def costM (l:List S79) (a b:Int):Int:=match l.find? (isAt a b) with
 |some e=>e.f2
 |none=>0
theorem implCost_l (a b:Int) (suf:List S79):∀ (pre:List S79),((pre++suf).length:Int)≤1099511627776→
  Ev (fun k=>impl_cost.l0 k a b (pre++suf) ((pre++suf).length:Int) pre.length) (costM suf a b):=by
 induction suf with
 |nil=>
  intro pre h
  refine Ev.succ ?_
  simp only [impl_cost.l0,List.append_nil,Int.lt_irrefl,if_false]
  exact Ev.now _
 |cons e suf ih=>
  intro pre h
  refine Ev.succ ?_
  rw [len_mid] at h ⊢
  have:=ih (pre++ [e]) (by rw [← app_one,len_mid];exact h)
  rw [← app_one,len_mid,len_one] at this
  simp only [impl_cost.l0]
  simp only [if_pos (show ((pre.length:Int)<pre.length+suf.length+1) by omega),if_pos (show (0:Int)≤pre.length by omega),len_mid,rdEdge_mid,wrap_id (show (-9223372036854775808:Int)≤pre.length+1 by omega) (show ((pre.length:Int)+1≤9223372036854775807) by omega),mn_is,mx_is]
  by_cases h1:e.f0=min a b
  ·by_cases h2:e.f1=max a b
   ·simp only [if_pos h1,if_pos h2]
    rw [show costM (e::suf) a b=e.f2 by unfold costM;rw [List.find?_cons_of_pos (by simp only [isAt,h1,h2,and_self,decide_true])]]
    exact Ev.now _
   ·simp only [if_pos h1,if_neg h2]
    rw [show costM (e::suf) a b=costM suf a b by unfold costM;rw [List.find?_cons_of_neg (by simp only [isAt,h2,and_false,decide_false];simp)]]
    exact this
  ·simp only [if_neg h1]
   rw [show costM (e::suf) a b=costM suf a b by unfold costM;rw [List.find?_cons_of_neg (by simp only [isAt,h1,false_and,decide_false];simp)]]
   exact this
theorem implCost_ev (l:List S79) (a b:Int) (h:(l.length:Int)≤1099511627776):Ev (fun k=>impl_cost.f k l a b) (costM l a b):=by
 have:=implCost_l a b l [] h
 exact this
def nearM (n:Nat) (l:List S79) (v:Int):List Int:=(own0 n).filter fun u=>decide (costM l v u > 0)
theorem nearM_succ (n:Nat) (l:List S79) (v:Int):nearM (n+1) l v=if costM l v n > 0 then nearM n l v++ [(n:Int)] else nearM n l v:=by
 unfold nearM
 rw [own0_succ,List.filter_append]
 split
 ·rename_i h
  simp [h]
 ·rename_i h
  simp [h]
theorem nearM_len (n:Nat) (l:List S79) (v:Int):(nearM n l v).length≤n:=by
 have:=List.length_filter_le (fun u=>decide (costM l v u > 0)) (own0 n)
 rw [own0_len] at this
 exact this
theorem implNear_l (l:List S79) (v:Int) (hb:(l.length:Int)≤1099511627776) (d:Nat):∀ (c:Nat),c+d≤1000000→
  Ev (fun k=>impl_near.l0 k l v (nearM c l v) ((c+d:Nat):Int) c) (nearM (c+d) l v):=by
 induction d with
 |zero=>
  intro c h
  refine Ev.succ ?_
  simp only [impl_near.l0,Nat.add_zero,Int.lt_irrefl,if_false]
  exact Ev.now _
 |succ d ih=>
  intro c h
  refine Ev.succ ?_
  have:=ih (c+1) (by omega)
  rw [show c+1+d=c+ (d+1) by omega] at this
  have hl:=nearM_len c l v
  simp only [impl_near.l0,if_pos (show (c:Int)< ((c+ (d+1):Nat):Int) by omega),wrap_id (show (-9223372036854775808:Int)≤c+1 by omega) (show ((c:Int)+1≤9223372036854775807) by omega)]
  refine Ev.bind (implCost_ev l v c hb) ?_
  rw [nearM_succ] at this
  by_cases h1:costM l v c > 0
  ·simp only [if_pos h1,if_pos (show (nearM c l v).length< 17592186044416 by omega)] at this ⊢
   exact this
  ·simp only [if_neg h1] at this ⊢
   exact this
theorem implNear_ev (n:Int) (l:List S79) (v:Int) (h0: 0≤n) (hn:n≤1000) (hb:(l.length:Int)≤1099511627776):Ev (fun k=>impl_near.f k n l v) (nearM n.toNat l v):=by
 have:=implNear_l l v hb n.toNat 0 (by omega)
 rw [Nat.zero_add,show ((n.toNat:Nat):Int)=n by omega] at this
 exact this
theorem costM_pos {n:Int} {l:List S79} (hx:∀ x ∈ l,0≤x.f0∧x.f0<x.f1∧x.f1<n∧1≤x.f2∧x.f2≤100) (a b:Int):costM l a b > 0↔ ∃ e ∈ l,(e.f0=a∧e.f1=b)∨ (e.f1=a∧e.f0=b):=by
 unfold costM
 cases hf:l.find? (isAt a b) with
 |none=>
  simp only [gt_iff_lt,Int.lt_irrefl,false_iff]
  rintro⟨e,he,hc⟩
  have:=hx e he
  have h1:=List.find?_eq_none.1 hf e he
  simp only [isAt,decide_eq_true_eq] at h1
  omega
 |some e=>
  have he:=List.mem_of_find?_eq_some hf
  have:=hx e he
  have h1:=List.find?_some hf
  simp only [isAt,decide_eq_true_eq] at h1
  simp only [gt_iff_lt]
  refine⟨fun _=>⟨e,he,?_⟩,fun _=>by omega⟩
  omega
theorem near_same {n:Int} {l:List S79} (hx:∀ x ∈ l,0≤x.f0∧x.f0<x.f1∧x.f1<n∧1≤x.f2∧x.f2≤100) (v:Int):nearS l v=nearM n.toNat l v:=by
 have h:=foldNear v l [] (by simp)
 refine sorted_ext _ _ h.1 ?_ fun x=>?_
 ·exact(own0_sorted _).filter _
 ·unfold nearM
  rw [List.mem_filter,own0_mem,decide_eq_true_eq,costM_pos hx]
  have h2:=h.2 x
  simp only [List.not_mem_nil,false_or] at h2
  refine h2.trans ⟨fun hc=>⟨?_,hc⟩,fun hc=>hc.2⟩
  obtain⟨e,he,hc⟩:=hc
  have:=hx e he
  omega
-- all the shortest ways from a node, both sides
def farsIt (l:List S79):Nat→List Int→List Int
 | 0,x=>x
 |d+1,x=>farsIt l d (relaxM l x)
theorem farsIt_len (l:List S79):∀ (d:Nat) (x:List Int),(farsIt l d x).length=x.length
 | 0,_=>rfl
 |d+1,x=>by rw [farsIt,farsIt_len l d,relaxM_len]
def fars0 (n:Nat) (a:Int):List Int:=(List.replicate n (100000:Int)).set a.toNat 0
theorem fars0_len (n:Nat) (a:Int):(fars0 n a).length=n:=by simp [fars0]
def farsM (n:Nat) (l:List S79) (a:Int):List Int:=farsIt l n (fars0 n a)
theorem farsM_len (n:Nat) (l:List S79) (a:Int):(farsM n l a).length=n:=by rw [farsM,farsIt_len,fars0_len]
theorem specFars_l1 (n:Nat) (hn:n≤1000) (l:List S79) (hb:(l.length:Int)≤1099511627776) (hx:∀ x ∈ l,0≤x.f0∧x.f0<x.f1∧x.f1<n) (d:Nat):∀ (c:Nat) (x:List Int),c+d=n→x.length=n→
  Ev (fun k=>spec_l9Fars.l1 k n l x c) (farsIt l d x):=by
 induction d with
 |zero=>
  intro c x h hl
  refine Ev.succ ?_
  simp only [spec_l9Fars.l1,if_neg (show ¬ (c:Int)<n by omega)]
  exact Ev.now _
 |succ d ih=>
  intro c x h hl
  refine Ev.succ ?_
  have:=ih (c+1) (relaxM l x) (by omega) (by rw [relaxM_len,hl])
  simp only [spec_l9Fars.l1,if_pos (show (c:Int)<n by omega),wrap_id (show (-9223372036854775808:Int)≤c+1 by omega) (show ((c:Int)+1≤9223372036854775807) by omega)]
  refine Ev.bind (specRelax_ev l x hb (by omega) (by rw [hl];exact hx)) ?_
  exact this
theorem implFars_l1 (n:Nat) (hn:n≤1000) (l:List S79) (hb:(l.length:Int)≤1099511627776) (hx:∀ x ∈ l,0≤x.f0∧x.f0<x.f1∧x.f1<n) (d:Nat):∀ (c:Nat) (x:List Int),c+d=n→x.length=n→
  Ev (fun k=>impl_fars.l1 k l x n c) (farsIt l d x):=by
 induction d with
 |zero=>
  intro c x h hl
  refine Ev.succ ?_
  simp only [impl_fars.l1,if_neg (show ¬ (c:Int)<n by omega)]
  exact Ev.now _
 |succ d ih=>
  intro c x h hl
  refine Ev.succ ?_
  have:=ih (c+1) (relaxM l x) (by omega) (by rw [relaxM_len,hl])
  simp only [impl_fars.l1,if_pos (show (c:Int)<n by omega),wrap_id (show (-9223372036854775808:Int)≤c+1 by omega) (show ((c:Int)+1≤9223372036854775807) by omega)]
  refine Ev.bind (implRelax_ev l x hb (by omega) (by rw [hl];exact hx)) ?_
  exact this
theorem rep_succ (c:Nat) (x:Int):List.replicate c x++ [x]=List.replicate (c+1) x:=by
 rw [List.replicate_succ']
theorem specFars_l0 (n:Nat) (hn:n≤1000) (l:List S79) (a:Int) (R:List Int) (ha: 0≤a) (ha1:a<n) (hR:Ev (fun k=>spec_l9Fars.l1 k n l (fars0 n a) 0) R) (d:Nat):∀ (c:Nat),c+d=n→
  Ev (fun k=>spec_l9Fars.l0 k n l a (List.replicate c 100000) c) R:=by
 induction d with
 |zero=>
  intro c h
  refine Ev.succ ?_
  have hc:c=n:=by omega
  subst hc
  simp only [spec_l9Fars.l0,Int.lt_irrefl,if_false,if_pos ha,List.length_replicate,if_pos ha1]
  exact hR
 |succ d ih=>
  intro c h
  refine Ev.succ ?_
  have:=ih (c+1) (by omega)
  simp only [spec_l9Fars.l0,if_pos (show (c:Int)<n by omega),List.length_replicate,if_pos (show c< 17592186044416 by omega),wrap_id (show (-9223372036854775808:Int)≤c+1 by omega) (show ((c:Int)+1≤9223372036854775807) by omega)]
  rw [rep_succ]
  exact this
theorem specFars_ev (n:Int) (l:List S79) (a:Int) (hn:n≤1000) (hb:(l.length:Int)≤1099511627776) (hx:∀ x ∈ l,0≤x.f0∧x.f0<x.f1∧x.f1<n) (ha: 0≤a) (ha1:a<n):Ev (fun k=>spec_l9Fars.f k n l a) (farsM n.toNat l a):=by
 obtain⟨m,rfl⟩:=Int.eq_ofNat_of_zero_le (show 0≤n by omega)
 rw [Int.toNat_natCast]
 have:=specFars_l0 m (by omega) l a _ ha ha1 (specFars_l1 m (by omega) l hb hx m 0 _ (by omega) (fars0_len m a)) m 0 (by omega)
 exact this
theorem implFars_l0 (n:Nat) (hn:n≤1000) (l:List S79) (a:Int) (R:List Int) (ha: 0≤a) (ha1:a<n) (hR:Ev (fun k=>impl_fars.l1 k l (fars0 n a) n 0) R) (d:Nat):∀ (c:Nat),c+d=n→
  Ev (fun k=>impl_fars.l0 k n l a (List.replicate c 100000++List.replicate d 0) n c) R:=by
 induction d with
 |zero=>
  intro c h
  refine Ev.succ ?_
  have hc:c=n:=by omega
  subst hc
  simp only [impl_fars.l0,Int.lt_irrefl,if_false,if_pos ha,List.replicate_zero,List.append_nil,List.length_replicate,if_pos ha1]
  exact hR
 |succ d ih=>
  intro c h
  refine Ev.succ ?_
  have:=ih (c+1) (by omega)
  have hl:((List.replicate c (100000:Int)++List.replicate (d+1) (0:Int)).length:Int)=n:=by simp;omega
  simp only [impl_fars.l0,hl,if_pos (show (c:Int)<n by omega),if_pos (show (0:Int)≤c by omega),wrap_id (show (-9223372036854775808:Int)≤c+1 by omega) (show ((c:Int)+1≤9223372036854775807) by omega)]
  have hs:=set_mid (List.replicate c (100000:Int)) 0 100000 (List.replicate d 0)
  rw [List.length_replicate] at hs
  rw [List.replicate_succ,hs,app_one,rep_succ]
  exact this
theorem implFars_ev (n:Int) (l:List S79) (a:Int) (hn:n≤1000) (hb:(l.length:Int)≤1099511627776) (hx:∀ x ∈ l,0≤x.f0∧x.f0<x.f1∧x.f1<n) (ha: 0≤a) (ha1:a<n):Ev (fun k=>impl_fars.f k n l a) (farsM n.toNat l a):=by
 obtain⟨m,rfl⟩:=Int.eq_ofNat_of_zero_le (show 0≤n by omega)
 rw [Int.toNat_natCast]
 unfold impl_fars.f
 simp only [Int.toNat_natCast,if_pos (show (0:Int)≤ (m:Int) by omega),if_pos (show m≤35184372088832 by omega),Option.bind_some,List.length_replicate]
 have:=implFars_l0 m (by omega) l a _ ha ha1 (implFars_l1 m (by omega) l hb hx m 0 _ (by omega) (fars0_len m a)) m 0 (by omega)
 exact this
theorem edge3 {n:Int} {l:List S79} (h:goodE n l=true):∀ x ∈ l,0≤x.f0∧x.f0<x.f1∧x.f1<n:=fun x hm=>⟨(goodE_edge h x hm).1,(goodE_edge h x hm).2.1,(goodE_edge h x hm).2.2.1⟩
theorem top_is {n:Int} (h0: 1≤n) (h1:n≤12):wrap64 (n - 1)=n - 1:=wrap_id (by omega) (by omega)
-- the cost of a list of nodes, both sides
theorem specEdge_l (a b:Int) (suf:List S79):∀ (pre:List S79),((pre++suf).length:Int)≤1099511627776→ (∀ x ∈ suf,x.f0<x.f1)→
  Ev (fun k=>spec_l9Edge.l0 k a b (pre++suf) ((pre++suf).length:Int) pre.length) (costM suf a b):=by
 induction suf with
 |nil=>
  intro pre h hx
  refine Ev.succ ?_
  simp only [spec_l9Edge.l0,List.append_nil,Int.lt_irrefl,if_false]
  exact Ev.now _
 |cons e suf ih=>
  intro pre h hx
  refine Ev.succ ?_
  rw [len_mid] at h ⊢
  have:=ih (pre++ [e]) (by rw [← app_one,len_mid];exact h) (fun x hm=>hx x (List.mem_cons_of_mem _ hm))
  rw [← app_one,len_mid,len_one] at this
  have he:=hx e (List.mem_cons_self ..)
  simp only [spec_l9Edge.l0]
  simp only [if_pos (show ((pre.length:Int)<pre.length+suf.length+1) by omega),if_pos (show (0:Int)≤pre.length by omega),len_mid,rdEdge_mid,wrap_id (show (-9223372036854775808:Int)≤pre.length+1 by omega) (show ((pre.length:Int)+1≤9223372036854775807) by omega)]
  by_cases hc:e.f0=min a b∧e.f1=max a b
  ·rw [show costM (e::suf) a b=e.f2 by unfold costM;rw [List.find?_cons_of_pos (by simp only [isAt,hc,and_self,decide_true])]]
   by_cases hab:a≤b
   ·simp only [if_pos (show e.f0=a by omega),if_pos (show e.f1=b by omega)]
    exact Ev.now _
   ·simp only [if_neg (show ¬ e.f0=a by omega),if_pos (show e.f0=b by omega),if_pos (show e.f1=a by omega)]
    exact Ev.now _
  ·rw [show costM (e::suf) a b=costM suf a b by unfold costM;rw [List.find?_cons_of_neg (by simp only [isAt,hc,decide_false];simp)]]
   by_cases h1:e.f0=a
   ·simp only [if_pos h1,if_neg (show ¬ e.f1=b by omega)]
    by_cases h2:e.f0=b
    ·simp only [if_pos h2,if_neg (show ¬ e.f1=a by omega)]
     exact this
    ·simp only [if_neg h2]
     exact this
   ·simp only [if_neg h1]
    by_cases h2:e.f0=b
    ·simp only [if_pos h2,if_neg (show ¬ e.f1=a by omega)]
     exact this
    ·simp only [if_neg h2]
     exact this
theorem specEdge_ev {n:Int} (l:List S79) (a b:Int) (h:(l.length:Int)≤1099511627776) (hg:∀ x ∈ l,0≤x.f0∧x.f0<x.f1∧x.f1<n):Ev (fun k=>spec_l9Edge.f k l a b) (costM l a b):=by
 have:=specEdge_l a b l [] h (fun x hm=>(hg x hm).2.1)
 exact this
-- TreeCost, both sides
def treeGo (l:List S79):List Int→Int→Int→Int × Bool
 | [],_,s=>(s,true)
 |x::r,i,s=>if x< 0 then treeGo l r (i+1) s else if costM l i x=0 then(0,false) else treeGo l r (i+1) (wrap64 (s+costM l i x))
theorem specTree_l {n:Int} (l:List S79) (hb:(l.length:Int)≤1099511627776) (hg:∀ x ∈ l,0≤x.f0∧x.f0<x.f1∧x.f1<n) (suf:List Int):∀ (pre:List Int) (s:Int),((pre++suf).length:Int)≤1099511627776→
  Ev (fun k=>spec_TreeCost.l0 k l s (pre++suf) ((pre++suf).length:Int) pre.length) (treeGo l suf pre.length s):=by
 induction suf with
 |nil=>
  intro pre s h
  refine Ev.succ ?_
  simp only [spec_TreeCost.l0,List.append_nil,Int.lt_irrefl,if_false,treeGo]
  exact Ev.now _
 |cons x suf ih=>
  intro pre s h
  refine Ev.succ ?_
  rw [len_mid] at h ⊢
  have:=fun s=>ih (pre++ [x]) s (by rw [← app_one,len_mid];exact h)
  rw [← app_one,len_mid,len_one] at this
  simp only [spec_TreeCost.l0,treeGo]
  simp only [if_pos (show ((pre.length:Int)<pre.length+suf.length+1) by omega),if_pos (show (0:Int)≤pre.length by omega),len_mid,rd_mid,wrap_id (show (-9223372036854775808:Int)≤pre.length+1 by omega) (show ((pre.length:Int)+1≤9223372036854775807) by omega)]
  by_cases h1:x< 0
  ·simp only [if_pos h1]
   exact this _
  ·simp only [if_neg h1]
   refine Ev.bind (specEdge_ev l _ _ hb hg) ?_
   by_cases h2:costM l pre.length x=0
   ·simp only [if_pos h2]
    exact Ev.now _
   ·simp only [if_neg h2]
    exact this _
theorem implTree_l (l:List S79) (hb:(l.length:Int)≤1099511627776) (suf:List Int):∀ (pre:List Int) (s:Int),((pre++suf).length:Int)≤1099511627776→
  Ev (fun k=>impl_TreeCost.l0 k l s (pre++suf) ((pre++suf).length:Int) pre.length) (treeGo l suf pre.length s):=by
 induction suf with
 |nil=>
  intro pre s h
  refine Ev.succ ?_
  simp only [impl_TreeCost.l0,List.append_nil,Int.lt_irrefl,if_false,treeGo]
  exact Ev.now _
 |cons x suf ih=>
  intro pre s h
  refine Ev.succ ?_
  rw [len_mid] at h ⊢
  have:=fun s=>ih (pre++ [x]) s (by rw [← app_one,len_mid];exact h)
  rw [← app_one,len_mid,len_one] at this
  simp only [impl_TreeCost.l0,treeGo]
  simp only [if_pos (show ((pre.length:Int)<pre.length+suf.length+1) by omega),if_pos (show (0:Int)≤pre.length by omega),len_mid,rd_mid,wrap_id (show (-9223372036854775808:Int)≤pre.length+1 by omega) (show ((pre.length:Int)+1≤9223372036854775807) by omega)]
  by_cases h1:x< 0
  ·simp only [if_pos h1]
   exact this _
  ·simp only [if_neg h1]
   refine Ev.bind (implCost_ev l _ _ hb) ?_
   by_cases h2:costM l pre.length x=0
   ·simp only [if_pos h2]
    exact Ev.now _
   ·simp only [if_neg h2]
    exact this _
def treeCost (n:Int) (l:List S79) (q:List Int):Int × Bool:=if goodE n l=true∧goodP q=true∧ (q.length:Int)=n then treeGo l q 0 0 else(0,false)
theorem specTreeCost_ev (n:Int) (l:List S79) (q:List Int) (hl:l.length≤1048576) (hq:q.length≤1048576):Ev (fun k=>spec_TreeCost.f k n l q) (treeCost n l q):=by
 unfold spec_TreeCost.f treeCost
 have bad:Ev (fun k=>spec_TreeCost.j0 k l q true) ((0:Int),false):=by
  refine Ev.succ ?_
  simp only [spec_TreeCost.j0,if_true]
  exact Ev.now _
 refine Ev.bind (specGoodE_ev n l hl) ?_
 by_cases h:goodE n l=true
 ·simp only [if_pos h]
  refine Ev.bind (specGoodP_ev q hq) ?_
  by_cases h1:goodP q=true
  ·simp only [if_pos h1]
   by_cases h2:(q.length:Int)=n
   ·rw [if_pos ⟨h,h1,h2⟩,bne_eq_false_iff_eq.2 h2]
    refine Ev.succ ?_
    simp only [spec_TreeCost.j0,Bool.false_eq_true,if_false]
    exact specTree_l l (by omega) (edge3 h) q [] 0 (by simp only [List.nil_append];omega)
   ·rw [if_neg (fun hc=>h2 hc.2.2),bne_iff_ne.2 h2]
    exact bad
  ·simp only [if_neg h1]
   rw [if_neg (fun hc=>h1 hc.2.1)]
   exact bad
 ·simp only [if_neg h]
  rw [if_neg (fun hc=>h hc.1)]
  exact bad
theorem implTreeCost_ev (n:Int) (l:List S79) (q:List Int) (hl:l.length≤1048576) (hq:q.length≤1048576):Ev (fun k=>impl_TreeCost.f k n l q) (treeCost n l q):=by
 unfold impl_TreeCost.f treeCost
 have bad:Ev (fun k=>impl_TreeCost.j0 k l q true) ((0:Int),false):=by
  refine Ev.succ ?_
  simp only [impl_TreeCost.j0,if_true]
  exact Ev.now _
 refine Ev.bind (implGoodE_ev n l hl) ?_
 by_cases h:goodE n l=true
 ·simp only [if_pos h]
  refine Ev.bind (implGoodP_ev q hq) ?_
  by_cases h1:goodP q=true
  ·simp only [if_pos h1]
   by_cases h2:(q.length:Int)=n
   ·rw [if_pos ⟨h,h1,h2⟩,bne_eq_false_iff_eq.2 h2]
    refine Ev.succ ?_
    simp only [impl_TreeCost.j0,Bool.false_eq_true,if_false]
    exact implTree_l l (by omega) q [] 0 (by simp only [List.nil_append];omega)
   ·rw [if_neg (fun hc=>h2 hc.2.2),bne_iff_ne.2 h2]
    exact bad
  ·simp only [if_neg h1]
   rw [if_neg (fun hc=>h1 hc.2.1)]
   exact bad
 ·simp only [if_neg h]
  rw [if_neg (fun hc=>h hc.1)]
  exact bad
theorem erase_len_le {α :Type} [DecidableEq α] {x: α} :∀ {M:List α},x ∈ M→ (M.erase x).length+1=M.length:=by
 intro M h
 have:=List.length_erase_of_mem h
 have h2: 0<M.length:=List.length_pos_of_mem h
 omega
theorem nodup_le {α :Type} [DecidableEq α] :∀ (L M:List α),L.Nodup→ (∀ x ∈ L,x ∈ M)→L.length≤M.length
 | [],_,_,_=>Nat.zero_le _
 |x::L,M,hn,hs=>by
  have hx:x ∈ M:=hs x (by simp)
  rw [List.nodup_cons] at hn
  have h:=nodup_le L (M.erase x) hn.2 (fun y hy=>by
   have:y≠x:=fun e=>hn.1 (e ▸ hy)
   exact(List.mem_erase_of_ne this).2 (hs y (by simp [hy])))
  have:=erase_len_le hx
  simp only [List.length_cons]
  omega
-- what a walk over a tree leaves: each place of the group once, with whom it came from
def Climb (l:List Int):Int→List Int→Prop
 |u,[]=>u< 0
 |u,x::r=>0≤u∧x=u∧Climb l (rd l u) r
-- the first steps of the shortest ways, one side
def hopsGo (l:List S79) (a:Int) (F:List Int) (q:List Int):List Int:=q.filter fun u=>decide (rd F a< 100000∧wrap64 (rd F u+costM l a u)=rd F a)
theorem hopsGo_pos (l:List S79) (a:Int) (F:List Int) (u:Int) (q:List Int) (h:rd F a< 100000∧wrap64 (rd F u+costM l a u)=rd F a):hopsGo l a F (u::q)=u::hopsGo l a F q:=by
 unfold hopsGo
 exact List.filter_cons_of_pos (decide_eq_true h)
theorem hopsGo_neg (l:List S79) (a:Int) (F:List Int) (u:Int) (q:List Int) (h:¬ (rd F a< 100000∧wrap64 (rd F u+costM l a u)=rd F a)):hopsGo l a F (u::q)=hopsGo l a F q:=by
 unfold hopsGo
 exact List.filter_cons_of_neg (by rw [decide_eq_true_eq];exact h)
theorem implHops_l (n:Nat) (l:List S79) (hb:(l.length:Int)≤1099511627776) (a:Int) (ha: 0≤a) (ha1:a<n) (F:List Int) (hF:F.length=n) (suf:List Int):∀ (pre out:List Int),((pre++suf).length:Int)≤1000000→out.length≤pre.length→ (∀ u ∈ suf,0≤u∧u<n)→
  Ev (fun k=>impl_hops.l0 k l a F out (pre++suf) ((pre++suf).length:Int) pre.length) (out++hopsGo l a F suf):=by
 induction suf with
 |nil=>
  intro pre out h ho hu
  refine Ev.succ ?_
  simp only [impl_hops.l0,List.append_nil,Int.lt_irrefl,if_false,hopsGo,List.filter_nil]
  exact Ev.now _
 |cons u suf ih=>
  intro pre out h ho hu
  refine Ev.succ ?_
  rw [len_mid] at h ⊢
  have h0:=hu u (List.mem_cons_self ..)
  have:=fun o ho=>ih (pre++ [u]) o (by rw [← app_one,len_mid];exact h) ho (fun x hm=>hu x (List.mem_cons_of_mem _ hm))
  rw [← app_one,len_mid,len_one] at this
  simp only [impl_hops.l0]
  simp only [if_pos (show ((pre.length:Int)<pre.length+suf.length+1) by omega),if_pos (show (0:Int)≤pre.length by omega),len_mid,rd_mid,wrap_id (show (-9223372036854775808:Int)≤pre.length+1 by omega) (show ((pre.length:Int)+1≤9223372036854775807) by omega),if_pos ha,if_pos (show a< (F.length:Int) by omega),if_pos h0.1,if_pos (show u< (F.length:Int) by omega)]
  by_cases h1:rd F a< 100000
  ·simp only [if_pos h1]
   refine Ev.bind (implCost_ev l a u hb) ?_
   by_cases h2:wrap64 (rd F u+costM l a u)=rd F a
   ·simp only [if_pos h2,if_pos (show out.length< 17592186044416 by omega)]
    rw [hopsGo_pos l a F u suf ⟨h1,h2⟩,app_one out u (hopsGo l a F suf)]
    exact this (out++ [u]) (by simp only [List.length_append,List.length_singleton];omega)
   ·simp only [if_neg h2]
    rw [hopsGo_neg l a F u suf (fun hc=>h2 hc.2)]
    exact this out (by rw [List.length_append];omega)
  ·simp only [if_neg h1]
   rw [hopsGo_neg l a F u suf (fun hc=>h1 hc.1)]
   exact this out (by rw [List.length_append];omega)
def hopsM (n:Nat) (l:List S79) (a b:Int):List Int:=hopsGo l a (farsM n l b) (nearM n l a)
theorem nearM_in (n:Nat) (l:List S79) (a u:Int) (h:u ∈ nearM n l a): 0≤u∧u<n:=(own0_mem n u).1 (List.mem_filter.1 h).1
theorem implHops_ev (n:Int) (l:List S79) (a b:Int) (hl:l.length≤1048576) (h:goodE n l=true) (ha: 0≤a) (ha1:a<n):Ev (fun k=>impl_hops.f k n l a (farsM n.toNat l b)) (hopsM n.toNat l a b):=by
 have hn:=goodE_n h
 unfold impl_hops.f
 refine Ev.bind (implNear_ev n l a (by omega) (by omega) (by omega)) ?_
 have hq:=nearM_len n.toNat l a
 have:=implHops_l n.toNat l (by omega) a ha (by omega) (farsM n.toNat l b) (farsM_len ..) (nearM n.toNat l a) [] [] (by rw [List.nil_append];omega) (by simp) (fun u hu=>nearM_in _ _ _ _ hu)
 exact this
-- the tree of shortest ways to a node, both sides
theorem costM_symm (l:List S79) (a b:Int):costM l a b=costM l b a:=by
 unfold costM
 rw [show isAt a b=isAt b a from funext fun e=>by unfold isAt;rw [Int.min_comm,Int.max_comm]]
def parM (n:Nat) (l:List S79) (a v:Int):Int:=if v=a then -1 else(hopsM n l v a).headD (-1)
theorem specAt_l1 (n:Nat) (l:List S79) (hb:(l.length:Int)≤1099511627776) (hg:∀ x ∈ l,0≤x.f0∧x.f0<x.f1∧x.f1<n) (a v:Int) (hv: 0≤v) (hv1:v<n) (F out:List Int) (hF:F.length=n) (ho:out.length≤1000) (R:List Int) (suf:List Int):∀ (pre:List Int) (b:Int),((pre++suf).length:Int)≤1000000→ (∀ u ∈ suf,0≤u∧u<n)→
  Ev (fun k=>spec_l10At.l0 k n l a F (out++ [if b< 0 then(if v=a then b else(hopsGo l v F suf).headD b) else b]) (wrap64 (v+1))) R→
  Ev (fun k=>spec_l10At.l1 k n l a F out v b (pre++suf) ((pre++suf).length:Int) pre.length) R:=by
 induction suf with
 |nil=>
  intro pre b h hu hR
  refine Ev.succ ?_
  rw [show (hopsGo l v F []).headD b=b from rfl] at hR
  simp only [ite_self] at hR
  simp only [spec_l10At.l1,List.append_nil,Int.lt_irrefl,if_false,if_pos (show out.length< 17592186044416 by omega)]
  exact hR
 |cons u suf ih=>
  intro pre b h hu hR
  refine Ev.succ ?_
  rw [len_mid] at h ⊢
  have h0:=hu u (List.mem_cons_self ..)
  have:=fun b=>ih (pre++ [u]) b (by rw [← app_one,len_mid];exact h) (fun x hm=>hu x (List.mem_cons_of_mem _ hm))
  rw [← app_one,len_mid,len_one] at this
  simp only [spec_l10At.l1]
  simp only [if_pos (show ((pre.length:Int)<pre.length+suf.length+1) by omega),if_pos (show (0:Int)≤pre.length by omega),len_mid,rd_mid,wrap_id (show (-9223372036854775808:Int)≤pre.length+1 by omega) (show ((pre.length:Int)+1≤9223372036854775807) by omega)]
  by_cases hb0:b< 0
  ·simp only [if_pos hb0] at hR ⊢
   by_cases hva:v=a
   ·simp only [if_pos hva] at hR ⊢
    refine this b ?_
    simp only [if_pos hb0,if_pos hva]
    exact hR
   ·simp only [if_neg hva,if_pos hv,if_pos (show v< (F.length:Int) by omega),if_pos h0.1,if_pos (show u< (F.length:Int) by omega)] at hR ⊢
    by_cases h1:rd F v< 100000
    ·simp only [if_pos h1]
     refine Ev.bind (specEdge_ev l u v hb hg) ?_
     rw [costM_symm l u v]
     by_cases h2:wrap64 (rd F u+costM l v u)=rd F v
     ·simp only [if_pos h2]
      rw [hopsGo_pos l v F u suf ⟨h1,h2⟩,List.headD_cons] at hR
      refine this u ?_
      simp only [if_neg (show ¬ u< 0 by omega)]
      exact hR
     ·simp only [if_neg h2]
      rw [hopsGo_neg l v F u suf (fun hc=>h2 hc.2)] at hR
      refine this b ?_
      simp only [if_pos hb0,if_neg hva]
      exact hR
    ·simp only [if_neg h1]
     rw [hopsGo_neg l v F u suf (fun hc=>h1 hc.1)] at hR
     refine this b ?_
     simp only [if_pos hb0,if_neg hva]
     exact hR
  ·simp only [if_neg hb0] at hR ⊢
   refine this b ?_
   simp only [if_neg hb0]
   exact hR
def pars (n:Nat) (l:List S79) (a:Int) (c:Nat):List Int:=(own0 c).map (parM n l a)
theorem pars_len (n:Nat) (l:List S79) (a:Int) (c:Nat):(pars n l a c).length=c:=by unfold pars;rw [List.length_map,own0_len]
theorem pars_succ (n:Nat) (l:List S79) (a:Int) (c:Nat):pars n l a (c+1)=pars n l a c++ [parM n l a c]:=by
 unfold pars
 rw [own0_succ,List.map_append]
 rfl
theorem specAt_l0 (n:Nat) (hn:n≤1000) (l:List S79) (hb:(l.length:Int)≤1099511627776) (hx:∀ x ∈ l,0≤x.f0∧x.f0<x.f1∧x.f1<n∧1≤x.f2∧x.f2≤100) (a:Int) (d:Nat):∀ (c:Nat),c+d=n→
  Ev (fun k=>spec_l10At.l0 k n l a (farsM n l a) (pars n l a c) c) (pars n l a n):=by
 induction d with
 |zero=>
  intro c h
  refine Ev.succ ?_
  have hc:c=n:=by omega
  subst hc
  simp only [spec_l10At.l0,Int.lt_irrefl,if_false]
  exact Ev.now _
 |succ d ih=>
  intro c h
  refine Ev.succ ?_
  have hi:=ih (c+1) (by omega)
  have hp:=pars_len n l a c
  simp only [spec_l10At.l0,if_pos (show (c:Int)<n by omega)]
  refine Ev.bind (specNear_ev l c hb) ?_
  rw [near_same hx,Int.toNat_natCast]
  have hq:=nearM_len n l c
  have:=specAt_l1 n l hb (fun x hm=>⟨(hx x hm).1,(hx x hm).2.1,(hx x hm).2.2.1⟩) a c (by omega) (by omega) (farsM n l a) (pars n l a c) (farsM_len ..) (by omega) (pars n l a n) (nearM n l c) [] (-1) (by rw [List.nil_append];omega) (fun u hu=>nearM_in _ _ _ _ hu)
  refine this ?_
  simp only [if_pos (show (-1:Int)< 0 by omega),wrap_id (show (-9223372036854775808:Int)≤c+1 by omega) (show ((c:Int)+1≤9223372036854775807) by omega)]
  rw [pars_succ] at hi
  exact hi
theorem implAt_l0 (n:Nat) (hn:n≤1000) (l:List S79) (hl:l.length≤1048576) (hgood:goodE n l=true) (a:Int) (d:Nat):∀ (c:Nat),c+d=n→
  Ev (fun k=>impl_treeAt.l0 k n l a (farsM n l a) (pars n l a c++List.replicate d 0) n c) (pars n l a n):=by
 induction d with
 |zero=>
  intro c h
  refine Ev.succ ?_
  have hc:c=n:=by omega
  subst hc
  simp only [impl_treeAt.l0,Int.lt_irrefl,if_false,List.replicate_zero,List.append_nil]
  exact Ev.now _
 |succ d ih=>
  intro c h
  refine Ev.succ ?_
  have hi:=ih (c+1) (by omega)
  have hp:=pars_len n l a c
  have hlen:((pars n l a c++List.replicate (d+1) (0:Int)).length:Int)=n:=by simp [hp];omega
  simp only [impl_treeAt.l0,hlen,if_pos (show (c:Int)<n by omega),if_pos (show (0:Int)≤c by omega),Option.bind_some,wrap_id (show (-9223372036854775808:Int)≤c+1 by omega) (show ((c:Int)+1≤9223372036854775807) by omega)]
  have hh:=implHops_ev (n:Int) l c a hl hgood (by omega) (by omega)
  rw [Int.toNat_natCast] at hh
  refine Ev.bind hh ?_
  have hs:=fun y=>set_mid (pars n l a c) (0:Int) y (List.replicate d 0)
  have hs2:=fun x y=>set_mid (pars n l a c) (x:Int) y (List.replicate d 0)
  rw [hp] at hs hs2
  rw [List.replicate_succ,hs]
  rw [pars_succ] at hi
  by_cases h1:(c:Int)=a
  ·simp only [if_pos h1]
   rw [parM,if_pos h1,← app_one] at hi
   exact hi
  ·simp only [if_neg h1]
   rw [parM,if_neg h1,← app_one] at hi
   by_cases h2:((hopsM n l c a).length:Int) > 0
   ·simp only [if_pos h2,if_pos (show (0:Int)< ((hopsM n l c a).length:Int) from h2)]
    rw [hs2]
    rw [show rd (hopsM n l c a) 0= (hopsM n l c a).headD (-1) from ?_]
    ·exact hi
    ·cases hm:hopsM n l c a with
     |nil=>rw [hm] at h2;simp at h2
     |cons x r=>rfl
   ·simp only [if_neg h2]
    rw [show (hopsM n l c a).headD (-1)= -1 from ?_] at hi
    ·exact hi
    ·cases hm:hopsM n l c a with
     |nil=>rfl
     |cons x r=>rw [hm] at h2;simp at h2
def treeAt (n:Int) (l:List S79) (v:Int):List Int × Bool:=if goodE n l=true then(if 0≤v∧v≤wrap64 (n - 1) then(pars n.toNat l v n.toNat,true) else([],false)) else([],false)
theorem treeAt_len (n:Int) (l:List S79) (v:Int):(treeAt n l v).1.length≤12:=by
 unfold treeAt
 split
 ·rename_i h
  have:=goodE_n h
  have:=pars_len n.toNat l v n.toNat
  split
  ·show (pars n.toNat l v n.toNat).length≤12
   omega
  ·simp
 ·simp
theorem specTreeAt_ev (n:Int) (l:List S79) (v:Int) (hl:l.length≤1048576):Ev (fun k=>spec_TreeAt.f k n l v) (treeAt n l v):=by
 unfold spec_TreeAt.f treeAt
 refine Ev.bind (specGoodE_ev n l hl) ?_
 by_cases h:goodE n l=true
 ·have hn:=goodE_n h
  simp only [if_pos h,specIn,Option.bind_some]
  by_cases hv: 0≤v∧v≤wrap64 (n - 1)
  ·simp only [if_pos hv,decide_eq_true_eq]
   rw [top_is hn.1 hn.2.1] at hv
   have hg:=goodE_edge h
   obtain⟨m,rfl⟩:=Int.eq_ofNat_of_zero_le (show 0≤n by omega)
   rw [Int.toNat_natCast]
   have h1:Ev (fun k=>spec_l10At.f k m l v) (pars m l v m):=by
    unfold spec_l10At.f
    have:=specFars_ev (m:Int) l v (by omega) (by omega) (edge3 h) hv.1 (by omega)
    rw [Int.toNat_natCast] at this
    refine Ev.bind this ?_
    exact specAt_l0 m (by omega) l (by omega) hg v m 0 (by omega)
   refine Ev.bind h1 ?_
   exact Ev.now _
  ·simp only [if_neg hv,decide_eq_true_eq]
   exact Ev.now _
 ·simp only [if_neg h]
  exact Ev.now _
-- what one round of shortening does to one node
def sane (x:List Int):Prop:= ∀ v:Int,0≤rd x v∧rd x v≤100000
def offer (old:List Int) (v m:Int) (e:S79):Int:=if e.f0=v then min m (rd old e.f1+e.f2) else if e.f1=v then min m (rd old e.f0+e.f2) else m
theorem rd_setI {x:List Int} {i v:Int} (hi: 0≤i) (h1:i<x.length) (hv: 0≤v) (y:Int):rd (x.set i.toNat y) v=if v=i then y else rd x v:=by
 unfold rd
 rw [List.getD_eq_getElem?_getD,List.getD_eq_getElem?_getD,List.getElem?_set]
 by_cases h:v=i
 ·subst h
  rw [if_pos rfl,if_pos rfl,if_pos (by omega)]
  rfl
 ·rw [if_neg (by omega),if_neg h]
theorem relStep_at {old out:List Int} {e:S79} (hs:sane old) (he: 0≤e.f0∧e.f0<e.f1∧e.f1<out.length∧1≤e.f2∧e.f2≤100) (v:Int) (hv: 0≤v):rd (relStep old out e) v=offer old v (rd out v) e:=by
 have a:=hs e.f0
 have b:=hs e.f1
 unfold relStep offer
 rw [rd_setI (by omega) (by rw [List.length_set];omega) hv,rd_setI (by omega) (by omega) (by omega),rd_setI (by omega) (by omega) hv,wrap_id (by omega) (by omega),if_neg (show ¬ e.f1=e.f0 by omega)]
 by_cases h0:e.f0=v
 ·rw [if_pos h0,if_neg (by omega),if_pos h0.symm,h0]
 ·rw [if_neg h0]
  by_cases h1:e.f1=v
  ·rw [if_pos h1,if_pos h1.symm,wrap_id (by omega) (by omega),h1]
  ·rw [if_neg h1,if_neg (fun c=>h1 (Eq.symm c)),if_neg (fun c=>h0 (Eq.symm c))]
theorem relFold_at {old:List Int} (hs:sane old) (v:Int) (hv: 0≤v):∀ (l:List S79) (out:List Int),(∀ e ∈ l,0≤e.f0∧e.f0<e.f1∧e.f1<out.length∧1≤e.f2∧e.f2≤100)→rd (l.foldl (relStep old) out) v=l.foldl (offer old v) (rd out v)
 | [],_,_=>rfl
 |e::l,out,h=>by
  rw [List.foldl_cons,List.foldl_cons,relFold_at hs v hv l (relStep old out e) (fun x hx=>by rw [relStep_len];exact h x (List.mem_cons_of_mem _ hx)),relStep_at hs (h e (List.mem_cons_self ..)) v hv]
theorem offer_le (old:List Int) (v m:Int) (e:S79):offer old v m e≤m:=by
 unfold offer
 split
 ·omega
 ·split<;>omega
theorem offers_le (old:List Int) (v:Int):∀ (l:List S79) (m:Int),l.foldl (offer old v) m≤m
 | [],m=>Int.le_refl m
 |e::l,m=>by
  rw [List.foldl_cons]
  have:=offers_le old v l (offer old v m e)
  have:=offer_le old v m e
  omega
/-- the value is what stood there, or what an edge offers -/
theorem offers_is (old:List Int) (v:Int):∀ (l:List S79) (m:Int),l.foldl (offer old v) m=m∨ ∃ e ∈ l,(e.f0=v∧l.foldl (offer old v) m=rd old e.f1+e.f2)∨ (e.f1=v∧l.foldl (offer old v) m=rd old e.f0+e.f2)
 | [],m=> .inl rfl
 |e::l,m=>by
  rw [List.foldl_cons]
  rcases offers_is old v l (offer old v m e) with h|⟨x,hx,h⟩
  ·by_cases h0:e.f0=v
   ·rw [show offer old v m e=min m (rd old e.f1+e.f2) by unfold offer;rw [if_pos h0]] at h ⊢
    by_cases c:m≤rd old e.f1+e.f2
    ·exact .inl (by rw [h,Int.min_eq_left c])
    ·exact .inr ⟨e,List.mem_cons_self ..,.inl ⟨h0,by rw [h,Int.min_eq_right (by omega)]⟩⟩
   ·by_cases h1:e.f1=v
    ·rw [show offer old v m e=min m (rd old e.f0+e.f2) by unfold offer;rw [if_neg h0,if_pos h1]] at h ⊢
     by_cases c:m≤rd old e.f0+e.f2
     ·exact .inl (by rw [h,Int.min_eq_left c])
     ·exact .inr ⟨e,List.mem_cons_self ..,.inr ⟨h1,by rw [h,Int.min_eq_right (by omega)]⟩⟩
    ·rw [show offer old v m e=m by unfold offer;rw [if_neg h0,if_neg h1]] at h ⊢
     exact .inl h
  ·exact .inr ⟨x,List.mem_cons_of_mem _ hx,h⟩
/-- no edge offers less -/
theorem offers_min (old:List Int) (v:Int):∀ (l:List S79) (m:Int),(∀ x ∈ l,x.f0<x.f1)→ ∀ e ∈ l,(e.f0=v→l.foldl (offer old v) m≤rd old e.f1+e.f2)∧ (e.f1=v→l.foldl (offer old v) m≤rd old e.f0+e.f2)
 | [],_,_,e,he=>by simp at he
 |x::l,m,hx,e,he=>by
  rw [List.foldl_cons]
  rcases List.mem_cons.1 he with rfl|he
  ·have h:=offers_le old v l (offer old v m e)
   have hlt:=hx e (List.mem_cons_self ..)
   constructor
   ·intro h0
    have:offer old v m e=min m (rd old e.f1+e.f2):=by unfold offer;rw [if_pos h0]
    omega
   ·intro h1
    have:offer old v m e=min m (rd old e.f0+e.f2):=by unfold offer;rw [if_neg (by omega),if_pos h1]
    omega
  ·exact offers_min old v l _ (fun y hy=>hx y (List.mem_cons_of_mem _ hy)) e he
-- as many rounds as there are nodes are enough
def fr (n:Nat) (l:List S79) (a:Int) (k:Nat):List Int:=farsIt l k (fars0 n a)
theorem farsIt_succ (l:List S79):∀ (k:Nat) (x:List Int),farsIt l (k+1) x=relaxM l (farsIt l k x)
 | 0,_=>rfl
 |k+1,x=>by rw [farsIt,farsIt_succ l k (relaxM l x),farsIt]
theorem fr_succ (n:Nat) (l:List S79) (a:Int) (k:Nat):fr n l a (k+1)=relaxM l (fr n l a k):=farsIt_succ l k _
theorem fr_len (n:Nat) (l:List S79) (a:Int) (k:Nat):(fr n l a k).length=n:=by unfold fr;rw [farsIt_len,fars0_len]
def okE (n:Nat) (l:List S79):Prop:= ∀ e ∈ l,0≤e.f0∧e.f0<e.f1∧e.f1<n∧1≤e.f2∧e.f2≤100
theorem rd_out {x:List Int} {v:Int} (h:(x.length:Int)≤v):rd x v=0:=by
 unfold rd
 rw [List.getD_eq_getElem?_getD,List.getElem?_eq_none (by omega)]
 rfl
theorem fars0_at (n:Nat) (a v:Int) (ha: 0≤a) (ha1:a<n) (hv: 0≤v) (hv1:v<n):rd (fars0 n a) v=if v=a then 0 else 100000:=by
 unfold fars0
 rw [rd_setI ha (by rw [List.length_replicate];exact ha1) hv]
 by_cases h:v=a
 ·rw [if_pos h,if_pos h]
 ·rw [if_neg h,if_neg h]
  unfold rd
  rw [List.getD_eq_getElem?_getD,List.getElem?_replicate,if_pos (by omega)]
  rfl
theorem sane_of {x:List Int} (h:∀ v:Int,0≤v→v<x.length→0≤rd x v∧rd x v≤100000):sane x:=by
 intro v
 by_cases hv: 0≤v
 ·by_cases h1:v<x.length
  ·exact h v hv h1
  ·rw [rd_out (by omega)]
   omega
 ·have e:rd x v=rd x 0:=by
   unfold rd
   rw [show v.toNat= (0:Int).toNat by omega]
  rw [e]
  by_cases h1:(0:Int)<x.length
  ·exact h 0 (by omega) h1
  ·rw [rd_out (by omega)]
   omega
theorem fr_at (n:Nat) (l:List S79) (a:Int) (hl:okE n l) (k:Nat) (hs:sane (fr n l a k)) (v:Int) (hv: 0≤v):rd (fr n l a (k+1)) v=l.foldl (offer (fr n l a k) v) (rd (fr n l a k) v):=by
 rw [fr_succ,relaxM,relFold_at hs v hv l _ (fun e he=>by rw [fr_len];exact hl e he)]
theorem fr_sane (n:Nat) (l:List S79) (a:Int) (hl:okE n l) (ha: 0≤a) (ha1:a<n):∀ k,sane (fr n l a k)
 | 0=>sane_of fun v hv hv1=>by
  rw [fr_len] at hv1
  show 0≤rd (fars0 n a) v∧rd (fars0 n a) v≤100000
  rw [fars0_at n a v ha ha1 hv hv1]
  split<;>omega
 |k+1=>sane_of fun v hv hv1=>by
  have hs:=fr_sane n l a hl ha ha1 k
  rw [fr_at n l a hl k hs v hv]
  have h1:=offers_le (fr n l a k) v l (rd (fr n l a k) v)
  have h2:=hs v
  refine⟨?_,by omega⟩
  rcases offers_is (fr n l a k) v l (rd (fr n l a k) v) with h|⟨e,he,h⟩
  ·omega
  ·have:=hl e he
   have:=hs e.f0
   have:=hs e.f1
   omega
/-- an edge between two nodes, with its cost -/
def adj (l:List S79) (v u c:Int):Prop:= ∃ e ∈ l,((e.f0=v∧e.f1=u)∨ (e.f1=v∧e.f0=u))∧e.f2=c
theorem adj_in {n:Nat} {l:List S79} (hl:okE n l) {v u c:Int} (h:adj l v u c): 0≤v∧v<n∧0≤u∧u<n∧v≠u∧1≤c∧c≤100:=by
 obtain⟨e,he,h,rfl⟩:=h
 have:=hl e he
 omega
theorem fr_mono (n:Nat) (l:List S79) (a:Int) (hl:okE n l) (ha: 0≤a) (ha1:a<n) (k:Nat) (v:Int) (hv: 0≤v):rd (fr n l a (k+1)) v≤rd (fr n l a k) v:=by
 rw [fr_at n l a hl k (fr_sane n l a hl ha ha1 k) v hv]
 exact offers_le ..
theorem fr_mono2 (n:Nat) (l:List S79) (a:Int) (hl:okE n l) (ha: 0≤a) (ha1:a<n) (v:Int) (hv: 0≤v) (j:Nat):∀ d,rd (fr n l a (j+d)) v≤rd (fr n l a j) v
 | 0=>Int.le_refl _
 |d+1=>Int.le_trans (fr_mono n l a hl ha ha1 (j+d) v hv) (fr_mono2 n l a hl ha ha1 v hv j d)
theorem fr_min (n:Nat) (l:List S79) (a:Int) (hl:okE n l) (ha: 0≤a) (ha1:a<n) (k:Nat) {v u c:Int} (h:adj l v u c):rd (fr n l a (k+1)) v≤rd (fr n l a k) u+c:=by
 have hin:=adj_in hl h
 rw [fr_at n l a hl k (fr_sane n l a hl ha ha1 k) v hin.1]
 obtain⟨e,he,h,rfl⟩:=h
 have:=offers_min (fr n l a k) v l (rd (fr n l a k) v) (fun x hx=>(hl x hx).2.1) e he
 rcases h with ⟨h0,rfl⟩|⟨h0,rfl⟩
 ·exact this.1 h0
 ·exact this.2 h0
theorem fr_is (n:Nat) (l:List S79) (a:Int) (hl:okE n l) (ha: 0≤a) (ha1:a<n) (k:Nat) (v:Int) (hv: 0≤v):rd (fr n l a (k+1)) v=rd (fr n l a k) v∨ ∃ u c,adj l v u c∧rd (fr n l a (k+1)) v=rd (fr n l a k) u+c:=by
 rw [fr_at n l a hl k (fr_sane n l a hl ha ha1 k) v hv]
 rcases offers_is (fr n l a k) v l (rd (fr n l a k) v) with h|⟨e,he,h|h⟩
 ·exact .inl h
 ·exact .inr ⟨e.f1,e.f2,⟨e,he,.inl ⟨h.1,rfl⟩,rfl⟩,h.2⟩
 ·exact .inr ⟨e.f0,e.f2,⟨e,he,.inr ⟨h.1,rfl⟩,rfl⟩,h.2⟩
/-- a label that still falls has a chain of falling labels behind it -/
theorem chain (n:Nat) (l:List S79) (a:Int) (hl:okE n l) (ha: 0≤a) (ha1:a<n):∀ (k:Nat) (v:Int),0≤v→v<n→rd (fr n l a (k+1)) v<rd (fr n l a k) v→
  ∃ L:List Int,(v::L).Nodup∧L.length=k+1∧ (∀ w ∈ L,0≤w∧w<n)∧ ∀ w ∈ L, ∃ j,j≤k∧rd (fr n l a j) w<rd (fr n l a (k+1)) v:=by
 intro k
 have key:∀ (k:Nat) (v u c:Int),adj l v u c→rd (fr n l a (k+1)) v=rd (fr n l a k) u+c→rd (fr n l a (k+1)) v<rd (fr n l a k) v→ ∀ (L:List Int),(u::L).Nodup→L.length=k→ (∀ w ∈ L,0≤w∧w<n)→ (∀ w ∈ L, ∃ j,j≤k∧rd (fr n l a j) w<rd (fr n l a k) u)→
   ∃ L:List Int,(v::L).Nodup∧L.length=k+1∧ (∀ w ∈ L,0≤w∧w<n)∧ ∀ w ∈ L, ∃ j,j≤k∧rd (fr n l a j) w<rd (fr n l a (k+1)) v:=by
  intro k v u c hadj he hlt L hn hlen hin hw
  have ha':=adj_in hl hadj
  have all:∀ w ∈ u::L, ∃ j,j≤k∧rd (fr n l a j) w<rd (fr n l a (k+1)) v:=by
   intro w hm
   rcases List.mem_cons.1 hm with rfl|hm
   ·exact⟨k,Nat.le_refl k,by omega⟩
   ·obtain⟨j,hj,h⟩:=hw w hm
    exact⟨j,hj,by omega⟩
  refine⟨u::L,List.nodup_cons.2 ⟨fun hv=>?_,hn⟩,by rw [List.length_cons,hlen],fun w hm=>?_,all⟩
  ·obtain⟨j,hj,h⟩:=all v hv
   have:=fr_mono2 n l a hl ha ha1 v ha'.1 j (k+1 - j)
   rw [show j+ (k+1 - j)=k+1 by omega] at this
   omega
  ·rcases List.mem_cons.1 hm with rfl|hm
   ·exact⟨ha'.2.2.1,ha'.2.2.2.1⟩
   ·exact hin w hm
 induction k with
 |zero=>
  intro v hv hv1 hlt
  rcases fr_is n l a hl ha ha1 0 v hv with h|⟨u,c,hadj,he⟩
  ·omega
  ·exact key 0 v u c hadj he hlt [] (by simp) rfl (fun w hw=>by simp at hw) (fun w hw=>by simp at hw)
 |succ k ih=>
  intro v hv hv1 hlt
  rcases fr_is n l a hl ha ha1 (k+1) v hv with h|⟨u,c,hadj,he⟩
  ·omega
  ·have ha':=adj_in hl hadj
   have hu:rd (fr n l a (k+1)) u<rd (fr n l a k) u:=by
    have:=fr_min n l a hl ha ha1 k hadj
    omega
   obtain⟨L,h1,h2,h3,h4⟩:=ih u ha'.2.2.1 ha'.2.2.2.1 hu
   exact key (k+1) v u c hadj he hlt L h1 h2 h3 (fun w hm=>by obtain⟨j,hj,h⟩:=h4 w hm;exact⟨j,by omega,h⟩)
theorem fr_still (n:Nat) (l:List S79) (a:Int) (hl:okE n l) (ha: 0≤a) (ha1:a<n) (k:Nat) (hk:n≤k+1) (v:Int) (hv: 0≤v) (hv1:v<n):rd (fr n l a (k+1)) v=rd (fr n l a k) v:=by
 have h1:=fr_mono n l a hl ha ha1 k v hv
 by_cases h:rd (fr n l a (k+1)) v<rd (fr n l a k) v
 ·obtain⟨L,hn,hlen,hin,_⟩:=chain n l a hl ha ha1 k v hv hv1 h
  have:=nodup_le (v::L) (own0 n) hn (fun x hx=>by
   rw [own0_mem]
   rcases List.mem_cons.1 hx with rfl|hx
   ·exact⟨hv,hv1⟩
   ·exact hin x hx)
  rw [own0_len,List.length_cons,hlen] at this
  omega
 ·omega
theorem farsM_fr (n:Nat) (l:List S79) (a:Int):farsM n l a=fr n l a n:=rfl
/-- no edge shortens what is settled -/
theorem fars_min {n:Nat} {l:List S79} {a:Int} (hl:okE n l) (ha: 0≤a) (ha1:a<n) {v u c:Int} (h:adj l v u c):rd (farsM n l a) v≤rd (farsM n l a) u+c:=by
 have hin:=adj_in hl h
 rw [farsM_fr,← fr_still n l a hl ha ha1 n (by omega) v hin.1 hin.2.1]
 exact fr_min n l a hl ha ha1 n h
theorem fars_self {n:Nat} {l:List S79} {a:Int} (hl:okE n l) (ha: 0≤a) (ha1:a<n):rd (farsM n l a) a=0:=by
 have h:=fr_mono2 n l a hl ha ha1 a ha 0 n
 rw [Nat.zero_add] at h
 have h0:rd (fr n l a 0) a=0:=by
  show rd (fars0 n a) a=0
  rw [fars0_at n a a ha ha1 ha ha1,if_pos rfl]
 have:=(fr_sane n l a hl ha ha1 n a).1
 rw [farsM_fr]
 omega
/-- a node that is reached has a next hop -/
theorem fars_hop {n:Nat} {l:List S79} {a:Int} (hl:okE n l) (ha: 0≤a) (ha1:a<n) {v:Int} (hv: 0≤v) (hv1:v<n) (hne:v≠a) (hlt:rd (farsM n l a) v< 100000):∃ u c,adj l v u c∧rd (farsM n l a) v=rd (farsM n l a) u+c:=by
 have gen:∀ k,k≤n→rd (fr n l a k) v=rd (farsM n l a) v→ ∃ u c,adj l v u c∧rd (farsM n l a) v=rd (farsM n l a) u+c:=by
  intro k
  induction k with
  |zero=>
   intro _ he
   have:rd (fr n l a 0) v=100000:=by
    show rd (fars0 n a) v=100000
    rw [fars0_at n a v ha ha1 hv hv1,if_neg hne]
   omega
  |succ k ih=>
   intro hk he
   rcases fr_is n l a hl ha ha1 k v hv with h|⟨u,c,hadj,h⟩
   ·exact ih (by omega) (by rw [← h];exact he)
   ·refine⟨u,c,hadj,?_⟩
    have h1:=fars_min hl ha ha1 hadj
    have h2:=fr_mono2 n l a hl ha ha1 u (adj_in hl hadj).2.2.1 k (n - k)
    rw [show k+ (n - k)=n by omega,← farsM_fr] at h2
    omega
 exact gen n (Nat.le_refl n) rfl
-- the ways of least cost: what the settled labels say of them
theorem okE_of {n:Int} {l:List S79} (h:goodE n l=true):okE n.toNat l:=fun e he=>by
 have:=goodE_edge h e he
 have:=goodE_n h
 omega
theorem pair_uniq {α β :Type} {R: α → α →Prop} (k: α → β) (hk:∀ x y,R x y→k x≠k y):∀ (l:List α),l.Pairwise R→ ∀ x ∈ l, ∀ y ∈ l,k x=k y→x=y
 | [],_,x,hx,_,_,_=>by simp at hx
 |a::l,h,x,hx,y,hy,e=>by
  obtain⟨h1,h2⟩:=List.pairwise_cons.1 h
  rcases List.mem_cons.1 hx with e1|hx2
  ·rcases List.mem_cons.1 hy with e2|hy2
   ·rw [e1,e2]
   ·subst e1
    exact absurd e (hk _ _ (h1 y hy2))
  ·rcases List.mem_cons.1 hy with e2|hy2
   ·subst e2
    exact absurd e.symm (hk _ _ (h1 x hx2))
   ·exact pair_uniq k hk l h2 x hx2 y hy2 e
theorem adj_cost {n:Int} {l:List S79} (h:goodE n l=true) {v u c:Int} (ha:adj l v u c):costM l v u=c:=by
 obtain⟨e,he,hv,rfl⟩:=ha
 have h1:=goodE_edge h e he
 have hat:isAt v u e=true:=by
  unfold isAt
  rw [decide_eq_true_eq]
  omega
 unfold costM
 cases hf:l.find? (isAt v u) with
 |none=>
  have:=List.find?_eq_none.1 hf e he
  exact absurd hat this
 |some x=>
  have hx:=List.mem_of_find?_eq_some hf
  have h2:=List.find?_some hf
  unfold isAt at h2 hat
  rw [decide_eq_true_eq] at h2 hat
  have:=pair_uniq (fun x:S79=>(x.f0,x.f1)) (fun x y hR he=>by
   simp only [Prod.mk.injEq] at he
   omega) l (goodE_pair h) x hx e he (by simp only [Prod.mk.injEq];omega)
  rw [this]
theorem cost_adj {n:Int} {l:List S79} (h:goodE n l=true) {v u:Int} (hc:costM l v u > 0):adj l v u (costM l v u):=by
 unfold costM at hc ⊢
 cases hf:l.find? (isAt v u) with
 |none=>rw [hf] at hc;exact absurd hc (by simp)
 |some x=>
  have hx:=List.mem_of_find?_eq_some hf
  have h2:=List.find?_some hf
  unfold isAt at h2
  rw [decide_eq_true_eq] at h2
  exact⟨x,hx,by omega,rfl⟩
theorem hops_mem {n:Int} {l:List S79} (h:goodE n l=true) {a:Int} (ha: 0≤a) (ha1:a<n) {v u:Int} (hm:u ∈ hopsGo l v (farsM n.toNat l a) (nearM n.toNat l v)):
  0≤u∧u<n∧adj l v u (costM l v u)∧rd (farsM n.toNat l a) v< 100000∧rd (farsM n.toNat l a) v=rd (farsM n.toNat l a) u+costM l v u:=by
 unfold hopsGo at hm
 obtain⟨h1,h2⟩:=List.mem_filter.1 hm
 rw [decide_eq_true_eq] at h2
 have hin:=nearM_in _ _ _ _ h1
 unfold nearM at h1
 have hc:=(List.mem_filter.1 h1).2
 rw [decide_eq_true_eq] at hc
 have had:=cost_adj h hc
 have h3:=adj_in (okE_of h) had
 have hs:=fr_sane n.toNat l a (okE_of h) ha (by omega) n.toNat u
 rw [← farsM_fr] at hs
 rw [wrap_id (by omega) (by omega)] at h2
 exact⟨hin.1,by omega,had,h2.1,h2.2.symm⟩
theorem hops_some {n:Int} {l:List S79} (h:goodE n l=true) {a:Int} (ha: 0≤a) (ha1:a<n) {v:Int} (hv: 0≤v) (hv1:v<n) (hne:v≠a) (hlt:rd (farsM n.toNat l a) v< 100000):
  ∃ u t,hopsGo l v (farsM n.toNat l a) (nearM n.toNat l v)=u::t:=by
 obtain⟨u,c,had,he⟩:=fars_hop (okE_of h) ha (by omega) hv (by omega) hne hlt
 have h3:=adj_in (okE_of h) had
 have hc:=adj_cost h had
 have hs:=fr_sane n.toNat l a (okE_of h) ha (by omega) n.toNat u
 rw [← farsM_fr] at hs
 have hm:u ∈ hopsGo l v (farsM n.toNat l a) (nearM n.toNat l v):=by
  unfold hopsGo
  refine List.mem_filter.2 ⟨?_,?_⟩
  ·unfold nearM
   refine List.mem_filter.2 ⟨(own0_mem _ _).2 ⟨h3.2.2.1,h3.2.2.2.1⟩,?_⟩
   rw [decide_eq_true_eq,hc]
   omega
  ·rw [decide_eq_true_eq,hc,wrap_id (by omega) (by omega)]
   exact⟨hlt,he.symm⟩
 cases hl:hopsGo l v (farsM n.toNat l a) (nearM n.toNat l v) with
 |nil=>rw [hl] at hm;simp at hm
 |cons u t=>exact⟨u,t,rfl⟩
/-- the way on from a node, with a bound on its steps -/
def wayGo (n:Nat) (l:List S79) (F:List Int) (b:Int):Nat→Int→List Int
 | 0,_=> []
 |d+1,v=>if v=b then [] else rd (hopsGo l v F (nearM n l v)) 0::wayGo n l F b d (rd (hopsGo l v F (nearM n l v)) 0)
theorem way_step {n:Int} {l:List S79} (h:goodE n l=true) {b:Int} (hb: 0≤b) (hb1:b<n) {v:Int} (hv: 0≤v) (hv1:v<n) (hne:v≠b) (hlt:rd (farsM n.toNat l b) v< 100000):
  ∃ u t,hopsGo l v (farsM n.toNat l b) (nearM n.toNat l v)=u::t∧0≤u∧u<n∧rd (farsM n.toNat l b) u<rd (farsM n.toNat l b) v∧adj l v u (costM l v u)∧rd (farsM n.toNat l b) v=rd (farsM n.toNat l b) u+costM l v u∧0≤rd (farsM n.toNat l b) u:=by
 obtain⟨u,t,e⟩:=hops_some h hb hb1 hv hv1 hne hlt
 have hm:u ∈ hopsGo l v (farsM n.toNat l b) (nearM n.toNat l v):=by rw [e];exact List.mem_cons_self ..
 obtain⟨h0,h1,h2,h3,h4⟩:=hops_mem h hb hb1 hm
 have h5:=adj_in (okE_of h) h2
 have hs:=fr_sane n.toNat l b (okE_of h) hb (by omega) n.toNat u
 rw [← farsM_fr] at hs
 exact⟨u,t,e,h0,h1,by omega,h2,h4,hs.1⟩
/-- a walk over edges, with its cost -/
inductive Walk (l:List S79):Int→Int→Int→Prop
 |nil (v:Int):Walk l v v 0
 |cons {v u b c d:Int} :adj l v u c→Walk l u b d→Walk l v b (c+d)
theorem adj_symm {l:List S79} {v u c:Int} (h:adj l v u c):adj l u v c:=by
 obtain⟨e,he,h,rfl⟩:=h
 exact⟨e,he,h.elim (fun x=> .inr ⟨x.2,x.1⟩) (fun x=> .inl ⟨x.2,x.1⟩),rfl⟩
theorem walk_of {n:Int} {l:List S79} (h:goodE n l=true) {b:Int} (hb: 0≤b) (hb1:b<n):∀ (d:Nat) (v:Int),0≤v→v<n→rd (farsM n.toNat l b) v< 100000→rd (farsM n.toNat l b) v≤d→Walk l v b (rd (farsM n.toNat l b) v)
 | 0,v,hv,hv1,hlt,hd=>by
  by_cases hne:v=b
  ·subst hne
   rw [fars_self (okE_of h) hv (by omega)]
   exact .nil v
  ·obtain⟨u,t,_,_,_,h5,_,_,h6⟩:=way_step h hb hb1 hv hv1 hne hlt
   omega
 |d+1,v,hv,hv1,hlt,hd=>by
  by_cases hne:v=b
  ·subst hne
   rw [fars_self (okE_of h) hv (by omega)]
   exact .nil v
  ·obtain⟨u,t,_,h0,h1,h5,h6,h7,_⟩:=way_step h hb hb1 hv hv1 hne hlt
   rw [show rd (farsM n.toNat l b) v=costM l v u+rd (farsM n.toNat l b) u by omega]
   exact .cons h6 (walk_of h hb hb1 d u h0 h1 (by omega) (by omega))
theorem fars_sane {n:Int} {l:List S79} (h:goodE n l=true) {b:Int} (hb: 0≤b) (hb1:b<n) (v:Int): 0≤rd (farsM n.toNat l b) v∧rd (farsM n.toNat l b) v≤100000:=by
 have hs:=fr_sane n.toNat l b (okE_of h) hb (by omega) n.toNat v
 rw [← farsM_fr] at hs
 exact hs
-- the way that the first hops make
def wayCost (l:List S79):Int→List Int→Int
 |_,[]=>0
 |v,u::r=>costM l v u+wayCost l u r
def wayPos (l:List S79):Int→List Int→Prop
 |_,[]=>True
 |v,u::r=>costM l v u > 0∧wayPos l u r
theorem rd_head (u:Int) (t:List Int):rd (u::t) 0=u:=rfl
theorem wayGo_at {n:Nat} {l:List S79} {F:List Int} {b:Int} (d:Nat):wayGo n l F b (d+1) b= []:=by rw [wayGo,if_pos rfl]
theorem wayGo_cons {n:Nat} {l:List S79} {F:List Int} {b v u:Int} {t:List Int} (d:Nat) (hne:v≠b) (e:hopsGo l v F (nearM n l v)=u::t):wayGo n l F b (d+1) v=u::wayGo n l F b d u:=by
 rw [wayGo,if_neg hne,e,rd_head]
structure WayOk (n:Int) (l:List S79) (F:List Int) (b v:Int) (W:List Int):Prop where
 low:∀ w ∈ W,0≤w∧w<n∧rd F w<rd F v
 nodup:(v::W).Nodup
 last:(v::W).getLast?=some b
 cost:wayCost l v W=rd F v
 pos:wayPos l v W
theorem wayGo_ok {n:Int} {l:List S79} (h:goodE n l=true) {b:Int} (hb: 0≤b) (hb1:b<n):∀ (d:Nat) (v:Int),0≤v→v<n→rd (farsM n.toNat l b) v< 100000→rd (farsM n.toNat l b) v≤d→WayOk n l (farsM n.toNat l b) b v (wayGo n.toNat l (farsM n.toNat l b) b (d+1) v):=by
 intro d
 induction d with
 |zero=>
  intro v hv hv1 hlt hd
  by_cases hne:v=b
  ·subst hne
   rw [wayGo_at]
   exact⟨fun w hw=>by simp at hw,by simp,rfl,(fars_self (okE_of h) hv (by omega)).symm,trivial⟩
  ·obtain⟨u,t,_,_,_,h5,_,_,h6⟩:=way_step h hb hb1 hv hv1 hne hlt
   omega
 |succ d ih=>
  intro v hv hv1 hlt hd
  by_cases hne:v=b
  ·subst hne
   rw [wayGo_at]
   exact⟨fun w hw=>by simp at hw,by simp,rfl,(fars_self (okE_of h) hv (by omega)).symm,trivial⟩
  ·obtain⟨u,t,e,h0,h1,h5,h6,h7,_⟩:=way_step h hb hb1 hv hv1 hne hlt
   rw [wayGo_cons (d+1) hne e]
   have r:=ih u h0 h1 (by omega) (by omega)
   generalize wayGo n.toNat l (farsM n.toNat l b) b (d+1) u=W at r
   have hlow:∀ w ∈ u::W,0≤w∧w<n∧rd (farsM n.toNat l b) w<rd (farsM n.toNat l b) v:=by
    intro w hw
    rcases List.mem_cons.1 hw with rfl|hw
    ·exact⟨h0,h1,h5⟩
    ·have:=r.low w hw
     exact⟨this.1,this.2.1,by omega⟩
   refine⟨hlow,List.nodup_cons.2 ⟨fun hm=>?_,r.nodup⟩,?_,?_,?_,r.pos⟩
   ·have:=hlow v hm
    omega
   ·rw [List.getLast?_cons_cons]
    exact r.last
   ·rw [wayCost,r.cost,h7,Int.add_comm]
   ·have:=adj_in (okE_of h) h6
    show costM l v u > 0
    omega
theorem way_len {n:Int} {l:List S79} {F:List Int} {b v:Int} {W:List Int} (hv: 0≤v) (hv1:v<n) (h:WayOk n l F b v W):W.length+1≤n.toNat:=by
 have:=nodup_le (v::W) (own0 n.toNat) h.nodup (fun x hx=>by
  rw [own0_mem]
  rcases List.mem_cons.1 hx with rfl|hx
  ·omega
  ·have:=h.low x hx
   omega)
 rw [own0_len,List.length_cons] at this
 exact this
theorem wayCost_le {n:Int} {l:List S79} (h:goodE n l=true):∀ (W:List Int) (v:Int),wayCost l v W≤100 * W.length
 | [],_=>by simp [wayCost]
 |u::W,v=>by
  have:=wayCost_le h W u
  have hc:costM l v u≤100:=by
   by_cases hp:costM l v u > 0
   ·have:=adj_in (okE_of h) (cost_adj h hp)
    omega
   ·omega
  rw [wayCost,List.length_cons]
  omega
theorem fars_small {n:Int} {l:List S79} (h:goodE n l=true) {b:Int} (hb: 0≤b) (hb1:b<n) {v:Int} (hv: 0≤v) (hv1:v<n) (hlt:rd (farsM n.toNat l b) v< 100000):rd (farsM n.toNat l b) v≤1200:=by
 have hs:=fars_sane h hb hb1 v
 have r:=wayGo_ok h hb hb1 (rd (farsM n.toNat l b) v).toNat v hv hv1 hlt (by omega)
 have h1:=way_len hv hv1 r
 have h2:=wayCost_le h (wayGo n.toNat l (farsM n.toNat l b) b ((rd (farsM n.toNat l b) v).toNat+1) v) v
 rw [r.cost] at h2
 have:=goodE_n h
 omega
/-- far is what cannot be reached -/
theorem fars_adj {n:Int} {l:List S79} (h:goodE n l=true) {b:Int} (hb: 0≤b) (hb1:b<n) {v u c:Int} (ha:adj l v u c) (hlt:rd (farsM n.toNat l b) u< 100000):rd (farsM n.toNat l b) v< 100000:=by
 have h1:=adj_in (okE_of h) ha
 have:=fars_small h hb hb1 h1.2.2.1 (by omega) hlt
 have:=fars_min (okE_of h) hb (by omega) ha
 omega
-- each edge that joins two groups takes one group away
def lab (n:Nat) (E:List (Nat × Nat)) (v:Nat):Nat:=(at_ (grp n E) v).toNat
theorem lab_ok {n:Nat} {E:List (Nat × Nat)} (hE:InG n E) {v:Nat} (hv:v<n):at_ (grp n E) v= (lab n E v:Int)∧Conn E v (lab n E v)∧lab n E v<n∧ ∀ m,Conn E v m→lab n E v≤m:=by
 obtain⟨u,e,c,h,hm⟩:=grp_ok hE hv
 have:lab n E v=u:=by unfold lab;rw [e];rfl
 rw [this]
 exact⟨e,c,h,hm⟩
theorem lab_same {n:Nat} {E:List (Nat × Nat)} (hE:InG n E) {v w:Nat} (hv:v<n) (h:Conn E v w):lab n E v=lab n E w:=by
 have hw:=h.lt hE hv
 have a:=lab_ok hE hv
 have b:=lab_ok hE hw
 have h1:=a.2.2.2 _ (h.trans b.2.1)
 have h2:=b.2.2.2 _ (h.symm.trans a.2.1)
 omega
theorem conn_iff {n:Nat} {E:List (Nat × Nat)} (hE:InG n E) {v w:Nat} (hv:v<n) (hw:w<n):Conn E v w↔lab n E v=lab n E w:=by
 refine⟨lab_same hE hv,fun h=>?_⟩
 have a:=(lab_ok hE hv).2.1
 have b:=(lab_ok hE hw).2.1
 rw [← h] at b
 exact a.trans b.symm
theorem Conn.mono {E F:List (Nat × Nat)} (h:∀ e ∈ E,e ∈ F) {v w:Nat} (c:Conn E v w):Conn F v w:=by
 induction c with
 |refl=>exact .refl _
 |fwd _ he ih=>exact .fwd ih (h _ he)
 |bwd _ he ih=>exact .bwd ih (h _ he)
theorem conn_add {E:List (Nat × Nat)} {a b:Nat} {v w:Nat} (h:Conn (E++ [(a,b)]) v w):Conn E v w∨ (Conn E v a∧Conn E b w)∨ (Conn E v b∧Conn E a w):=by
 induction h with
 |refl=>exact .inl (.refl _)
 | @fwd x y _ he ih=>
  rcases List.mem_append.1 he with he|he
  ·rcases ih with c|⟨c,d⟩|⟨c,d⟩
   ·exact .inl (.fwd c he)
   ·exact .inr (.inl ⟨c,.fwd d he⟩)
   ·exact .inr (.inr ⟨c,.fwd d he⟩)
  ·obtain⟨rfl,rfl⟩ :x=a∧y=b:=by simpa using he
   rcases ih with c|⟨c,d⟩|⟨c,d⟩
   ·exact .inr (.inl ⟨c,.refl _⟩)
   ·exact .inr (.inl ⟨c,.refl _⟩)
   ·exact .inl c
 | @bwd x y _ he ih=>
  rcases List.mem_append.1 he with he|he
  ·rcases ih with c|⟨c,d⟩|⟨c,d⟩
   ·exact .inl (.bwd c he)
   ·exact .inr (.inl ⟨c,.bwd d he⟩)
   ·exact .inr (.inr ⟨c,.bwd d he⟩)
  ·obtain⟨rfl,rfl⟩ :x=a∧y=b:=by simpa using he
   rcases ih with c|⟨c,d⟩|⟨c,d⟩
   ·exact .inr (.inr ⟨c,.refl _⟩)
   ·exact .inl c
   ·exact .inr (.inr ⟨c,.refl _⟩)
theorem self_add {n:Nat} {E:List (Nat × Nat)} {a b:Nat} (hE:InG n E) (ha:a<n) (hb:b<n) {v:Nat} (hv:v<n):
  lab n (E++ [(a,b)]) v=v↔lab n E v=v∧ ¬ (lab n E a≠lab n E b∧v=max (lab n E a) (lab n E b)):=by
 have hE':InG n (E++ [(a,b)]):=fun e he=>by
  rcases List.mem_append.1 he with he|he
  ·exact hE e he
  ·obtain rfl:e= (a,b):=by simpa using he
   exact⟨ha,hb⟩
 have up:∀ {x y:Nat},Conn E x y→Conn (E++ [(a,b)]) x y:=fun c=>c.mono fun e he=>List.mem_append_left _ he
 have hab:Conn (E++ [(a,b)]) a b:= .fwd (.refl _) (by simp)
 have la:=lab_ok hE ha
 have lb:=lab_ok hE hb
 have lv:=lab_ok hE hv
 have lv':=lab_ok hE' hv
 constructor
 ·intro h
  rw [h] at lv'
  refine⟨?_,fun⟨hne,hm⟩=>?_⟩
  ·have h1:=lv'.2.2.2 _ (up lv.2.1)
   have h2:=lv.2.2.2 _ (Conn.refl v)
   omega
  ·by_cases hc:lab n E a≤lab n E b
   ·have:=lv'.2.2.2 (lab n E a) (by
     rw [show v=lab n E b by omega]
     exact((up lb.2.1).symm.trans hab.symm).trans (up la.2.1))
    omega
   ·have:=lv'.2.2.2 (lab n E b) (by
     rw [show v=lab n E a by omega]
     exact((up la.2.1).symm.trans hab).trans (up lb.2.1))
    omega
 ·rintro⟨h,hn⟩
  have hle:=lv'.2.2.2 _ (Conn.refl v)
  have hlt:=lv'.2.2.1
  rcases conn_add lv'.2.1 with c|⟨c,d⟩|⟨c,d⟩
  ·have:=lv.2.2.2 _ c
   omega
  ·have e1:=lab_same hE hv c
   have e2:=lb.2.2.2 _ d
   by_cases hne:lab n E a=lab n E b
   ·omega
   ·have:v≠max (lab n E a) (lab n E b):=fun hm=>hn ⟨hne,hm⟩
    omega
  ·have e1:=lab_same hE hv c
   have e2:=la.2.2.2 _ d
   by_cases hne:lab n E a=lab n E b
   ·omega
   ·have:v≠max (lab n E a) (lab n E b):=fun hm=>hn ⟨hne,hm⟩
    omega
def selfs (n:Nat) (E:List (Nat × Nat)):Nat:=(List.range n).countP fun v=>decide (lab n E v=v)
theorem countP_drop {p:Nat→Bool} {m:Nat} :∀ (n:Nat),m<n→p m=true→ (List.range n).countP (fun v=>p v && !decide (v=m))+1= (List.range n).countP p:=by
 intro n
 induction n with
 |zero=>intro h;omega
 |succ n ih=>
  intro hm hp
  rw [List.range_succ,List.countP_append,List.countP_append,List.countP_cons,List.countP_cons,List.countP_nil,List.countP_nil]
  by_cases hmn:m=n
  ·subst hmn
   have:(List.range m).countP (fun v=>p v && !decide (v=m))= (List.range m).countP p:=by
    refine List.countP_congr fun v hv=>?_
    have:=List.mem_range.1 hv
    simp [show ¬ v=m by omega]
   rw [this]
   simp [hp]
  ·have:=ih (by omega) hp
   simp [show ¬ n=m by omega]
   omega
theorem selfs_add {n:Nat} {E:List (Nat × Nat)} {a b:Nat} (hE:InG n E) (ha:a<n) (hb:b<n):selfs n (E++ [(a,b)])+ (if lab n E a=lab n E b then 0 else 1)=selfs n E:=by
 unfold selfs
 by_cases hne:lab n E a=lab n E b
 ·rw [if_pos hne,Nat.add_zero]
  refine List.countP_congr fun v hv=>?_
  rw [decide_eq_true_eq,decide_eq_true_eq,self_add hE ha hb (List.mem_range.1 hv)]
  exact⟨fun h=>h.1,fun h=>⟨h,fun c=>c.1 hne⟩⟩
 ·rw [if_neg hne]
  have la:=lab_ok hE ha
  have lb:=lab_ok hE hb
  have sa:lab n E (lab n E a)=lab n E a:=(lab_same hE ha la.2.1).symm
  have sb:lab n E (lab n E b)=lab n E b:=(lab_same hE hb lb.2.1).symm
  have hm:max (lab n E a) (lab n E b)<n:=by have:=la.2.2.1;have:=lb.2.2.1;omega
  have hs:lab n E (max (lab n E a) (lab n E b))=max (lab n E a) (lab n E b):=by
   by_cases h:lab n E a≤lab n E b
   ·rw [Nat.max_eq_right h];exact sb
   ·rw [Nat.max_eq_left (by omega)];exact sa
  rw [← countP_drop (p:=fun v=>decide (lab n E v=v)) n hm (decide_eq_true hs)]
  congr 1
  refine List.countP_congr fun v hv=>?_
  rw [decide_eq_true_eq,self_add hE ha hb (List.mem_range.1 hv),Bool.and_eq_true,decide_eq_true_eq,Bool.not_eq_true',decide_eq_false_iff_not]
  exact⟨fun h=>⟨h.1,fun c=>h.2 ⟨hne,c⟩⟩,fun h=>⟨h.1,fun c=>h.2 c.2⟩⟩
-- the labels of good edges
theorem groupsM_at {n:Int} {l:List S79} (h:goodE n l=true) (v:Int) (h0: 0≤v) (h1:v<n):rd (groupsM n l) v= (lab n.toNat (prs l) v.toNat:Int):=by
 have hi:=prs_in (fun x hm=>⟨(goodE_edge h x hm).1,(goodE_edge h x hm).2.1,(goodE_edge h x hm).2.2.1⟩)
 exact(lab_ok hi (show v.toNat<n.toNat by omega)).1
theorem conn_far {n:Int} {l:List S79} (h:goodE n l=true) {b:Int} (hb: 0≤b) (hb1:b<n) {x y:Nat} (hc:Conn (prs l) x y) (hx:rd (farsM n.toNat l b) (x:Int)< 100000):rd (farsM n.toNat l b) (y:Int)< 100000:=by
 have key:∀ {p q:Nat},(p,q) ∈ prs l→ ∃ c,adj l (p:Int) (q:Int) c:=by
  intro p q hm
  unfold prs at hm
  obtain⟨e,he,e2⟩:=List.mem_map.1 hm
  simp only [Prod.mk.injEq] at e2
  have:=goodE_edge h e he
  exact⟨e.f2,e,he,.inl ⟨by omega,by omega⟩,rfl⟩
 induction hc with
 |refl=>exact hx
 |fwd _ he ih=>
  obtain⟨c,ha⟩:=key he
  exact fars_adj h hb hb1 (adj_symm ha) ih
 |bwd _ he ih=>
  obtain⟨c,ha⟩:=key he
  exact fars_adj h hb hb1 ha ih
theorem walk_conn {n:Int} {l:List S79} (h:goodE n l=true) {v b d:Int} (hw:Walk l v b d):Conn (prs l) v.toNat b.toNat:=by
 induction hw with
 |nil v=>exact .refl _
 |cons ha _ ih=>
  obtain⟨e,he,hc,rfl⟩:=ha
  have hm:(e.f0.toNat,e.f1.toNat) ∈ prs l:=List.mem_map.2 ⟨e,he,rfl⟩
  refine Conn.trans ?_ ih
  rcases hc with ⟨rfl,rfl⟩|⟨rfl,rfl⟩
  ·exact .fwd (.refl _) hm
  ·exact .bwd (.refl _) hm
theorem far_iff {n:Int} {l:List S79} (h:goodE n l=true) {v b:Int} (hv: 0≤v) (hv1:v<n) (hb: 0≤b) (hb1:b<n):rd (farsM n.toNat l b) v=100000↔rd (groupsM n l) v≠rd (groupsM n l) b:=by
 have hs:=fars_sane h hb hb1 v
 rw [groupsM_at h v hv hv1,groupsM_at h b hb hb1]
 have hin:=prs_in (edge3 h)
 have hci:=conn_iff hin (show v.toNat<n.toNat by omega) (show b.toNat<n.toNat by omega)
 constructor
 ·intro e hl
  have hl':lab n.toNat (prs l) v.toNat=lab n.toNat (prs l) b.toNat:=by omega
  have hc:=hci.2 hl'
  have:=conn_far h hb hb1 (hc.symm) (by rw [show ((b.toNat:Nat):Int)=b by omega,fars_self (okE_of h) hb (by omega)];omega)
  rw [show ((v.toNat:Nat):Int)=v by omega] at this
  omega
 ·intro hl
  by_cases hlt:rd (farsM n.toNat l b) v< 100000
  ·have hw:=walk_of h hb hb1 (rd (farsM n.toNat l b) v).toNat v hv hv1 hlt (by omega)
   have:=hci.1 (walk_conn h hw)
   exact absurd (by omega) hl
  ·omega
theorem pars_at (n:Nat) (l:List S79) (a v:Int) (h0: 0≤v) (h1:v<n):rd (pars n l a n) v=parM n l a v:=by
 unfold pars rd own0
 rw [List.map_map,List.getD_eq_getElem?_getD,List.getElem?_eq_getElem (show v.toNat<_ by rw [List.length_map,List.length_range];omega)]
 simp only [List.getElem_map,List.getElem_range,Option.getD_some,Function.comp]
 rw [show ((v.toNat:Nat):Int)=v by omega]
theorem par_root (n:Nat) (l:List S79) (a:Int):parM n l a a= -1:=by rw [parM,if_pos rfl]
theorem par_step {n:Int} {l:List S79} (h:goodE n l=true) {a:Int} (ha: 0≤a) (ha1:a<n) {v:Int} (hv: 0≤v) (hv1:v<n) (hne:v≠a) (hlt:rd (farsM n.toNat l a) v< 100000):
  0≤parM n.toNat l a v∧parM n.toNat l a v<n∧rd (farsM n.toNat l a) (parM n.toNat l a v)<rd (farsM n.toNat l a) v∧costM l v (parM n.toNat l a v) > 0∧rd (farsM n.toNat l a) v=rd (farsM n.toNat l a) (parM n.toNat l a v)+costM l v (parM n.toNat l a v)∧
  ∀ d,wayGo n.toNat l (farsM n.toNat l a) a (d+1) v=parM n.toNat l a v::wayGo n.toNat l (farsM n.toNat l a) a d (parM n.toNat l a v):=by
 obtain⟨u,t,e,h0,h1,h5,h6,h7,_⟩:=way_step h ha ha1 hv hv1 hne hlt
 have hp:parM n.toNat l a v=u:=by
  rw [parM,if_neg hne,show hopsM n.toNat l v a=u::t from e]
  rfl
 rw [hp]
 exact⟨h0,h1,h5,(adj_in (okE_of h) h6).2.2.2.2.2.1,h7,fun d=>wayGo_cons d hne e⟩
theorem par_far {n:Int} {l:List S79} {a v:Int} (hf:¬ rd (farsM n.toNat l a) v< 100000):parM n.toNat l a v= -1:=by
 rw [parM]
 split
 ·rfl
 ·rw [show hopsM n.toNat l v a= [] from ?_]
  ·rfl
  ·unfold hopsM hopsGo
   rw [List.filter_eq_nil_iff]
   intro u _
   rw [decide_eq_true_eq]
   exact fun hc=>hf hc.1
theorem par_in {n:Int} {l:List S79} (h:goodE n l=true) {a:Int} (ha: 0≤a) (ha1:a<n) (v:Int) (hv: 0≤v) (hv1:v<n): -1≤parM n.toNat l a v∧parM n.toNat l a v<n:=by
 by_cases hlt:rd (farsM n.toNat l a) v< 100000
 ·by_cases hne:v=a
  ·rw [hne,par_root];omega
  ·have:=par_step h ha ha1 hv hv1 hne hlt
   omega
 ·rw [par_far hlt];omega
theorem far_climb {n:Int} {l:List S79} (h:goodE n l=true) {a:Int} (ha: 0≤a) (ha1:a<n):∀ (d:Nat) (v:Int),0≤v→v<n→rd (farsM n.toNat l a) v< 100000→rd (farsM n.toNat l a) v≤d→Climb (pars n.toNat l a n.toNat) v (v::wayGo n.toNat l (farsM n.toNat l a) a (d+1) v):=by
 intro d
 induction d with
 |zero=>
  intro v hv hv1 hlt hd
  by_cases hne:v=a
  ·subst hne
   rw [wayGo_at]
   exact⟨hv,rfl,show _< 0 by rw [pars_at _ _ _ _ hv (by omega),par_root];omega⟩
  ·have:=par_step h ha ha1 hv hv1 hne hlt
   have:=fars_sane h ha ha1 (parM n.toNat l a v)
   omega
 |succ d ih=>
  intro v hv hv1 hlt hd
  by_cases hne:v=a
  ·subst hne
   rw [wayGo_at]
   exact⟨hv,rfl,show _< 0 by rw [pars_at _ _ _ _ hv (by omega),par_root];omega⟩
  ·obtain⟨h0,h1,h2,_,_,h3⟩:=par_step h ha ha1 hv hv1 hne hlt
   rw [h3]
   refine⟨hv,rfl,?_⟩
   rw [pars_at _ _ _ _ hv (by omega)]
   exact ih _ h0 h1 (by omega) (by omega)
theorem upOk_of {l:List Int} (hin:∀ u:Int,0≤u→u<l.length→inr (l.length:Int) (rd l u)=true) (hb:∀ u:Int,0≤u→u<l.length→rd l u<l.length):∀ (A:List Int) (d:Nat) (u:Int),Climb l u A→A.length≤d→u<l.length→upOk l d u=true
 | [],d,u,hA,_,_=>by
  have hu:u< 0:=hA
  cases d with
  |zero=>rw [upOk];exact decide_eq_true hu
  |succ d=>rw [upOk,if_neg (by omega)]
 |x::r,d,u,hA,hd,hu=>by
  cases d with
  |zero=>simp at hd
  |succ d=>
   rw [upOk,if_pos (show u≥0 from hA.1),hin u hA.1 hu,Bool.true_and]
   exact upOk_of hin hb r d _ hA.2.2 (by rw [List.length_cons] at hd;omega) (hb u hA.1 hu)
theorem chkS_of (l:List Int) (hn:inn (l.length:Int)=true):∀ (suf:List Int) (c:Nat),(∀ x ∈ suf,inr (l.length:Int) x=true)→ (∀ i:Nat,i<suf.length→upOk l l.length ((c+i:Nat):Int)=true)→chkS l suf c=true
 | [],_,_,_=>by rw [chkS];exact hn
 |x::suf,c,h1,h2=>by
  rw [chkS,h1 x (List.mem_cons_self ..),show upOk l l.length (c:Int)=true from h2 0 (by simp),Bool.true_and,Bool.true_and]
  refine chkS_of l hn suf (c+1) (fun y hy=>h1 y (List.mem_cons_of_mem _ hy)) fun i hi=>?_
  have:=h2 (i+1) (by rw [List.length_cons];omega)
  rw [show c+1+i=c+ (i+1) by omega]
  exact this
theorem climb_short {n:Int} {l:List S79} (h:goodE n l=true) {a:Int} (ha: 0≤a) (ha1:a<n) {v:Int} (hv: 0≤v) (hv1:v<n):∃ A,Climb (pars n.toNat l a n.toNat) v A∧A.length≤n.toNat∧
  (rd (farsM n.toNat l a) v< 100000→a ∈ A∧ ∀ x ∈ A,0≤x∧x<n∧rd (farsM n.toNat l a) x< 100000)∧ (¬ rd (farsM n.toNat l a) v< 100000→A= [v]):=by
 by_cases hlt:rd (farsM n.toNat l a) v< 100000
 ·have hs:=fars_sane h ha ha1 v
  have hc:=far_climb h ha ha1 (rd (farsM n.toNat l a) v).toNat v hv hv1 hlt (by omega)
  have hw:=wayGo_ok h ha ha1 (rd (farsM n.toNat l a) v).toNat v hv hv1 hlt (by omega)
  have hl:=way_len hv hv1 hw
  refine⟨_,hc,by rw [List.length_cons];exact hl,fun _=>⟨List.mem_of_getLast? hw.last,fun x hx=>?_⟩,fun hc=>absurd hlt hc⟩
  rcases List.mem_cons.1 hx with rfl|hx
  ·exact⟨hv,hv1,hlt⟩
  ·have:=hw.low x hx
   exact⟨this.1,this.2.1,by omega⟩
 ·refine⟨[v],⟨hv,rfl,show _< 0 by rw [pars_at _ _ _ _ hv (by omega),par_far hlt];omega⟩,by simp;omega,fun hc=>absurd hc hlt,fun _=>rfl⟩
theorem pars_good {n:Int} {l:List S79} (h:goodE n l=true) {a:Int} (ha: 0≤a) (ha1:a<n):goodP (pars n.toNat l a n.toNat)=true:=by
 have hn:=goodE_n h
 have hl:(pars n.toNat l a n.toNat).length=n.toNat:=pars_len _ _ _ _
 have hin:∀ u:Int,0≤u→u<n→inr n (rd (pars n.toNat l a n.toNat) u)=true:=by
  intro u h0 h1
  have:=par_in h ha ha1 u h0 h1
  rw [pars_at _ _ _ _ h0 (by omega),inr,decide_eq_true_eq,wrap_id (by omega) (by omega)]
  omega
 unfold goodP
 refine chkS_of _ ?_ _ _ ?_ ?_
 ·rw [hl,inn,decide_eq_true_eq];omega
 ·intro x hx
  obtain⟨i,hi,rfl⟩:=List.getElem_of_mem hx
  have:=hin (i:Int) (by omega) (by omega)
  rw [hl,show ((n.toNat:Nat):Int)=n by omega]
  unfold rd at this
  rw [List.getD_eq_getElem?_getD,Int.toNat_natCast,List.getElem?_eq_getElem hi] at this
  exact this
 ·intro i hi
  rw [hl] at hi
  obtain⟨A,hA,hAl,_⟩:=climb_short h ha ha1 (v:=((0+i:Nat):Int)) (by omega) (by omega)
  refine upOk_of ?_ ?_ A _ _ hA (by rw [hl];exact hAl) (by rw [hl];omega)
  ·intro u h0 h1
   rw [hl] at h1
   rw [hl,show ((n.toNat:Nat):Int)=n by omega]
   exact hin u h0 (by omega)
  ·intro u h0 h1
   rw [hl] at h1
   have:=par_in h ha ha1 u h0 (by omega)
   rw [hl,pars_at _ _ _ _ h0 (by omega)]
   omega
-- what costs the way down from the root
-- G(n, edges) is one group
def oneGroup (n:Int) (l:List S79):Bool × Bool:=if goodE n l=true then(allIn 0 0 (groupsM n l),true) else(false,false)
theorem implOneGroup_ev (n:Int) (l:List S79) (hl:l.length≤1048576):Ev (fun k=>impl_IsOneGroup.f k n l) (oneGroup n l):=by
 unfold impl_IsOneGroup.f oneGroup
 refine Ev.bind (implGoodE_ev n l hl) ?_
 by_cases h:goodE n l=true
 ·simp only [if_pos h]
  have hn:=goodE_n h
  have hx:=goodE_edge h
  have h1:Ev (fun k=>impl_isOneGroup.f k n l) (allIn 0 0 (groupsM n l)):=by
   unfold impl_isOneGroup.f
   refine Ev.bind (implGroupsOf_ev n l (by omega) (by omega) (by omega) fun x hm=>⟨(hx x hm).1,(hx x hm).2.1,(hx x hm).2.2.1⟩) ?_
   have:=implAll_l 0 0 (groupsM n l) [] (by simp only [List.nil_append,groupsM_len];omega)
   exact Ev.bind (show Ev (fun k=>impl_allIn.f k (groupsM n l) 0 0) _ from this) (Ev.now _)
  refine Ev.bind h1 ?_
  exact Ev.now _
 ·simp only [if_neg h]
  exact Ev.now _
-- groups do not look at the order of edges
theorem conn_congr {E F:List (Nat × Nat)} (h:∀ e,e ∈ E↔e ∈ F) {v w:Nat} :Conn E v w↔Conn F v w:=⟨Conn.mono fun e he=>(h e).1 he,Conn.mono fun e he=>(h e).2 he⟩
theorem lab_eq {n:Nat} {E F:List (Nat × Nat)} (hE:InG n E) (hF:InG n F) (h:∀ v w,Conn E v w↔Conn F v w) {v:Nat} (hv:v<n):lab n E v=lab n F v:=by
 have e:=lab_ok hE hv
 have f:=lab_ok hF hv
 have h1:=f.2.2.2 _ ((h _ _).1 e.2.1)
 have h2:=e.2.2.2 _ ((h _ _).2 f.2.1)
 omega
theorem selfs_eq {n:Nat} {E F:List (Nat × Nat)} (hE:InG n E) (hF:InG n F) (h:∀ v w,Conn E v w↔Conn F v w):selfs n E=selfs n F:=by
 unfold selfs
 refine List.countP_congr fun v hv=>?_
 rw [lab_eq hE hF h (List.mem_range.1 hv)]
theorem selfs_nil (n:Nat):selfs n []=n:=by
 have hE:InG n []:=fun e he=>by simp at he
 unfold selfs
 rw [List.countP_eq_length.2]
 ·simp
 ·intro v hv
  have:=lab_ok hE (List.mem_range.1 hv)
  rw [decide_eq_true_eq]
  have hc:∀ {x y:Nat},Conn [] x y→y=x:=by
   intro x y h
   cases h with
   |refl=>rfl
   |fwd _ he=>simp at he
   |bwd _ he=>simp at he
  exact hc this.2.1
theorem conn_snoc {E F:List (Nat × Nat)} (h:∀ v w,Conn E v w↔Conn F v w) (x:Nat × Nat) (v w:Nat):Conn (E++ [x]) v w↔Conn (F++ [x]) v w:=by
 have one:∀ {E F:List (Nat × Nat)},(∀ v w,Conn E v w→Conn F v w)→Conn (E++ [x]) v w→Conn (F++ [x]) v w:=by
  intro E F h c
  have up:∀ {p q:Nat},Conn E p q→Conn (F++ [x]) p q:=fun c=>(h _ _ c).mono (fun e he=>List.mem_append.2 (Or.inl he))
  have hx:Conn (F++ [x]) x.1 x.2:=Conn.fwd (.refl _) (by simp)
  rcases conn_add (a:=x.1) (b:=x.2) c with c|⟨c,d⟩|⟨c,d⟩
  ·exact up c
  ·exact(up c).trans (hx.trans (up d))
  ·exact(up c).trans (hx.symm.trans (up d))
 exact⟨one fun v w c=>(h v w).1 c,one fun v w c=>(h v w).2 c⟩
theorem conn_have {E:List (Nat × Nat)} {a b:Nat} (h:Conn E a b) (v w:Nat):Conn (E++ [(a,b)]) v w↔Conn E v w:=by
 constructor
 ·intro c
  rcases conn_add c with c|⟨c,d⟩|⟨c,d⟩
  ·exact c
  ·exact c.trans (h.trans d)
  ·exact c.trans (h.symm.trans d)
 ·exact Conn.mono fun e he=>List.mem_append.2 (Or.inl he)
theorem prs_app (a b:List Ed):prs (a++b)=prs a++prs b:=List.map_append ..
-- what the sweep over edges leaves
structure KT (n:Int) (S out:List Ed):Prop where
 ok:∀ x ∈ S,0≤x.f0∧x.f0<x.f1∧x.f1<n
 sub:∀ x ∈ out,x ∈ S
 conn:∀ v w,Conn (prs out) v w↔Conn (prs S) v w
 cnt:out.length+selfs n.toNat (prs S)=n.toNat
theorem KT.step {n:Int} {S out:List Ed} {s:Int} {e:Ed} (h:KT n S out) (he: 0≤e.f0∧e.f0<e.f1∧e.f1<n):KT n (S++ [e]) (kst n (out,s) e).1:=by
 have hS:=prs_in h.ok
 have hO:=prs_in (n:=n) (fun x hx=>h.ok x (h.sub x hx))
 have ha:e.f0.toNat<n.toNat:=by omega
 have hb:e.f1.toNat<n.toNat:=by omega
 have hok:∀ x ∈ S++ [e],0≤x.f0∧x.f0<x.f1∧x.f1<n:=fun x hx=>by
  rcases List.mem_append.1 hx with hx|hx
  ·exact h.ok x hx
  ·rw [List.mem_singleton] at hx;rw [hx];exact he
 have hg:rd (groupsM n out) e.f0=rd (groupsM n out) e.f1↔Conn (prs S) e.f0.toNat e.f1.toNat:=by
  rw [← h.conn,conn_iff hO ha hb]
  have h1:rd (groupsM n out) e.f0= (lab n.toNat (prs out) e.f0.toNat:Int):=(lab_ok hO ha).1
  have h2:rd (groupsM n out) e.f1= (lab n.toNat (prs out) e.f1.toNat:Int):=(lab_ok hO hb).1
  rw [h1,h2]
  omega
 have hadd:=selfs_add (a:=e.f0.toNat) (b:=e.f1.toNat) hS ha hb
 have hpr:prs (S++ [e])=prs S++ [(e.f0.toNat,e.f1.toNat)]:=prs_app _ _
 unfold kst
 by_cases hc:rd (groupsM n out) e.f0=rd (groupsM n out) e.f1
 ·rw [if_pos hc]
  have hcc:=hg.1 hc
  refine⟨hok,fun x hx=>List.mem_append.2 (Or.inl (h.sub x hx)),fun v w=>?_,?_⟩
  ·rw [hpr,conn_have hcc]
   exact h.conn v w
  ·rw [if_pos ((conn_iff hS ha hb).1 hcc)] at hadd
   rw [hpr]
   have:=h.cnt
   show out.length+_=_
   omega
 ·rw [if_neg hc]
  have hcc:¬ Conn (prs S) e.f0.toNat e.f1.toNat:=fun c=>hc (hg.2 c)
  refine⟨hok,fun x hx=>?_,fun v w=>?_,?_⟩
  ·rcases List.mem_append.1 (show x ∈ out++ [e] from hx) with hx|hx
   ·exact List.mem_append.2 (Or.inl (h.sub x hx))
   ·exact List.mem_append.2 (Or.inr hx)
  ·show Conn (prs (out++ [e])) v w↔_
   rw [hpr,prs_app]
   exact conn_snoc h.conn _ v w
  ·rw [if_neg (fun e=>hcc ((conn_iff hS ha hb).2 e))] at hadd
   rw [hpr]
   have:=h.cnt
   show (out++ [e]).length+_=_
   rw [List.length_append,List.length_singleton]
   omega
theorem kfold_app (n:Int) (a b:List Ed) (st:List Ed × Int):kfold n (a++b) st=kfold n b (kfold n a st):=List.foldl_append ..
theorem kfold_KT {n:Int} :∀ (r S:List Ed) (st:List Ed × Int),KT n S st.1→ (∀ e ∈ r,0≤e.f0∧e.f0<e.f1∧e.f1<n)→KT n (S++r) (kfold n r st).1
 | [],S,st,h,_=>by rw [List.append_nil];exact h
 |e::r,S,st,h,hr=>by
  have:=kfold_KT r (S++ [e]) (kst n st e) (h.step (s:=st.2) (hr e (by simp))) (fun x hx=>hr x (by simp [hx]))
  rw [List.append_assoc,List.singleton_append] at this
  exact this
theorem KT.nil {n:Int} :KT n [] []:=⟨by simp,by simp,fun _ _=>Iff.rfl,by rw [show prs []= [] from rfl,selfs_nil];simp⟩
-- a sweep only adds edges that it meets, and their costs
theorem kfold_adds (n:Int):∀ (r:List Ed) (st:List Ed × Int), ∃ q,(kfold n r st).1=st.1++q∧ (∀ x ∈ q,x ∈ r)∧ (kfold n r st).2=st.2+ (q.map fun x=>x.f2).sum
 | [],st=>⟨[],by simp [kfold],by simp,by simp [kfold]⟩
 |e::r,st=>by
  obtain⟨q,h1,h2,h3⟩:=kfold_adds n r (kst n st e)
  have hk:kfold n (e::r) st=kfold n r (kst n st e):=rfl
  by_cases hc:rd (groupsM n st.1) e.f0=rd (groupsM n st.1) e.f1
  ·have hs:kst n st e=st:=by unfold kst;rw [if_pos hc]
   rw [hs] at h1 h3
   exact⟨q,by rw [hk,hs,h1],fun x hx=>by simp [h2 x hx],by rw [hk,hs,h3]⟩
  ·have hs:kst n st e= (st.1++ [e],st.2+e.f2):=by unfold kst;rw [if_neg hc]
   rw [hs] at h1 h3
   refine⟨e::q,by rw [hk,hs,h1];simp,fun x hx=>?_,by rw [hk,hs,h3];simp;omega⟩
   rcases List.mem_cons.1 hx with e|hx
   ·simp [e]
   ·simp [h2 x hx]
theorem srt_parts {S:List Ed} (h:Srt S) (j:Int):S= (S.filter fun x=>decide (x.f2≤j))++S.filter fun x=>decide (¬ x.f2≤j):=by
 refine srt_uniq _ _ h (Srt_app.2 ⟨List.Pairwise.filter _ h,List.Pairwise.filter _ h,fun x hx y hy=>?_⟩) fun c=>?_
 ·have:=of_decide_eq_true (List.mem_filter.1 hx).2
  have:=of_decide_eq_true (List.mem_filter.1 hy).2
  omega
 ·have:=(part_stab S (j+1)).2 c
  rw [show (fun x:Ed=>decide (x.f2≤j))=fun y=>decide (y.f2<j+1) from funext fun x=>decide_eq_decide.2 (by omega),show (fun x:Ed=>decide (¬ x.f2≤j))=fun y=>decide (¬ y.f2<j+1) from funext fun x=>decide_eq_decide.2 (by omega)]
  exact this.symm
def cntO (j:Int) (L:List Int):Nat:=L.countP fun x=>decide (j<x)
-- the edges of the least tree above a bound
theorem least_count {n:Int} {l:List Ed} (hl:∀ e ∈ l,0≤e.f0∧e.f0<e.f1∧e.f1<n) (hone:selfs n.toNat (prs l)=1) (j:Int):
  cntO j ((kfold n (insS l) ([],0)).1.map fun x=>x.f2)+1=selfs n.toNat (prs ((insS l).filter fun x=>decide (x.f2≤j)))∧ (kfold n (insS l) ([],0)).1.length+1=n.toNat:=by
 have hst:=insS_stab l
 have hS:∀ e ∈ insS l,0≤e.f0∧e.f0<e.f1∧e.f1<n:=fun e he=>hl e (hst.mem he)
 have hmem:∀ e,e ∈ insS l↔e ∈ l:=fun e=>⟨fun h=>hst.mem h,fun h=>by
  have:e ∈ ofK e.f2 l:=List.mem_filter.2 ⟨h,by simp⟩
  rw [← hst.2] at this
  exact(List.mem_filter.1 this).1⟩
 have hone':selfs n.toNat (prs (insS l))=1:=by
  rw [← hone]
  refine selfs_eq (prs_in hS) (prs_in hl) fun v w=>conn_congr fun e=>?_
  unfold prs
  rw [List.mem_map,List.mem_map]
  exact⟨fun⟨x,hx,e⟩=>⟨x,(hmem x).1 hx,e⟩,fun⟨x,hx,e⟩=>⟨x,(hmem x).2 hx,e⟩⟩
 have hall:=kfold_KT (insS l) [] ([],0) KT.nil hS
 rw [List.nil_append] at hall
 have hcA:=hall.cnt
 have hp:=srt_parts (insS_srt l) j
 have hS1:∀ e ∈ (insS l).filter fun x=>decide (x.f2≤j),0≤e.f0∧e.f0<e.f1∧e.f1<n:=fun e he=>hS e (List.mem_filter.1 he).1
 have h1:=kfold_KT _ [] ([],0) KT.nil hS1
 rw [List.nil_append] at h1
 have hc1:=h1.cnt
 have hk:kfold n (insS l) ([],0)=kfold n ((insS l).filter fun x=>decide (¬ x.f2≤j)) (kfold n ((insS l).filter fun x=>decide (x.f2≤j)) ([],0)):=by
  conv=>lhs;rw [hp]
  rw [kfold_app]
 obtain⟨q,hq1,hq2,_⟩:=kfold_adds n ((insS l).filter fun x=>decide (¬ x.f2≤j)) (kfold n ((insS l).filter fun x=>decide (x.f2≤j)) ([],0))
 rw [← hk] at hq1
 have hlow:∀ x ∈ (kfold n ((insS l).filter fun x=>decide (x.f2≤j)) ([],0)).1, ¬ j<x.f2:=fun x hx=>by
  have:=of_decide_eq_true (List.mem_filter.1 (h1.sub x hx)).2
  omega
 have hhigh:∀ x ∈ q,j<x.f2:=fun x hx=>by
  have:=of_decide_eq_true (List.mem_filter.1 (hq2 x hx)).2
  omega
 have hcount:cntO j ((kfold n (insS l) ([],0)).1.map fun x=>x.f2)=q.length:=by
  unfold cntO
  rw [hq1,List.map_append,List.countP_append,List.countP_map,List.countP_map,List.countP_eq_zero.2 (fun x hx=>by simpa using hlow x hx),List.countP_eq_length.2 (fun x hx=>by simpa using hhigh x hx)]
  omega
 have hlen:=congrArg List.length hq1
 rw [List.length_append] at hlen
 rw [hcount]
 rw [hone'] at hcA
 generalize (kfold n (insS l) ([],0)).1.length=t at hlen hcA ⊢
 generalize (kfold n ((insS l).filter fun x=>decide (x.f2≤j)) ([],0)).1.length=t1 at hlen hc1
 generalize selfs n.toNat (prs ((insS l).filter fun x=>decide (x.f2≤j)))=s at hc1 ⊢
 omega
-- a tree by its parents: its edges above a bound
def tcs (l:List Ed):List Int→Int→List Int
 | [],_=> []
 |p::r,i=>if p< 0 then tcs l r (i+1) else costM l i p::tcs l r (i+1)
def rts (l:List Ed) (j:Int):List Int→Int→List Int
 | [],_=> []
 |p::r,i=>if p< 0∨j<costM l i p then i::rts l j r (i+1) else rts l j r (i+1)
theorem rts_len (l:List Ed) (j:Int):∀ (q:List Int) (i:Int),(rts l j q i).length=q.countP (fun p=>decide (p< 0))+cntO j (tcs l q i)
 | [],_=>rfl
 |p::r,i=>by
  have ih:=rts_len l j r (i+1)
  by_cases hp:p< 0
  ·rw [rts,if_pos (Or.inl hp),tcs,if_pos hp,List.length_cons,ih,List.countP_cons_of_pos (by simpa using hp)]
   omega
  ·rw [tcs,if_neg hp,List.countP_cons_of_neg (by simpa using hp)]
   by_cases hc:j<costM l i p
   ·rw [rts,if_pos (Or.inr hc),List.length_cons,ih]
    unfold cntO
    rw [List.countP_cons_of_pos (by simpa using hc)]
    omega
   ·rw [rts,if_neg (fun h=>h.elim hp hc),ih]
    unfold cntO
    rw [List.countP_cons_of_neg (by simpa using hc)]
theorem rts_mem (l:List Ed) (j:Int):∀ (q:List Int) (i:Int) (k:Nat),k<q.length→ (rd q (k:Int)< 0∨j<costM l (i+k) (rd q (k:Int)))→i+ (k:Int) ∈ rts l j q i
 | [],_,k,h,_=>by simp at h
 |p::r,i,0,_,h=>by
  have h':p< 0∨j<costM l i p:=by simpa [rd] using h
  rw [rts,if_pos h']
  simp
 |p::r,i,k+1,hk,h=>by
  have hr:rd (p::r) ((k+1:Nat):Int)=rd r (k:Int):=by
   unfold rd
   rw [Int.toNat_natCast,Int.toNat_natCast]
   rfl
  rw [hr] at h
  have:=rts_mem l j r (i+1) k (by simpa using hk) (by rw [show i+1+ (k:Int)=i+ ((k+1:Nat):Int) by omega];exact h)
  rw [show i+1+ (k:Int)=i+ ((k+1:Nat):Int) by omega] at this
  rw [rts]
  split
  ·exact List.mem_cons_of_mem _ this
  ·exact this
theorem tree_count {n:Int} {l:List Ed} (h:goodE n l=true) {a:Int} (ha: 0≤a) (ha1:a<n) (hall:∀ v:Int,0≤v→v<n→rd (farsM n.toNat l a) v< 100000) (j:Int):
  selfs n.toNat (prs ((insS l).filter fun x=>decide (x.f2≤j)))≤1+cntO j (tcs l (pars n.toNat l a n.toNat) 0):=by
 have hst:=insS_stab l
 have hlok:=edge3 h
 have hS1:∀ e ∈ (insS l).filter fun x=>decide (x.f2≤j),0≤e.f0∧e.f0<e.f1∧e.f1<n:=fun e he=>hlok e (hst.mem (List.mem_filter.1 he).1)
 have hE:=prs_in hS1
 have hl:(pars n.toNat l a n.toNat).length=n.toNat:=pars_len _ _ _ _
 -- from each place up to one whose edge up is above the bound
 have up:∀ (d:Nat) (v:Int),0≤v→v<n→rd (farsM n.toNat l a) v≤d→ ∃ r:Int,0≤r∧r<n∧Conn (prs ((insS l).filter fun x=>decide (x.f2≤j))) v.toNat r.toNat∧r ∈ rts l j (pars n.toNat l a n.toNat) 0:=by
  intro d
  induction d with
  |zero=>
   intro v hv hv1 hd
   by_cases hne:v=a
   ·have hm:=rts_mem l j (pars n.toNat l a n.toNat) 0 v.toNat (by omega) (Or.inl (by rw [show ((v.toNat:Nat):Int)=v by omega,pars_at _ _ _ _ hv (by omega),hne,par_root];omega))
    rw [show (0:Int)+ (v.toNat:Nat)=v by omega] at hm
    exact⟨v,hv,hv1,.refl _,hm⟩
   ·have:=par_step h ha ha1 hv hv1 hne (hall v hv hv1)
    have:=fars_sane h ha ha1 (parM n.toNat l a v)
    omega
  |succ d ih=>
   intro v hv hv1 hd
   have stop:(parM n.toNat l a v< 0∨j<costM l v (parM n.toNat l a v))→ ∃ r:Int,0≤r∧r<n∧Conn (prs ((insS l).filter fun x=>decide (x.f2≤j))) v.toNat r.toNat∧r ∈ rts l j (pars n.toNat l a n.toNat) 0:=by
    intro hc
    have hm:=rts_mem l j (pars n.toNat l a n.toNat) 0 v.toNat (by omega) (by rw [Int.zero_add,show ((v.toNat:Nat):Int)=v by omega,pars_at _ _ _ _ hv (by omega)];exact hc)
    rw [show (0:Int)+ (v.toNat:Nat)=v by omega] at hm
    exact⟨v,hv,hv1,.refl _,hm⟩
   by_cases hne:v=a
   ·exact stop (Or.inl (by rw [hne,par_root];omega))
   ·obtain⟨p0,p1,p2,p3,_,_⟩:=par_step h ha ha1 hv hv1 hne (hall v hv hv1)
    by_cases hc:j<costM l v (parM n.toNat l a v)
    ·exact stop (Or.inr hc)
    ·obtain⟨r,r0,r1,r2,r3⟩:=ih _ p0 p1 (by omega)
     refine⟨r,r0,r1,Conn.trans ?_ r2,r3⟩
     obtain⟨e,he,hends,hcost⟩:=cost_adj h p3
     have heS:e ∈ (insS l).filter fun x=>decide (x.f2≤j):=by
      refine List.mem_filter.2 ⟨?_,decide_eq_true (by omega)⟩
      have:e ∈ ofK e.f2 l:=List.mem_filter.2 ⟨he,by simp⟩
      rw [← hst.2] at this
      exact(List.mem_filter.1 this).1
     have hpe:(e.f0.toNat,e.f1.toNat) ∈ prs ((insS l).filter fun x=>decide (x.f2≤j)):=List.mem_map.2 ⟨e,heS,rfl⟩
     rcases hends with ⟨e1,e2⟩|⟨e1,e2⟩
     ·rw [show v.toNat=e.f0.toNat by rw [e1],show (parM n.toNat l a v).toNat=e.f1.toNat by rw [e2]];exact Conn.fwd (.refl _) hpe
     ·rw [show v.toNat=e.f1.toNat by rw [e1],show (parM n.toNat l a v).toNat=e.f0.toNat by rw [e2]];exact Conn.bwd (.refl _) hpe
 have hroots:(pars n.toNat l a n.toNat).countP (fun p=>decide (p< 0))≤1:=by
  unfold pars
  rw [List.countP_map,List.countP_eq_length_filter]
  refine nodup_le _ [a] (List.Pairwise.filter _ ((own0_sorted _).imp fun h=>Int.ne_of_lt h)) fun x hx=>?_
  obtain⟨h1,h2⟩:=List.mem_filter.1 hx
  have hx1:=(own0_mem _ _).1 h1
  have h2:parM n.toNat l a x< 0:=of_decide_eq_true h2
  rw [List.mem_singleton]
  by_cases e:x=a
  ·exact e
  ·have:=(par_step h ha ha1 hx1.1 (by omega) e (hall x hx1.1 (by omega))).1
   omega
 have hlenr:=rts_len l j (pars n.toNat l a n.toNat) 0
 have hle:selfs n.toNat (prs ((insS l).filter fun x=>decide (x.f2≤j)))≤ (rts l j (pars n.toNat l a n.toNat) 0).length:=by
  unfold selfs
  have hmap:((rts l j (pars n.toNat l a n.toNat) 0).map fun r:Int=>lab n.toNat (prs ((insS l).filter fun x=>decide (x.f2≤j))) r.toNat).length= (rts l j (pars n.toNat l a n.toNat) 0).length:=List.length_map ..
  rw [List.countP_eq_length_filter,← hmap]
  refine nodup_le _ _ (List.Pairwise.filter _ List.nodup_range) fun v hv=>?_
  obtain⟨h1,h2⟩:=List.mem_filter.1 hv
  have hvn:=List.mem_range.1 h1
  have hlv:=of_decide_eq_true h2
  have hs:=fars_sane h ha ha1 (v:Int)
  obtain⟨r,r0,r1,r2,r3⟩:=up (rd (farsM n.toNat l a) (v:Int)).toNat v (by omega) (by omega) (by omega)
  rw [Int.toNat_natCast] at r2
  refine List.mem_map.2 ⟨r,r3,?_⟩
  rw [← lab_same hE hvn r2]
  exact hlv
 omega
-- sums by counts
def upTo (f:Nat→Nat):Nat→Nat
 | 0=>0
 |m+1=>upTo f m+f m
theorem upTo_le {f g:Nat→Nat} (h:∀ j,f j≤g j):∀ m,upTo f m≤upTo g m
 | 0=>Nat.le_refl _
 |m+1=>Nat.add_le_add (upTo_le h m) (h m)
theorem upTo_add (f g:Nat→Nat):∀ m,upTo (fun j=>f j+g j) m=upTo f m+upTo g m
 | 0=>rfl
 |m+1=>by simp only [upTo,upTo_add f g m];omega
theorem upTo_one (x:Int) (h0: 0≤x):∀ m:Nat,(upTo (fun j=>if ((j:Nat):Int)<x then 1 else 0) m:Int)=min x m
 | 0=>by simp only [upTo];omega
 |m+1=>by
  have:=upTo_one x h0 m
  simp only [upTo]
  split<;>omega
theorem upTo_zero:∀ m,upTo (fun _=>0) m=0
 | 0=>rfl
 |m+1=>by simp only [upTo,upTo_zero m]
theorem sum_cnt:∀ (L:List Int),(∀ x ∈ L,0≤x∧x≤100)→L.sum= (upTo (fun j:Nat=>cntO (j:Int) L) 100:Nat)
 | [],_=>by
  show (0:Int)=_
  rw [show (fun j:Nat=>cntO (j:Int) [])=fun _=>0 from rfl,upTo_zero]
  rfl
 |x::L,h=>by
  have hx:=h x (by simp)
  have ih:=sum_cnt L (fun y hy=>h y (by simp [hy]))
  have e:(fun j:Nat=>cntO (j:Int) (x::L))=fun j:Nat=>cntO (j:Int) L+if ((j:Nat):Int)<x then 1 else 0:=by
   funext j
   unfold cntO
   rw [List.countP_cons]
   simp
  have h1:=upTo_one x hx.1 100
  rw [List.sum_cons,e,upTo_add,ih]
  omega
theorem sum_le {A B:List Int} (hA:∀ x ∈ A,0≤x∧x≤100) (hB:∀ x ∈ B,0≤x∧x≤100) (h:∀ j:Nat,cntO (j:Int) B≤cntO (j:Int) A):B.sum≤A.sum:=by
 rw [sum_cnt A hA,sum_cnt B hB]
 have:=upTo_le h 100
 omega
-- the cost of a tree
theorem treeGo_sum {l:List Ed} :∀ (q:List Int) (i s:Int),(∀ x ∈ tcs l q i,1≤x∧x≤100)→0≤s→s+100 * q.length≤1000000→treeGo l q i s= (s+ (tcs l q i).sum,true)
 | [],i,s,_,_,_=>by simp [treeGo,tcs]
 |p::r,i,s,h,h0,h1=>by
  rw [List.length_cons] at h1
  rw [treeGo]
  by_cases hp:p< 0
  ·rw [tcs,if_pos hp] at h ⊢
   rw [if_pos hp]
   exact treeGo_sum r (i+1) s h h0 (by omega)
  ·rw [tcs,if_neg hp] at h ⊢
   have hc:=h _ (List.mem_cons_self ..)
   rw [if_neg hp,if_neg (by omega),wrap_id (by omega) (by omega),treeGo_sum r (i+1) _ (fun x hx=>h x (List.mem_cons_of_mem _ hx)) (by omega) (by omega),List.sum_cons]
   congr 1
   omega
theorem tcs_mem {l:List Ed} :∀ (q:List Int) (i:Int) (x:Int),x ∈ tcs l q i→ ∃ k:Nat,k<q.length∧ ¬ rd q (k:Int)< 0∧x=costM l (i+k) (rd q (k:Int))
 | [],_,x,h=>by simp [tcs] at h
 |p::r,i,x,h=>by
  rw [tcs] at h
  have hr:∀ k:Nat,rd (p::r) ((k+1:Nat):Int)=rd r (k:Int):=fun k=>by
   unfold rd
   rw [Int.toNat_natCast,Int.toNat_natCast]
   rfl
  have rest:x ∈ tcs l r (i+1)→ ∃ k:Nat,k< (p::r).length∧ ¬ rd (p::r) (k:Int)< 0∧x=costM l (i+k) (rd (p::r) (k:Int)):=by
   intro h
   obtain⟨k,h1,h2,h3⟩:=tcs_mem r (i+1) x h
   refine⟨k+1,by rw [List.length_cons];omega,by rw [hr];exact h2,?_⟩
   rw [hr,h3,show i+1+ (k:Int)=i+ ((k+1:Nat):Int) by omega]
  split at h
  ·exact rest h
  ·rename_i hp
   rcases List.mem_cons.1 h with e|h
   ·exact⟨0,by simp,by simpa [rd] using hp,by rw [e];simp [rd]⟩
   ·exact rest h
theorem tree_costs {n:Int} {l:List Ed} (h:goodE n l=true) {a:Int} (ha: 0≤a) (ha1:a<n):∀ x ∈ tcs l (pars n.toNat l a n.toNat) 0,1≤x∧x≤100:=by
 intro x hx
 have hl:(pars n.toNat l a n.toNat).length=n.toNat:=pars_len _ _ _ _
 obtain⟨k,h1,h2,h3⟩:=tcs_mem _ _ _ hx
 rw [hl] at h1
 rw [pars_at _ _ _ _ (by omega) (by omega)] at h2 h3
 rw [Int.zero_add] at h3
 by_cases hf:rd (farsM n.toNat l a) (k:Int)< 100000
 ·by_cases hne:(k:Int)=a
  ·rw [hne,par_root] at h2;omega
  ·have hs:=par_step h ha ha1 (show (0:Int)≤k by omega) (show (k:Int)<n by omega) hne hf
   have:=adj_in (okE_of h) (cost_adj h hs.2.2.2.1)
   omega
 ·rw [par_far hf] at h2;omega
theorem tree_least {n:Int} {l:List Ed} (h:goodE n l=true) (hone:selfs n.toNat (prs l)=1) {a:Int} (ha: 0≤a) (ha1:a<n) (hall:∀ v:Int,0≤v→v<n→rd (farsM n.toNat l a) v< 100000):
  ∃ c,treeCost n l (pars n.toNat l a n.toNat)= (c,true)∧ (kfold n (insS l) ([],0)).2≤c:=by
 have hn:=goodE_n h
 have hl:(pars n.toNat l a n.toNat).length=n.toNat:=pars_len _ _ _ _
 have hg:=pars_good h ha ha1
 have hc:=tree_costs h ha ha1
 refine⟨(tcs l (pars n.toNat l a n.toNat) 0).sum,?_,?_⟩
 ·have hcond:goodE n l=true∧goodP (pars n.toNat l a n.toNat)=true∧ ((pars n.toNat l a n.toNat).length:Int)=n:=⟨h,hg,by rw [hl];omega⟩
  unfold treeCost
  rw [if_pos hcond,treeGo_sum _ _ _ hc (by omega) (by rw [hl];omega),Int.zero_add]
 ·obtain⟨q,h1,h2,h3⟩:=kfold_adds n (insS l) ([],0)
  have hT:(kfold n (insS l) ([],0)).1=q:=by rw [h1];rfl
  rw [h3,show (([],0):List Ed × Int).2=0 from rfl,Int.zero_add,← hT]
  refine sum_le (fun x hx=>by have:=hc x hx;omega) (fun x hx=>?_) fun j=>?_
  ·obtain⟨e,he,rfl⟩:=List.mem_map.1 hx
   rw [hT] at he
   have:=goodE_edge h e ((insS_stab l).mem (h2 e he))
   omega
  ·have k1:=(least_count (edge3 h) hone j).1
   have k2:=tree_count h ha ha1 hall j
   omega
theorem specAt_ev {m:Nat} {l:List S79} (v:Int) (hl:l.length≤1048576) (h:goodE m l=true) (h0: 0≤v) (h1:v<m):Ev (fun k=>spec_l10At.f k m l v) (pars m l v m):=by
 have hn:=goodE_n h
 unfold spec_l10At.f
 have:=specFars_ev (m:Int) l v (by omega) (by omega) (edge3 h) h0 (by omega)
 rw [Int.toNat_natCast] at this
 refine Ev.bind this ?_
 exact specAt_l0 m (by omega) l (by omega) (goodE_edge h) v m 0 (by omega)
theorem implAt_ev {m:Nat} {l:List S79} (v:Int) (hl:l.length≤1048576) (h:goodE m l=true) (h0: 0≤v) (h1:v<m):Ev (fun k=>impl_treeAt.f k m l v) (pars m l v m):=by
 have hn:=goodE_n h
 unfold impl_treeAt.f
 have:=implFars_ev (m:Int) l v (by omega) (by omega) (edge3 h) h0 (by omega)
 rw [Int.toNat_natCast] at this
 refine Ev.bind this ?_
 simp only [Int.toNat_natCast,if_pos (show (0:Int)≤ (m:Int) by omega),if_pos (show m≤35184372088832 by omega),Option.bind_some,List.length_replicate]
 exact implAt_l0 m (by omega) l hl h v m 0 (by omega)
def trs (m:Nat) (l:List S79) (c:Nat):List (List Int):=(own0 c).map fun v=>pars m l v m
theorem trs_succ (m:Nat) (l:List S79) (c:Nat):trs m l (c+1)=trs m l c++ [pars m l c m]:=by
 unfold trs
 rw [own0_succ,List.map_append]
 rfl
theorem trs_len (m:Nat) (l:List S79) (c:Nat):(trs m l c).length=c:=by unfold trs;rw [List.length_map,own0_len]
theorem specTrs_l {m:Nat} {l:List S79} (hl:l.length≤1048576) (h:goodE m l=true) (z:Int) (hz:z≤m) (d:Nat):∀ (c:Nat),(c:Int)+d=z→
  Ev (fun k=>spec_TreesFor.l0 k m l z (trs m l c) c) (trs m l z.toNat,true):=by
 have hn:=goodE_n h
 induction d with
 |zero=>
  intro c hc
  refine Ev.succ ?_
  simp only [spec_TreesFor.l0,if_neg (show ¬ (c:Int)<z by omega)]
  exact Ev.some_ (by rw [show z.toNat=c by omega])
 |succ d ih=>
  intro c hc
  refine Ev.succ ?_
  have hln:=trs_len m l c
  simp only [spec_TreesFor.l0,if_pos (show (c:Int)<z by omega),wrap_id (show (-9223372036854775808:Int)≤c+1 by omega) (show ((c:Int)+1≤9223372036854775807) by omega)]
  refine Ev.bind (specAt_ev c hl h (by omega) (by omega)) ?_
  simp only [if_pos (show (trs m l c).length< 5864062014805 by omega),← trs_succ]
  exact ih (c+1) (by omega)
theorem implTrs_l {m:Nat} {l:List S79} (hl:l.length≤1048576) (h:goodE m l=true) (z:Int) (hz:z≤m) (d:Nat):∀ (c:Nat),(c:Int)+d=z→
  Ev (fun k=>impl_TreesFor.l0 k m l (trs m l c) z c) (trs m l z.toNat,true):=by
 have hn:=goodE_n h
 induction d with
 |zero=>
  intro c hc
  refine Ev.succ ?_
  simp only [impl_TreesFor.l0,if_neg (show ¬ (c:Int)<z by omega)]
  exact Ev.some_ (by rw [show z.toNat=c by omega])
 |succ d ih=>
  intro c hc
  refine Ev.succ ?_
  have hln:=trs_len m l c
  simp only [impl_TreesFor.l0,if_pos (show (c:Int)<z by omega),wrap_id (show (-9223372036854775808:Int)≤c+1 by omega) (show ((c:Int)+1≤9223372036854775807) by omega)]
  refine Ev.bind (implAt_ev c hl h (by omega) (by omega)) ?_
  simp only [if_pos (show (trs m l c).length< 5864062014805 by omega),← trs_succ]
  exact ih (c+1) (by omega)
def treesFor (n:Int) (l:List S79) (z:Int):List (List Int) × Bool:=if goodE n l=true∧0≤z∧z≤n then(trs n.toNat l z.toNat,true) else([],false)
theorem treesFor_len (n:Int) (l:List S79) (z:Int):(treesFor n l z).1.length≤12∧ ∀ x ∈ (treesFor n l z).1,x.length≤12:=by
 unfold treesFor
 split
 ·rename_i h
  have hn:=goodE_n h.1
  refine⟨by show (trs n.toNat l z.toNat).length≤12;rw [trs_len];omega,fun x hx=>?_⟩
  obtain⟨v,_,rfl⟩:=List.mem_map.1 hx
  have:=pars_len n.toNat l v n.toNat
  omega
 ·simp
theorem specTreesFor_ev (n:Int) (l:List S79) (z:Int) (hl:l.length≤1048576):Ev (fun k=>spec_TreesFor.f k n l z) (treesFor n l z):=by
 unfold spec_TreesFor.f treesFor
 refine Ev.bind (specGoodE_ev n l hl) ?_
 by_cases h:goodE n l=true
 ·have hn:=goodE_n h
  obtain⟨m,rfl⟩:=Int.eq_ofNat_of_zero_le (show 0≤n by omega)
  simp only [h,if_true,specIn,Option.bind_some]
  refine Ev.succ ?_
  by_cases hz: 0≤z∧z≤ (m:Int)
  ·simp only [spec_TreesFor.j0,decide_eq_true hz,Bool.not_true,Bool.false_eq_true,if_false,if_pos (show True∧0≤z∧z≤ (m:Int) from ⟨trivial,hz⟩),Int.toNat_natCast]
   exact specTrs_l hl h z hz.2 z.toNat 0 (by omega)
  ·simp only [spec_TreesFor.j0,decide_eq_false hz,Bool.not_false,if_true,if_neg (show ¬ (True∧0≤z∧z≤ (m:Int)) from fun hc=>hz hc.2)]
   exact Ev.now _
 ·simp only [h,Bool.false_eq_true,if_false,false_and]
  refine Ev.succ ?_
  simp only [spec_TreesFor.j0,if_true]
  exact Ev.now _
theorem implTreesFor_ev (n:Int) (l:List S79) (z:Int) (hl:l.length≤1048576):Ev (fun k=>impl_TreesFor.f k n l z) (treesFor n l z):=by
 unfold impl_TreesFor.f treesFor
 refine Ev.bind (implGoodE_ev n l hl) ?_
 by_cases h:goodE n l=true
 ·have hn:=goodE_n h
  obtain⟨m,rfl⟩:=Int.eq_ofNat_of_zero_le (show 0≤n by omega)
  simp only [h,if_true,implIn,Option.bind_some]
  refine Ev.succ ?_
  by_cases hz: 0≤z∧z≤ (m:Int)
  ·simp only [impl_TreesFor.j0,decide_eq_true hz,Bool.not_true,Bool.false_eq_true,if_false,if_pos (show True∧0≤z∧z≤ (m:Int) from ⟨trivial,hz⟩),Int.toNat_natCast]
   exact implTrs_l hl h z hz.2 z.toNat 0 (by omega)
  ·simp only [impl_TreesFor.j0,decide_eq_false hz,Bool.not_false,if_true,if_neg (show ¬ (True∧0≤z∧z≤ (m:Int)) from fun hc=>hz hc.2)]
   exact Ev.now _
 ·simp only [h,Bool.false_eq_true,if_false,false_and]
  refine Ev.succ ?_
  simp only [impl_TreesFor.j0,if_true]
  exact Ev.now _
-- the law's own comparison of two lists of numbers
theorem sameInts_l (s:List Int):∀ (t pre qre:List Int),pre.length=qre.length→s.length=t.length→ (pre.length:Int)+s.length≤1099511627776→
  Ev (fun k=>laws_sameInts.l0 k (pre++s) (qre++t) ((pre++s).length:Int) pre.length) (decide (s=t)):=by
 induction s with
 |nil=>
  intro t pre qre hq hl hb
  obtain rfl:t= []:=List.eq_nil_of_length_eq_zero (by simpa using hl.symm)
  refine Ev.succ ?_
  simp only [laws_sameInts.l0,List.append_nil,Int.lt_irrefl,if_false,decide_true]
  exact Ev.now _
 |cons x s ih=>
  intro t pre qre hq hl hb
  cases t with
  |nil=>simp at hl
  |cons y t=>
   simp only [List.length_cons] at hl hb
   have h:=ih t (pre++ [x]) (qre++ [y]) (by simp;omega) (by omega) (by simp;omega)
   rw [← app_one,← app_one,len_mid,len_one] at h
   have hy:rd (qre++y::t) (pre.length:Int)=y:=by rw [hq];exact rd_mid qre y t
   refine Ev.succ ?_
   simp only [laws_sameInts.l0]
   simp only [len_mid,if_pos (show ((pre.length:Int)<pre.length+s.length+1) by omega),if_pos (show (0:Int)≤pre.length by omega),if_pos (show ((pre.length:Int)<qre.length+t.length+1) by omega),rd_mid,hy,wrap_id (show (-9223372036854775808:Int)≤pre.length+1 by omega) (show ((pre.length:Int)+1≤9223372036854775807) by omega)]
   by_cases e:x=y
   ·simp only [if_pos e]
    rw [show decide (x::s=y::t)=decide (s=t) by simp [e]]
    exact h
   ·simp only [if_neg e]
    rw [show decide (x::s=y::t)=false by simp [e]]
    exact Ev.now _
theorem sameInts_ev (s t:List Int) (hs:s.length≤1099511627776):Ev (fun k=>laws_sameInts.f k s t) (decide (s=t)):=by
 unfold laws_sameInts.f
 by_cases hl:s.length=t.length
 ·simp only [if_pos (show (s.length:Int)=t.length by omega)]
  have:=sameInts_l s t [] [] rfl hl (by simp;omega)
  exact this
 ·simp only [if_neg (show ¬ (s.length:Int)=t.length by omega)]
  rw [decide_eq_false (fun e=>hl (by rw [e]))]
  exact Ev.now _
theorem and255 (x:Int): 0≤wrap64 (Go.bits .and .u64 x 255)∧wrap64 (Go.bits .and .u64 x 255)≤255:=by
 have e:∃ n:Nat,n≤255∧Go.bits .and .u64 x 255=IntKind.u64.wrap (n:Int):=by
  refine⟨(BitVec.ofInt 64 x &&& BitVec.ofInt 64 255).toNat,?_,rfl⟩
  rw [BitVec.toNat_and]
  exact Nat.le_trans Nat.and_le_right (by decide)
 obtain⟨n,hn,e⟩:=e
 rw [e]
 have e2:IntKind.u64.wrap (n:Int)= (n:Int):=by
  simp only [IntKind.wrap,IntKind.bits,IntKind.signed,Bool.false_and,Bool.false_eq_true,if_false]
  omega
 rw [e2,wrap_id (by omega) (by omega)]
 omega
theorem next_ok (c:List Int) (hc:∀ x ∈ c,0≤x∧x≤255) (hl:c.length≤1048576) (a s:Int) (h0: 0≤a) (h1:a≤1152921504606846976):
  ∃ r s',spec_l1Cur_next.f c a s=some (r,a+1,s')∧0≤r∧r≤255:=by
 unfold spec_l1Cur_next.f
 rw [wrap_id (x:=a+1) (by omega) (by omega)]
 by_cases h:a< (c.length:Int)
 ·have hm:rd c a ∈ c:=by
   unfold rd
   rw [List.getD_eq_getElem?_getD,List.getElem?_eq_getElem (by omega)]
   exact List.getElem_mem _
  have hb:=hc _ hm
  rw [if_pos h,if_pos h0]
  by_cases h2:a+1≤ (c.length:Int)
  ·rw [if_pos h2,wrap_id (x:=rd c a) (by omega) (by omega)]
   exact⟨_,_,rfl,hb.1,hb.2⟩
  ·omega
 ·rw [if_neg h,if_neg (by omega)]
  exact⟨_,_,rfl,(and255 _).1,(and255 _).2⟩
theorem pick_ok (c:List Int) (hc:∀ x ∈ c,0≤x∧x≤255) (hl:c.length≤1048576) (a s n:Int) (h0: 0≤a) (h1:a≤1125899906842624):
  ∃ r a' s',spec_l1Cur_pick.f c a s n=some (r,a',s')∧0≤r∧ (n≤1→r=0)∧ (2≤n→r<n)∧a≤a'∧a'≤a+2:=by
 unfold spec_l1Cur_pick.f
 by_cases hn:n≤1
 ·rw [if_pos hn]
  exact⟨0,a,s,rfl,by omega,fun _=>rfl,by omega,by omega,by omega⟩
 ·rw [if_neg hn]
  obtain⟨r,s',e,r0,r1⟩:=next_ok c hc hl a s h0 (by omega)
  rw [e]
  simp only [Option.bind_some]
  by_cases h2:n > 200
  ·rw [if_pos h2]
   obtain⟨q,s2,e2,q0,q1⟩:=next_ok c hc hl (a+1) s' (by omega) (by omega)
   rw [e2]
   simp only [Option.bind_some]
   rw [if_neg (by omega),wrap_id (x:=r * 256) (by omega) (by omega),wrap_id (x:=r * 256+q) (by omega) (by omega),Int.tmod_eq_emod_of_nonneg (by omega)]
   exact⟨_,_,_,rfl,Int.emod_nonneg _ (by omega),fun h=>absurd h hn,fun _=>Int.emod_lt_of_pos _ (by omega),by omega,by omega⟩
  ·rw [if_neg h2,if_neg (by omega),Int.tmod_eq_emod_of_nonneg r0]
   exact⟨_,_,_,rfl,Int.emod_nonneg _ (by omega),fun h=>absurd h hn,fun _=>Int.emod_lt_of_pos _ (by omega),by omega,by omega⟩
theorem one_ok (c:List Int) (hc:∀ x ∈ c,0≤x∧x≤255) (hl:c.length≤1048576) (a s n:Int) (h0: 0≤a) (h1:a≤1125899906842624):
  ∃ b a' s',spec_l1Cur_one.f c a s n=some (b,a',s')∧a≤a'∧a'≤a+2:=by
 unfold spec_l1Cur_one.f
 obtain⟨r,a',s',e,_,_,_,g1,g2⟩:=pick_ok c hc hl a s n h0 h1
 rw [e]
 exact⟨_,_,_,rfl,g1,g2⟩
theorem among_ok (c:List Int) (hc:∀ x ∈ c,0≤x∧x≤255) (hl:c.length≤1048576) (a s:Int) (l:List Int) (hn: 0<l.length) (h0: 0≤a) (h1:a≤1125899906842624):
  ∃ r a' s',spec_l1Cur_among.f c a s l=some (r,a',s')∧r ∈ l∧a≤a'∧a'≤a+2:=by
 unfold spec_l1Cur_among.f
 obtain⟨r,a',s',e,r0,r1,r2,g1,g2⟩:=pick_ok c hc hl a s (l.length:Int) h0 h1
 rw [e]
 simp only [Option.bind_some]
 have hlt:r< (l.length:Int):=by
  by_cases h: 2≤ (l.length:Int)
  ·exact r2 h
  ·have:=r1 (by omega);omega
 rw [if_pos r0,if_pos hlt]
 refine⟨_,_,_,rfl,?_,g1,g2⟩
 unfold rd
 rw [List.getD_eq_getElem?_getD,List.getElem?_eq_getElem (by omega)]
 exact List.getElem_mem _
theorem bytes_ok {q:List Int} (hq:∀ x ∈ q,(Lit.int .u8 x).wf=true):∀ x ∈ q,0≤x∧x≤255:=fun x hx=>by
 have:=hq x hx
 simp only [Lit.wf,IntKind.has,IntKind.min,IntKind.max,IntKind.signed,IntKind.bits,Bool.and_eq_true,decide_eq_true_eq,Bool.false_eq_true,if_false] at this
 omega
-- The drawn lists of edges are short, whatever bytes they are drawn from.
theorem up1 (v:Nat) (h:v≤1000):wrap64 ((v:Int)+1)= ((v+1:Nat):Int):=by rw [wrap_id (by omega) (by omega)];omega
theorem edges_l0 (c:List Int) (hc:∀ x ∈ c,0≤x∧x≤255) (hl:c.length≤1048576) (n:Nat) (hn:n≤13) (p:Int) (d:Nat):
  ∀ (u:Nat) (l:List S79) (a s:Int),u+d=n→l.length≤40→0≤a→a≤100000 - 60 * d→ ∃ r a' s',Ev (fun k=>spec_l1Cur_edges.l0 k n l p u c a s) ((n:Int),r,a',s')∧r.length≤40∧a≤a'∧a'≤a+60 * d+10:=by
 induction d with
 |zero=>
  intro u l a s hu hl2 h0 h1
  by_cases hp:(l.length:Int) > 0
  ·obtain⟨b,a1,s1,e1,g1,g1'⟩:=one_ok c hc hl a s 30 h0 (by omega)
   cases b with
   |true=>
    obtain⟨r2,a2,s2,e2,_,g2,g2'⟩:=among_ok c hc hl a1 s1 [0,100,101] (by decide) (by omega) (by omega)
    refine⟨l.set (0:Int).toNat ⟨(rd_T79 l 0).f0,(rd_T79 l 0).f1,r2⟩,a2,s2,Ev.succ ?_,by simpa using hl2,by omega,by omega⟩
    simp only [spec_l1Cur_edges.l0,if_neg (show ¬ (u:Int)<n by omega),if_pos hp,e1,Option.bind_some,if_true]
    rw [e2]
    simp only [Option.bind_some,if_pos (show (0:Int)< (l.length:Int) from hp)]
    exact Ev.now _
   |false=>
    refine⟨l,a1,s1,Ev.succ ?_,hl2,by omega,by omega⟩
    simp only [spec_l1Cur_edges.l0,if_neg (show ¬ (u:Int)<n by omega),if_pos hp,e1,Option.bind_some,Bool.false_eq_true,if_false]
    exact Ev.now _
  ·refine⟨l,a,s,Ev.succ ?_,hl2,by omega,by omega⟩
   simp only [spec_l1Cur_edges.l0,if_neg (show ¬ (u:Int)<n by omega),if_neg hp]
   exact Ev.now _
 |succ d ih=>
  intro u l a s hu hl2 h0 h1
  have hd:d≤12:=by omega
  have key:∀ (d2:Nat) (v:Nat) (l:List S79) (a s:Int),v+d2=n→l.length≤40→0≤a→a+4 * d2≤100000 - 60 * d→d2≤12→ ∃ r a' s',Ev (fun k=>spec_l1Cur_edges.l1 k n l p u v c a s) ((n:Int),r,a',s')∧r.length≤40∧a≤a'∧a'≤a+4 * d2+ (60 * d+10):=by
   intro d2
   induction d2 with
   |zero=>
    intro v l a s hv hl2 h0 h1 _
    obtain⟨r,a',s',e,hr,g,g'⟩:=ih (u+1) l a s (by omega) hl2 h0 (by omega)
    refine⟨r,a',s',Ev.succ ?_,hr,g,by omega⟩
    simp only [spec_l1Cur_edges.l1,if_neg (show ¬ (v:Int)<n by omega)]
    rw [up1 u (by omega)]
    exact e
   |succ d2 ih2=>
    intro v l a s hv hl2 h0 h1 h12
    obtain⟨b,a1,s1,e1,g1,g1'⟩:=one_ok c hc hl a s (wrap64 (1+p)) h0 (by omega)
    have skip:∃ r a' s',Ev (fun k=>spec_l1Cur_edges.l1 k n l p u (wrap64 ((v:Int)+1)) c a1 s1) ((n:Int),r,a',s')∧r.length≤40∧a≤a'∧a'≤a+4 * ((d2+1:Nat):Int)+ (60 * d+10):=by
     obtain⟨r,a',s',e,hr,g,g'⟩:=ih2 (v+1) l a1 s1 (by omega) hl2 (by omega) (by omega) (by omega)
     rw [up1 v (by omega)]
     exact⟨r,a',s',e,hr,by omega,by omega⟩
    cases b with
    |false=>
     obtain⟨r,a',s',e,hr,g,g'⟩:=skip
     refine⟨r,a',s',Ev.succ ?_,hr,g,g'⟩
     simp only [spec_l1Cur_edges.l1,if_pos (show (v:Int)<n by omega),e1,Option.bind_some,Bool.false_eq_true,if_false]
     exact e
    |true=>
     by_cases h40:(l.length:Int)< 40
     ·obtain⟨q,a2,s2,e2,_,_,_,g2,g2'⟩:=pick_ok c hc hl a1 s1 5 (by omega) (by omega)
      obtain⟨r,a',s',e,hr,g,g'⟩:=ih2 (v+1) (l++ [⟨(u:Int),(v:Int),wrap64 (1+q)⟩]) a2 s2 (by omega) (by simp<;>omega) (by omega) (by omega) (by omega)
      refine⟨r,a',s',Ev.succ ?_,hr,by omega,by omega⟩
      simp only [spec_l1Cur_edges.l1,if_pos (show (v:Int)<n by omega),e1,Option.bind_some,if_true,if_pos h40]
      rw [e2]
      simp only [Option.bind_some,if_pos (show l.length< 5864062014805 by omega)]
      rw [up1 v (by omega)]
      exact e
     ·obtain⟨r,a',s',e,hr,g,g'⟩:=skip
      refine⟨r,a',s',Ev.succ ?_,hr,g,g'⟩
      simp only [spec_l1Cur_edges.l1,if_pos (show (v:Int)<n by omega),e1,Option.bind_some,if_true,if_neg h40]
      exact e
  obtain⟨r,a',s',e,hr,g,g'⟩:=key d (u+1) l a s (by omega) hl2 h0 (by omega) hd
  refine⟨r,a',s',Ev.succ ?_,hr,g,by omega⟩
  simp only [spec_l1Cur_edges.l0,if_pos (show (u:Int)<n by omega)]
  rw [up1 u (by omega)]
  exact e
theorem edges_ok (c:List Int) (hc:∀ x ∈ c,0≤x∧x≤255) (hl:c.length≤1048576):
  ∃ (n:Int) (r:List S79) (a' s':Int),Ev (fun k=>spec_l1Cur_edges.f k c 0 0) (n,r,a',s')∧0≤n∧n≤13∧r.length≤40∧0≤a'∧a'≤10000:=by
 obtain⟨r1,a1,s1,e1,r10,_,r12,g1,g1'⟩:=pick_ok c hc hl 0 0 8 (by omega) (by omega)
 obtain⟨b,a2,s2,e2,g2,g2'⟩:=one_ok c hc hl a1 s1 30 (by omega) (by omega)
 have:=r12 (by omega)
 have fin:∀ (n:Int) (a s:Int),0≤n→n≤13→0≤a→a≤100→ ∃ (r:List S79) (a' s':Int),Ev (fun k=>spec_l1Cur_edges.j0 k n c a s) (n,r,a',s')∧r.length≤40∧0≤a'∧a'≤10000:=by
  intro n a s h0 h1 ha ha1
  obtain⟨m,rfl⟩:=Int.eq_ofNat_of_zero_le h0
  obtain⟨q,a3,s3,e3,_,_,_,g3,g3'⟩:=pick_ok c hc hl a s 3 ha (by omega)
  obtain⟨r,a4,s4,e4,hr,g4,g4'⟩:=edges_l0 c hc hl m (by omega) (wrap64 (1+q)) m 0 [] a3 s3 (by omega) (by simp) (by omega) (by omega)
  refine⟨r,a4,s4,Ev.succ ?_,hr,by omega,by omega⟩
  simp only [spec_l1Cur_edges.j0,e3,Option.bind_some]
  exact e4
 cases b with
 |true=>
  obtain⟨r3,a3,s3,e3,m3,g3,g3'⟩:=among_ok c hc hl a2 s2 [0,12,13] (by decide) (by omega) (by omega)
  have hr3: 0≤r3∧r3≤13:=by
   simp only [List.mem_cons,List.not_mem_nil,or_false] at m3
   omega
  obtain⟨r,a4,s4,e4,hr,g4,g4'⟩:=fin r3 a3 s3 hr3.1 hr3.2 (by omega) (by omega)
  refine⟨r3,r,a4,s4,?_,hr3.1,hr3.2,hr,g4,g4'⟩
  unfold spec_l1Cur_edges.f
  simp only [e1,Option.bind_some]
  rw [e2]
  simp only [Option.bind_some,if_true]
  rw [e3]
  simp only [Option.bind_some]
  exact e4
 |false=>
  obtain⟨r,a4,s4,e4,hr,g4,g4'⟩:=fin (1+r1) a2 s2 (by omega) (by omega) (by omega) (by omega)
  refine⟨1+r1,r,a4,s4,?_,by omega,by omega,hr,g4,g4'⟩
  unfold spec_l1Cur_edges.f
  simp only [e1,Option.bind_some]
  rw [e2]
  simp only [Option.bind_some,Bool.false_eq_true,if_false]
  rw [wrap_id (x:=1+r1) (by omega) (by omega)]
  exact e4
-- the drawn numbers for shortening are few
theorem drawNear_ok (c:List Int) (hc:∀ x ∈ c,0≤x∧x≤255) (hl:c.length≤1048576):∃ n l v,Ev (fun k=>spec_DrawNearOf.f k c) (n,l,v)∧0≤n∧n≤13∧l.length≤40∧ -1≤v∧v≤20:=by
 obtain⟨n,l,a,s,e,hn0,hn1,hl2,h0,h1⟩:=edges_ok c hc hl
 obtain⟨r1,a1,s1,e1,g0,g1,g2,_,_⟩:=pick_ok c hc hl a s (wrap64 (n+2)) h0 (by omega)
 rw [wrap_id (by omega) (by omega)] at g1 g2
 refine⟨n,l,wrap64 (r1 - 1),?_,hn0,hn1,hl2,?_⟩
 ·unfold spec_DrawNearOf.f
  refine Ev.bind e ?_
  simp only [e1,Option.bind_some]
  exact Ev.now _
 ·by_cases h: 2≤n+2
  ·have:=g2 h
   rw [wrap_id (by omega) (by omega)]
   omega
  ·omega
theorem groups_far {n:Int} {l:List S79} (h:goodE n l=true) {a:Int} (ha: 0≤a) (ha1:a<n) {v:Int} (hv: 0≤v) (hv1:v<n):rd (groupsM n l) v=rd (groupsM n l) a↔rd (farsM n.toNat l a) v< 100000:=by
 have h1:=far_iff h hv hv1 ha ha1
 have h2:=fars_sane h ha ha1 v
 constructor
 ·intro e
  have:¬ rd (farsM n.toNat l a) v=100000:=fun hc=>h1.1 hc e
  omega
 ·intro hf
  by_cases e:rd (groupsM n l) v=rd (groupsM n l) a
  ·exact e
  ·have:=h1.2 e
   omega
theorem sameEdges_l (s:List Ed) (hs:s.length≤1000000) (d:Nat):∀ (c:Nat),c+d=s.length→Ev (fun k=>laws_sameEdges.l0 k s s s.length c) true:=by
 induction d with
 |zero=>
  intro c h
  refine Ev.succ ?_
  simp only [laws_sameEdges.l0,if_neg (show ¬ (c:Int)< (s.length:Int) by omega)]
  exact Ev.now _
 |succ d ih=>
  intro c h
  refine Ev.succ ?_
  simp only [laws_sameEdges.l0,if_pos (show (c:Int)< (s.length:Int) by omega),if_pos (show (0:Int)≤c by omega),beq_self_eq_true,Bool.not_true,Bool.or_self,Bool.false_eq_true,if_false,wrap_id (show (-9223372036854775808:Int)≤c+1 by omega) (show ((c:Int)+1≤9223372036854775807) by omega)]
  exact ih (c+1) (by omega)
theorem sameEdges_ev (s:List Ed) (hs:s.length≤1000000):Ev (fun k=>laws_sameEdges.f k s s) true:=by
 unfold laws_sameEdges.f
 simp only [if_true]
 exact sameEdges_l s hs s.length 0 (by omega)
theorem rdL_len (s:List (List Int)) (hb:∀ x ∈ s,x.length≤1000000) (i:Int):(rd_L6 s i).length≤1000000:=by
 unfold rd_L6
 rw [List.getD_eq_getElem?_getD]
 cases h:s[i.toNat]? with
 |none=>simp
 |some x=>exact hb x (List.mem_of_getElem? h)
theorem sameRows_l (s:List (List Int)) (hs:s.length≤1000000) (hb:∀ x ∈ s,x.length≤1000000) (d:Nat):∀ (c:Nat),c+d=s.length→Ev (fun k=>laws_sameRows.l0 k s s s.length c) true:=by
 induction d with
 |zero=>
  intro c h
  refine Ev.succ ?_
  simp only [laws_sameRows.l0,if_neg (show ¬ (c:Int)< (s.length:Int) by omega)]
  exact Ev.now _
 |succ d ih=>
  intro c h
  have hr:=rdL_len s hb (c:Int)
  refine Ev.succ ?_
  simp only [laws_sameRows.l0,if_pos (show (c:Int)< (s.length:Int) by omega),if_pos (show (0:Int)≤c by omega),wrap_id (show (-9223372036854775808:Int)≤c+1 by omega) (show ((c:Int)+1≤9223372036854775807) by omega)]
  refine Ev.bind (sameInts_ev _ _ (by omega)) ?_
  simp only [decide_true,if_true]
  exact ih (c+1) (by omega)
theorem sameRows_ev (s:List (List Int)) (hs:s.length≤1000000) (hb:∀ x ∈ s,x.length≤1000000):Ev (fun k=>laws_sameRows.f k s s) true:=by
 unfold laws_sameRows.f
 simp only [if_true]
 exact sameRows_l s hs hb s.length 0 (by omega)
theorem treeAt_pos' {n:Int} {l:List Ed} {v:Int} (h:(treeAt n l v).2=true): 1≤ (treeAt n l v).1.length:=by
 unfold treeAt at h ⊢
 by_cases hg:goodE n l=true
 ·have:=goodE_n hg
  rw [if_pos hg] at h ⊢
  by_cases hv: 0≤v∧v≤wrap64 (n - 1)
  ·rw [if_pos hv]
   show 1≤ (pars n.toNat l v n.toNat).length
   rw [pars_len]
   omega
  ·rw [if_neg hv] at h
   simp at h
 ·rw [if_neg hg] at h
  simp at h
theorem drawTree_ok (c:List Int) (hc:∀ x ∈ c,0≤x∧x≤255) (hl:c.length≤1048576):∃ n l q,Ev (fun k=>spec_DrawTreeCost.f k c) (n,l,q)∧l.length≤40∧q.length≤12:=by
 obtain⟨n,l,a,s,e,hn0,hn1,hl2,h0,h1⟩:=edges_ok c hc hl
 obtain⟨r1,a1,s1,e1,_,_,_,g1,g1'⟩:=pick_ok c hc hl a s n h0 (by omega)
 have ht:=specTreeAt_ev n l r1 (by omega)
 have hlen:=treeAt_len n l r1
 have hpos:=treeAt_pos' (n:=n) (l:=l) (v:=r1)
 generalize treeAt n l r1=t at ht hlen hpos
 by_cases hok:t.2=true
 ·obtain⟨b,a2,s2,e2,g2,g2'⟩:=one_ok c hc hl a1 s1 8 (by omega) (by omega)
  have hp:=hpos hok
  by_cases hb:b=true
  ·obtain⟨r3,a3,s3,e3,r30,r31,r32,g3,g3'⟩:=pick_ok c hc hl a2 s2 (t.1.length:Int) (by omega) (by omega)
   obtain⟨r4,a4,s4,e4,r40,r41,r42,g4,g4'⟩:=pick_ok c hc hl a3 s3 9 (by omega) (by omega)
   have hlt:r3< (t.1.length:Int):=by
    by_cases h: 2≤ (t.1.length:Int)
    ·exact r32 h
    ·have:=r31 (by omega);omega
   refine⟨n,l,t.1.set r3.toNat (wrap64 (r4 - 2)),?_,hl2,by rw [List.length_set];exact hlen⟩
   unfold spec_DrawTreeCost.f
   refine Ev.bind e ?_
   simp only [e1,Option.bind_some]
   refine Ev.bind ht ?_
   simp only [hok,if_true,e2,Option.bind_some,hb]
   refine Ev.succ ?_
   simp only [spec_DrawTreeCost.j0,if_true,e3,e4,Option.bind_some,if_pos r30,if_pos hlt]
   exact Ev.now _
  ·refine⟨n,l,t.1,?_,hl2,hlen⟩
   unfold spec_DrawTreeCost.f
   refine Ev.bind e ?_
   simp only [e1,Option.bind_some]
   refine Ev.bind ht ?_
   simp only [hok,if_true,e2,Option.bind_some]
   refine Ev.succ ?_
   simp only [spec_DrawTreeCost.j0,if_neg hb]
   exact Ev.now _
 ·refine⟨n,l,t.1,?_,hl2,hlen⟩
  unfold spec_DrawTreeCost.f
  refine Ev.bind e ?_
  simp only [e1,Option.bind_some]
  refine Ev.bind ht ?_
  simp only [if_neg hok]
  refine Ev.succ ?_
  simp only [spec_DrawTreeCost.j0,Bool.false_eq_true,if_false]
  exact Ev.now _
theorem leastLaw_j3 (d:List Int) (hd:∀ x ∈ d,0≤x∧x≤255) (hl:d.length≤1048576):Ev (fun k=>laws_FnLeastTree.j3 k d) true:=by
 obtain⟨n,l,v,e,_,_,hl2,_,_⟩:=drawNear_ok d hd hl
 obtain⟨m,r,q,e2,hr,hq⟩:=drawTree_ok d hd hl
 have hdraw:Ev (fun k=>spec_DrawTreesFor.f k d) (n,l,v):=by
  unfold spec_DrawTreesFor.f
  exact Ev.bind e (Ev.now _)
 have ht:=treesFor_len n l v
 refine Ev.succ ?_
 simp only [laws_FnLeastTree.j3]
 refine Ev.bind hdraw ?_
 refine Ev.bind (implTreesFor_ev n l v (by omega)) ?_
 refine Ev.bind (specTreesFor_ev n l v (by omega)) ?_
 refine Ev.bind e2 ?_
 refine Ev.bind (implTreeCost_ev m r q (by omega) (by omega)) ?_
 refine Ev.bind (specTreeCost_ev m r q (by omega) (by omega)) ?_
 simp only [beq_self_eq_true,if_true]
 refine Ev.bind (sameRows_ev _ (by omega) (fun x hx=>by have:=ht.2 x hx;omega)) ?_
 simp only [if_true]
 exact Ev.now _
theorem one_selfs {n:Int} {l:List Ed} (h:goodE n l=true) (ho:allIn 0 0 (groupsM n l)=true):(∀ v:Int,0≤v→v<n→rd (groupsM n l) v=0)∧selfs n.toNat (prs l)=1:=by
 have hn:=goodE_n h
 have hgl:=groupsM_len n l
 have h0:∀ v:Int,0≤v→v<n→rd (groupsM n l) v=0:=by
  intro v hv hv1
  have:=List.all_eq_true.1 ho (rd (groupsM n l) v) (by
   unfold rd
   rw [List.getD_eq_getElem?_getD,List.getElem?_eq_getElem (by omega)]
   exact List.getElem_mem _)
  rw [decide_eq_true_eq] at this
  omega
 refine⟨h0,?_⟩
 obtain⟨m,hm⟩ :∃ m,n.toNat=m+1:=⟨n.toNat - 1,by omega⟩
 unfold selfs
 have hc:(List.range n.toNat).countP (fun v=>decide (lab n.toNat (prs l) v=v))= (List.range n.toNat).countP (fun v=>decide (v=0)):=by
  refine List.countP_congr fun v hv=>?_
  have hv:=List.mem_range.1 hv
  have h1:=groupsM_at h (v:Int) (by omega) (by omega)
  rw [h0 v (by omega) (by omega),Int.toNat_natCast] at h1
  have:lab n.toNat (prs l) v=0:=by omega
  rw [this]
  simp only [decide_eq_true_eq]
  omega
 rw [hc,hm,List.range_succ_eq_map,List.countP_cons_of_pos (by simp),List.countP_map,List.countP_eq_zero.2 (fun x _=>by simp)]
theorem trs_at {m:Nat} {l:List Ed} (c:Nat) (h:c<m):rd_L6 (trs m l m) (c:Int)=pars m l c m:=by
 unfold rd_L6 trs own0
 rw [Int.toNat_natCast,List.map_map,List.getD_eq_getElem?_getD,List.getElem?_eq_getElem (by simpa using h)]
 simp
theorem leastLaw_l0 (d:List Int) {n:Int} {l:List Ed} (h:goodE n l=true) (hl:l.length≤1048576) (ho:allIn 0 0 (groupsM n l)=true) (hR:Ev (fun k=>laws_FnLeastTree.j3 k d) true) (e:Nat):∀ (c:Nat),c+e=n.toNat→
  Ev (fun k=>laws_FnLeastTree.l0 k d n l (kfold n (insS l) ([],0)).2 (trs n.toNat l n.toNat) n c) true:=by
 have hn:=goodE_n h
 obtain⟨h0,hone⟩:=one_selfs h ho
 induction e with
 |zero=>
  intro c hc
  refine Ev.succ ?_
  simp only [laws_FnLeastTree.l0,if_neg (show ¬ (c:Int)<n by omega)]
  exact hR
 |succ e ih=>
  intro c hc
  have hall:∀ v:Int,0≤v→v<n→rd (farsM n.toNat l c) v< 100000:=fun v hv hv1=>(groups_far h (show (0:Int)≤c by omega) (show (c:Int)<n by omega) hv hv1).1 (by rw [h0 v hv hv1,h0 c (by omega) (by omega)])
  obtain⟨t,ht,hle⟩:=tree_least h hone (show (0:Int)≤c by omega) (show (c:Int)<n by omega) hall
  have hev:=implTreeCost_ev n l (pars n.toNat l c n.toNat) hl (by rw [pars_len];omega)
  rw [ht] at hev
  refine Ev.succ ?_
  simp only [laws_FnLeastTree.l0,if_pos (show (c:Int)<n by omega),if_pos (show (0:Int)≤c by omega),trs_len,if_pos (show (c:Int)< ((n.toNat:Nat):Int) by omega),trs_at c (show c<n.toNat by omega),wrap_id (show (-9223372036854775808:Int)≤c+1 by omega) (show ((c:Int)+1≤9223372036854775807) by omega)]
  refine Ev.bind hev ?_
  simp only [if_true,if_neg (show ¬ t< (kfold n (insS l) ([],0)).2 by omega)]
  exact ih (c+1) (by omega)
end Go.Proofs.Ytedegfbheihopaa.P
namespace Go.Proofs.Ytedegfbheihopaa.Pure
open Go.RowKit Go.Proofs.Ytedegfbheihopaa.P Go.Proofs.YtedegfbheihopaaW.PrintWords Go.Proofs.YtedegfbheihopaaW.PrintLast
set_option linter.unusedVariables false
set_option linter.unusedSimpArgs false
theorem FnLeastTree:laws_FnLeastTree.Pure:=by
 intro c d hc1 hc2 hc3 hd1 hd2 hd3
 refine Ev.rounds ?_
 unfold laws_FnLeastTree.f
 by_cases hq:(wrap64 ((c.length:Int)+ (d.length:Int))) > 1048576
 ·simp only [if_pos hq]
  exact Ev.now _
 simp only [if_neg hq]
 rw [wrap_id (by omega) (by omega)] at hq
 have hcb:=bytes_ok hc3
 have hdb:=bytes_ok hd3
 have hj3:=leastLaw_j3 d hdb (by omega)
 obtain⟨n,l,a,s,e,hn0,hn1,hl,_,_⟩:=edges_ok c hcb (by omega)
 have hdraw:Ev (fun k=>spec_DrawLeastTree.f k c) (n,l):=by
  unfold spec_DrawLeastTree.f spec_DrawGoodEdges.f
  exact Ev.bind (Ev.bind e (Ev.now _)) (Ev.now _)
 have hr:=leastT_len n l
 refine Ev.bind hdraw ?_
 refine Ev.bind (implLT_ev n l (by omega)) ?_
 refine Ev.bind (specLT_ev n l (by omega)) ?_
 simp only [bne_self_eq_false,Bool.false_eq_true,if_false,if_true]
 refine Ev.bind (sameEdges_ev _ (by omega)) ?_
 simp only [Bool.not_true]
 refine Ev.succ ?_
 simp only [laws_FnLeastTree.j0,Bool.false_eq_true,if_false]
 by_cases hg:goodE n l=true
 ·have hn:=goodE_n hg
  rw [show leastT n l= ((kfold n (insS l) ([],0)).1,(kfold n (insS l) ([],0)).2,true) by unfold leastT;rw [if_pos hg]]
  simp only [if_true]
  refine Ev.bind (implOneGroup_ev n l (by omega)) ?_
  rw [show oneGroup n l= (allIn 0 0 (groupsM n l),true) by unfold oneGroup;rw [if_pos hg]]
  simp only [if_true]
  by_cases ho:allIn 0 0 (groupsM n l)=true
  ·have hcond:goodE n l=true∧0≤n∧n≤n:=⟨hg,by omega,by omega⟩
   simp only [if_pos ho]
   refine Ev.bind (implTreesFor_ev n l n (by omega)) ?_
   rw [show treesFor n l n= (trs n.toNat l n.toNat,true) by unfold treesFor;rw [if_pos hcond]]
   have hT:=(least_count (edge3 hg) (one_selfs hg ho).2 0).2
   rw [show (((kfold n (insS l) ([],0)).1.length:Int) !=wrap64 (n - 1))=false from bne_eq_false_iff_eq.2 (by rw [top_is hn.1 hn.2.1];omega)]
   simp only [if_true]
   refine Ev.succ ?_
   simp only [laws_FnLeastTree.j1,Bool.false_eq_true,if_false,trs_len,show ((n.toNat:Nat):Int)=n by omega]
   exact leastLaw_l0 d hg (by omega) ho hj3 n.toNat 0 (by omega)
  ·simp only [if_neg ho]
   exact hj3
 ·rw [show leastT n l= ([],0,false) by unfold leastT;rw [if_neg hg]]
  simp only [Bool.false_eq_true,if_false]
  exact hj3
end Go.Proofs.Ytedegfbheihopaa.Pure
