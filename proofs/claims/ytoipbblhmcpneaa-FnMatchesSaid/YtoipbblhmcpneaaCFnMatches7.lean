/- Functions, walks and plain lemmas that the law FnMatches reaches, part 7. -/
import Derived.Test.YtoipbblhmcpneaaCFnMatches6
import Derived.Below
import Derived.Deep.Draws
import Derived.Deep.AppendLies
import Derived.Maps.AppendAt
import Derived.OwnWalk
import Derived.Laws.BytesArg
import Derived.Laws.MakeOwn
import Derived.Laws.OwnMore
import Derived.Deep.OwnRows
import Derived.Tactics
import Derived.Lib.ConvBytes
import Derived.Laws.Slices
import Derived.WalkKit
import Derived.KernelRfl
import Derived.RowKit3
import Derived.Deep.LoopGhost
import Derived.Deep.QuietTactic
import Derived.BigQuiet
import Derived.WideLaws
import Derived.Deep.DeepCutAuto
import Derived.Deep.CutBlock
import Derived.Deep.RegionHeld3
import Derived.Laws.Rows
import Derived.Lib.AppendStr
import Derived.ArgAppend
import Derived.Laws.IdiomCopy
import Derived.OrdersHeld
import Derived.Laws.BitsLemmas
import Derived.RowKit
import Derived.WalkSpells
import Derived.Lib.SliceRun
import Derived.Shelf.Abstract
import Derived.ProofKit
import Derived.OpenShut
import Derived.ShutString
import Derived.ChangeOld
import Derived.SizedLaws
namespace Go.Proofs.Ytoipbblhmcpneaa.P
open Go.RowKit Go.Proofs.YtoipbblhmcpneaaW.PrintWords Go.Proofs.YtoipbblhmcpneaaW.PrintLast
set_option linter.unusedVariables false
set_option linter.unusedSimpArgs false
-- the place of a number in a list, both sides
def placeGo (x:Int):List Int→Int→Option Int
 | [],_=>none
 |y::r,i=>if y=x then some i else placeGo x r (i+1)
theorem has_l (x:Int) (suf:List Int):∀ (pre:List Int),((pre++suf).length:Int)≤1099511627776→Ev (fun k=>spec_l1Has.l0 k x (pre++suf) ((pre++suf).length:Int) pre.length) (placeGo x suf pre.length).isSome:=by
 induction suf with
 |nil=>
  intro pre h
  refine Ev.succ ?_
  simp only [spec_l1Has.l0,List.append_nil,Int.lt_irrefl,if_false,placeGo,Option.isSome_none]
  exact Ev.now _
 |cons y suf ih=>
  intro pre h
  refine Ev.succ ?_
  rw [len_mid] at h ⊢
  have:=ih (pre++ [y]) (by rw [← app_one,len_mid];exact h)
  rw [← app_one,len_mid,len_one] at this
  simp only [spec_l1Has.l0,placeGo]
  simp only [if_pos (show ((pre.length:Int)<pre.length+suf.length+1) by omega),if_pos (show (0:Int)≤pre.length by omega),len_mid,rd_mid,wrap_id (show (-9223372036854775808:Int)≤pre.length+1 by omega) (show ((pre.length:Int)+1≤9223372036854775807) by omega)]
  by_cases h1:y=x
  ·simp only [if_pos h1,Option.isSome_some]
   exact Ev.now _
  ·simp only [if_neg h1]
   exact this
theorem place_l (l:List Int) (x:Int) (suf:List Int):∀ (pre:List Int),((pre++suf).length:Int)≤1099511627776→Ev (fun k=>spec_l12Place.l0 k l x (pre++suf) ((pre++suf).length:Int) pre.length) ((placeGo x suf pre.length).getD (l.length:Int)):=by
 induction suf with
 |nil=>
  intro pre h
  refine Ev.succ ?_
  simp only [spec_l12Place.l0,List.append_nil,Int.lt_irrefl,if_false,placeGo,Option.getD_none]
  exact Ev.now _
 |cons y suf ih=>
  intro pre h
  refine Ev.succ ?_
  rw [len_mid] at h ⊢
  have:=ih (pre++ [y]) (by rw [← app_one,len_mid];exact h)
  rw [← app_one,len_mid,len_one] at this
  simp only [spec_l12Place.l0,placeGo]
  simp only [if_pos (show ((pre.length:Int)<pre.length+suf.length+1) by omega),if_pos (show (0:Int)≤pre.length by omega),len_mid,rd_mid,wrap_id (show (-9223372036854775808:Int)≤pre.length+1 by omega) (show ((pre.length:Int)+1≤9223372036854775807) by omega)]
  by_cases h1:y=x
  ·simp only [if_pos h1,Option.getD_some]
   exact Ev.now _
  ·simp only [if_neg h1]
   exact this
theorem index_l (x:Int) (suf:List Int):∀ (pre:List Int),((pre++suf).length:Int)≤1099511627776→Ev (fun k=>slices_Index_int.l0 k (pre++suf) x ((pre++suf).length:Int) pre.length) ((placeGo x suf pre.length).getD (-1)):=by
 induction suf with
 |nil=>
  intro pre h
  refine Ev.succ ?_
  simp only [slices_Index_int.l0,List.append_nil,Int.lt_irrefl,if_false,placeGo,Option.getD_none]
  exact Ev.now _
 |cons y suf ih=>
  intro pre h
  refine Ev.succ ?_
  rw [len_mid] at h ⊢
  have:=ih (pre++ [y]) (by rw [← app_one,len_mid];exact h)
  rw [← app_one,len_mid,len_one] at this
  simp only [slices_Index_int.l0,placeGo]
  simp only [if_pos (show ((pre.length:Int)<pre.length+suf.length+1) by omega),if_pos (show (0:Int)≤pre.length by omega),len_mid,rd_mid,wrap_id (show (-9223372036854775808:Int)≤pre.length+1 by omega) (show ((pre.length:Int)+1≤9223372036854775807) by omega)]
  by_cases h1:y=x
  ·simp only [if_pos h1,if_pos h1.symm,Option.getD_some]
   exact Ev.now _
  ·simp only [if_neg h1,if_neg (fun hc=>h1 (Eq.symm hc))]
   exact this
theorem placeGo_ge (x:Int):∀ (l:List Int) (i r:Int),placeGo x l i=some r→i≤r
 | [],_,_,h=>by cases h
 |y::l,i,r,h=>by
  rw [placeGo] at h
  split at h
  ·cases h
   omega
  ·have:=placeGo_ge x l (i+1) r h
   omega
theorem has_ev (x:Int) (l:List Int) (h:(l.length:Int)≤1099511627776):Ev (fun k=>spec_l1Has.f k l x) (placeGo x l 0).isSome:=by
 have:=has_l x l [] h
 exact this
theorem place_ev (x:Int) (l:List Int) (h:(l.length:Int)≤1099511627776):Ev (fun k=>spec_l12Place.f k l x) ((placeGo x l 0).getD (l.length:Int)):=by
 have:=place_l l x l [] h
 exact this
theorem index_ev (x:Int) (l:List Int) (h:(l.length:Int)≤1099511627776):Ev (fun k=>slices_Index_int.f k l x) ((placeGo x l 0).getD (-1)):=by
 have:=index_l x l [] h
 exact this
def placeOf (l:List Int) (x:Int):Int × Bool:=if (l.length:Int) > 8 then(0,false) else match placeGo x l 0 with
 |some r=>(r,true)
 |none=>(0,false)
theorem specPlaceOf_ev (l:List Int) (x:Int) (h:l.length≤1048576):Ev (fun k=>spec_PlaceOf.f k l x) (placeOf l x):=by
 unfold spec_PlaceOf.f placeOf
 by_cases h1:(l.length:Int) > 8
 ·simp only [if_pos h1]
  exact Ev.now _
 ·simp only [if_neg h1]
  refine Ev.bind (has_ev x l (by omega)) ?_
  have hp:=place_ev x l (by omega)
  cases hg:placeGo x l 0 with
  |some r=>
   rw [hg] at hp
   simp only [Option.isSome_some,if_true]
   exact Ev.bind hp (Ev.now _)
  |none=>
   simp only [Option.isSome_none,Bool.false_eq_true,if_false]
   exact Ev.now _
theorem implPlaceOf_ev (l:List Int) (x:Int) (h:l.length≤1048576):Ev (fun k=>impl_PlaceOf.f k l x) (placeOf l x):=by
 unfold impl_PlaceOf.f placeOf
 refine Ev.bind (index_ev x l (by omega)) ?_
 by_cases h1:(l.length:Int) > 8
 ·simp only [if_pos h1]
  exact Ev.now _
 ·simp only [if_neg h1]
  cases hg:placeGo x l 0 with
  |some r=>
   have:=placeGo_ge x l 0 r hg
   simp only [Option.getD_some,if_neg (show ¬ r< 0 by omega)]
   exact Ev.now _
  |none=>
   simp only [Option.getD_none,if_pos (show (-1:Int)< 0 by omega)]
   exact Ev.now _
-- sweeps over a list of numbers, and a list taken over, both sides
theorem specIn (a b c:Int):spec_l1In.f a b c=some (decide (b≤a∧a≤c)):=by
 unfold spec_l1In.f
 by_cases h:a≥b
 ·rw [if_pos h]
  congr 1
  by_cases h2:a≤c
  ·rw [decide_eq_true h2,decide_eq_true ⟨h,h2⟩]
  ·rw [decide_eq_false h2,decide_eq_false (fun hc=>h2 hc.2)]
 ·rw [if_neg h,decide_eq_false (fun hc=>h hc.1)]
theorem implIn (a b c:Int):impl_in.f a b c=some (decide (b≤a∧a≤c)):=specIn a b c
def allIn (a b:Int) (l:List Int):Bool:=l.all fun x=>decide (a≤x∧x≤b)
theorem implAll_l (a b:Int) (suf:List Int):∀ (pre:List Int),((pre++suf).length:Int)≤1099511627776→Ev (fun k=>impl_allIn.l0 k a b (pre++suf) ((pre++suf).length:Int) pre.length) (allIn a b suf):=by
 induction suf with
 |nil=>
  intro pre h
  refine Ev.succ ?_
  simp only [impl_allIn.l0,List.append_nil,Int.lt_irrefl,if_false]
  exact Ev.now _
 |cons x suf ih=>
  intro pre h
  refine Ev.succ ?_
  rw [len_mid] at h ⊢
  simp only [impl_allIn.l0]
  simp only [if_pos (show ((pre.length:Int)<pre.length+suf.length+1) by omega),if_pos (show (0:Int)≤pre.length by omega),len_mid,rd_mid,implIn,Option.bind_some,wrap_id (show (-9223372036854775808:Int)≤pre.length+1 by omega) (show ((pre.length:Int)+1≤9223372036854775807) by omega)]
  by_cases hx:a≤x∧x≤b
  ·have:=ih (pre++ [x]) (by rw [← app_one,len_mid];exact h)
   rw [← app_one,len_mid,len_one] at this
   simp only [hx,and_self,decide_true,if_true]
   rw [show allIn a b (x::suf)=allIn a b suf by simp [allIn,hx]]
   exact this
  ·simp only [decide_eq_true_eq,if_neg hx]
   rw [show allIn a b (x::suf)=false by simp [allIn];intro h1 h2;exact absurd ⟨h1,h2⟩ hx]
   exact Ev.now _
theorem implAll_ev (a b:Int) (l:List Int) (h:(l.length:Int)≤1099511627776):Ev (fun k=>impl_allIn.f k l a b) (allIn a b l):=by
 have:=implAll_l a b l [] h
 exact this
-- the given sweep over a list of numbers
theorem specAll_l (a b:Int) (suf:List Int):∀ (pre:List Int),((pre++suf).length:Int)≤1099511627776→Ev (fun k=>spec_l1All.l0 k a b (pre++suf) ((pre++suf).length:Int) pre.length) (allIn a b suf):=by
 induction suf with
 |nil=>
  intro pre h
  refine Ev.succ ?_
  simp only [spec_l1All.l0,List.append_nil,Int.lt_irrefl,if_false]
  exact Ev.now _
 |cons x suf ih=>
  intro pre h
  refine Ev.succ ?_
  rw [len_mid] at h ⊢
  simp only [spec_l1All.l0]
  simp only [if_pos (show ((pre.length:Int)<pre.length+suf.length+1) by omega),if_pos (show (0:Int)≤pre.length by omega),len_mid,rd_mid,specIn,Option.bind_some,wrap_id (show (-9223372036854775808:Int)≤pre.length+1 by omega) (show ((pre.length:Int)+1≤9223372036854775807) by omega)]
  by_cases hx:a≤x∧x≤b
  ·have:=ih (pre++ [x]) (by rw [← app_one,len_mid];exact h)
   rw [← app_one,len_mid,len_one] at this
   simp only [hx,and_self,decide_true,if_true]
   rw [show allIn a b (x::suf)=allIn a b suf by simp [allIn,hx]]
   exact this
  ·simp only [decide_eq_true_eq,if_neg hx]
   rw [show allIn a b (x::suf)=false by simp [allIn];intro h1 h2;exact absurd ⟨h1,h2⟩ hx]
   exact Ev.now _
theorem specAll_ev (a b:Int) (l:List Int) (h:(l.length:Int)≤1099511627776):Ev (fun k=>spec_l1All.f k l a b) (allIn a b l):=by
 have:=specAll_l a b l [] h
 exact this
-- good wishes, both sides
structure okW (f0 f1:List (List Int)) (f2:List Int):Prop where
 a0:f0.length≤1048576
 a1:f1.length≤1048576
 a2:f2.length≤1048576
 b0:∀ x ∈ f0,x.length≤1048576
 b1:∀ x ∈ f1,x.length≤1048576
def dupGo:List Int→List Int→Bool
 |_,[]=>true
 |pre,x::r=> !(placeGo x pre 0).isSome && dupGo (pre++ [x]) r
def rowOk (m:Int) (l:List Int):Bool:=decide ((l.length:Int)=m) && (allIn 0 (m - 1) l && dupGo [] l)
theorem l12All_l (m:Int) (h0: 0≤m) (h1:m≤1048576) (suf:List Int):∀ (pre:List Int),((pre++suf).length:Int)≤1048576→
  Ev (fun k=>spec_l12All.l0 k (pre++suf) m (pre++suf) ((pre++suf).length:Int) pre.length) (decide (((pre++suf).length:Int)=m) && (allIn 0 (m - 1) suf && dupGo pre suf)):=by
 induction suf with
 |nil=>
  intro pre h
  refine Ev.succ ?_
  simp only [spec_l12All.l0,List.append_nil,Int.lt_irrefl,if_false]
  refine Ev.some_ ?_
  rw [show allIn 0 (m - 1) []=true from rfl,dupGo,Bool.and_true,Bool.and_true]
  rfl
 |cons x suf ih=>
  intro pre h
  refine Ev.succ ?_
  rw [len_mid] at h ⊢
  have:=ih (pre++ [x]) (by rw [← app_one,len_mid];exact h)
  rw [← app_one,len_mid,len_one] at this
  have ht:(pre++x::suf).take ((pre.length:Int)).toNat=pre:=by rw [Int.toNat_natCast];exact List.take_left ..
  rw [show allIn 0 (m - 1) (x::suf)= (decide (0≤x∧x≤m - 1) && allIn 0 (m - 1) suf) from rfl,dupGo]
  simp only [spec_l12All.l0]
  simp only [len_mid,if_pos (show ((pre.length:Int)<pre.length+suf.length+1) by omega),if_pos (show (0:Int)≤pre.length by omega),rd_mid,wrap_id (show (-9223372036854775808:Int)≤pre.length+1 by omega) (show ((pre.length:Int)+1≤9223372036854775807) by omega),wrap_id (show (-9223372036854775808:Int)≤m - 1 by omega) (show (m - 1≤9223372036854775807) by omega),specIn,Option.bind_some,decide_eq_true_eq,if_pos (show (pre.length:Int)≤pre.length+suf.length+1 by omega),ht]
  by_cases hx: 0≤x∧x≤m - 1
  ·simp only [if_pos hx]
   refine Ev.bind (has_ev x pre (by omega)) ?_
   rw [decide_eq_true hx,Bool.true_and]
   cases hp:(placeGo x pre 0).isSome with
   |true=>
    simp only [if_true,Bool.not_true,Bool.false_and,Bool.and_false]
    exact Ev.now _
   |false=>
    simp only [Bool.false_eq_true,if_false,Bool.not_false,Bool.true_and]
    exact this
  ·simp only [if_neg hx]
   rw [decide_eq_false hx,Bool.false_and,Bool.false_and,Bool.and_false]
   exact Ev.now _
theorem l12All_ev (l:List Int) (m:Int) (h0: 0≤m) (h1:m≤1048576) (hl:l.length≤1048576):Ev (fun k=>spec_l12All.f k l m) (rowOk m l):=by
 have:=l12All_l m h0 h1 l [] (by simp only [List.nil_append];omega)
 exact this
theorem orders_l1 (Z:List (List Int)) (m:Int) (R:Bool) (X:List (List Int)) (t i:Int) (suf:List Int):∀ (pre:List Int),((pre++suf).length:Int)≤1048576→
  Ev (fun k=>if dupGo pre suf=true then impl_orders.l0 k Z m X t (wrap64 (i+1)) else some false) R→
  Ev (fun k=>impl_orders.l1 k Z m (pre++suf) X t i (pre++suf) ((pre++suf).length:Int) pre.length) R:=by
 induction suf with
 |nil=>
  intro pre h hR
  refine Ev.succ ?_
  rw [dupGo] at hR
  simp only [if_true] at hR
  simp only [impl_orders.l1,List.append_nil,Int.lt_irrefl,if_false]
  exact hR
 |cons x suf ih=>
  intro pre h hR
  refine Ev.succ ?_
  rw [len_mid] at h ⊢
  have:=ih (pre++ [x]) (by rw [← app_one,len_mid];exact h)
  rw [← app_one,len_mid,len_one] at this
  have ht:(pre++x::suf).take ((pre.length:Int)).toNat=pre:=by rw [Int.toNat_natCast];exact List.take_left ..
  rw [dupGo] at hR
  simp only [impl_orders.l1]
  simp only [len_mid,if_pos (show ((pre.length:Int)<pre.length+suf.length+1) by omega),if_pos (show (0:Int)≤pre.length by omega),rd_mid,wrap_id (show (-9223372036854775808:Int)≤pre.length+1 by omega) (show ((pre.length:Int)+1≤9223372036854775807) by omega),if_pos (show (pre.length:Int)≤pre.length+suf.length+1 by omega),ht,slices_Contains_int.f]
  have hi:Ev (fun k=>(slices_Index_int.f k pre x).bind fun t170=>(some (decide (t170≥0)))) (placeGo x pre 0).isSome:=by
   refine Ev.bind (index_ev x pre (by omega)) ?_
   refine Ev.some_ ?_
   cases hp:placeGo x pre 0 with
   |none=>rfl
   |some r=>
    have:=placeGo_ge x pre 0 r hp
    exact decide_eq_true this
  refine Ev.bind hi ?_
  cases hp:(placeGo x pre 0).isSome with
  |true=>
   rw [hp] at hR
   simp only [Bool.not_true,Bool.false_and,Bool.false_eq_true,if_false] at hR
   simp only [if_true]
   exact hR
  |false=>
   rw [hp] at hR
   simp only [Bool.not_false,Bool.true_and] at hR
   simp only [Bool.false_eq_true,if_false]
   exact this hR
theorem orders_l0 (m:Int) (h0: 0≤m) (h1:m≤1048576) (suf:List (List Int)) (hs:∀ x ∈ suf,x.length≤1048576):∀ (pre:List (List Int)),((pre++suf).length:Int)≤1048576→
  Ev (fun k=>impl_orders.l0 k (pre++suf) m (pre++suf) ((pre++suf).length:Int) pre.length) (suf.all (rowOk m) && decide (1≤ ((pre++suf).length:Int)∧ ((pre++suf).length:Int)≤8)):=by
 induction suf with
 |nil=>
  intro pre h
  refine Ev.succ ?_
  simp only [impl_orders.l0,List.append_nil,Int.lt_irrefl,if_false,implIn,Option.bind_some,List.all_nil,Bool.true_and]
  exact Ev.now _
 |cons x suf ih=>
  intro pre h
  refine Ev.succ ?_
  rw [len_mid] at h ⊢
  have:=ih (fun y hy=>hs y (List.mem_cons_of_mem _ hy)) (pre++ [x]) (by rw [← app_one,len_mid];exact h)
  rw [← app_one,len_mid,len_one] at this
  have hx:=hs x (List.mem_cons_self ..)
  have bad:Ev (fun k=>impl_orders.j1 k (pre++x::suf) m x (pre++x::suf) ((pre.length:Int)+suf.length+1) pre.length true) false:=by
   refine Ev.succ ?_
   simp only [impl_orders.j1,if_true]
   exact Ev.now _
  rw [List.all_cons]
  simp only [impl_orders.l0]
  simp only [len_mid,if_pos (show ((pre.length:Int)<pre.length+suf.length+1) by omega),if_pos (show (0:Int)≤pre.length by omega),rdSS_mid,wrap_id (show (-9223372036854775808:Int)≤m - 1 by omega) (show (m - 1≤9223372036854775807) by omega)]
  rw [rowOk]
  by_cases hl:(x.length:Int)=m
  ·simp only [if_pos hl]
   rw [decide_eq_true hl,Bool.true_and]
   refine Ev.bind (implAll_ev _ _ x (by omega)) ?_
   cases ha:allIn 0 (m - 1) x with
   |true=>
    rw [Bool.true_and]
    refine Ev.succ ?_
    simp only [impl_orders.j1,Bool.not_true,Bool.false_eq_true,if_false]
    refine orders_l1 _ m _ _ _ _ x [] (by simp only [List.nil_append];omega) ?_
    cases hd:dupGo [] x with
    |true=>
     simp only [if_true,Bool.true_and,wrap_id (show (-9223372036854775808:Int)≤pre.length+1 by omega) (show ((pre.length:Int)+1≤9223372036854775807) by omega)]
     exact this
    |false=>
     simp only [Bool.false_eq_true,if_false,Bool.false_and]
     exact Ev.now _
   |false=>
    rw [Bool.false_and,Bool.false_and]
    exact bad
  ·simp only [if_neg hl]
   rw [decide_eq_false hl,Bool.false_and,Bool.false_and]
   exact bad
theorem orders_ev (l:List (List Int)) (m:Int) (h0: 0≤m) (h1:m≤1048576) (hl:l.length≤1048576) (hs:∀ x ∈ l,x.length≤1048576):Ev (fun k=>impl_orders.f k l m) (l.all (rowOk m) && decide (1≤ (l.length:Int)∧ (l.length:Int)≤8)):=by
 have:=orders_l0 m h0 h1 l hs [] (by simp only [List.nil_append];omega)
 exact this
def goodW (f0 f1:List (List Int)) (f2:List Int):Bool:=f0.all (rowOk f1.length) && (f1.all (rowOk f0.length) && (decide (1≤ (f0.length:Int)∧ (f0.length:Int)≤8) && (decide (1≤ (f1.length:Int)∧ (f1.length:Int)≤8) && (decide ((f2.length:Int)=f1.length) && allIn 0 8 f2))))
theorem implGoodW_ev {f0 f1:List (List Int)} {f2:List Int} (h:okW f0 f1 f2):Ev (fun k=>impl_GoodWishes.f k f0 f1 f2) (goodW f0 f1 f2):=by
 have a0:=h.a0
 have a1:=h.a1
 have a2:=h.a2
 unfold impl_GoodWishes.f goodW
 refine Ev.bind (orders_ev f0 f1.length (by omega) (by omega) a0 h.b0) ?_
 have e1:=orders_ev f1 f0.length (by omega) (by omega) a1 h.b1
 have e2:=implAll_ev 0 8 f2 (by omega)
 generalize f0.all (rowOk f1.length)=p0
 generalize f1.all (rowOk f0.length)=p1 at e1 ⊢
 generalize decide (1≤ (f0.length:Int)∧ (f0.length:Int)≤8)=q0
 generalize decide (1≤ (f1.length:Int)∧ (f1.length:Int)≤8)=q1 at e1 ⊢
 generalize allIn 0 8 f2=p2 at e2 ⊢
 cases p0
 ·simp only [Bool.false_and,Bool.false_eq_true,if_false]
  exact Ev.now _
 cases q0
 ·simp only [Bool.and_false,Bool.false_and,Bool.true_and,Bool.false_eq_true,if_false]
  exact Ev.now _
 simp only [Bool.true_and,if_true]
 refine Ev.bind e1 ?_
 cases p1
 ·simp only [Bool.false_and,Bool.false_eq_true,if_false]
  exact Ev.now _
 cases q1
 ·simp only [Bool.and_false,Bool.false_and,Bool.true_and,Bool.false_eq_true,if_false]
  exact Ev.now _
 simp only [Bool.true_and,if_true]
 by_cases hc:(f2.length:Int)=f1.length
 ·simp only [if_pos hc,decide_eq_true hc,Bool.true_and]
  exact Ev.bind e2 (Ev.now _)
 ·simp only [if_neg hc,decide_eq_false hc,Bool.false_and]
  exact Ev.now _
theorem specW_l1 (f0 f1:List (List Int)) (f2:List Int) (h:okW f0 f1 f2) (suf:List (List Int)):∀ (pre:List (List Int)),pre++suf=f1→
  Ev (fun k=>spec_GoodWishes.l1 k f0.length f1.length f1 f1.length pre.length f0 f1 f2) (suf.all (rowOk f0.length) && (decide (1≤ (f0.length:Int)∧ (f0.length:Int)≤8) && (decide (1≤ (f1.length:Int)∧ (f1.length:Int)≤8) && (decide ((f2.length:Int)=f1.length) && allIn 0 8 f2)))):=by
 have a0:=h.a0
 have a1:=h.a1
 have a2:=h.a2
 induction suf with
 |nil=>
  intro pre hp
  refine Ev.succ ?_
  rw [List.append_nil] at hp
  subst hp
  have e2:=specAll_ev 0 8 f2 (by omega)
  simp only [spec_GoodWishes.l1,Int.lt_irrefl,if_false,List.all_nil,Bool.true_and,specIn,Option.bind_some]
  generalize decide (1≤ (f0.length:Int)∧ (f0.length:Int)≤8)=q0
  generalize decide (1≤ (pre.length:Int)∧ (pre.length:Int)≤8)=q1
  generalize allIn 0 8 f2=p2 at e2 ⊢
  cases q0
  ·simp only [Bool.false_and,Bool.false_eq_true,if_false]
   exact Ev.now _
  cases q1
  ·simp only [Bool.false_and,Bool.true_and,Bool.false_eq_true,if_false,if_true]
   exact Ev.now _
  simp only [Bool.true_and,if_true]
  by_cases hc:(f2.length:Int)=pre.length
  ·simp only [if_pos hc,decide_eq_true hc,Bool.true_and]
   exact Ev.bind e2 (Ev.now _)
  ·simp only [if_neg hc,decide_eq_false hc,Bool.false_and]
   exact Ev.now _
 |cons x suf ih=>
  intro pre hp
  refine Ev.succ ?_
  have hn:(f1.length:Int)=pre.length+suf.length+1:=by rw [← hp,len_mid]
  have hx:rd_L1 f1 (pre.length:Int)=x:=by rw [← hp,rdSS_mid]
  have hm:x.length≤1048576:=h.b1 x (by rw [← hp];simp)
  have:=ih (pre++ [x]) (by rw [← app_one];exact hp)
  rw [len_one] at this
  simp only [spec_GoodWishes.l1,if_pos (show (pre.length:Int)<f1.length by omega),if_pos (show (0:Int)≤pre.length by omega),hx,wrap_id (show (-9223372036854775808:Int)≤pre.length+1 by omega) (show ((pre.length:Int)+1≤9223372036854775807) by omega)]
  refine Ev.bind (l12All_ev x f0.length (by omega) (by omega) hm) ?_
  rw [List.all_cons]
  cases hr:rowOk f0.length x with
  |true=>
   simp only [if_true,Bool.true_and]
   exact this
  |false=>
   simp only [Bool.false_eq_true,if_false,Bool.false_and]
   exact Ev.now _
theorem specW_l0 (f0 f1:List (List Int)) (f2:List Int) (h:okW f0 f1 f2) (suf:List (List Int)):∀ (pre:List (List Int)),pre++suf=f0→
  Ev (fun k=>spec_GoodWishes.l0 k f0.length f1.length f0 f0.length pre.length f0 f1 f2) (suf.all (rowOk f1.length) && (f1.all (rowOk f0.length) && (decide (1≤ (f0.length:Int)∧ (f0.length:Int)≤8) && (decide (1≤ (f1.length:Int)∧ (f1.length:Int)≤8) && (decide ((f2.length:Int)=f1.length) && allIn 0 8 f2))))):=by
 have a0:=h.a0
 have a1:=h.a1
 induction suf with
 |nil=>
  intro pre hp
  refine Ev.succ ?_
  rw [List.append_nil] at hp
  have:=specW_l1 f0 f1 f2 h f1 [] rfl
  subst hp
  simp only [spec_GoodWishes.l0,Int.lt_irrefl,if_false,List.all_nil,Bool.true_and]
  exact this
 |cons x suf ih=>
  intro pre hp
  refine Ev.succ ?_
  have hn:(f0.length:Int)=pre.length+suf.length+1:=by rw [← hp,len_mid]
  have hx:rd_L1 f0 (pre.length:Int)=x:=by rw [← hp,rdSS_mid]
  have hm:x.length≤1048576:=h.b0 x (by rw [← hp];simp)
  have:=ih (pre++ [x]) (by rw [← app_one];exact hp)
  rw [len_one] at this
  simp only [spec_GoodWishes.l0,if_pos (show (pre.length:Int)<f0.length by omega),if_pos (show (0:Int)≤pre.length by omega),hx,wrap_id (show (-9223372036854775808:Int)≤pre.length+1 by omega) (show ((pre.length:Int)+1≤9223372036854775807) by omega)]
  refine Ev.bind (l12All_ev x f1.length (by omega) (by omega) hm) ?_
  rw [List.all_cons]
  cases hr:rowOk f1.length x with
  |true=>
   simp only [if_true,Bool.true_and]
   exact this
  |false=>
   simp only [Bool.false_eq_true,if_false,Bool.false_and]
   exact Ev.now _
theorem specGoodW_ev {f0 f1:List (List Int)} {f2:List Int} (h:okW f0 f1 f2):Ev (fun k=>spec_GoodWishes.f k f0 f1 f2) (goodW f0 f1 f2):=specW_l0 f0 f1 f2 h f0 [] rfl
-- good matches, both sides
def cnt (l:List Int) (j:Int):Nat:=l.countP fun x=>decide (x=j)
def hasGo (j:Int):List Int→Int→List Int
 | [],_=> []
 |x::r,i=>if x=j then i::hasGo j r (i+1) else hasGo j r (i+1)
theorem hasGo_len (j:Int):∀ (l:List Int) (i:Int),(hasGo j l i).length=cnt l j
 | [],_=>rfl
 |x::r,i=>by
  unfold hasGo cnt
  rw [List.countP_cons]
  have:=hasGo_len j r (i+1)
  unfold cnt at this
  by_cases h:x=j
  ·rw [if_pos h,List.length_cons,this,decide_eq_true h,if_pos rfl]
  ·rw [if_neg h,this,decide_eq_false h,if_neg Bool.false_ne_true,Nat.add_zero]
theorem cnt_le (l:List Int) (j:Int):cnt l j≤l.length:=List.countP_le_length ..
theorem l12Has_l (j:Int) (suf:List Int):∀ (pre out:List Int),((pre++suf).length:Int)≤1048576→out.length≤pre.length→
  Ev (fun k=>spec_l12Has.l0 k j out (pre++suf) ((pre++suf).length:Int) pre.length) (out++hasGo j suf pre.length):=by
 induction suf with
 |nil=>
  intro pre out h ho
  refine Ev.succ ?_
  simp only [spec_l12Has.l0,List.append_nil,Int.lt_irrefl,if_false,hasGo]
  exact Ev.now _
 |cons x suf ih=>
  intro pre out h ho
  refine Ev.succ ?_
  rw [len_mid] at h ⊢
  have:=fun o ho=>ih (pre++ [x]) o (by rw [← app_one,len_mid];exact h) ho
  rw [← app_one,len_mid,len_one] at this
  simp only [spec_l12Has.l0]
  simp only [if_pos (show ((pre.length:Int)<pre.length+suf.length+1) by omega),if_pos (show (0:Int)≤pre.length by omega),len_mid,rd_mid,wrap_id (show (-9223372036854775808:Int)≤pre.length+1 by omega) (show ((pre.length:Int)+1≤9223372036854775807) by omega),hasGo]
  by_cases h1:x=j
  ·simp only [if_pos h1,if_pos (show out.length< 17592186044416 by omega)]
   rw [app_one out (pre.length:Int) (hasGo j suf (pre.length+1))]
   exact this (out++ [(pre.length:Int)]) (by simp only [List.length_append,List.length_singleton];omega)
  ·simp only [if_neg h1]
   exact this out (by rw [List.length_append];omega)
theorem l12Has_ev (l:List Int) (j:Int) (h:l.length≤1048576):Ev (fun k=>spec_l12Has.f k l j) (hasGo j l 0):=by
 have:=l12Has_l j l [] [] (by simp only [List.nil_append];omega) (by simp)
 exact this
theorem rd_set {acc:List Int} {x j:Int} (hx: 0≤x) (hx1:x<acc.length) (hj: 0≤j) (y:Int):rd (acc.set x.toNat y) j=if j=x then y else rd acc j:=by
 unfold rd
 rw [List.getD_eq_getElem?_getD,List.getD_eq_getElem?_getD,List.getElem?_set]
 by_cases h:j=x
 ·subst h
  rw [if_pos rfl,if_pos rfl,if_pos (by omega)]
  rfl
 ·rw [if_neg (by omega),if_neg h]
theorem loads_l (m:Nat) (hm:m≤1000) (suf:List Int) (hs:∀ x ∈ suf, -1≤x∧x<m):∀ (pre acc:List Int),((pre++suf).length:Int)≤1048576→acc.length=m→ (∀ j:Int,0≤j→rd acc j=cnt pre j)→
  ∃ r,Ev (fun k=>impl_loads.l0 k acc (pre++suf) ((pre++suf).length:Int) pre.length) r∧r.length=m∧ ∀ j:Int,0≤j→rd r j=cnt (pre++suf) j:=by
 induction suf with
 |nil=>
  intro pre acc h ha hr
  refine⟨acc,Ev.succ ?_,ha,by rw [List.append_nil];exact hr⟩
  simp only [impl_loads.l0,List.append_nil,Int.lt_irrefl,if_false]
  exact Ev.now _
 |cons x suf ih=>
  intro pre acc h ha hr
  rw [len_mid] at h
  have hx:=hs x (List.mem_cons_self ..)
  have hi:=ih (fun y hy=>hs y (List.mem_cons_of_mem _ hy)) (pre++ [x])
  rw [← app_one,len_mid,len_one] at hi
  have hc:∀ j,cnt (pre++ [x]) j=cnt pre j+if x=j then 1 else 0:=by
   intro j
   unfold cnt
   rw [List.countP_append,List.countP_cons,List.countP_nil,Nat.zero_add]
   by_cases e:x=j
   ·rw [decide_eq_true e,if_pos rfl,if_pos e]
   ·rw [decide_eq_false e,if_neg Bool.false_ne_true,if_neg e]
  by_cases h1:x≥0
  ·have hb:=cnt_le pre x
   obtain⟨r,er,e1,e2⟩:=hi (acc.set x.toNat (wrap64 ((rd acc x)+1))) h (by rw [List.length_set];exact ha) (by
    intro j hj
    rw [rd_set h1 (by omega) hj,hc,hr x h1,wrap_id (by omega) (by omega)]
    by_cases e:j=x
    ·rw [if_pos e,if_pos e.symm,e]
     omega
    ·rw [if_neg e,if_neg (fun c=>e c.symm),hr j hj]
     omega)
   refine⟨r,Ev.succ ?_,e1,e2⟩
   simp only [impl_loads.l0]
   simp only [len_mid,if_pos (show ((pre.length:Int)<pre.length+suf.length+1) by omega),if_pos (show (0:Int)≤pre.length by omega),rd_mid,wrap_id (show (-9223372036854775808:Int)≤pre.length+1 by omega) (show ((pre.length:Int)+1≤9223372036854775807) by omega),if_pos h1,if_pos (show 0≤x from h1),if_pos (show x< (acc.length:Int) by omega)]
   exact er
  ·obtain⟨r,er,e1,e2⟩:=hi acc h ha (by
    intro j hj
    rw [hc,if_neg (by omega),Nat.add_zero,hr j hj])
   refine⟨r,Ev.succ ?_,e1,e2⟩
   simp only [impl_loads.l0]
   simp only [len_mid,if_pos (show ((pre.length:Int)<pre.length+suf.length+1) by omega),if_pos (show (0:Int)≤pre.length by omega),rd_mid,wrap_id (show (-9223372036854775808:Int)≤pre.length+1 by omega) (show ((pre.length:Int)+1≤9223372036854775807) by omega),if_neg h1]
   exact er
theorem rd_zero (m:Nat) (j:Int):rd (List.replicate m (0:Int)) j=0:=by
 unfold rd
 rw [List.getD_eq_getElem?_getD,List.getElem?_replicate]
 split<;>rfl
theorem loads_ev (f0 f1:List (List Int)) (f2 l:List Int) (hl:l.length≤1048576) (hm:f1.length≤1000) (hs:∀ x ∈ l, -1≤x∧x<f1.length):
  ∃ r,Ev (fun k=>impl_loads.f k f0 f1 f2 l) r∧r.length=f1.length∧ ∀ j:Int,0≤j→rd r j=cnt l j:=by
 unfold impl_loads.f
 simp only [if_pos (show (0:Int)≤ (f1.length:Int) by omega),Int.toNat_natCast,if_pos (show f1.length≤35184372088832 by omega)]
 exact loads_l f1.length hm l hs [] (List.replicate f1.length 0) (by simp only [List.nil_append];omega) (by simp) (fun j hj=>by rw [rd_zero];rfl)
def capGo (l:List Int):List Int→Int→Bool
 | [],_=>true
 |c::r,j=>if (cnt l j:Int) > c then false else capGo l r (j+1)
theorem specCap_l (l:List Int) (hl:l.length≤1048576) (suf:List Int):∀ (pre:List Int),((pre++suf).length:Int)≤1048576→
  Ev (fun k=>spec_GoodMatch.l0 k l (pre++suf) ((pre++suf).length:Int) pre.length) (capGo l suf pre.length):=by
 induction suf with
 |nil=>
  intro pre h
  refine Ev.succ ?_
  simp only [spec_GoodMatch.l0,List.append_nil,Int.lt_irrefl,if_false,capGo]
  exact Ev.now _
 |cons x suf ih=>
  intro pre h
  refine Ev.succ ?_
  rw [len_mid] at h ⊢
  have:=ih (pre++ [x]) (by rw [← app_one,len_mid];exact h)
  rw [← app_one,len_mid,len_one] at this
  simp only [spec_GoodMatch.l0,capGo]
  simp only [if_pos (show ((pre.length:Int)<pre.length+suf.length+1) by omega),if_pos (show (0:Int)≤pre.length by omega),len_mid,rd_mid,wrap_id (show (-9223372036854775808:Int)≤pre.length+1 by omega) (show ((pre.length:Int)+1≤9223372036854775807) by omega)]
  refine Ev.bind (l12Has_ev l pre.length hl) ?_
  rw [hasGo_len]
  by_cases h1:(cnt l pre.length:Int) > x
  ·simp only [if_pos h1]
   exact Ev.now _
  ·simp only [if_neg h1]
   exact this
theorem implCap_l (f0 f1:List (List Int)) (l t:List Int) (ht:∀ j:Int,0≤j→rd t j=cnt l j) (suf:List Int):∀ (pre:List Int),((pre++suf).length:Int)≤1048576→t.length= (pre++suf).length→
  Ev (fun k=>impl_GoodMatch.l0 k t ((pre++suf).length:Int) pre.length f0 f1 (pre++suf)) (capGo l suf pre.length):=by
 induction suf with
 |nil=>
  intro pre h he
  refine Ev.succ ?_
  simp only [impl_GoodMatch.l0,List.append_nil,Int.lt_irrefl,if_false,capGo]
  exact Ev.now _
 |cons x suf ih=>
  intro pre h he
  refine Ev.succ ?_
  have he':(t.length:Int)=pre.length+suf.length+1:=by rw [he,len_mid]
  rw [len_mid] at h ⊢
  have:=ih (pre++ [x]) (by rw [← app_one,len_mid];exact h) (by rw [← app_one];exact he)
  rw [← app_one,len_mid,len_one] at this
  simp only [impl_GoodMatch.l0,capGo]
  simp only [if_pos (show ((pre.length:Int)<pre.length+suf.length+1) by omega),if_pos (show (0:Int)≤pre.length by omega),len_mid,rd_mid,if_pos (show (pre.length:Int)< (t.length:Int) by omega),ht (pre.length:Int) (by omega),wrap_id (show (-9223372036854775808:Int)≤pre.length+1 by omega) (show ((pre.length:Int)+1≤9223372036854775807) by omega)]
  by_cases h1:(cnt l pre.length:Int) > x
  ·simp only [if_pos h1]
   exact Ev.now _
  ·simp only [if_neg h1]
   exact this
theorem goodW_len {f0 f1:List (List Int)} {f2:List Int} (h:goodW f0 f1 f2=true): 1≤f0.length∧f0.length≤8∧1≤f1.length∧f1.length≤8∧f2.length=f1.length:=by
 unfold goodW at h
 simp only [Bool.and_eq_true,decide_eq_true_eq] at h
 omega
def goodM (f0 f1:List (List Int)) (f2 l:List Int):Bool:=goodW f0 f1 f2 && (decide ((l.length:Int)=f0.length) && (allIn (-1) (wrap64 ((f1.length:Int) - 1)) l && capGo l f2 0))
theorem specGoodM_ev {f0 f1:List (List Int)} {f2:List Int} (h:okW f0 f1 f2) (l:List Int) (hl:l.length≤1048576):Ev (fun k=>spec_GoodMatch.f k f0 f1 f2 l) (goodM f0 f1 f2 l):=by
 unfold spec_GoodMatch.f goodM
 have bad:Ev (fun k=>spec_GoodMatch.j0 k l true f0 f1 f2) false:=by
  refine Ev.succ ?_
  simp only [spec_GoodMatch.j0,if_true]
  exact Ev.now _
 refine Ev.bind (specGoodW_ev h) ?_
 cases hw:goodW f0 f1 f2 with
 |false=>
  simp only [Bool.false_eq_true,if_false,Bool.false_and]
  exact bad
 |true=>
  simp only [if_true,Bool.true_and]
  by_cases h1:(l.length:Int)=f0.length
  ·simp only [if_pos h1]
   rw [decide_eq_true h1,Bool.true_and]
   refine Ev.bind (specAll_ev _ _ l (by omega)) ?_
   cases ha:allIn (-1) (wrap64 ((f1.length:Int) - 1)) l with
   |false=>
    rw [Bool.false_and]
    exact bad
   |true=>
    rw [Bool.true_and]
    refine Ev.succ ?_
    simp only [spec_GoodMatch.j0,Bool.not_true,Bool.false_eq_true,if_false]
    exact specCap_l l hl f2 [] (by have:=h.a2;simp only [List.nil_append];omega)
  ·simp only [if_neg h1]
   rw [decide_eq_false h1,Bool.false_and]
   exact bad
theorem implGoodM_ev {f0 f1:List (List Int)} {f2:List Int} (h:okW f0 f1 f2) (l:List Int) (hl:l.length≤1048576):Ev (fun k=>impl_GoodMatch.f k f0 f1 f2 l) (goodM f0 f1 f2 l):=by
 unfold impl_GoodMatch.f goodM
 have bad:Ev (fun k=>impl_GoodMatch.j0 k l true f0 f1 f2) false:=by
  refine Ev.succ ?_
  simp only [impl_GoodMatch.j0,if_true]
  exact Ev.now _
 refine Ev.bind (implGoodW_ev h) ?_
 cases hw:goodW f0 f1 f2 with
 |false=>
  simp only [Bool.false_eq_true,if_false,Bool.false_and]
  exact bad
 |true=>
  have hn:=goodW_len hw
  simp only [if_true,Bool.true_and]
  by_cases h1:(l.length:Int)=f0.length
  ·simp only [if_pos h1]
   rw [decide_eq_true h1,Bool.true_and]
   refine Ev.bind (implAll_ev _ _ l (by omega)) ?_
   cases ha:allIn (-1) (wrap64 ((f1.length:Int) - 1)) l with
   |false=>
    rw [Bool.false_and]
    exact bad
   |true=>
    rw [Bool.true_and]
    rw [wrap_id (by omega) (by omega)] at ha
    refine Ev.succ ?_
    simp only [impl_GoodMatch.j0,Bool.not_true,Bool.false_eq_true,if_false]
    obtain⟨t,et,e1,e2⟩:=loads_ev f0 f1 f2 l hl (by omega) (fun x hx=>by
     have:=List.all_eq_true.1 ha x hx
     rw [decide_eq_true_eq] at this
     omega)
    refine Ev.bind et ?_
    have:=implCap_l f0 f1 l t e2 f2 [] (by have:=h.a2;simp only [List.nil_append];omega) (by simp only [List.nil_append];omega)
    rw [show (t.length:Int)= ((([] :List Int)++f2).length:Int) by simp only [List.nil_append];omega]
    exact this
  ·simp only [if_neg h1]
   rw [decide_eq_false h1,Bool.false_and]
   exact bad
theorem erase_len_le {α :Type} [DecidableEq α] {x: α} :∀ {M:List α},x ∈ M→ (M.erase x).length+1=M.length:=by
 intro M h
 have:=List.length_erase_of_mem h
 have h2: 0<M.length:=List.length_pos_of_mem h
 omega
theorem nodup_le {α :Type} [DecidableEq α] :∀ (L M:List α),L.Nodup→ (∀ x ∈ L,x ∈ M)→L.length≤M.length
 | [],_,_,_=>Nat.zero_le _
 |x::L,M,hn,hs=>by
  have hx:x ∈ M:=hs x (by simp)
  rw [List.nodup_cons] at hn
  have h:=nodup_le L (M.erase x) hn.2 (fun y hy=>by
   have:y≠x:=fun e=>hn.1 (e ▸ hy)
   exact(List.mem_erase_of_ne this).2 (hs y (by simp [hy])))
  have:=erase_len_le hx
  simp only [List.length_cons]
  omega
-- who serves whom: places, who would be taken, and what a round of asking keeps (no function of the program)
def row_ (f:List (List Int)) (i:Int):List Int:=f.getD i.toNat []
def pl (l:List Int) (x:Int):Int:=(placeGo x l 0).getD (l.length:Int)
theorem placeGo_some (x:Int):∀ (l:List Int) (i:Int),x ∈ l→ ∃ k:Nat,k<l.length∧placeGo x l i=some (i+k)∧rd l k=x∧ ∀ j:Nat,j<k→rd l j≠x
 | [],_,h=>by simp at h
 |y::r,i,h=>by
  unfold placeGo
  by_cases e:y=x
  ·exact⟨0,by simp,by rw [if_pos e];simp,e,fun j hj=>absurd hj (Nat.not_lt_zero _)⟩
  ·rw [if_neg e]
   obtain⟨k,h1,h2,h3,h4⟩:=placeGo_some x r (i+1) ((List.mem_cons.1 h).resolve_left (fun c=>e c.symm))
   refine⟨k+1,by simpa using h1,by rw [h2];congr 1;omega,?_,?_⟩
   ·rw [← h3]
    rfl
   ·intro j hj
    cases j with
    |zero=>exact e
    |succ j=>exact h4 j (by omega)
theorem placeGo_none (x:Int):∀ (l:List Int) (i:Int),x ∉ l→placeGo x l i=none
 | [],_,_=>rfl
 |y::r,i,h=>by
  unfold placeGo
  rw [if_neg (fun e=>h (by rw [e];exact List.mem_cons_self ..))]
  exact placeGo_none x r (i+1) (fun c=>h (List.mem_cons_of_mem _ c))
theorem rd_mem {l:List Int} {k:Nat} (h:k<l.length):rd l (k:Int) ∈ l:=by
 unfold rd
 rw [Int.toNat_natCast,List.getD_eq_getElem?_getD,List.getElem?_eq_getElem h]
 exact List.getElem_mem h
theorem rd_inj {l:List Int} (hn:l.Nodup) {j k:Nat} (hj:j<l.length) (hk:k<l.length) (e:rd l (j:Int)=rd l (k:Int)):j=k:=by
 unfold rd at e
 rw [Int.toNat_natCast,Int.toNat_natCast,List.getD_eq_getElem?_getD,List.getElem?_eq_getElem hj,List.getD_eq_getElem?_getD,List.getElem?_eq_getElem hk] at e
 have hp:=List.pairwise_iff_getElem.1 hn
 rcases Nat.lt_trichotomy j k with h|h|h
 ·exact absurd e (hp j k hj hk h)
 ·exact h
 ·exact absurd e.symm (hp k j hk hj h)
theorem dupGo_nodup:∀ (l pre:List Int),pre.Nodup→dupGo pre l=true→ (pre++l).Nodup
 | [],pre,h,_=>by rw [List.append_nil];exact h
 |x::r,pre,h,hd=>by
  unfold dupGo at hd
  rw [Bool.and_eq_true,Bool.not_eq_true'] at hd
  rw [app_one]
  refine dupGo_nodup r (pre++ [x]) ?_ hd.2
  refine List.nodup_append.2 ⟨h,by simp,fun a ha b hb=>?_⟩
  rw [List.mem_singleton] at hb
  subst hb
  intro e
  subst e
  obtain⟨k,_,h2,_⟩:=placeGo_some a pre 0 ha
  rw [h2] at hd
  simp at hd
/-- a list of all from 0 to m, each once -/
structure Perm_ (m:Int) (l:List Int):Prop where
 len:(l.length:Int)=m
 low:∀ x ∈ l,0≤x∧x<m
 nodup:l.Nodup
theorem allIn_mem {a b:Int} {l:List Int} (h:allIn a b l=true):∀ x ∈ l,a≤x∧x≤b:=by
 intro x hx
 unfold allIn at h
 have:=List.all_eq_true.1 h x hx
 rwa [decide_eq_true_eq] at this
theorem rowOk_perm {m:Int} {l:List Int} (h:rowOk m l=true):Perm_ m l:=by
 unfold rowOk at h
 rw [Bool.and_eq_true,Bool.and_eq_true,decide_eq_true_eq] at h
 refine⟨h.1,fun x hx=>?_,?_⟩
 ·have:=allIn_mem h.2.1 x hx
  omega
 ·have:=dupGo_nodup l [] (by simp) h.2.2
  simpa using this
theorem Perm_.mem {m:Int} {l:List Int} (h:Perm_ m l) {x:Int} (h0: 0≤x) (h1:x<m):x ∈ l:=by
 by_cases hx:x ∈ l
 ·exact hx
 ·have hq:=nodup_le (x::l) ((List.range m.toNat).map fun(i:Nat)=>(i:Int)) (List.nodup_cons.2 ⟨hx,h.nodup⟩) (fun y hy=>by
   rw [List.mem_map]
   have: 0≤y∧y<m:=by
    rcases List.mem_cons.1 hy with rfl|hy
    ·exact⟨h0,h1⟩
    ·exact h.low y hy
   exact⟨y.toNat,List.mem_range.2 (by omega),by omega⟩)
  rw [List.length_cons,List.length_map,List.length_range] at hq
  have:=h.len
  omega
theorem Perm_.pl_in {m:Int} {l:List Int} (h:Perm_ m l) {x:Int} (h0: 0≤x) (h1:x<m): 0≤pl l x∧pl l x<m∧rd l (pl l x)=x:=by
 obtain⟨k,h2,h3,h4,_⟩:=placeGo_some x l 0 (h.mem h0 h1)
 have:=h.len
 unfold pl
 rw [h3,Option.getD_some,Int.zero_add]
 exact⟨by omega,by omega,h4⟩
theorem Perm_.pl_out {m:Int} {l:List Int} (h:Perm_ m l) {x:Int} (h0:x< 0):pl l x=m:=by
 unfold pl
 rw [placeGo_none x l 0 (fun c=>by have:=h.low x c;omega),Option.getD_none,h.len]
theorem Perm_.rd_in {m:Int} {l:List Int} (h:Perm_ m l) {k:Int} (h0: 0≤k) (h1:k<m): 0≤rd l k∧rd l k<m:=by
 have:=h.len
 have h2:=rd_mem (l:=l) (k:=k.toNat) (by omega)
 rw [show ((k.toNat:Nat):Int)=k by omega] at h2
 exact h.low _ h2
theorem Perm_.pl_rd {m:Int} {l:List Int} (h:Perm_ m l) {k:Int} (h0: 0≤k) (h1:k<m):pl l (rd l k)=k:=by
 have hr:=h.rd_in h0 h1
 have hp:=h.pl_in hr.1 hr.2
 have:=h.len
 have e:=rd_inj h.nodup (j:=(pl l (rd l k)).toNat) (k:=k.toNat) (by omega) (by omega) (by
  rw [show (((pl l (rd l k)).toNat:Nat):Int)=pl l (rd l k) by omega,show ((k.toNat:Nat):Int)=k by omega]
  exact hp.2.2)
 omega
theorem Perm_.pl_inj {m:Int} {l:List Int} (h:Perm_ m l) {x y:Int} (h0: 0≤x) (h1:x<m) (h2: 0≤y) (h3:y<m) (e:pl l x=pl l y):x=y:=by
 rw [← (h.pl_in h0 h1).2.2,e,(h.pl_in h2 h3).2.2]
theorem cnt_range (l:List Int) (s:Int):cnt l s= (List.range l.length).countP fun(i:Nat)=>decide (rd l (i:Int)=s):=by
 have e:l= (List.range l.length).map fun(i:Nat)=>rd l (i:Int):=by
  apply List.ext_getElem
  ·simp
  ·intro i h1 h2
   rw [List.getElem_map,List.getElem_range]
   unfold rd
   rw [Int.toNat_natCast,List.getD_eq_getElem?_getD,List.getElem?_eq_getElem h1]
   rfl
 unfold cnt
 rw [show l.countP (fun x=>decide (x=s))= ((List.range l.length).map fun(i:Nat)=>rd l (i:Int)).countP (fun x=>decide (x=s)) by rw [← e],List.countP_map]
 rfl
theorem cnt_set (l:List Int) (x y s:Int) (h0: 0≤x) (h1:x<l.length):cnt (l.set x.toNat y) s+ (if rd l x=s then 1 else 0)=cnt l s+ (if y=s then 1 else 0):=by
 obtain⟨k,rfl⟩:=Int.eq_ofNat_of_zero_le h0
 rw [Int.toNat_natCast]
 have hk:k<l.length:=by omega
 clear h0 h1
 induction l generalizing k with
 |nil=>simp at hk
 |cons a l ih=>
  cases k with
  |zero=>
   unfold cnt
   rw [List.set_cons_zero,List.countP_cons,List.countP_cons,show rd (a::l) ((0:Nat):Int)=a from rfl]
   simp only [decide_eq_true_eq]
   omega
  |succ k=>
   have:=ih k (by simpa using hk)
   unfold cnt at this ⊢
   rw [List.set_cons_succ,List.countP_cons,List.countP_cons,show rd (a::l) ((k+1:Nat):Int)=rd l (k:Int) from rfl]
   omega
theorem countP_sub {α :Type} (p q: α →Bool):∀ (l:List α),(∀ x ∈ l,p x=true→q x=true)→ (∃ x ∈ l,p x=false∧q x=true)→l.countP p<l.countP q
 | [],_,⟨x,hx,_⟩=>by simp at hx
 |a::l,h,⟨x,hx,h1,h2⟩=>by
  rw [List.countP_cons,List.countP_cons]
  have hle:l.countP p≤l.countP q:=List.countP_mono_left fun y hy=>h y (List.mem_cons_of_mem _ hy)
  rcases List.mem_cons.1 hx with rfl|hx
  ·rw [h1,h2,if_pos rfl,if_neg Bool.false_ne_true]
   omega
  ·have:=countP_sub p q l (fun y hy=>h y (List.mem_cons_of_mem _ hy)) ⟨x,hx,h1,h2⟩
   by_cases hp:p a=true
   ·rw [if_pos hp,if_pos (h a (List.mem_cons_self ..) hp)]
    omega
   ·rw [if_neg hp]
    omega
/-- one who is in the first and not in the second -/
theorem cnt_diff {m M:List Int} {s g:Int} (hl:m.length=M.length) (hg: 0≤g) (hg1:g<m.length) (h1:rd m g≠s) (h2:rd M g=s) (hc:cnt M s≤cnt m s):∃ h:Int,0≤h∧h<m.length∧rd m h=s∧rd M h≠s:=by
 by_cases hx:∃ h:Int,0≤h∧h<m.length∧rd m h=s∧rd M h≠s
 ·exact hx
 ·exfalso
  have:=countP_sub (fun(i:Nat)=>decide (rd m (i:Int)=s)) (fun(i:Nat)=>decide (rd M (i:Int)=s)) (List.range m.length) (fun i hi hp=>by
   rw [decide_eq_true_eq] at hp ⊢
   by_cases hq:rd M (i:Int)=s
   ·exact hq
   ·have:=List.mem_range.1 hi
    exact absurd ⟨(i:Int),by omega,by omega,hp,hq⟩ hx) ⟨g.toNat,List.mem_range.2 (by omega),by
    rw [show ((g.toNat:Nat):Int)=g by omega,decide_eq_false_iff_not];exact h1,by
    rw [show ((g.toNat:Nat):Int)=g by omega,decide_eq_true_eq];exact h2⟩
  rw [← cnt_range] at this
  rw [hl,← cnt_range] at this
  omega
-- the rounds of asking: what they keep, that the end is stable, and that no group does better (no function of the program)
/-- good wishes: all lists are orders -/
structure WOk (f0 f1:List (List Int)) (f2:List Int) (G S:Int):Prop where
 g:(f0.length:Int)=G
 s:(f1.length:Int)=S
 r:(f2.length:Int)=S
 pg:∀ g:Int,0≤g→g<G→Perm_ S (row_ f0 g)
 ps:∀ s:Int,0≤s→s<S→Perm_ G (row_ f1 s)
/-- a server would take a group -/
def Would (f1:List (List Int)) (f2 m:List Int) (s g:Int):Prop:=
 (cnt m s:Int)<rd f2 s∨ ∃ h:Int,0≤h∧h<m.length∧rd m h=s∧pl (row_ f1 s) g<pl (row_ f1 s) h
def Blocks (f0 f1:List (List Int)) (f2 m:List Int) (g s:Int):Prop:=
 pl (row_ f0 g) s<pl (row_ f0 g) (rd m g)∧Would f1 f2 m s g
def Stable (f0 f1:List (List Int)) (f2 m:List Int):Prop:=
 ∀ g s:Int,0≤g→g<m.length→0≤s→s<f1.length→ ¬ Blocks f0 f1 f2 m g s
/-- a good match -/
structure MOk (f2 m:List Int) (G S:Int):Prop where
 len:(m.length:Int)=G
 low:∀ g:Int,0≤g→g<G→ -1≤rd m g∧rd m g<S
 cap:∀ s:Int,0≤s→s<S→ (cnt m s:Int)≤rd f2 s
structure Inv (f0 f1:List (List Int)) (f2:List Int) (G S:Int) (m a:List Int):Prop where
 ok:MOk f2 m G S
 alen:(a.length:Int)=G
 ain:∀ g:Int,0≤g→g<G→0≤rd a g∧rd a g≤S
 has:∀ g:Int,0≤g→g<G→0≤rd m g→1≤rd a g∧rd (row_ f0 g) (rd a g - 1)=rd m g
 rej:∀ g k:Int,0≤g→g<G→0≤k→k<rd a g→rd m g≠rd (row_ f0 g) k→rd f2 (rd (row_ f0 g) k)≤ (cnt m (rd (row_ f0 g) k):Int)∧ ∀ h:Int,0≤h→h<G→rd m h=rd (row_ f0 g) k→pl (row_ f1 (rd (row_ f0 g) k)) h<pl (row_ f1 (rd (row_ f0 g) k)) g
 opt:∀ M:List Int,MOk f2 M G S→Stable f0 f1 f2 M→ ∀ g k:Int,0≤g→g<G→0≤k→k<rd a g→rd m g≠rd (row_ f0 g) k→rd M g≠rd (row_ f0 g) k
/-- who is turned down by a full server has it in no stable match -/
theorem opt_step {f0 f1:List (List Int)} {f2:List Int} {G S:Int} (w:WOk f0 f1 f2 G S) {m a:List Int} (hm:MOk f2 m G S) (ain:∀ g:Int,0≤g→g<G→0≤rd a g∧rd a g≤S)
  {s g:Int} (hs: 0≤s) (hs1:s<S) (hg: 0≤g) (hg1:g<G) (hne:rd m g≠s) (hfull:rd f2 s≤ (cnt m s:Int)) (hbetter:∀ h:Int,0≤h→h<G→rd m h=s→pl (row_ f1 s) h<pl (row_ f1 s) g)
  (hhas:∀ h:Int,0≤h→h<G→rd m h=s→1≤rd a h∧rd (row_ f0 h) (rd a h - 1)=s)
  {M:List Int} (hM:MOk f2 M G S) (hst:Stable f0 f1 f2 M) (hopt:∀ h k:Int,0≤h→h<G→rd m h=s→0≤k→k<rd a h - 1→rd M h≠rd (row_ f0 h) k):rd M g≠s:=by
 intro e
 have hl:=hm.len
 have hL:=hM.len
 have hcap:=hM.cap s hs hs1
 obtain⟨h,h0,h1,h2,h3⟩:=cnt_diff (m:=m) (M:=M) (s:=s) (g:=g) (by omega) hg (by omega) hne e (by omega)
 have h1':h<G:=by omega
 have hp:=w.pg h h0 h1'
 have hh:=hhas h h0 h1' h2
 have ha:=ain h h0 h1'
 have hpl:pl (row_ f0 h) s=rd a h - 1:=by
  rw [← hh.2]
  exact hp.pl_rd (by omega) (by omega)
 refine hst h s h0 (by omega) hs (by have:=w.s;omega) ⟨?_,.inr ⟨g,hg,by omega,e,hbetter h h0 h1' h2⟩⟩
 have hlow:=hM.low h h0 h1'
 by_cases hn:rd M h< 0
 ·rw [hp.pl_out hn,hpl]
  omega
 ·have hr:=hp.pl_in (x:=rd M h) (by omega) hlow.2
  have hx:pl (row_ f0 h) (rd M h)≠rd a h - 1:=fun c=>h3 (by rw [← hr.2.2,c,hh.2])
  have hy:¬ pl (row_ f0 h) (rd M h)<rd a h - 1:=fun c=>hopt h (pl (row_ f0 h) (rd M h)) h0 h1' h2 hr.1 c hr.2.2.symm
  omega
theorem inv_start {f0 f1:List (List Int)} {f2:List Int} {G S:Int} (w:WOk f0 f1 f2 G S) (hG: 0≤G) (hS: 0≤S) (h2:∀ s:Int,0≤s→s<S→0≤rd f2 s):Inv f0 f1 f2 G S (List.replicate G.toNat (-1)) (List.replicate G.toNat 0):=by
 have e1:∀ g:Int,0≤g→g<G→rd (List.replicate G.toNat (-1:Int)) g= -1:=fun g h0 h1=>by
  unfold rd
  rw [List.getD_eq_getElem?_getD,List.getElem?_replicate,if_pos (by omega)]
  rfl
 have e2:∀ g:Int,0≤g→g<G→rd (List.replicate G.toNat (0:Int)) g=0:=fun g h0 h1=>by
  unfold rd
  rw [List.getD_eq_getElem?_getD,List.getElem?_replicate,if_pos (by omega)]
  rfl
 refine⟨⟨by rw [List.length_replicate];omega,fun g h0 h1=>by rw [e1 g h0 h1];omega,fun s hs hs1=>?_⟩,by rw [List.length_replicate];omega,fun g h0 h1=>by rw [e2 g h0 h1];omega,fun g h0 h1 h=>?_,fun g k h0 h1 hk hk1 _=>?_,fun M _ _ g k h0 h1 hk hk1 _=>?_⟩
 ·have:cnt (List.replicate G.toNat (-1:Int)) s=0:=by
   unfold cnt
   rw [List.countP_eq_zero]
   intro x hx
   have:=List.eq_of_mem_replicate hx
   rw [decide_eq_true_eq]
   omega
  rw [this]
  exact h2 s hs hs1
 ·rw [e1 g h0 h1] at h
  omega
 ·rw [e2 g h0 h1] at hk1
  omega
 ·rw [e2 g h0 h1] at hk1
  omega
/-- a group asks and is turned down -/
theorem inv_no {f0 f1:List (List Int)} {f2:List Int} {G S:Int} (w:WOk f0 f1 f2 G S) {m a:List Int} (h:Inv f0 f1 f2 G S m a) {g:Int} (hg: 0≤g) (hg1:g<G) (hm:rd m g< 0) (ha:rd a g<S)
  (hno:¬ Would f1 f2 m (rd (row_ f0 g) (rd a g)) g):Inv f0 f1 f2 G S m (a.set g.toNat (rd a g+1)):=by
 have hai:=h.ain g hg hg1
 have hal:=h.alen
 have hml:=h.ok.len
 have hp:=w.pg g hg hg1
 have hs:=hp.rd_in hai.1 ha
 have ea:∀ x:Int,0≤x→rd (a.set g.toNat (rd a g+1)) x=if x=g then rd a g+1 else rd a x:=fun x hx=>rd_set hg (by omega) hx _
 generalize hsd:rd (row_ f0 g) (rd a g)=s at hno hs
 have hfull:rd f2 s≤ (cnt m s:Int):=by
  by_cases c:rd f2 s≤ (cnt m s:Int)
  ·exact c
  ·exact absurd (Or.inl (by omega)) hno
 have hbet:∀ x:Int,0≤x→x<G→rd m x=s→pl (row_ f1 s) x<pl (row_ f1 s) g:=by
  intro x hx hx1 e
  by_cases c:pl (row_ f1 s) x<pl (row_ f1 s) g
  ·exact c
  ·exfalso
   have hne:x≠g:=fun c=>by subst c;omega
   have hps:=w.ps s hs.1 hs.2
   have hq:pl (row_ f1 s) g≠pl (row_ f1 s) x:=fun c=>hne (hps.pl_inj hg hg1 hx hx1 c).symm
   exact hno (.inr ⟨x,hx,by omega,e,by omega⟩)
 refine⟨h.ok,by rw [List.length_set];exact hal,fun x hx hx1=>?_,fun x hx hx1 hc=>?_,fun x k hx hx1 hk hk1 hne=>?_,fun M hM hst x k hx hx1 hk hk1 hne=>?_⟩
 ·rw [ea x hx]
  split
  ·omega
  ·exact h.ain x hx hx1
 ·rw [ea x hx,if_neg (fun c=>by subst c;omega)]
  exact h.has x hx hx1 hc
 ·rw [ea x hx] at hk1
  by_cases c:x=g
  ·subst c
   rw [if_pos rfl] at hk1
   by_cases ck:k=rd a x
   ·subst ck
    rw [hsd]
    exact⟨hfull,hbet⟩
   ·exact h.rej x k hx hx1 hk (by omega) hne
  ·rw [if_neg c] at hk1
   exact h.rej x k hx hx1 hk hk1 hne
 ·rw [ea x hx] at hk1
  by_cases c:x=g
  ·subst c
   rw [if_pos rfl] at hk1
   by_cases ck:k=rd a x
   ·subst ck
    rw [hsd]
    exact opt_step w h.ok h.ain hs.1 hs.2 hx hx1 (by omega) hfull hbet (fun y hy hy1 e=>by
     have:=h.has y hy hy1 (by omega)
     rw [e] at this
     exact this) hM hst (fun y j hy hy1 e hj hj1=>h.opt M hM hst y j hy hy1 hj (by omega) (fun c=>by
     have hy2:=h.has y hy hy1 (by omega)
     have hpy:=w.pg y hy hy1
     have hay:=h.ain y hy hy1
     have e1:=hpy.pl_rd hj (show j<S by omega)
     have e2:=hpy.pl_rd (show 0≤rd a y - 1 by omega) (show rd a y - 1<S by omega)
     rw [hy2.2,c,e1] at e2
     omega))
   ·exact h.opt M hM hst x k hx hx1 hk (by omega) hne
  ·rw [if_neg c] at hk1
   exact h.opt M hM hst x k hx hx1 hk hk1 hne
-- a group asks and is taken; the end of all asking (no function of the program)
theorem Inv.before {f0 f1:List (List Int)} {f2:List Int} {G S:Int} (w:WOk f0 f1 f2 G S) {m a:List Int} (h:Inv f0 f1 f2 G S m a) {y j:Int} (hy: 0≤y) (hy1:y<G) (hm: 0≤rd m y) (hj: 0≤j) (hj1:j<rd a y - 1):rd m y≠rd (row_ f0 y) j:=by
 intro c
 have hy2:=h.has y hy hy1 hm
 have hpy:=w.pg y hy hy1
 have hay:=h.ain y hy hy1
 have e1:=hpy.pl_rd hj (show j<S by omega)
 have e2:=hpy.pl_rd (show 0≤rd a y - 1 by omega) (show rd a y - 1<S by omega)
 rw [hy2.2,c,e1] at e2
 omega
theorem inv_free {f0 f1:List (List Int)} {f2:List Int} {G S:Int} (w:WOk f0 f1 f2 G S) {m a:List Int} (h:Inv f0 f1 f2 G S m a) {g:Int} (hg: 0≤g) (hg1:g<G) (hm:rd m g< 0) (ha:rd a g<S)
  (hfree:(cnt m (rd (row_ f0 g) (rd a g)):Int)<rd f2 (rd (row_ f0 g) (rd a g))):Inv f0 f1 f2 G S (m.set g.toNat (rd (row_ f0 g) (rd a g))) (a.set g.toNat (rd a g+1)):=by
 have hai:=h.ain g hg hg1
 have hal:=h.alen
 have hml:=h.ok.len
 have hp:=w.pg g hg hg1
 have hs:=hp.rd_in hai.1 ha
 have ea:∀ x:Int,0≤x→rd (a.set g.toNat (rd a g+1)) x=if x=g then rd a g+1 else rd a x:=fun x hx=>rd_set hg (by omega) hx _
 generalize hsd:rd (row_ f0 g) (rd a g)=s at hfree hs
 have em:∀ x:Int,0≤x→rd (m.set g.toNat s) x=if x=g then s else rd m x:=fun x hx=>rd_set hg (by omega) hx _
 have ec:∀ t:Int,0≤t→ (cnt (m.set g.toNat s) t:Int)=cnt m t+if s=t then 1 else 0:=by
  intro t ht
  have:=cnt_set m g s t hg (by omega)
  rw [if_neg (show ¬ rd m g=t by omega)] at this
  split at this
  ·rename_i c
   rw [if_pos c]
   omega
  ·rename_i c
   rw [if_neg c]
   omega
 refine⟨⟨by rw [List.length_set];exact hml,fun x hx hx1=>?_,fun t ht ht1=>?_⟩,by rw [List.length_set];exact hal,fun x hx hx1=>?_,fun x hx hx1 hc=>?_,fun x k hx hx1 hk hk1 hne=>?_,fun M hM hst x k hx hx1 hk hk1 hne=>?_⟩
 ·rw [em x hx]
  split
  ·omega
  ·exact h.ok.low x hx hx1
 ·rw [ec t ht]
  have:=h.ok.cap t ht ht1
  split
  ·rename_i c
   subst c
   omega
  ·omega
 ·rw [ea x hx]
  split
  ·omega
  ·exact h.ain x hx hx1
 ·rw [ea x hx,em x hx]
  rw [em x hx] at hc
  by_cases c:x=g
  ·subst c
   rw [if_pos rfl,if_pos rfl,Int.add_sub_cancel]
   exact⟨by omega,hsd⟩
  ·rw [if_neg c] at hc
   rw [if_neg c,if_neg c]
   exact h.has x hx hx1 hc
 ·have old:rd m x≠rd (row_ f0 x) k∧k<rd a x:=by
   rw [ea x hx] at hk1
   rw [em x hx] at hne
   by_cases c:x=g
   ·subst c
    rw [if_pos rfl] at hk1 hne
    have:k≠rd a x:=fun c=>by subst c;exact hne hsd.symm
    have:=hp.rd_in hk (by omega)
    exact⟨by omega,by omega⟩
   ·rw [if_neg c] at hk1 hne
    exact⟨hne,hk1⟩
  have hr:=h.rej x k hx hx1 hk old.2 old.1
  have hax:=h.ain x hx hx1
  have ht:=(w.pg x hx hx1).rd_in hk (by omega)
  generalize rd (row_ f0 x) k=t at hr ht
  have hst:s≠t:=fun c=>by subst c;omega
  rw [ec t ht.1,if_neg hst]
  refine⟨by omega,fun y hy hy1 e=>hr.2 y hy hy1 ?_⟩
  rw [em y hy] at e
  by_cases c:y=g
  ·rw [if_pos c] at e
   exact absurd e hst
  ·rw [if_neg c] at e
   exact e
 ·rw [ea x hx] at hk1
  rw [em x hx] at hne
  by_cases c:x=g
  ·subst c
   rw [if_pos rfl] at hk1 hne
   have:k≠rd a x:=fun c=>by subst c;exact hne hsd.symm
   have:=hp.rd_in hk (by omega)
   exact h.opt M hM hst x k hx hx1 hk (by omega) (by omega)
  ·rw [if_neg c] at hk1 hne
   exact h.opt M hM hst x k hx hx1 hk hk1 hne
theorem inv_swap {f0 f1:List (List Int)} {f2:List Int} {G S:Int} (w:WOk f0 f1 f2 G S) {m a:List Int} (h:Inv f0 f1 f2 G S m a) {g:Int} (hg: 0≤g) (hg1:g<G) (hm:rd m g< 0) (ha:rd a g<S)
  (hfull:rd f2 (rd (row_ f0 g) (rd a g))≤ (cnt m (rd (row_ f0 g) (rd a g)):Int)) {o:Int} (ho: 0≤o) (ho1:o<G) (hos:rd m o=rd (row_ f0 g) (rd a g))
  (hworst:∀ x:Int,0≤x→x<G→rd m x=rd (row_ f0 g) (rd a g)→pl (row_ f1 (rd (row_ f0 g) (rd a g))) x≤pl (row_ f1 (rd (row_ f0 g) (rd a g))) o)
  (hlt:pl (row_ f1 (rd (row_ f0 g) (rd a g))) g<pl (row_ f1 (rd (row_ f0 g) (rd a g))) o):
  Inv f0 f1 f2 G S ((m.set o.toNat (-1)).set g.toNat (rd (row_ f0 g) (rd a g))) (a.set g.toNat (rd a g+1)):=by
 have hai:=h.ain g hg hg1
 have hal:=h.alen
 have hml:=h.ok.len
 have hp:=w.pg g hg hg1
 have hs:=hp.rd_in hai.1 ha
 have ea:∀ x:Int,0≤x→rd (a.set g.toNat (rd a g+1)) x=if x=g then rd a g+1 else rd a x:=fun x hx=>rd_set hg (by omega) hx _
 generalize hsd:rd (row_ f0 g) (rd a g)=s at hfull hs hos hworst hlt
 have hog:o≠g:=fun c=>by subst c;omega
 have em:∀ x:Int,0≤x→rd ((m.set o.toNat (-1)).set g.toNat s) x=if x=g then s else if x=o then -1 else rd m x:=fun x hx=>by
  rw [rd_set hg (by rw [List.length_set];omega) hx,rd_set ho (by omega) hx]
 have ec:∀ t:Int,0≤t→ (cnt ((m.set o.toNat (-1)).set g.toNat s) t:Int)=cnt m t:=by
  intro t ht
  have h1:=cnt_set m o (-1) t ho (by omega)
  have h2:=cnt_set (m.set o.toNat (-1)) g s t hg (by rw [List.length_set];omega)
  have e1:rd (m.set o.toNat (-1)) g=rd m g:=by rw [rd_set ho (by omega) hg,if_neg (fun c=>hog c.symm)]
  rw [e1,if_neg (show ¬ rd m g=t by omega)] at h2
  rw [hos,if_neg (show ¬ (-1:Int)=t by omega)] at h1
  by_cases c:s=t
  ·rw [if_pos c] at h1 h2
   omega
  ·rw [if_neg c] at h1 h2
   omega
 have hps:=w.ps s hs.1 hs.2
 have hok:MOk f2 ((m.set o.toNat (-1)).set g.toNat s) G S:=by
  refine⟨by rw [List.length_set,List.length_set];exact hml,fun x hx hx1=>?_,fun t ht ht1=>?_⟩
  ·rw [em x hx]
   split
   ·omega
   ·split
    ·omega
    ·exact h.ok.low x hx hx1
  ·rw [ec t ht]
   exact h.ok.cap t ht ht1
 have hain:∀ x:Int,0≤x→x<G→0≤rd (a.set g.toNat (rd a g+1)) x∧rd (a.set g.toNat (rd a g+1)) x≤S:=by
  intro x hx hx1
  rw [ea x hx]
  split
  ·omega
  ·exact h.ain x hx hx1
 have hhas:∀ x:Int,0≤x→x<G→0≤rd ((m.set o.toNat (-1)).set g.toNat s) x→1≤rd (a.set g.toNat (rd a g+1)) x∧rd (row_ f0 x) (rd (a.set g.toNat (rd a g+1)) x - 1)=rd ((m.set o.toNat (-1)).set g.toNat s) x:=by
  intro x hx hx1 hc
  rw [ea x hx,em x hx]
  rw [em x hx] at hc
  by_cases c:x=g
  ·subst c
   rw [if_pos rfl,if_pos rfl,Int.add_sub_cancel]
   exact⟨by omega,hsd⟩
  ·rw [if_neg c] at hc
   rw [if_neg c,if_neg c]
   by_cases d:x=o
   ·rw [if_pos d] at hc
    omega
   ·rw [if_neg d] at hc
    rw [if_neg d]
    exact h.has x hx hx1 hc
 have hbet:∀ y:Int,0≤y→y<G→rd ((m.set o.toNat (-1)).set g.toNat s) y=s→pl (row_ f1 s) y<pl (row_ f1 s) o:=by
  intro y hy hy1 e
  rw [em y hy] at e
  by_cases c:y=g
  ·rw [c]
   exact hlt
  ·rw [if_neg c] at e
   by_cases d:y=o
   ·rw [if_pos d] at e
    omega
   ·rw [if_neg d] at e
    have h1:=hworst y hy hy1 e
    have h2:pl (row_ f1 s) y≠pl (row_ f1 s) o:=fun c=>d (hps.pl_inj hy hy1 ho ho1 c)
    omega
 -- who holds another server holds it as before
 have other:∀ t:Int,0≤t→s≠t→ ∀ y:Int,0≤y→rd ((m.set o.toNat (-1)).set g.toNat s) y=t→rd m y=t:=by
  intro t ht hst y hy e
  rw [em y hy] at e
  by_cases c:y=g
  ·rw [if_pos c] at e
   exact absurd e hst
  ·rw [if_neg c] at e
   by_cases d:y=o
   ·rw [if_pos d] at e
    omega
   ·rw [if_neg d] at e
    exact e
 -- a pair that was turned down before
 have old:∀ x k:Int,0≤x→x<G→0≤k→k<rd (a.set g.toNat (rd a g+1)) x→rd ((m.set o.toNat (-1)).set g.toNat s) x≠rd (row_ f0 x) k→ (x=o∧rd (row_ f0 x) k=s)∨ (rd m x≠rd (row_ f0 x) k∧k<rd a x∧ (x=g→s≠rd (row_ f0 x) k)):=by
  intro x k hx hx1 hk hk1 hne
  rw [ea x hx] at hk1
  rw [em x hx] at hne
  by_cases c:x=g
  ·subst c
   rw [if_pos rfl] at hk1 hne
   have:k≠rd a x:=fun c=>by subst c;exact hne hsd.symm
   have:=hp.rd_in hk (by omega)
   exact .inr ⟨by omega,by omega,fun _=>hne⟩
  ·rw [if_neg c] at hk1 hne
   by_cases d:x=o
   ·subst d
    by_cases e:rd (row_ f0 x) k=s
    ·exact .inl ⟨rfl,e⟩
    ·exact .inr ⟨by rw [hos];exact fun q=>e q.symm,hk1,fun q=>absurd q c⟩
   ·rw [if_neg d] at hne
    exact .inr ⟨hne,hk1,fun q=>absurd q c⟩
 refine⟨hok,by rw [List.length_set];exact hal,hain,hhas,fun x k hx hx1 hk hk1 hne=>?_,fun M hM hst x k hx hx1 hk hk1 hne=>?_⟩
 ·rcases old x k hx hx1 hk hk1 hne with ⟨rfl,e⟩|⟨h1,h2,h3⟩
  ·rw [e,ec s hs.1]
   exact⟨hfull,hbet⟩
  ·have hr:=h.rej x k hx hx1 hk h2 h1
   have hax:=h.ain x hx hx1
   have ht:=(w.pg x hx hx1).rd_in hk (by omega)
   generalize rd (row_ f0 x) k=t at hr ht h1 h3 hne
   rw [ec t ht.1]
   refine⟨hr.1,fun y hy hy1 e=>?_⟩
   by_cases hst:s=t
   ·subst hst
    have h5:=hr.2 o ho ho1 hos
    have h6:=hbet y hy hy1 e
    omega
   ·exact hr.2 y hy hy1 (other t ht.1 hst y hy e)
 ·rcases old x k hx hx1 hk hk1 hne with ⟨rfl,e⟩|⟨h1,h2,_⟩
  ·rw [e]
   rw [e] at hne
   refine opt_step w hok hain hs.1 hs.2 hx hx1 hne (by rw [ec s hs.1];exact hfull) hbet (fun y hy hy1 e=>?_) hM hst (fun y j hy hy1 e hj hj1=>?_)
   ·have:=hhas y hy hy1 (by omega)
    rw [e] at this
    exact this
   ·rw [ea y hy] at hj1
    rw [em y hy] at e
    by_cases c:y=g
    ·subst c
     rw [if_pos rfl] at hj1
     have:=hp.rd_in hj (by omega)
     exact h.opt M hM hst y j hy hy1 hj (by omega) (by omega)
    ·rw [if_neg c] at hj1 e
     by_cases d:y=x
     ·rw [if_pos d] at e
      omega
     ·rw [if_neg d] at e
      exact h.opt M hM hst y j hy hy1 hj (by omega) (h.before w hy hy1 (by omega) hj hj1)
  ·exact h.opt M hM hst x k hx hx1 hk h2 h1
/-- nobody is left to ask -/
def Done (m a:List Int) (S:Int):Prop:= ∀ g:Int,0≤g→g<m.length→0≤rd m g∨rd a g=S
-- who a server would take, and who is in the way: the program and the reference
theorem rowL_is (f:List (List Int)) (i:Int):rd_L1 f i=row_ f i:=rfl
theorem row_mem {f:List (List Int)} {i:Int} (h0: 0≤i) (h1:i<f.length):row_ f i ∈ f:=by
 unfold row_
 rw [List.getD_eq_getElem?_getD,List.getElem?_eq_getElem (by omega)]
 exact List.getElem_mem _
theorem wOk_of {f0 f1:List (List Int)} {f2:List Int} (h:goodW f0 f1 f2=true):WOk f0 f1 f2 f0.length f1.length:=by
 have hl:=goodW_len h
 unfold goodW at h
 simp only [Bool.and_eq_true] at h
 refine⟨rfl,rfl,by omega,fun g h0 h1=>?_,fun s h0 h1=>?_⟩
 ·exact rowOk_perm (List.all_eq_true.1 h.1 _ (row_mem h0 h1))
 ·exact rowOk_perm (List.all_eq_true.1 h.2.1 _ (row_mem h0 h1))
theorem room_of {f0 f1:List (List Int)} {f2:List Int} (h:goodW f0 f1 f2=true) (s:Int) (h0: 0≤s) (h1:s<f1.length): 0≤rd f2 s∧rd f2 s≤8:=by
 have hl:=goodW_len h
 unfold goodW at h
 simp only [Bool.and_eq_true] at h
 refine allIn_mem h.2.2.2.2.2 _ ?_
 have:=rd_mem (l:=f2) (k:=s.toNat) (by omega)
 rwa [show ((s.toNat:Nat):Int)=s by omega] at this
theorem capGo_all (m:List Int):∀ (l:List Int) (i:Int),capGo m l i=true→ ∀ j:Nat,j<l.length→ (cnt m (i+j):Int)≤rd l j
 | [],_,_,j,hj=>by simp at hj
 |c::r,i,h,j,hj=>by
  unfold capGo at h
  split at h
  ·cases h
  ·rename_i hc
   cases j with
   |zero=>
    show (cnt m (i+0):Int)≤c
    rw [Int.add_zero]
    omega
   |succ j=>
    have:=capGo_all m r (i+1) h j (by simpa using hj)
    rw [show i+1+ (j:Int)=i+ ((j+1:Nat):Int) by omega] at this
    exact this
theorem mOk_of {f0 f1:List (List Int)} {f2 m:List Int} (h:goodM f0 f1 f2 m=true):MOk f2 m f0.length f1.length:=by
 unfold goodM at h
 rw [Bool.and_eq_true,Bool.and_eq_true,Bool.and_eq_true,decide_eq_true_eq] at h
 have hl:=goodW_len h.1
 refine⟨h.2.1,fun g h0 h1=>?_,fun s h0 h1=>?_⟩
 ·have hm:=rd_mem (l:=m) (k:=g.toNat) (by omega)
  rw [show ((g.toNat:Nat):Int)=g by omega] at hm
  have:=allIn_mem h.2.2.1 _ hm
  rw [wrap_id (by omega) (by omega)] at this
  omega
 ·have:=capGo_all m f2 0 h.2.2.2 s.toNat (by omega)
  rw [show (0:Int)+ ((s.toNat:Nat):Int)=s by omega,show ((s.toNat:Nat):Int)=s by omega] at this
  exact this
theorem plEv (x:Int) (l:List Int) (h:(l.length:Int)≤1099511627776):Ev (fun k=>spec_l12Place.f k l x) (pl l x):=place_ev x l h
theorem ixEv {m:Int} {l:List Int} (hp:Perm_ m l) (hm:m≤1000) {x:Int} (h0: 0≤x) (h1:x<m):Ev (fun k=>slices_Index_int.f k l x) (pl l x):=by
 have hl:=hp.len
 have:=index_ev x l (by omega)
 obtain⟨k,_,h2,_⟩:=placeGo_some x l 0 (hp.mem h0 h1)
 unfold pl
 rw [h2] at this ⊢
 exact this
/-- who has a server, rising -/
theorem hasGo_mem (s:Int):∀ (l:List Int) (i x:Int),x ∈ hasGo s l i↔ ∃ j:Nat,j<l.length∧x=i+j∧rd l j=s
 | [],i,x=>by simp [hasGo]
 |y::r,i,x=>by
  have ih:=hasGo_mem s r (i+1) x
  have e:(∃ j:Nat,j< (y::r).length∧x=i+j∧rd (y::r) j=s)↔ (x=i∧y=s)∨ ∃ j:Nat,j<r.length∧x=i+1+j∧rd r j=s:=by
   constructor
   ·rintro⟨j,h1,h2,h3⟩
    cases j with
    |zero=>exact .inl ⟨by simpa using h2,h3⟩
    |succ j=>exact .inr ⟨j,by simpa using h1,by omega,h3⟩
   ·rintro(⟨h1,h2⟩|⟨j,h1,h2,h3⟩)
    ·exact⟨0,by simp,by simpa using h1,h2⟩
    ·exact⟨j+1,by simpa using h1,by omega,h3⟩
  rw [e,← ih,show hasGo s (y::r) i= (if y=s then i::hasGo s r (i+1) else hasGo s r (i+1)) from rfl]
  split
  ·rename_i h
   rw [List.mem_cons]
   simp [h]
  ·rename_i h
   simp [h]
theorem has_iff {m:List Int} {s x:Int} :x ∈ hasGo s m 0↔0≤x∧x<m.length∧rd m x=s:=by
 rw [hasGo_mem]
 constructor
 ·rintro⟨j,h1,h2,h3⟩
  rw [Int.zero_add] at h2
  subst h2
  exact⟨by omega,by omega,h3⟩
 ·rintro⟨h1,h2,h3⟩
  exact⟨x.toNat,by omega,by omega,by rw [show ((x.toNat:Nat):Int)=x by omega];exact h3⟩
def worstGo (P:List Int):Int→List Int→Int
 |w,[]=>w
 |w,g::r=>worstGo P (if w< 0 then g else if pl P g > pl P w then g else w) r
def worstM (f1:List (List Int)) (m:List Int) (s:Int):Int:=worstGo (row_ f1 s) (-1) (hasGo s m 0)
theorem worstGo_ok (P:List Int):∀ (l:List Int) (w:Int),(∀ x ∈ l,0≤x)→ (w< 0→worstGo P w l=w∧l= []∨worstGo P w l ∈ l∧ ∀ x ∈ l,pl P x≤pl P (worstGo P w l))∧ (0≤w→ (worstGo P w l=w∨worstGo P w l ∈ l)∧pl P w≤pl P (worstGo P w l)∧ ∀ x ∈ l,pl P x≤pl P (worstGo P w l))
 | [],w,_=>⟨fun _=> .inl ⟨rfl,rfl⟩,fun _=>⟨.inl rfl,Int.le_refl _,fun x hx=>by simp at hx⟩⟩
 |g::r,w,h=>by
  have hg:=h g (List.mem_cons_self ..)
  have hr:∀ x ∈ r,0≤x:=fun x hx=>h x (List.mem_cons_of_mem _ hx)
  rw [worstGo]
  constructor
  ·intro hw
   rw [if_pos hw]
   obtain⟨h1,h2,h3⟩:=(worstGo_ok P r g hr).2 hg
   refine .inr ⟨?_,fun x hx=>?_⟩
   ·rcases h1 with h1|h1
    ·rw [h1];exact List.mem_cons_self ..
    ·exact List.mem_cons_of_mem _ h1
   ·rcases List.mem_cons.1 hx with rfl|hx
    ·exact h2
    ·exact h3 x hx
  ·intro hw
   rw [if_neg (by omega)]
   by_cases hp:pl P g > pl P w
   ·rw [if_pos hp]
    obtain⟨h1,h2,h3⟩:=(worstGo_ok P r g hr).2 hg
    refine⟨.inr ?_,by omega,fun x hx=>?_⟩
    ·rcases h1 with h1|h1
     ·rw [h1];exact List.mem_cons_self ..
     ·exact List.mem_cons_of_mem _ h1
    ·rcases List.mem_cons.1 hx with rfl|hx
     ·exact h2
     ·exact h3 x hx
   ·rw [if_neg hp]
    obtain⟨h1,h2,h3⟩:=(worstGo_ok P r w hr).2 hw
    refine⟨?_,h2,fun x hx=>?_⟩
    ·rcases h1 with h1|h1
     ·exact .inl h1
     ·exact .inr (List.mem_cons_of_mem _ h1)
    ·rcases List.mem_cons.1 hx with rfl|hx
     ·omega
     ·exact h3 x hx
/-- nobody, or the last in the server's list of all who have it -/
theorem worst_ok (f1:List (List Int)) (m:List Int) (s:Int):(worstM f1 m s= -1∧ ∀ x:Int,0≤x→x<m.length→rd m x≠s)∨ (0≤worstM f1 m s∧worstM f1 m s<m.length∧rd m (worstM f1 m s)=s∧ ∀ x:Int,0≤x→x<m.length→rd m x=s→pl (row_ f1 s) x≤pl (row_ f1 s) (worstM f1 m s)):=by
 have h:=(worstGo_ok (row_ f1 s) (hasGo s m 0) (-1) (fun x hx=>(has_iff.1 hx).1)).1 (by omega)
 rcases h with ⟨h1,h2⟩|⟨h1,h2⟩
 ·refine .inl ⟨h1,fun x h0 hx e=>?_⟩
  have:x ∈ hasGo s m 0:=has_iff.2 ⟨h0,hx,e⟩
  rw [h2] at this
  simp at this
 ·have:=has_iff.1 h1
  exact .inr ⟨this.1,this.2.1,this.2.2,fun x h0 hx e=>h2 x (has_iff.2 ⟨h0,hx,e⟩)⟩
theorem specWorst_l (f0 f1:List (List Int)) (f2:List Int) (s:Int) (h0: 0≤s) (h1:s<f1.length) (hb:(row_ f1 s).length≤1048576) (suf:List Int):∀ (pre:List Int) (w:Int),((pre++suf).length:Int)≤1048576→
  Ev (fun k=>spec_l12Worst.l0 k s w (pre++suf) ((pre++suf).length:Int) pre.length f0 f1 f2) (worstGo (row_ f1 s) w suf):=by
 induction suf with
 |nil=>
  intro pre w h
  refine Ev.succ ?_
  simp only [spec_l12Worst.l0,List.append_nil,Int.lt_irrefl,if_false,worstGo]
  exact Ev.now _
 |cons g suf ih=>
  intro pre w h
  refine Ev.succ ?_
  rw [len_mid] at h ⊢
  have:=fun w=>ih (pre++ [g]) w (by rw [← app_one,len_mid];exact h)
  rw [← app_one,len_mid,len_one] at this
  simp only [spec_l12Worst.l0,worstGo]
  simp only [if_pos (show ((pre.length:Int)<pre.length+suf.length+1) by omega),if_pos (show (0:Int)≤pre.length by omega),len_mid,rd_mid,wrap_id (show (-9223372036854775808:Int)≤pre.length+1 by omega) (show ((pre.length:Int)+1≤9223372036854775807) by omega),rowL_is]
  by_cases hw:w< 0
  ·simp only [if_pos hw]
   exact this g
  ·simp only [if_neg hw,if_pos h0,if_pos h1]
   refine Ev.bind (plEv g _ (by omega)) ?_
   refine Ev.bind (plEv w _ (by omega)) ?_
   by_cases hp:pl (row_ f1 s) g > pl (row_ f1 s) w
   ·simp only [if_pos hp]
    exact this g
   ·simp only [if_neg hp]
    exact this w
theorem specWorst_ev (f0 f1:List (List Int)) (f2 m:List Int) (s:Int) (h0: 0≤s) (h1:s<f1.length) (hb:(row_ f1 s).length≤1048576) (hm:m.length≤1000):Ev (fun k=>spec_l12Worst.f k f0 f1 f2 m s) (worstM f1 m s):=by
 unfold spec_l12Worst.f
 refine Ev.bind (l12Has_ev m s (by omega)) ?_
 have hl:=hasGo_len s m 0
 have hc:=cnt_le m s
 have:=specWorst_l f0 f1 f2 s h0 h1 hb (hasGo s m 0) [] (-1) (by rw [List.nil_append,hl];omega)
 exact this
def wouldM (f1:List (List Int)) (f2 m:List Int) (s g:Int):Bool:=decide ((cnt m s:Int)<rd f2 s) || (decide (worstM f1 m s≥0) && decide (pl (row_ f1 s) g<pl (row_ f1 s) (worstM f1 m s)))
theorem would_iff (f1:List (List Int)) (f2 m:List Int) (s g:Int):wouldM f1 f2 m s g=true↔Would f1 f2 m s g:=by
 unfold wouldM Would
 rw [Bool.or_eq_true,Bool.and_eq_true,decide_eq_true_eq,decide_eq_true_eq,decide_eq_true_eq]
 rcases worst_ok f1 m s with ⟨h1,h2⟩|⟨h1,h2,h3,h4⟩
 ·rw [h1]
  constructor
  ·rintro(h|h)
   ·exact .inl h
   ·omega
  ·rintro(h|⟨x,h0,hx,e,_⟩)
   ·exact .inl h
   ·exact absurd e (h2 x h0 hx)
 ·constructor
  ·rintro(h|h)
   ·exact .inl h
   ·exact .inr ⟨_,h1,h2,h3,h.2⟩
  ·rintro(h|⟨x,h0,hx,e,hlt⟩)
   ·exact .inl h
   ·have:=h4 x h0 hx e
    exact .inr ⟨h1,by omega⟩
theorem specWould_ev (f0 f1:List (List Int)) (f2 m:List Int) (s g:Int) (h0: 0≤s) (h1:s<f1.length) (h2:s<f2.length) (hb:(row_ f1 s).length≤1048576) (hm:m.length≤1000):Ev (fun k=>spec_l12Would.f k f0 f1 f2 m s g) (wouldM f1 f2 m s g):=by
 unfold spec_l12Would.f wouldM
 refine Ev.bind (l12Has_ev m s (by omega)) ?_
 simp only [if_pos h0,if_pos h2,hasGo_len]
 by_cases hc:(cnt m s:Int)<rd f2 s
 ·simp only [if_pos hc,decide_eq_true hc,Bool.true_or]
  exact Ev.now _
 ·simp only [if_neg hc,decide_eq_false hc,Bool.false_or]
  refine Ev.bind (specWorst_ev f0 f1 f2 m s h0 h1 hb hm) ?_
  by_cases hw:worstM f1 m s≥0
  ·simp only [if_pos hw,if_pos h1,decide_eq_true hw,Bool.true_and,rowL_is]
   refine Ev.bind (plEv g _ (by omega)) ?_
   exact Ev.bind (plEv _ _ (by omega)) (Ev.now _)
  ·simp only [if_neg hw,decide_eq_false hw,Bool.false_and]
   exact Ev.now _
/-- the last of a list who has the server -/
def lastGo (m:List Int) (s:Int):Int→List Int→Int
 |w,[]=>w
 |w,g::r=>lastGo m s (if rd m g=s then g else w) r
theorem implLast_l (m:List Int) (s:Int) (suf:List Int):∀ (pre:List Int) (w:Int),((pre++suf).length:Int)≤1048576→ (∀ x ∈ suf,0≤x∧x<m.length)→
  Ev (fun k=>impl_last.l0 k m s w (pre++suf) ((pre++suf).length:Int) pre.length) (lastGo m s w suf):=by
 induction suf with
 |nil=>
  intro pre w h hx
  refine Ev.succ ?_
  simp only [impl_last.l0,List.append_nil,Int.lt_irrefl,if_false,lastGo]
  exact Ev.now _
 |cons g suf ih=>
  intro pre w h hx
  refine Ev.succ ?_
  rw [len_mid] at h ⊢
  have hg:=hx g (List.mem_cons_self ..)
  have:=fun w=>ih (pre++ [g]) w (by rw [← app_one,len_mid];exact h) (fun x hm=>hx x (List.mem_cons_of_mem _ hm))
  rw [← app_one,len_mid,len_one] at this
  simp only [impl_last.l0,lastGo]
  simp only [if_pos (show ((pre.length:Int)<pre.length+suf.length+1) by omega),if_pos (show (0:Int)≤pre.length by omega),len_mid,rd_mid,wrap_id (show (-9223372036854775808:Int)≤pre.length+1 by omega) (show ((pre.length:Int)+1≤9223372036854775807) by omega),if_pos hg.1,if_pos hg.2]
  by_cases hs:rd m g=s
  ·simp only [if_pos hs]
   exact this g
  ·simp only [if_neg hs]
   exact this w
theorem rd_of_mid (pre:List Int) (x:Int) (suf:List Int):rd (pre++x::suf) (pre.length:Int)=x:=rd_mid pre x suf
theorem lastGo_ok {n:Int} {P:List Int} (hp:Perm_ n P) (m:List Int) (s:Int) (suf:List Int):∀ (pre:List Int) (w:Int),pre++suf=P→
  ((w= -1∧ ∀ x ∈ pre,rd m x≠s)∨ (w ∈ pre∧rd m w=s∧ ∀ x ∈ pre,rd m x=s→pl P x≤pl P w))→
  (lastGo m s w suf= -1∧ ∀ x ∈ P,rd m x≠s)∨ (lastGo m s w suf ∈ P∧rd m (lastGo m s w suf)=s∧ ∀ x ∈ P,rd m x=s→pl P x≤pl P (lastGo m s w suf)):=by
 induction suf with
 |nil=>
  intro pre w h hw
  rw [List.append_nil] at h
  subst h
  exact hw
 |cons g suf ih=>
  intro pre w h hw
  rw [lastGo]
  refine ih (pre++ [g]) _ (by rw [← app_one];exact h) ?_
  have hgP:g ∈ P:=by rw [← h];simp
  have hlg:=hp.low g hgP
  have hplg:pl P g=pre.length:=by
   have hk:(pre.length:Int)<n:=by
    have:=hp.len
    rw [← h,len_mid] at this
    omega
   have e:=hp.pl_rd (k:=(pre.length:Int)) (by omega) hk
   rwa [show rd P (pre.length:Int)=g by rw [← h];exact rd_of_mid pre g suf] at e
  have hpre:∀ x ∈ pre,pl P x≤pre.length:=by
   intro x hx
   obtain⟨i,hi,hxi⟩:=List.getElem_of_mem hx
   have hi2:(i:Int)<n:=by
    have:=hp.len
    rw [← h,len_mid] at this
    omega
   have e:=hp.pl_rd (k:=(i:Int)) (by omega) hi2
   have hr:rd P (i:Int)=x:=by
    rw [← h]
    unfold rd
    rw [Int.toNat_natCast,List.getD_eq_getElem?_getD,List.getElem?_append_left hi,List.getElem?_eq_getElem hi,hxi]
    rfl
   rw [hr] at e
   omega
  by_cases hs:rd m g=s
  ·rw [if_pos hs]
   refine .inr ⟨by simp,hs,fun x hx _=>?_⟩
   rcases List.mem_append.1 hx with hx|hx
   ·rw [hplg]
    exact hpre x hx
   ·rw [List.mem_singleton.1 hx]
    exact Int.le_refl _
  ·rw [if_neg hs]
   rcases hw with ⟨h1,h2⟩|⟨h1,h2,h3⟩
   ·refine .inl ⟨h1,fun x hx=>?_⟩
    rcases List.mem_append.1 hx with hx|hx
    ·exact h2 x hx
    ·rw [List.mem_singleton.1 hx]
     exact hs
   ·refine .inr ⟨List.mem_append_left _ h1,h2,fun x hx e=>?_⟩
    rcases List.mem_append.1 hx with hx|hx
    ·exact h3 x hx e
    ·rw [List.mem_singleton.1 hx] at e
     exact absurd e hs
/-- both tell the same -/
theorem last_worst {f1:List (List Int)} {m:List Int} {s n:Int} (hp:Perm_ n (row_ f1 s)) (hm:(m.length:Int)=n):lastGo m s (-1) (row_ f1 s)=worstM f1 m s:=by
 have h1:=lastGo_ok hp m s (row_ f1 s) [] (-1) rfl (.inl ⟨rfl,fun x hx=>by simp at hx⟩)
 rcases h1 with ⟨a1,a2⟩|⟨a1,a2,a3⟩
 ·rcases worst_ok f1 m s with ⟨b1,_⟩|⟨b1,b2,b3,_⟩
  ·rw [a1,b1]
  ·exact absurd b3 (a2 _ (hp.mem b1 (by omega)))
 ·have al:=hp.low _ a1
  rcases worst_ok f1 m s with ⟨b1,b2⟩|⟨b1,b2,b3,b4⟩
  ·exact absurd a2 (b2 _ al.1 (by omega))
  ·have c1:=a3 _ (hp.mem b1 (by omega)) b3
   have c2:=b4 _ al.1 (by omega) a2
   exact hp.pl_inj al.1 al.2 b1 (by omega) (by omega)
theorem implLast_ev (f0 f1:List (List Int)) (f2 m:List Int) (s:Int) (h0: 0≤s) (h1:s<f1.length) {n:Int} (hp:Perm_ n (row_ f1 s)) (hn:n≤1000) (hm:(m.length:Int)=n):Ev (fun k=>impl_last.f k f0 f1 f2 m s) (worstM f1 m s):=by
 have hl:=hp.len
 unfold impl_last.f
 simp only [if_pos h0,if_pos h1,rowL_is]
 rw [← last_worst hp hm]
 have:=implLast_l m s (row_ f1 s) [] (-1) (by rw [List.nil_append];omega) (fun x hx=>by have:=hp.low x hx;omega)
 exact this
def takesM (f1:List (List Int)) (f2 m:List Int) (s g:Int):Int × Bool:=if (cnt m s:Int)<rd f2 s then(-1,true) else if worstM f1 m s< 0 then(-1,false) else if pl (row_ f1 s) (worstM f1 m s)<pl (row_ f1 s) g then(-1,false) else(worstM f1 m s,true)
theorem implTakes_ev {f0 f1:List (List Int)} {f2 m:List Int} {G S:Int} (w:WOk f0 f1 f2 G S) (hG:G≤1000) (hS:S≤1000) (hm:(m.length:Int)=G) (hs:∀ x ∈ m, -1≤x∧x<f1.length) (s g:Int) (h0: 0≤s) (h1:s<S) (hg: 0≤g) (hg1:g<G):Ev (fun k=>impl_takes.f k f0 f1 f2 m s g) (takesM f1 f2 m s g):=by
 have ws:=w.s
 have wr:=w.r
 have hp:=w.ps s h0 h1
 obtain⟨r,e,hr,hrd⟩:=loads_ev f0 f1 f2 m (by omega) (by omega) hs
 unfold impl_takes.f takesM
 refine Ev.bind e ?_
 simp only [if_pos h0,if_pos (show s< (r.length:Int) by omega),if_pos (show s< (f2.length:Int) by omega),hrd s h0]
 by_cases hc:(cnt m s:Int)<rd f2 s
 ·simp only [if_pos hc]
  exact Ev.now _
 ·simp only [if_neg hc]
  refine Ev.bind (implLast_ev f0 f1 f2 m s h0 (by omega) hp hG hm) ?_
  by_cases hw:worstM f1 m s< 0
  ·simp only [if_pos hw]
   exact Ev.now _
  ·simp only [if_neg hw,if_pos (show s< (f1.length:Int) by omega),rowL_is]
   have hb:worstM f1 m s<G:=by
    rcases worst_ok f1 m s with ⟨b1,_⟩|⟨_,b2,_,_⟩<;>omega
   refine Ev.bind (ixEv hp hG (by omega) hb) ?_
   refine Ev.bind (ixEv hp hG hg hg1) ?_
   by_cases hq:pl (row_ f1 s) (worstM f1 m s)<pl (row_ f1 s) g
   ·simp only [if_pos hq]
    exact Ev.now _
   ·simp only [if_neg hq]
    exact Ev.now _
theorem takes_would {f0 f1:List (List Int)} {f2 m:List Int} {G S:Int} (w:WOk f0 f1 f2 G S) (hm:(m.length:Int)=G) {s g:Int} (h0: 0≤s) (h1:s<S) (hg: 0≤g) (hg1:g<G) (hne:rd m g≠s):(takesM f1 f2 m s g).2=wouldM f1 f2 m s g:=by
 have hp:=w.ps s h0 h1
 unfold takesM wouldM
 by_cases hc:(cnt m s:Int)<rd f2 s
 ·rw [if_pos hc,decide_eq_true hc,Bool.true_or]
 ·rw [if_neg hc,decide_eq_false hc,Bool.false_or]
  by_cases hw:worstM f1 m s< 0
  ·rw [if_pos hw,decide_eq_false (show ¬ worstM f1 m s≥0 by omega),Bool.false_and]
  ·rw [if_neg hw,decide_eq_true (show worstM f1 m s≥0 by omega),Bool.true_and]
   have hb:worstM f1 m s<G∧rd m (worstM f1 m s)=s:=by
    rcases worst_ok f1 m s with ⟨b1,_⟩|⟨_,b2,b3,_⟩
    ·omega
    ·exact⟨by omega,b3⟩
   have hq:pl (row_ f1 s) g≠pl (row_ f1 s) (worstM f1 m s):=fun c=>hne (by rw [hp.pl_inj hg hg1 (by omega) hb.1 c];exact hb.2)
   by_cases hlt:pl (row_ f1 s) (worstM f1 m s)<pl (row_ f1 s) g
   ·rw [if_pos hlt,decide_eq_false (by omega)]
   ·rw [if_neg hlt,decide_eq_true (by omega)]
-- who is in the way of a match: the program and the reference
def blk (f0 f1:List (List Int)) (f2 m:List Int) (g s:Int):Bool:=decide (pl (row_ f0 g) s<pl (row_ f0 g) (rd m g)) && wouldM f1 f2 m s g
theorem blk_iff (f0 f1:List (List Int)) (f2 m:List Int) (g s:Int):blk f0 f1 f2 m g s=true↔Blocks f0 f1 f2 m g s:=by
 unfold blk Blocks
 rw [Bool.and_eq_true,decide_eq_true_eq,would_iff]
/-- the first from j on, d of them, that a test takes -/
def blkS (p:Int→Bool):Nat→Int→Option Int
 | 0,_=>none
 |d+1,j=>if p j=true then some j else blkS p d (j+1)
def blkG (p:Int→Int→Bool) (S:Nat):Nat→Int→Option (Int × Int)
 | 0,_=>none
 |d+1,g=>match blkS (p g) S 0 with
  |some s=>some (g,s)
  |none=>blkG p S d (g+1)
theorem blkS_ok (p:Int→Bool):∀ (d:Nat) (j:Int),match blkS p d j with
  |some s=>p s=true∧j≤s∧s<j+d
  |none=> ∀ s:Int,j≤s→s<j+d→p s=false
 | 0,j=>fun s h0 h1=>by omega
 |d+1,j=>by
  have ih:=blkS_ok p d (j+1)
  rw [blkS]
  by_cases h:p j=true
  ·rw [if_pos h]
   exact⟨h,by omega,by omega⟩
  ·rw [if_neg h]
   cases hb:blkS p d (j+1) with
   |some s=>
    rw [hb] at ih
    exact⟨ih.1,by have:=ih.2.1;omega,by have:=ih.2.2;omega⟩
   |none=>
    rw [hb] at ih
    intro s h0 h1
    by_cases e:s=j
    ·subst e
     exact Bool.eq_false_iff.2 h
    ·exact ih s (by omega) (by omega)
theorem blkG_ok (p:Int→Int→Bool) (S:Nat):∀ (d:Nat) (g:Int),match blkG p S d g with
  |some (x,s)=>p x s=true∧g≤x∧x<g+d∧0≤s∧s<S
  |none=> ∀ x s:Int,g≤x→x<g+d→0≤s→s<S→p x s=false
 | 0,g=>fun x s h0 h1=>by omega
 |d+1,g=>by
  have ih:=blkG_ok p S d (g+1)
  have hs:=blkS_ok (p g) S 0
  rw [blkG]
  cases hb:blkS (p g) S 0 with
  |some s=>
   rw [hb] at hs
   exact⟨hs.1,by omega,by omega,hs.2.1,by have:=hs.2.2;omega⟩
  |none=>
   rw [hb] at hs
   dsimp only
   cases hq:blkG p S d (g+1) with
   |some q=>
    obtain⟨x,s⟩:=q
    rw [hq] at ih
    exact⟨ih.1,by have:=ih.2.1;omega,by have:=ih.2.2.1;omega,ih.2.2.2⟩
   |none=>
    rw [hq] at ih
    intro x s h0 h1 h2 h3
    by_cases e:x=g
    ·subst e
     exact hs s h2 (by omega)
    ·exact ih x s (by omega) (by omega) h2 h3
def blockM (f0 f1:List (List Int)) (f2 m:List Int):Option (Int × Int):=blkG (blk f0 f1 f2 m) f1.length f0.length 0
structure Bd (f0 f1:List (List Int)) (f2 m:List Int):Prop where
 w:WOk f0 f1 f2 f0.length f1.length
 lg:f0.length≤8
 ls:f1.length≤8
 lm:m.length=f0.length
 lr:f2.length=f1.length
 low:∀ x ∈ m, -1≤x∧x<f1.length
theorem bd_of {f0 f1:List (List Int)} {f2 m:List Int} (h:goodM f0 f1 f2 m=true):Bd f0 f1 f2 m:=by
 have h':=h
 unfold goodM at h'
 rw [Bool.and_eq_true,Bool.and_eq_true,Bool.and_eq_true,decide_eq_true_eq] at h'
 have hl:=goodW_len h'.1
 refine⟨wOk_of h'.1,by omega,by omega,by omega,by omega,fun x hx=>?_⟩
 have:=allIn_mem h'.2.2.1 x hx
 rw [wrap_id (by omega) (by omega)] at this
 omega
theorem bd_at {f0 f1:List (List Int)} {f2 m:List Int} (h:Bd f0 f1 f2 m) {g:Int} (h0: 0≤g) (h1:g<m.length): -1≤rd m g∧rd m g<f1.length:=by
 have hm:=rd_mem (l:=m) (k:=g.toNat) (by omega)
 rw [show ((g.toNat:Nat):Int)=g by omega] at hm
 exact h.low _ hm
theorem specBlock_l1 {f0 f1:List (List Int)} {f2 m:List Int} (h:Bd f0 f1 f2 m) {g:Int} (h0: 0≤g) (h1:g<f0.length) (R:Int × Int)
  (hR:Ev (fun k=>spec_l12Block.l0 k m (f0.length:Int) (wrap64 (g+1)) f0 f1 f2) R) (d:Nat):∀ (j:Int),0≤j→j+d=f1.length→
  Ev (fun k=>spec_l12Block.l1 k m g (f0.length:Int) g (f1.length:Int) j f0 f1 f2) (match blkS (blk f0 f1 f2 m g) d j with
   |some s=>(g,s)
   |none=>R):=by
 have hg:=h.lg
 have hs:=h.ls
 have hm:=h.lm
 have hr:=h.lr
 have hp:=h.w.pg g h0 h1
 have hpl:=hp.len
 induction d with
 |zero=>
  intro j hj hd
  refine Ev.succ ?_
  simp only [spec_l12Block.l1,if_neg (show ¬ j< (f1.length:Int) by omega),blkS]
  exact hR
 |succ d ih=>
  intro j hj hd
  refine Ev.succ ?_
  have h':=ih (j+1) (by omega) (by omega)
  have hps:=h.w.ps j hj (by omega)
  have hpsl:=hps.len
  simp only [spec_l12Block.l1,if_pos (show j< (f1.length:Int) by omega),if_pos h0,if_pos h1,rowL_is,wrap_id (show (-9223372036854775808:Int)≤j+1 by omega) (show (j+1≤9223372036854775807) by omega)]
  refine Ev.bind (plEv j _ (by omega)) ?_
  simp only [if_pos (show g< (m.length:Int) by omega)]
  refine Ev.bind (plEv (rd m g) _ (by omega)) ?_
  rw [blkS]
  unfold blk at h' ⊢
  by_cases hlt:pl (row_ f0 g) j<pl (row_ f0 g) (rd m g)
  ·simp only [if_pos hlt,decide_eq_true hlt,Bool.true_and]
   refine Ev.bind (specWould_ev f0 f1 f2 m j g hj (by omega) (by omega) (by omega) (by omega)) ?_
   by_cases hw:wouldM f1 f2 m j g=true
   ·simp only [if_pos hw]
    exact Ev.now _
   ·simp only [if_neg hw]
    exact h'
  ·simp only [if_neg hlt,decide_eq_false hlt,Bool.false_and,Bool.false_eq_true,if_false]
   exact h'
theorem specBlock_l0 {f0 f1:List (List Int)} {f2 m:List Int} (h:Bd f0 f1 f2 m) (d:Nat):∀ (g:Int),0≤g→g+d=f0.length→
  Ev (fun k=>spec_l12Block.l0 k m (f0.length:Int) g f0 f1 f2) ((blkG (blk f0 f1 f2 m) f1.length d g).getD (-1, -1)):=by
 have hg:=h.lg
 induction d with
 |zero=>
  intro g h0 hd
  refine Ev.succ ?_
  simp only [spec_l12Block.l0,if_neg (show ¬ g< (f0.length:Int) by omega),blkG]
  exact Ev.now _
 |succ d ih=>
  intro g h0 hd
  refine Ev.succ ?_
  have h':=ih (g+1) (by omega) (by omega)
  simp only [spec_l12Block.l0,if_pos (show g< (f0.length:Int) by omega)]
  have:=specBlock_l1 h h0 (by omega) _ (by rw [wrap_id (show (-9223372036854775808:Int)≤g+1 by omega) (show (g+1≤9223372036854775807) by omega)];exact h') f1.length 0 (by omega) (by omega)
  rw [blkG]
  cases hb:blkS (blk f0 f1 f2 m g) f1.length 0 with
  |some s=>
   rw [hb] at this
   exact this
  |none=>
   rw [hb] at this
   exact this
theorem specBlock_ev {f0 f1:List (List Int)} {f2 m:List Int} (h:Bd f0 f1 f2 m):Ev (fun k=>spec_l12Block.f k f0 f1 f2 m) ((blockM f0 f1 f2 m).getD (-1, -1)):=specBlock_l0 h f0.length 0 (by omega) (by omega)
/-- the places of all groups' servers in their lists -/
def ranksGo (f0:List (List Int)):Int→List Int→List Int
 |_,[]=> []
 |g,x::r=>pl (row_ f0 g) x::ranksGo f0 (g+1) r
theorem ranksGo_len (f0:List (List Int)):∀ (l:List Int) (g:Int),(ranksGo f0 g l).length=l.length
 | [],_=>rfl
 |x::r,g=>by rw [ranksGo,List.length_cons,ranksGo_len f0 r,List.length_cons]
theorem ranksGo_at (f0:List (List Int)):∀ (l:List Int) (g:Int) (j:Nat),j<l.length→rd (ranksGo f0 g l) j=pl (row_ f0 (g+j)) (rd l j)
 | [],_,j,h=>by simp at h
 |x::r,g,0,_=>by
  show pl (row_ f0 g) x=pl (row_ f0 (g+0)) x
  rw [Int.add_zero]
 |x::r,g,j+1,h=>by
  have:=ranksGo_at f0 r (g+1) j (by simpa using h)
  rw [show g+1+ (j:Int)=g+ ((j+1:Nat):Int) by omega] at this
  exact this
theorem implRanks_l {f0 f1:List (List Int)} {f2:List Int} (w:WOk f0 f1 f2 f0.length f1.length) (hg8:f0.length≤8) (hs8:f1.length≤8) (suf:List Int):∀ (pre out:List Int),((pre++suf).length:Int)=f0.length→out.length≤pre.length→ (∀ x ∈ suf, -1≤x∧x<f1.length)→
  Ev (fun k=>impl_ranks.l0 k out (pre++suf) ((pre++suf).length:Int) pre.length f0 f1 f2) (out++ranksGo f0 pre.length suf):=by
 induction suf with
 |nil=>
  intro pre out h ho hx
  refine Ev.succ ?_
  simp only [impl_ranks.l0,List.append_nil,Int.lt_irrefl,if_false,ranksGo]
  exact Ev.now _
 |cons x suf ih=>
  intro pre out h ho hx
  refine Ev.succ ?_
  rw [len_mid] at h ⊢
  have hxx:=hx x (List.mem_cons_self ..)
  have:=fun o ho=>ih (pre++ [x]) o (by rw [← app_one,len_mid];exact h) ho (fun y hm=>hx y (List.mem_cons_of_mem _ hm))
  rw [← app_one,len_mid,len_one] at this
  have hp:=w.pg pre.length (by omega) (by omega)
  have h2:=this (out++ [pl (row_ f0 pre.length) x]) (by simp only [List.length_append,List.length_singleton];omega)
  rw [← app_one] at h2
  simp only [impl_ranks.l0,ranksGo]
  simp only [if_pos (show ((pre.length:Int)<pre.length+suf.length+1) by omega),if_pos (show (0:Int)≤pre.length by omega),len_mid,rd_mid,wrap_id (show (-9223372036854775808:Int)≤pre.length+1 by omega) (show ((pre.length:Int)+1≤9223372036854775807) by omega),rowL_is]
  by_cases hn:x≥0
  ·simp only [if_pos hn,if_pos (show (pre.length:Int)< (f0.length:Int) by omega)]
   refine Ev.bind (ixEv hp (by omega) hn hxx.2) ?_
   simp only [if_pos (show out.length< 17592186044416 by omega)]
   exact h2
  ·simp only [if_neg hn,if_pos (show out.length< 17592186044416 by omega)]
   rw [hp.pl_out (by omega)] at h2 ⊢
   exact h2
def ranksM (f0:List (List Int)) (m:List Int):List Int:=ranksGo f0 0 m
theorem ranksM_len (f0:List (List Int)) (m:List Int):(ranksM f0 m).length=m.length:=ranksGo_len f0 m 0
theorem ranksM_at (f0:List (List Int)) (m:List Int) {g:Int} (h0: 0≤g) (h1:g<m.length):rd (ranksM f0 m) g=pl (row_ f0 g) (rd m g):=by
 have:=ranksGo_at f0 m 0 g.toNat (by omega)
 rw [show (0:Int)+ ((g.toNat:Nat):Int)=g by omega,show ((g.toNat:Nat):Int)=g by omega] at this
 exact this
theorem implRanks_ev {f0 f1:List (List Int)} {f2 m:List Int} (h:Bd f0 f1 f2 m):Ev (fun k=>impl_ranks.f k f0 f1 f2 m) (ranksM f0 m):=by
 have:=implRanks_l h.w h.lg h.ls m [] [] (by have:=h.lm;simp only [List.nil_append];omega) (by simp) h.low
 exact this
theorem implBlock_l1 {f0 f1:List (List Int)} {f2 m:List Int} (h:Bd f0 f1 f2 m) {g:Int} (h0: 0≤g) (h1:g<f0.length) (R:Int × Int × Bool)
  (hR:Ev (fun k=>impl_blocking.l0 k m (ranksM f0 m) (f0.length:Int) (wrap64 (g+1)) f0 f1 f2) R) (d:Nat):∀ (j:Int),0≤j→j+d=f1.length→
  Ev (fun k=>impl_blocking.l1 k m (ranksM f0 m) g (f0.length:Int) g (f1.length:Int) j f0 f1 f2) (match blkS (blk f0 f1 f2 m g) d j with
   |some s=>(g,s,true)
   |none=>R):=by
 have hg:=h.lg
 have hs:=h.ls
 have hm:=h.lm
 have hr:=h.lr
 have hp:=h.w.pg g h0 h1
 have hpl:=hp.len
 have hat:=bd_at h h0 (show g<m.length by omega)
 induction d with
 |zero=>
  intro j hj hd
  refine Ev.succ ?_
  simp only [impl_blocking.l1,if_neg (show ¬ j< (f1.length:Int) by omega),blkS]
  exact hR
 |succ d ih=>
  intro j hj hd
  refine Ev.succ ?_
  have h':=ih (j+1) (by omega) (by omega)
  simp only [impl_blocking.l1,if_pos (show j< (f1.length:Int) by omega),if_pos h0,if_pos h1,rowL_is,wrap_id (show (-9223372036854775808:Int)≤j+1 by omega) (show (j+1≤9223372036854775807) by omega)]
  refine Ev.bind (ixEv hp (by omega) hj (by omega)) ?_
  simp only [ranksM_len,if_pos (show g< (m.length:Int) by omega),ranksM_at f0 m h0 (show g<m.length by omega)]
  rw [blkS]
  unfold blk at h' ⊢
  by_cases hlt:pl (row_ f0 g) j<pl (row_ f0 g) (rd m g)
  ·have hne:rd m g≠j:=fun e=>by rw [e] at hlt;omega
   simp only [if_neg (show ¬ pl (row_ f0 g) j≥pl (row_ f0 g) (rd m g) by omega),decide_eq_true hlt,Bool.true_and]
   refine Ev.bind (implTakes_ev h.w (by omega) (by omega) (by omega) h.low j g hj (by omega) h0 h1) ?_
   rw [takes_would h.w (by omega) hj (by omega) h0 h1 hne]
   by_cases hw:wouldM f1 f2 m j g=true
   ·simp only [if_pos hw]
    exact Ev.now _
   ·simp only [if_neg hw]
    exact h'
  ·simp only [if_pos (show pl (row_ f0 g) j≥pl (row_ f0 g) (rd m g) by omega),decide_eq_false hlt,Bool.false_and,Bool.false_eq_true,if_false]
   exact h'
theorem implBlock_l0 {f0 f1:List (List Int)} {f2 m:List Int} (h:Bd f0 f1 f2 m) (d:Nat):∀ (g:Int),0≤g→g+d=f0.length→
  Ev (fun k=>impl_blocking.l0 k m (ranksM f0 m) (f0.length:Int) g f0 f1 f2) (match blkG (blk f0 f1 f2 m) f1.length d g with
   |some p=>(p.1,p.2,true)
   |none=>(0,0,false)):=by
 have hg:=h.lg
 induction d with
 |zero=>
  intro g h0 hd
  refine Ev.succ ?_
  simp only [impl_blocking.l0,if_neg (show ¬ g< (f0.length:Int) by omega),blkG]
  exact Ev.now _
 |succ d ih=>
  intro g h0 hd
  refine Ev.succ ?_
  have h':=ih (g+1) (by omega) (by omega)
  simp only [impl_blocking.l0,if_pos (show g< (f0.length:Int) by omega)]
  have:=implBlock_l1 h h0 (by omega) _ (by rw [wrap_id (show (-9223372036854775808:Int)≤g+1 by omega) (show (g+1≤9223372036854775807) by omega)];exact h') f1.length 0 (by omega) (by omega)
  rw [blkG]
  cases hb:blkS (blk f0 f1 f2 m g) f1.length 0 with
  |some s=>
   rw [hb] at this
   exact this
  |none=>
   rw [hb] at this
   exact this
def blockR (f0 f1:List (List Int)) (f2 m:List Int):Int × Int × Bool:=match blockM f0 f1 f2 m with
 |some p=>(p.1,p.2,true)
 |none=>(0,0,false)
theorem implBlocking_ev {f0 f1:List (List Int)} {f2 m:List Int} (h:Bd f0 f1 f2 m):Ev (fun k=>impl_blocking.f k f0 f1 f2 m) (blockR f0 f1 f2 m):=by
 unfold impl_blocking.f
 refine Ev.bind (implRanks_ev h) ?_
 exact implBlock_l0 h f0.length 0 (by omega) (by omega)
theorem block_low {f0 f1:List (List Int)} {f2 m:List Int} {p:Int × Int} (h:blockM f0 f1 f2 m=some p):blk f0 f1 f2 m p.1 p.2=true∧0≤p.1∧p.1<f0.length∧0≤p.2∧p.2<f1.length:=by
 have:=blkG_ok (blk f0 f1 f2 m) f1.length f0.length 0
 unfold blockM at h
 rw [h] at this
 obtain⟨x,s⟩:=p
 obtain⟨h1,h2,h3,h4,h5⟩:=this
 exact⟨h1,h2,by show x<_;omega,h4,h5⟩
def blockingIn (f0 f1:List (List Int)) (f2 m:List Int):Int × Int × Bool:=if goodM f0 f1 f2 m=true then blockR f0 f1 f2 m else(0,0,false)
def isStable (f0 f1:List (List Int)) (f2 m:List Int):Bool × Bool:=if goodM f0 f1 f2 m=true then(!(blockR f0 f1 f2 m).2.2,true) else(false,false)
theorem specBlockingIn_ev {f0 f1:List (List Int)} {f2:List Int} (ok:okW f0 f1 f2) (m:List Int) (hm:m.length≤1048576):Ev (fun k=>spec_BlockingIn.f k f0 f1 f2 m) (blockingIn f0 f1 f2 m):=by
 unfold spec_BlockingIn.f blockingIn
 refine Ev.bind (specGoodM_ev ok m hm) ?_
 by_cases h:goodM f0 f1 f2 m=true
 ·simp only [if_pos h]
  refine Ev.bind (specBlock_ev (bd_of h)) ?_
  unfold blockR
  cases hb:blockM f0 f1 f2 m with
  |some p=>
   have:=block_low hb
   simp only [Option.getD_some,if_neg (show ¬ p.1< 0 by omega)]
   exact Ev.now _
  |none=>
   simp only [Option.getD_none,if_pos (show (-1:Int)< 0 by omega)]
   exact Ev.now _
 ·simp only [if_neg h]
  exact Ev.now _
theorem implBlockingIn_ev {f0 f1:List (List Int)} {f2:List Int} (ok:okW f0 f1 f2) (m:List Int) (hm:m.length≤1048576):Ev (fun k=>impl_BlockingIn.f k f0 f1 f2 m) (blockingIn f0 f1 f2 m):=by
 unfold impl_BlockingIn.f blockingIn
 refine Ev.bind (implGoodM_ev ok m hm) ?_
 by_cases h:goodM f0 f1 f2 m=true
 ·simp only [if_pos h]
  exact Ev.bind (implBlocking_ev (bd_of h)) (Ev.now _)
 ·simp only [if_neg h]
  exact Ev.now _
theorem specIsStable_ev {f0 f1:List (List Int)} {f2:List Int} (ok:okW f0 f1 f2) (m:List Int) (hm:m.length≤1048576):Ev (fun k=>spec_IsStable.f k f0 f1 f2 m) (isStable f0 f1 f2 m):=by
 unfold spec_IsStable.f isStable
 refine Ev.bind (specGoodM_ev ok m hm) ?_
 by_cases h:goodM f0 f1 f2 m=true
 ·simp only [if_pos h]
  refine Ev.bind (specBlock_ev (bd_of h)) ?_
  refine Ev.some_ ?_
  unfold blockR
  cases hb:blockM f0 f1 f2 m with
  |some p=>
   have:=block_low hb
   simp only [Option.getD_some,decide_eq_false (show ¬ p.1< 0 by omega),Bool.not_true]
  |none=>rfl
 ·simp only [if_neg h]
  exact Ev.now _
theorem implIsStable_ev {f0 f1:List (List Int)} {f2:List Int} (ok:okW f0 f1 f2) (m:List Int) (hm:m.length≤1048576):Ev (fun k=>impl_IsStable.f k f0 f1 f2 m) (isStable f0 f1 f2 m):=by
 unfold impl_IsStable.f isStable
 refine Ev.bind (implGoodM_ev ok m hm) ?_
 by_cases h:goodM f0 f1 f2 m=true
 ·simp only [if_pos h]
  exact Ev.bind (implBlocking_ev (bd_of h)) (Ev.now _)
 ·simp only [if_neg h]
  exact Ev.now _
theorem rd_ext:∀ (a b:List Int),a.length=b.length→ (∀ j:Nat,j<a.length→rd a j=rd b j)→a=b
 | [],[],_,_=>rfl
 | [],_::_,h,_=>by simp at h
 |_::_,[],h,_=>by simp at h
 |x::a,y::b,h,g=>by
  have h0:x=y:=g 0 (by simp)
  rw [h0,rd_ext a b (by simpa using h) (fun j hj=>by
   have:=g (j+1) (by simpa using hj)
   exact this)]
def lds (m:List Int):Nat→List Int
 | 0=> []
 |c+1=>lds m c++ [(cnt m c:Int)]
theorem lds_len (m:List Int):∀ (c:Nat),(lds m c).length=c
 | 0=>rfl
 |c+1=>by rw [lds,List.length_append,lds_len m c];rfl
theorem lds_at (m:List Int):∀ (c j:Nat),j<c→rd (lds m c) j=cnt m j
 | 0,j,h=>by omega
 |c+1,j,h=>by
  have hl:=lds_len m c
  unfold rd
  rw [lds,Int.toNat_natCast,List.getD_eq_getElem?_getD]
  by_cases hj:j<c
  ·rw [List.getElem?_append_left (by omega)]
   have:=lds_at m c j hj
   unfold rd at this
   rw [Int.toNat_natCast,List.getD_eq_getElem?_getD] at this
   exact this
  ·obtain rfl:j=c:=by omega
   rw [List.getElem?_append_right (by omega),hl]
   simp
theorem specLoad_l (m:List Int) (hm:m.length≤1048576) (z:Nat) (hz:z≤1000) (d:Nat):∀ (c:Nat),c+d=z→Ev (fun k=>spec_LoadOf.l0 k m (lds m c) z c) (lds m z,true):=by
 induction d with
 |zero=>
  intro c hc
  refine Ev.succ ?_
  simp only [spec_LoadOf.l0,if_neg (show ¬ (c:Int)< (z:Int) by omega)]
  exact Ev.some_ (by rw [show z=c by omega])
 |succ d ih=>
  intro c hc
  refine Ev.succ ?_
  have hl:=lds_len m c
  simp only [spec_LoadOf.l0,if_pos (show (c:Int)< (z:Int) by omega),wrap_id (show (-9223372036854775808:Int)≤c+1 by omega) (show ((c:Int)+1≤9223372036854775807) by omega)]
  refine Ev.bind (l12Has_ev m c hm) ?_
  simp only [if_pos (show (lds m c).length< 17592186044416 by omega),hasGo_len]
  exact ih (c+1) (by omega)
def loadOf (f0 f1:List (List Int)) (f2 m:List Int):List Int × Bool:=if goodM f0 f1 f2 m=true then(lds m f1.length,true) else([],false)
theorem loadOf_len (f0 f1:List (List Int)) (f2 m:List Int):(loadOf f0 f1 f2 m).1.length≤8:=by
 unfold loadOf
 split
 ·rename_i h
  have:=(bd_of h).ls
  show (lds m f1.length).length≤8
  rw [lds_len]
  exact this
 ·simp
theorem specLoadOf_ev {f0 f1:List (List Int)} {f2:List Int} (ok:okW f0 f1 f2) (m:List Int) (hm:m.length≤1048576):Ev (fun k=>spec_LoadOf.f k f0 f1 f2 m) (loadOf f0 f1 f2 m):=by
 unfold spec_LoadOf.f loadOf
 refine Ev.bind (specGoodM_ev ok m hm) ?_
 by_cases h:goodM f0 f1 f2 m=true
 ·have:=(bd_of h).ls
  simp only [if_pos h]
  exact specLoad_l m hm f1.length (by omega) f1.length 0 (by omega)
 ·simp only [if_neg h]
  exact Ev.now _
theorem implLoadOf_ev {f0 f1:List (List Int)} {f2:List Int} (ok:okW f0 f1 f2) (m:List Int) (hm:m.length≤1048576):Ev (fun k=>impl_LoadOf.f k f0 f1 f2 m) (loadOf f0 f1 f2 m):=by
 unfold impl_LoadOf.f loadOf
 refine Ev.bind (implGoodM_ev ok m hm) ?_
 by_cases h:goodM f0 f1 f2 m=true
 ·have b:=bd_of h
  have hs:=b.ls
  simp only [if_pos h]
  obtain⟨r,er,hr,ha⟩:=loads_ev f0 f1 f2 m hm (by omega) b.low
  obtain rfl:r=lds m f1.length:=rd_ext _ _ (by rw [lds_len,hr]) (fun j hj=>by rw [ha j (by omega),lds_at m f1.length j (by omega)])
  exact Ev.bind er (Ev.now _)
 ·simp only [if_neg h]
  exact Ev.now _
theorem specRanks_l {f0 f1:List (List Int)} {f2:List Int} (w:WOk f0 f1 f2 f0.length f1.length) (hg8:f0.length≤8) (hs8:f1.length≤8) (suf:List Int):∀ (pre out:List Int),((pre++suf).length:Int)=f0.length→out.length≤pre.length→
  Ev (fun k=>spec_RanksOf.l0 k out (pre++suf) ((pre++suf).length:Int) pre.length f0 f1 f2) (out++ranksGo f0 pre.length suf,true):=by
 induction suf with
 |nil=>
  intro pre out h ho
  refine Ev.succ ?_
  simp only [spec_RanksOf.l0,List.append_nil,Int.lt_irrefl,if_false,ranksGo]
  exact Ev.now _
 |cons x suf ih=>
  intro pre out h ho
  refine Ev.succ ?_
  rw [len_mid] at h ⊢
  have hp:=w.pg pre.length (by omega) (by omega)
  have h2:=ih (pre++ [x]) (out++ [pl (row_ f0 pre.length) x]) (by rw [← app_one,len_mid];exact h) (by simp only [List.length_append,List.length_singleton];omega)
  rw [← app_one,len_mid,len_one] at h2
  rw [← app_one] at h2
  simp only [spec_RanksOf.l0,ranksGo]
  simp only [if_pos (show ((pre.length:Int)<pre.length+suf.length+1) by omega),if_pos (show (0:Int)≤pre.length by omega),len_mid,rd_mid,wrap_id (show (-9223372036854775808:Int)≤pre.length+1 by omega) (show ((pre.length:Int)+1≤9223372036854775807) by omega),rowL_is,if_pos (show (pre.length:Int)< (f0.length:Int) by omega)]
  refine Ev.bind (plEv x _ (by have:=hp.len;omega)) ?_
  simp only [if_pos (show out.length< 17592186044416 by omega)]
  exact h2
def ranksOf (f0 f1:List (List Int)) (f2 m:List Int):List Int × Bool:=if goodM f0 f1 f2 m=true then(ranksM f0 m,true) else([],false)
theorem ranksOf_len (f0 f1:List (List Int)) (f2 m:List Int):(ranksOf f0 f1 f2 m).1.length≤8:=by
 unfold ranksOf
 split
 ·rename_i h
  have b:=bd_of h
  have:=b.lm
  have:=b.lg
  show (ranksM f0 m).length≤8
  rw [ranksM_len]
  omega
 ·simp
theorem specRanksOf_ev {f0 f1:List (List Int)} {f2:List Int} (ok:okW f0 f1 f2) (m:List Int) (hm:m.length≤1048576):Ev (fun k=>spec_RanksOf.f k f0 f1 f2 m) (ranksOf f0 f1 f2 m):=by
 unfold spec_RanksOf.f ranksOf
 refine Ev.bind (specGoodM_ev ok m hm) ?_
 by_cases h:goodM f0 f1 f2 m=true
 ·have b:=bd_of h
  simp only [if_pos h]
  exact specRanks_l b.w b.lg b.ls m [] [] (by have:=b.lm;simp only [List.nil_append];omega) (by simp)
 ·simp only [if_neg h]
  exact Ev.now _
theorem implRanksOf_ev {f0 f1:List (List Int)} {f2:List Int} (ok:okW f0 f1 f2) (m:List Int) (hm:m.length≤1048576):Ev (fun k=>impl_RanksOf.f k f0 f1 f2 m) (ranksOf f0 f1 f2 m):=by
 unfold impl_RanksOf.f ranksOf
 refine Ev.bind (implGoodM_ev ok m hm) ?_
 by_cases h:goodM f0 f1 f2 m=true
 ·have b:=bd_of h
  simp only [if_pos h]
  exact Ev.bind (implRanks_ev b) (Ev.now _)
 ·simp only [if_neg h]
  exact Ev.now _
open Go.RowKit Go.Proofs.YtoipbblhmcpneaaW.PrintWords Go.Proofs.YtoipbblhmcpneaaW.PrintLast Go.Proofs.YtoipbblhmcpneaaW.PrintMore
attribute [local go_sem] max2_int min2_int max_two min_two max_three min_three max_four min_four   -- for this text's walks alone
mutual
def impl_MatchAll.l0:Nat→List Int→List Int→Int→Int→List (List Int)→List (List Int)→List Int→Option (List Int × Bool)
 | 0,_,_,_,_,_,_,_=>none
 |k+1,x4,x5,x23,x24,x665000,x665001,x665002=>if x24<x23 then(if 0≤x24 then(if x24< (x4.length:Int) then(impl_MatchAll.l0 k (x4.set (x24:Int).toNat (-1)) x5 x23 (wrap64 (x24+1)) x665000 x665001 x665002) else(none)) else(none)) else(impl_MatchAll.l1 k x4 x5 x665000 x665001 x665002)
def impl_MatchAll.l1:Nat→List Int→List Int→List (List Int)→List (List Int)→List Int→Option (List Int × Bool)
 | 0,_,_,_,_,_=>none
 |k+1,x4,x5,x665000,x665001,x665002=>impl_MatchAll.l2 k x4 x5 0 x665000 x665001 x665002
def impl_MatchAll.j3:Nat→List Int→List Int→Int→List (List Int)→List (List Int)→List Int→Option (List Int × Bool)
 | 0,_,_,_,_,_,_=>none
 |k+1,x4,x5,x7,x665000,x665001,x665002=>if x7= (x4.length:Int) then(some (x4,true)) else(if 0≤x7 then(if x7< (x665000.length:Int) then(if x7< (x5.length:Int) then(if 0≤ (rd x5 x7) then(if (rd x5 x7)< ((rd_L1 x665000 x7).length:Int) then((some (x5.set (x7:Int).toNat (wrap64 ((rd x5 x7)+1)):List Int)).bind fun y679=>((impl_takes.f k x665000 x665001 x665002 x4 (rd (rd_L1 x665000 x7) (rd x5 x7)) x7).bind fun bt680=>(if bt680.2=true then(if bt680.1≥0 then(if 0≤bt680.1 then(if bt680.1< (x4.length:Int) then(if x7< (x4.length:Int) then(impl_MatchAll.l1 k ((x4.set (bt680.1:Int).toNat (-1)).set (x7:Int).toNat (rd (rd_L1 x665000 x7) (rd x5 x7))) y679 x665000 x665001 x665002) else(none)) else(none)) else(none)) else(if x7< (x4.length:Int) then(impl_MatchAll.l1 k (x4.set (x7:Int).toNat (rd (rd_L1 x665000 x7) (rd x5 x7))) y679 x665000 x665001 x665002) else(none))) else(impl_MatchAll.l1 k x4 y679 x665000 x665001 x665002)))) else(none)) else(none)) else(none)) else(none)) else(none))
def impl_MatchAll.l2:Nat→List Int→List Int→Int→List (List Int)→List (List Int)→List Int→Option (List Int × Bool)
 | 0,_,_,_,_,_,_=>none
 |k+1,x4,x5,x7,x665000,x665001,x665002=>if x7< (x4.length:Int) then(if 0≤x7 then(if (rd x4 x7)≥0 then(impl_MatchAll.l2 k x4 x5 (wrap64 (x7+1)) x665000 x665001 x665002) else(if x7< (x5.length:Int) then(if (rd x5 x7)= (x665001.length:Int) then(impl_MatchAll.l2 k x4 x5 (wrap64 (x7+1)) x665000 x665001 x665002) else(impl_MatchAll.j3 k x4 x5 x7 x665000 x665001 x665002)) else(none))) else(none)) else(impl_MatchAll.j3 k x4 x5 x7 x665000 x665001 x665002)
end
def impl_MatchAll.f (k:Nat) (l0_0:List (List Int)) (l0_1:List (List Int)) (l0_2:List Int):Option (List Int × Bool):=(impl_GoodWishes.f k l0_0 l0_1 l0_2).bind fun t665=>(if t665=true then(if 0≤ (l0_0.length:Int) then(if ((l0_0.length:Int):Int).toNat≤35184372088832 then((some (List.replicate ((l0_0.length:Int):Int).toNat 0:List Int)).bind fun y666=>(impl_MatchAll.l0 k y666 (List.replicate ((l0_0.length:Int):Int).toNat 0) (y666.length:Int) 0 l0_0 l0_1 l0_2)) else(none)) else(none)) else(some (([] :List Int),false)))
def freeP (m a:List Int) (S g:Int):Bool:=decide (rd m g< 0) && decide (rd a g<S)
def pickG (p:Int→Bool):Nat→Int→Option Int
 | 0,_=>none
 |d+1,g=>if p g=true then some g else pickG p d (g+1)
theorem pickG_some (p:Int→Bool):∀ (d:Nat) (g x:Int),pickG p d g=some x→p x=true∧g≤x∧x<g+d
 | 0,g,x,h=>by simp [pickG] at h
 |d+1,g,x,h=>by
  rw [pickG] at h
  by_cases hp:p g=true
  ·rw [if_pos hp] at h
   cases h
   exact⟨hp,by omega,by omega⟩
  ·rw [if_neg hp] at h
   have:=pickG_some p d (g+1) x h
   exact⟨this.1,by omega,by omega⟩
theorem pickG_none (p:Int→Bool):∀ (d:Nat) (g:Int),pickG p d g=none→ ∀ x:Int,g≤x→x<g+d→p x=false
 | 0,g,_,x,h0,h1=>by omega
 |d+1,g,h,x,h0,h1=>by
  rw [pickG] at h
  by_cases hp:p g=true
  ·rw [if_pos hp] at h
   cases h
  ·rw [if_neg hp] at h
   by_cases e:x=g
   ·subst e
    exact Bool.eq_false_iff.2 hp
   ·exact pickG_none p d (g+1) h x (by omega) (by omega)
theorem done_none {f0 f1:List (List Int)} {f2:List Int} {G S:Int} {m a:List Int} (h:Inv f0 f1 f2 G S m a) (hp:pickG (freeP m a S) m.length 0=none):Done m a S:=by
 intro g h0 h1
 have hf:=pickG_none _ _ _ hp g h0 (by omega)
 have hl:=h.ok.len
 have hin:=h.ain g h0 (by omega)
 unfold freeP at hf
 rw [Bool.and_eq_false_iff,decide_eq_false_iff_not,decide_eq_false_iff_not] at hf
 omega
def mu (S:Int):List Int→Nat
 | []=>0
 |x::r=>(S - x).toNat+mu S r
theorem mu_set (S:Int):∀ (a:List Int) (i:Nat),i<a.length→rd a i<S→mu S (a.set i (rd a i+1))+1=mu S a
 | [],i,h,_=>by simp at h
 |x::r,0,_,h=>by
  have e:rd (x::r) ((0:Nat):Int)=x:=rfl
  rw [e] at h ⊢
  rw [List.set_cons_zero,mu,mu]
  omega
 |x::r,i+1,h,g=>by
  have e:rd (x::r) ((i+1:Nat):Int)=rd r (i:Int):=rfl
  rw [e] at g ⊢
  have:=mu_set S r i (by simpa using h) g
  rw [List.set_cons_succ,mu,mu]
  omega
theorem specSkip (f0 f1:List (List Int)) (f2 m a:List Int) (hm:m.length≤1000) (x:Int) (hx: 0≤x) (R:List Int × Bool) (hR:Ev (fun k=>spec_MatchAll.l2 k m a x m.length m.length f0 f1 f2) R) (d:Nat):∀ (c:Nat),c+d=m.length→Ev (fun k=>spec_MatchAll.l2 k m a x m.length c f0 f1 f2) R:=by
 induction d with
 |zero=>
  intro c hc
  rw [show c=m.length by omega]
  exact hR
 |succ d ih=>
  intro c hc
  refine Ev.succ ?_
  simp only [spec_MatchAll.l2,if_pos (show (c:Int)< (m.length:Int) by omega),if_neg (show ¬ x< 0 by omega),wrap_id (show (-9223372036854775808:Int)≤c+1 by omega) (show ((c:Int)+1≤9223372036854775807) by omega)]
  exact ih (c+1) (by omega)
theorem specPick (f0 f1:List (List Int)) (f2 m a:List Int) (hm:m.length≤1000) (ha:a.length=m.length) (R:List Int × Bool)
  (hR:match pickG (freeP m a f1.length) m.length 0 with
   |some x=>Ev (fun k=>spec_MatchAll.l2 k m a x m.length m.length f0 f1 f2) R
   |none=>Ev (fun k=>spec_MatchAll.l2 k m a (-1) m.length m.length f0 f1 f2) R):Ev (fun k=>spec_MatchAll.l2 k m a (-1) m.length 0 f0 f1 f2) R:=by
 have go:∀ (d c:Nat),c+d=m.length→ (match pickG (freeP m a f1.length) d c with
   |some x=>Ev (fun k=>spec_MatchAll.l2 k m a x m.length m.length f0 f1 f2) R
   |none=>Ev (fun k=>spec_MatchAll.l2 k m a (-1) m.length m.length f0 f1 f2) R)→Ev (fun k=>spec_MatchAll.l2 k m a (-1) m.length c f0 f1 f2) R:=by
  intro d
  induction d with
  |zero=>
   intro c hc h
   rw [show c=m.length by omega]
   exact h
  |succ d ih=>
   intro c hc h
   refine Ev.succ ?_
   have hn:=ih (c+1) (by omega)
   rw [pickG] at h
   simp only [spec_MatchAll.l2,if_pos (show (c:Int)< (m.length:Int) by omega),if_pos (show (-1:Int)< 0 by omega),if_pos (show (0:Int)≤c by omega),if_pos (show (c:Int)< (a.length:Int) by omega),wrap_id (show (-9223372036854775808:Int)≤c+1 by omega) (show ((c:Int)+1≤9223372036854775807) by omega)]
   by_cases h1:rd m c< 0
   ·simp only [if_pos h1]
    by_cases h2:rd a c< (f1.length:Int)
    ·simp only [if_pos h2]
     rw [if_pos (show freeP m a f1.length c=true by simp [freeP,h1,h2])] at h
     exact specSkip f0 f1 f2 m a hm c (by omega) R h d (c+1) (by omega)
    ·simp only [if_neg h2]
     rw [if_neg (show ¬ freeP m a f1.length c=true by simp [freeP,h2])] at h
     exact hn h
   ·simp only [if_neg h1]
    rw [if_neg (show ¬ freeP m a f1.length c=true by simp [freeP,h1])] at h
    exact hn h
 exact go m.length 0 (by omega) hR
theorem implPick (f0 f1:List (List Int)) (f2 m a:List Int) (hm:m.length≤1000) (ha:a.length=m.length) (hle:∀ g:Int,0≤g→g<m.length→rd a g≤f1.length) (R:List Int × Bool)
  (hR:match pickG (freeP m a f1.length) m.length 0 with
   |some x=>Ev (fun k=>impl_MatchAll.j3 k m a x f0 f1 f2) R
   |none=>Ev (fun k=>impl_MatchAll.j3 k m a m.length f0 f1 f2) R):Ev (fun k=>impl_MatchAll.l2 k m a 0 f0 f1 f2) R:=by
 have go:∀ (d c:Nat),c+d=m.length→ (match pickG (freeP m a f1.length) d c with
   |some x=>Ev (fun k=>impl_MatchAll.j3 k m a x f0 f1 f2) R
   |none=>Ev (fun k=>impl_MatchAll.j3 k m a m.length f0 f1 f2) R)→Ev (fun k=>impl_MatchAll.l2 k m a c f0 f1 f2) R:=by
  intro d
  induction d with
  |zero=>
   intro c hc h
   refine Ev.succ ?_
   simp only [impl_MatchAll.l2,if_neg (show ¬ (c:Int)< (m.length:Int) by omega)]
   rw [show c=m.length by omega]
   exact h
  |succ d ih=>
   intro c hc h
   refine Ev.succ ?_
   have hn:=ih (c+1) (by omega)
   have hl:=hle c (by omega) (by omega)
   rw [pickG] at h
   simp only [impl_MatchAll.l2,if_pos (show (c:Int)< (m.length:Int) by omega),if_pos (show (0:Int)≤c by omega),if_pos (show (c:Int)< (a.length:Int) by omega),wrap_id (show (-9223372036854775808:Int)≤c+1 by omega) (show ((c:Int)+1≤9223372036854775807) by omega)]
   by_cases h1:rd m c≥0
   ·simp only [if_pos h1]
    rw [if_neg (show ¬ freeP m a f1.length c=true by simp [freeP];omega)] at h
    exact hn h
   ·simp only [if_neg h1]
    by_cases h2:rd a c= (f1.length:Int)
    ·simp only [if_pos h2]
     rw [if_neg (show ¬ freeP m a f1.length c=true by simp [freeP];omega)] at h
     exact hn h
    ·simp only [if_neg h2]
     rw [if_pos (show freeP m a f1.length c=true by simp [freeP];omega)] at h
     exact h
 exact go m.length 0 (by omega) hR
theorem matchAll_go {f0 f1:List (List Int)} {f2:List Int} (w:WOk f0 f1 f2 f0.length f1.length) (hG:f0.length≤8) (hS:f1.length≤8) (h2:∀ s:Int,0≤s→s<f1.length→0≤rd f2 s) (n:Nat):∀ (m a:List Int),Inv f0 f1 f2 f0.length f1.length m a→mu f1.length a=n→
  ∃ R:List Int × Bool,Ev (fun k=>spec_MatchAll.l1 k m a f0 f1 f2) R∧Ev (fun k=>impl_MatchAll.l1 k m a f0 f1 f2) R∧R.1.length≤8∧R.2=true∧ ∃ aa,Inv f0 f1 f2 f0.length f1.length R.1 aa∧Done R.1 aa f1.length:=by
 induction n with
 |zero=>
  intro m a h hn
  have hml:=h.ok.len
  have hal:=h.alen
  cases hp:pickG (freeP m a f1.length) m.length 0 with
  |none=>
   refine⟨(m,true),Ev.succ ?_,Ev.succ ?_,by show m.length≤8;omega,rfl,a,h,done_none h hp⟩
   ·simp only [spec_MatchAll.l1]
    refine specPick f0 f1 f2 m a (by omega) (by omega) _ ?_
    rw [hp]
    refine Ev.succ ?_
    simp only [spec_MatchAll.l2,Int.lt_irrefl,if_false,if_pos (show (-1:Int)< 0 by omega)]
    exact Ev.now _
   ·simp only [impl_MatchAll.l1]
    refine implPick f0 f1 f2 m a (by omega) (by omega) (fun g h0 h1=>(h.ain g h0 (by omega)).2) _ ?_
    rw [hp]
    refine Ev.succ ?_
    simp only [impl_MatchAll.j3,if_true]
    exact Ev.now _
  |some g=>
   exfalso
   obtain⟨hf,g0,g1⟩:=pickG_some _ _ _ _ hp
   rw [freeP,Bool.and_eq_true,decide_eq_true_eq,decide_eq_true_eq] at hf
   have:=mu_set f1.length a g.toNat (by omega) (by rw [show ((g.toNat:Nat):Int)=g by omega];exact hf.2)
   omega
 |succ n ih=>
  intro m a h hn
  have hml:=h.ok.len
  have hal:=h.alen
  have hr:=w.r
  cases hp:pickG (freeP m a f1.length) m.length 0 with
  |none=>
   refine⟨(m,true),Ev.succ ?_,Ev.succ ?_,by show m.length≤8;omega,rfl,a,h,done_none h hp⟩
   ·simp only [spec_MatchAll.l1]
    refine specPick f0 f1 f2 m a (by omega) (by omega) _ ?_
    rw [hp]
    refine Ev.succ ?_
    simp only [spec_MatchAll.l2,Int.lt_irrefl,if_false,if_pos (show (-1:Int)< 0 by omega)]
    exact Ev.now _
   ·simp only [impl_MatchAll.l1]
    refine implPick f0 f1 f2 m a (by omega) (by omega) (fun g h0 h1=>(h.ain g h0 (by omega)).2) _ ?_
    rw [hp]
    refine Ev.succ ?_
    simp only [impl_MatchAll.j3,if_true]
    exact Ev.now _
  |some g=>
   obtain⟨hf,g0,g1⟩:=pickG_some _ _ _ _ hp
   rw [freeP,Bool.and_eq_true,decide_eq_true_eq,decide_eq_true_eq] at hf
   have g2:g<f0.length:=by omega
   have hmu:mu f1.length (a.set g.toNat (rd a g+1))=n:=by
    have:=mu_set f1.length a g.toNat (by omega) (by rw [show ((g.toNat:Nat):Int)=g by omega];exact hf.2)
    rw [show ((g.toNat:Nat):Int)=g by omega] at this
    omega
   have hai:=h.ain g g0 g2
   have hrow:=w.pg g g0 g2
   have hs:=hrow.rd_in hai.1 hf.2
   have hlen:=hrow.len
   have hps:=(w.ps (rd (row_ f0 g) (rd a g)) hs.1 hs.2)
   have hpl:=hps.len
   have hcap:=h.ok.cap (rd (row_ f0 g) (rd a g)) hs.1 hs.2
   have hlow:∀ x ∈ m, -1≤x∧x<f1.length:=fun x hx=>by
    obtain⟨i,hi,e⟩:=List.mem_iff_getElem.1 hx
    have hb:=h.ok.low i (by omega) (by omega)
    have er:rd m (i:Int)=x:=by
     unfold rd
     rw [Int.toNat_natCast,List.getD_eq_getElem?_getD,List.getElem?_eq_getElem hi,e]
     rfl
    rw [er] at hb
    exact hb
   have hne:rd m g≠rd (row_ f0 g) (rd a g):=by have:=hf.1;omega
   have eT:=implTakes_ev w (by omega) (by omega) hml hlow (rd (row_ f0 g) (rd a g)) g hs.1 hs.2 g0 g2
   have eTW:=takes_would w hml hs.1 hs.2 g0 g2 hne
   have eW:=specWould_ev f0 f1 f2 m (rd (row_ f0 g) (rd a g)) g hs.1 (by omega) (by omega) (by omega) (by omega)
   -- both sides up to the answer of the server
   have spec1:∀ (R:List Int × Bool),Ev (fun k=>(spec_l12Would.f k f0 f1 f2 m (rd (row_ f0 g) (rd a g)) g).bind fun t=>(if t=true then((spec_l12Has.f k m (rd (row_ f0 g) (rd a g))).bind fun u=>(if (u.length:Int)= (rd f2 (rd (row_ f0 g) (rd a g))) then((spec_l12Worst.f k f0 f1 f2 m (rd (row_ f0 g) (rd a g))).bind fun o=>(if 0≤o then(if o< (m.length:Int) then(spec_MatchAll.l1 k ((m.set (o:Int).toNat (-1)).set (g:Int).toNat (rd (row_ f0 g) (rd a g))) (a.set g.toNat (rd a g+1)) f0 f1 f2) else(none)) else(none))) else(spec_MatchAll.l1 k (m.set (g:Int).toNat (rd (row_ f0 g) (rd a g))) (a.set g.toNat (rd a g+1)) f0 f1 f2))) else(spec_MatchAll.l1 k m (a.set g.toNat (rd a g+1)) f0 f1 f2))) R→Ev (fun k=>spec_MatchAll.l1 k m a f0 f1 f2) R:=by
    intro R hR
    refine Ev.succ ?_
    simp only [spec_MatchAll.l1]
    refine specPick f0 f1 f2 m a (by omega) (by omega) _ ?_
    rw [hp]
    refine Ev.succ ?_
    simp only [spec_MatchAll.l2,Int.lt_irrefl,if_false,if_neg (show ¬ g< 0 by omega),if_pos g0,if_pos g2,if_pos (show g< (a.length:Int) by omega),rowL_is,if_pos hai.1,if_pos (show rd a g< ((row_ f0 g).length:Int) by omega),Option.bind_some,wrap_id (show (-9223372036854775808:Int)≤rd a g+1 by omega) (show (rd a g+1≤9223372036854775807) by omega),if_pos hs.1,if_pos (show rd (row_ f0 g) (rd a g)< (f2.length:Int) by omega),if_pos (show g< (m.length:Int) by omega)]
    exact hR
   have impl1:∀ (R:List Int × Bool),Ev (fun k=>(impl_takes.f k f0 f1 f2 m (rd (row_ f0 g) (rd a g)) g).bind fun bt=>(if bt.2=true then(if bt.1≥0 then(if 0≤bt.1 then(if bt.1< (m.length:Int) then(impl_MatchAll.l1 k ((m.set (bt.1:Int).toNat (-1)).set (g:Int).toNat (rd (row_ f0 g) (rd a g))) (a.set g.toNat (rd a g+1)) f0 f1 f2) else(none)) else(none)) else(impl_MatchAll.l1 k (m.set (g:Int).toNat (rd (row_ f0 g) (rd a g))) (a.set g.toNat (rd a g+1)) f0 f1 f2)) else(impl_MatchAll.l1 k m (a.set g.toNat (rd a g+1)) f0 f1 f2))) R→Ev (fun k=>impl_MatchAll.l1 k m a f0 f1 f2) R:=by
    intro R hR
    refine Ev.succ ?_
    simp only [impl_MatchAll.l1]
    refine implPick f0 f1 f2 m a (by omega) (by omega) (fun g h0 h1=>(h.ain g h0 (by omega)).2) _ ?_
    rw [hp]
    refine Ev.succ ?_
    simp only [impl_MatchAll.j3,if_neg (show ¬ g= (m.length:Int) by omega),if_pos g0,if_pos g2,if_pos (show g< (a.length:Int) by omega),rowL_is,if_pos hai.1,if_pos (show rd a g< ((row_ f0 g).length:Int) by omega),Option.bind_some,wrap_id (show (-9223372036854775808:Int)≤rd a g+1 by omega) (show (rd a g+1≤9223372036854775807) by omega),if_pos (show g< (m.length:Int) by omega)]
    exact hR
   by_cases hw:wouldM f1 f2 m (rd (row_ f0 g) (rd a g)) g=true
   ·rw [hw] at eW eTW
    by_cases hc:(cnt m (rd (row_ f0 g) (rd a g)):Int)<rd f2 (rd (row_ f0 g) (rd a g))
    ·obtain⟨R,e1,e2,hR⟩:=ih _ _ (inv_free w h g0 g2 hf.1 hf.2 hc) hmu
     refine⟨R,spec1 R ?_,impl1 R ?_,hR⟩
     ·refine Ev.bind eW ?_
      simp only [if_true]
      refine Ev.bind (l12Has_ev m _ (by omega)) ?_
      simp only [hasGo_len,if_neg (show ¬ (cnt m (rd (row_ f0 g) (rd a g)):Int)=rd f2 (rd (row_ f0 g) (rd a g)) by omega)]
      exact e1
     ·rw [takesM,if_pos hc] at eT
      refine Ev.bind eT ?_
      simp only [if_true,if_neg (show ¬ (-1:Int)≥0 by omega)]
      exact e2
    ·have hw':=hw
     rw [wouldM,decide_eq_false hc,Bool.false_or,Bool.and_eq_true,decide_eq_true_eq,decide_eq_true_eq] at hw'
     obtain⟨hb,_⟩|⟨o0,o1,os,ow⟩:=worst_ok f1 m (rd (row_ f0 g) (rd a g))
     ·omega
     obtain⟨R,e1,e2,hR⟩:=ih _ _ (inv_swap w h g0 g2 hf.1 hf.2 (by omega) o0 (by omega) os (fun x h0 h1 e=>ow x h0 (by omega) e) hw'.2) hmu
     refine⟨R,spec1 R ?_,impl1 R ?_,hR⟩
     ·refine Ev.bind eW ?_
      simp only [if_true]
      refine Ev.bind (l12Has_ev m _ (by omega)) ?_
      simp only [hasGo_len,if_pos (show (cnt m (rd (row_ f0 g) (rd a g)):Int)=rd f2 (rd (row_ f0 g) (rd a g)) by omega)]
      refine Ev.bind (specWorst_ev f0 f1 f2 m _ hs.1 (by omega) (by omega) (by omega)) ?_
      simp only [if_pos o0,if_pos o1]
      exact e1
     ·rw [takesM,if_neg hc,if_neg (by omega),if_neg (by omega)] at eT
      refine Ev.bind eT ?_
      simp only [if_true,if_pos (show worstM f1 m (rd (row_ f0 g) (rd a g))≥0 from o0),if_pos o0,if_pos o1]
      exact e2
   ·rw [Bool.eq_false_iff.2 hw] at eW eTW
    obtain⟨R,e1,e2,hR⟩:=ih _ _ (inv_no w h g0 g2 hf.1 hf.2 (fun hc=>hw ((would_iff f1 f2 m _ g).2 hc))) hmu
    refine⟨R,spec1 R ?_,impl1 R ?_,hR⟩
    ·refine Ev.bind eW ?_
     simp only [Bool.false_eq_true,if_false]
     exact e1
    ·refine Ev.bind eT ?_
     simp only [eTW,Bool.false_eq_true,if_false]
     exact e2
theorem specStart (f0 f1:List (List Int)) (f2:List Int) (h0:f0.length≤8) (R:List Int × Bool) (hR:Ev (fun k=>spec_MatchAll.l1 k (List.replicate f0.length (-1)) (List.replicate f0.length 0) f0 f1 f2) R) (d:Nat):∀ (c:Nat),c+d=f0.length→Ev (fun k=>spec_MatchAll.l0 k (List.replicate c (-1)) f0.length c f0 f1 f2) R:=by
 induction d with
 |zero=>
  intro c hc
  refine Ev.succ ?_
  simp only [spec_MatchAll.l0,if_neg (show ¬ (c:Int)< (f0.length:Int) by omega),List.length_replicate,if_pos (show (0:Int)≤c by omega),Int.toNat_natCast,if_pos (show c≤35184372088832 by omega)]
  rw [show c=f0.length by omega]
  exact hR
 |succ d ih=>
  intro c hc
  refine Ev.succ ?_
  have:=ih (c+1) (by omega)
  rw [List.replicate_succ'] at this
  simp only [spec_MatchAll.l0,if_pos (show (c:Int)< (f0.length:Int) by omega),List.length_replicate,if_pos (show c< 17592186044416 by omega),wrap_id (show (-9223372036854775808:Int)≤c+1 by omega) (show ((c:Int)+1≤9223372036854775807) by omega)]
  exact this
theorem implStart (f0 f1:List (List Int)) (f2 a:List Int) (R:List Int × Bool) (n:Nat) (hn:n≤8) (hR:Ev (fun k=>impl_MatchAll.l1 k (List.replicate n (-1)) a f0 f1 f2) R) (d:Nat):∀ (c:Nat),c+d=n→Ev (fun k=>impl_MatchAll.l0 k (List.replicate c (-1)++List.replicate d 0) a n c f0 f1 f2) R:=by
 induction d with
 |zero=>
  intro c hc
  refine Ev.succ ?_
  simp only [impl_MatchAll.l0,if_neg (show ¬ (c:Int)< (n:Int) by omega),List.replicate_zero,List.append_nil]
  rw [show c=n by omega]
  exact hR
 |succ d ih=>
  intro c hc
  refine Ev.succ ?_
  have:=ih (c+1) (by omega)
  rw [List.replicate_succ',List.append_assoc] at this
  simp only [impl_MatchAll.l0,if_pos (show (c:Int)< (n:Int) by omega),if_pos (show (0:Int)≤c by omega),if_pos (show (c:Int)< ((List.replicate c (-1:Int)++List.replicate (d+1) 0).length:Int) by simp;omega),wrap_id (show (-9223372036854775808:Int)≤c+1 by omega) (show ((c:Int)+1≤9223372036854775807) by omega)]
  have e:List.set (List.replicate c (-1:Int)++List.replicate (d+1) (0:Int)) ((c:Int)).toNat (-1:Int)=List.replicate c (-1:Int)++ ([-1]++List.replicate d (0:Int)):=by
   rw [Int.toNat_natCast,List.set_append_right _ _ (by simp),List.length_replicate,Nat.sub_self,List.replicate_succ,List.set_cons_zero]
   rfl
  rw [e]
  exact this
theorem matchAll_evD {f0 f1:List (List Int)} {f2:List Int} (ok:okW f0 f1 f2):∃ R:List Int × Bool,Ev (fun k=>spec_MatchAll.f k f0 f1 f2) R∧Ev (fun k=>impl_MatchAll.f k f0 f1 f2) R∧R.1.length≤8∧R.2=goodW f0 f1 f2∧ (R.2=true→ ∃ aa,Inv f0 f1 f2 f0.length f1.length R.1 aa∧Done R.1 aa f1.length):=by
 by_cases h:goodW f0 f1 f2=true
 ·have hl:=goodW_len h
  have w:=wOk_of h
  have hst:=inv_start w (by omega) (by omega) (fun s h0 h1=>(room_of h s h0 h1).1)
  rw [Int.toNat_natCast] at hst
  obtain⟨R,e1,e2,hR,hR2,hR3⟩:=matchAll_go w hl.2.1 hl.2.2.2.1 (fun s h0 h1=>(room_of h s h0 h1).1) _ _ _ hst rfl
  refine⟨R,?_,?_,hR,by rw [hR2,h],fun _=>hR3⟩
  ·unfold spec_MatchAll.f
   refine Ev.bind (specGoodW_ev ok) ?_
   simp only [h,if_true]
   exact specStart f0 f1 f2 hl.2.1 R e1 f0.length 0 (by omega)
  ·unfold impl_MatchAll.f
   refine Ev.bind (implGoodW_ev ok) ?_
   simp only [h,if_true,if_pos (show (0:Int)≤ (f0.length:Int) by omega),Int.toNat_natCast,if_pos (show f0.length≤35184372088832 by omega),Option.bind_some,List.length_replicate]
   exact implStart f0 f1 f2 _ R f0.length hl.2.1 e2 f0.length 0 (by omega)
 ·refine⟨([],false),?_,?_,by simp,(Bool.eq_false_iff.2 h).symm,fun hc=>by simp at hc⟩
  ·unfold spec_MatchAll.f
   refine Ev.bind (specGoodW_ev ok) ?_
   simp only [h,if_false]
   exact Ev.now _
  ·unfold impl_MatchAll.f
   refine Ev.bind (implGoodW_ev ok) ?_
   simp only [h,if_false]
   exact Ev.now _
theorem matchAll_ev {f0 f1:List (List Int)} {f2:List Int} (ok:okW f0 f1 f2):∃ R:List Int × Bool,Ev (fun k=>spec_MatchAll.f k f0 f1 f2) R∧Ev (fun k=>impl_MatchAll.f k f0 f1 f2) R∧R.1.length≤8:=by
 obtain⟨R,e1,e2,h,_⟩:=matchAll_evD ok
 exact⟨R,e1,e2,h⟩
theorem and255 (x:Int): 0≤wrap64 (Go.bits .and .u64 x 255)∧wrap64 (Go.bits .and .u64 x 255)≤255:=by
 have e:∃ n:Nat,n≤255∧Go.bits .and .u64 x 255=IntKind.u64.wrap (n:Int):=by
  refine⟨(BitVec.ofInt 64 x &&& BitVec.ofInt 64 255).toNat,?_,rfl⟩
  rw [BitVec.toNat_and]
  exact Nat.le_trans Nat.and_le_right (by decide)
 obtain⟨n,hn,e⟩:=e
 rw [e]
 have e2:IntKind.u64.wrap (n:Int)= (n:Int):=by
  simp only [IntKind.wrap,IntKind.bits,IntKind.signed,Bool.false_and,Bool.false_eq_true,if_false]
  omega
 rw [e2,wrap_id (by omega) (by omega)]
 omega
theorem next_ok (c:List Int) (hc:∀ x ∈ c,0≤x∧x≤255) (hl:c.length≤1048576) (a s:Int) (h0: 0≤a) (h1:a≤1152921504606846976):
  ∃ r s',spec_l1Cur_next.f c a s=some (r,a+1,s')∧0≤r∧r≤255:=by
 unfold spec_l1Cur_next.f
 rw [wrap_id (x:=a+1) (by omega) (by omega)]
 by_cases h:a< (c.length:Int)
 ·have hm:rd c a ∈ c:=by
   unfold rd
   rw [List.getD_eq_getElem?_getD,List.getElem?_eq_getElem (by omega)]
   exact List.getElem_mem _
  have hb:=hc _ hm
  rw [if_pos h,if_pos h0]
  by_cases h2:a+1≤ (c.length:Int)
  ·rw [if_pos h2,wrap_id (x:=rd c a) (by omega) (by omega)]
   exact⟨_,_,rfl,hb.1,hb.2⟩
  ·omega
 ·rw [if_neg h,if_neg (by omega)]
  exact⟨_,_,rfl,(and255 _).1,(and255 _).2⟩
theorem pick_ok (c:List Int) (hc:∀ x ∈ c,0≤x∧x≤255) (hl:c.length≤1048576) (a s n:Int) (h0: 0≤a) (h1:a≤1125899906842624):
  ∃ r a' s',spec_l1Cur_pick.f c a s n=some (r,a',s')∧0≤r∧ (n≤1→r=0)∧ (2≤n→r<n)∧a≤a'∧a'≤a+2:=by
 unfold spec_l1Cur_pick.f
 by_cases hn:n≤1
 ·rw [if_pos hn]
  exact⟨0,a,s,rfl,by omega,fun _=>rfl,by omega,by omega,by omega⟩
 ·rw [if_neg hn]
  obtain⟨r,s',e,r0,r1⟩:=next_ok c hc hl a s h0 (by omega)
  rw [e]
  simp only [Option.bind_some]
  by_cases h2:n > 200
  ·rw [if_pos h2]
   obtain⟨q,s2,e2,q0,q1⟩:=next_ok c hc hl (a+1) s' (by omega) (by omega)
   rw [e2]
   simp only [Option.bind_some]
   rw [if_neg (by omega),wrap_id (x:=r * 256) (by omega) (by omega),wrap_id (x:=r * 256+q) (by omega) (by omega),Int.tmod_eq_emod_of_nonneg (by omega)]
   exact⟨_,_,_,rfl,Int.emod_nonneg _ (by omega),fun h=>absurd h hn,fun _=>Int.emod_lt_of_pos _ (by omega),by omega,by omega⟩
  ·rw [if_neg h2,if_neg (by omega),Int.tmod_eq_emod_of_nonneg r0]
   exact⟨_,_,_,rfl,Int.emod_nonneg _ (by omega),fun h=>absurd h hn,fun _=>Int.emod_lt_of_pos _ (by omega),by omega,by omega⟩
theorem one_ok (c:List Int) (hc:∀ x ∈ c,0≤x∧x≤255) (hl:c.length≤1048576) (a s n:Int) (h0: 0≤a) (h1:a≤1125899906842624):
  ∃ b a' s',spec_l1Cur_one.f c a s n=some (b,a',s')∧a≤a'∧a'≤a+2:=by
 unfold spec_l1Cur_one.f
 obtain⟨r,a',s',e,_,_,_,g1,g2⟩:=pick_ok c hc hl a s n h0 h1
 rw [e]
 exact⟨_,_,_,rfl,g1,g2⟩
theorem among_ok (c:List Int) (hc:∀ x ∈ c,0≤x∧x≤255) (hl:c.length≤1048576) (a s:Int) (l:List Int) (hn: 0<l.length) (h0: 0≤a) (h1:a≤1125899906842624):
  ∃ r a' s',spec_l1Cur_among.f c a s l=some (r,a',s')∧r ∈ l∧a≤a'∧a'≤a+2:=by
 unfold spec_l1Cur_among.f
 obtain⟨r,a',s',e,r0,r1,r2,g1,g2⟩:=pick_ok c hc hl a s (l.length:Int) h0 h1
 rw [e]
 simp only [Option.bind_some]
 have hlt:r< (l.length:Int):=by
  by_cases h: 2≤ (l.length:Int)
  ·exact r2 h
  ·have:=r1 (by omega);omega
 rw [if_pos r0,if_pos hlt]
 refine⟨_,_,_,rfl,?_,g1,g2⟩
 unfold rd
 rw [List.getD_eq_getElem?_getD,List.getElem?_eq_getElem (by omega)]
 exact List.getElem_mem _
theorem bytes_ok {q:List Int} (hq:∀ x ∈ q,(Lit.int .u8 x).wf=true):∀ x ∈ q,0≤x∧x≤255:=fun x hx=>by
 have:=hq x hx
 simp only [Lit.wf,IntKind.has,IntKind.min,IntKind.max,IntKind.signed,IntKind.bits,Bool.and_eq_true,decide_eq_true_eq,Bool.false_eq_true,if_false] at this
 omega
-- the law's own comparison of two lists of numbers
theorem sameInts_l (s:List Int):∀ (t pre qre:List Int),pre.length=qre.length→s.length=t.length→ (pre.length:Int)+s.length≤1099511627776→
  Ev (fun k=>laws_sameInts.l0 k (pre++s) (qre++t) ((pre++s).length:Int) pre.length) (decide (s=t)):=by
 induction s with
 |nil=>
  intro t pre qre hq hl hb
  obtain rfl:t= []:=List.eq_nil_of_length_eq_zero (by simpa using hl.symm)
  refine Ev.succ ?_
  simp only [laws_sameInts.l0,List.append_nil,Int.lt_irrefl,if_false,decide_true]
  exact Ev.now _
 |cons x s ih=>
  intro t pre qre hq hl hb
  cases t with
  |nil=>simp at hl
  |cons y t=>
   simp only [List.length_cons] at hl hb
   have h:=ih t (pre++ [x]) (qre++ [y]) (by simp;omega) (by omega) (by simp;omega)
   rw [← app_one,← app_one,len_mid,len_one] at h
   have hy:rd (qre++y::t) (pre.length:Int)=y:=by rw [hq];exact rd_mid qre y t
   refine Ev.succ ?_
   simp only [laws_sameInts.l0]
   simp only [len_mid,if_pos (show ((pre.length:Int)<pre.length+s.length+1) by omega),if_pos (show (0:Int)≤pre.length by omega),if_pos (show ((pre.length:Int)<qre.length+t.length+1) by omega),rd_mid,hy,wrap_id (show (-9223372036854775808:Int)≤pre.length+1 by omega) (show ((pre.length:Int)+1≤9223372036854775807) by omega)]
   by_cases e:x=y
   ·simp only [if_pos e]
    rw [show decide (x::s=y::t)=decide (s=t) by simp [e]]
    exact h
   ·simp only [if_neg e]
    rw [show decide (x::s=y::t)=false by simp [e]]
    exact Ev.now _
theorem sameInts_ev (s t:List Int) (hs:s.length≤1099511627776):Ev (fun k=>laws_sameInts.f k s t) (decide (s=t)):=by
 unfold laws_sameInts.f
 by_cases hl:s.length=t.length
 ·simp only [if_pos (show (s.length:Int)=t.length by omega)]
  have:=sameInts_l s t [] [] rfl hl (by simp;omega)
  exact this
 ·simp only [if_neg (show ¬ (s.length:Int)=t.length by omega)]
  rw [decide_eq_false (fun e=>hl (by rw [e]))]
  exact Ev.now _
theorem mixed_l (c:List Int) (hc:∀ x ∈ c,0≤x∧x≤255) (hl:c.length≤1048576) (n:Int) (hn:n≤1000) (d:Nat):∀ (i:Int) (l:List Int) (a s:Int),i+d=n→0≤i→l.length+d≤1000→0≤a→a≤1000000000 - 10 * d→
  ∃ r a' s',Ev (fun k=>spec_l1Cur_mixed.l0 k n l i c a s) (r,a',s')∧r.length=l.length+d∧a≤a'∧a'≤a+10 * d:=by
 induction d with
 |zero=>
  intro i l a s hi h0 hd ha ha1
  refine⟨l,a,s,Ev.succ ?_,rfl,by omega,by omega⟩
  simp only [spec_l1Cur_mixed.l0,if_neg (show ¬ i<n by omega)]
  exact Ev.now _
 |succ d ih=>
  intro i l a s hi h0 hd ha ha1
  obtain⟨r1,a1,s1,e1,r10,r11,r12,g1,g1'⟩:=pick_ok c hc hl a s ((l.length:Int)+1) ha (by omega)
  have hr:r1≤ (l.length:Int):=by
   by_cases h:(l.length:Int)+1≤1
   ·have:=r11 h;omega
   ·have:=r12 (by omega);omega
  have lt:=List.length_take (i:=r1.toNat) (l:=l)
  have ld:=List.length_drop (i:=r1.toNat) (l:=l)
  obtain⟨r,a',s',e,hlen,g,g'⟩:=ih (i+1) ((l.take r1.toNat++ [i])++l.drop r1.toNat) a1 s1 (by omega) (by omega) (by simp only [List.length_append,List.length_singleton];omega) (by omega) (by omega)
  refine⟨r,a',s',Ev.succ ?_,?_,by omega,by omega⟩
  ·simp only [spec_l1Cur_mixed.l0,if_pos (show i<n by omega),wrap_id (show (-9223372036854775808:Int)≤ (l.length:Int)+1 by omega) (show (l.length:Int)+1≤9223372036854775807 by omega),wrap_id (show (-9223372036854775808:Int)≤i+1 by omega) (show i+1≤9223372036854775807 by omega),e1,Option.bind_some,if_pos r10,if_pos hr,List.nil_append,List.length_nil]
   simp only [if_pos (show 0+ (l.drop r1.toNat).length< 17592186044416 by omega),if_pos (show 0+ (l.take r1.toNat).length< 17592186044416 by omega),if_pos (show (l.take r1.toNat).length< 17592186044416 by omega),if_pos (show (l.take r1.toNat++ [i]).length+ (l.drop r1.toNat).length< 17592186044416 by simp only [List.length_append,List.length_singleton];omega)]
   exact e
  ·rw [hlen]
   simp only [List.length_append,List.length_singleton]
   omega
theorem mixed_ok (c:List Int) (hc:∀ x ∈ c,0≤x∧x≤255) (hl:c.length≤1048576) (n:Int) (h0: 0≤n) (hn:n≤100) (a s:Int) (ha: 0≤a) (ha1:a≤1000000):
  ∃ r a' s',Ev (fun k=>spec_l1Cur_mixed.f k c a s n) (r,a',s')∧ (r.length:Int)=n∧a≤a'∧a'≤a+10 * n:=by
 obtain⟨r,a',s',e,h,g,g'⟩:=mixed_l c hc hl n (by omega) n.toNat 0 [] a s (by omega) (by omega) (by simp only [List.length_nil];omega) ha (by omega)
 refine⟨r,a',s',?_,by simp only [List.length_nil] at h;omega,g,by omega⟩
 unfold spec_l1Cur_mixed.f
 exact e
structure SmallW (p q:List (List Int)) (t:List Int):Prop where
 a0:p.length≤8
 a1:q.length≤8
 a2:t.length≤8
 b0:∀ x ∈ p,x.length≤8
 b1:∀ x ∈ q,x.length≤8
theorem SmallW.ok {p q:List (List Int)} {t:List Int} (h:SmallW p q t):okW p q t:=by
 have h0:=h.a0
 have h1:=h.a1
 have h2:=h.a2
 exact⟨by omega,by omega,by omega,fun x hx=>by have:=h.b0 x hx;omega,fun x hx=>by have:=h.b1 x hx;omega⟩
theorem serve_end (c:List Int) (hc:∀ x ∈ c,0≤x∧x≤255) (hl:c.length≤1048576) (G S:Int) (h1: 1≤G) (h2:G≤8) (h3: 1≤S) (h4:S≤8) (P:List (List Int)) (hP:(P.length:Int)=G) (hPr:∀ x ∈ P,(x.length:Int)=S) (d:Nat):
  ∀ (i:Int) (Q:List (List Int)) (T:List Int) (a s:Int),i+d=S→0≤i→ (Q.length:Int)=i→ (T.length:Int)=i→ (∀ x ∈ Q,x.length≤8)→0≤a→a≤100000 - 100 * d→
  ∃ p q t a' s',Ev (fun k=>spec_l1Cur_serveWishes.l1 k G S i c a s P Q T) (p,q,t,a',s')∧SmallW p q t∧0≤a'∧a'≤200000:=by
 induction d with
 |zero=>
  intro i Q T a s hi h0 hQ hT hQr ha ha1
  have small:∀ (p:List (List Int)) (t:List Int),(p.length:Int)=G→ (∀ x ∈ p,x.length≤8)→ (t.length:Int)=i→SmallW p Q t:=fun p t e1 e2 e3=>⟨by omega,by omega,by omega,e2,hQr⟩
  have hPr8:∀ x ∈ P,x.length≤8:=fun x hx=>by have:=hPr x hx;omega
  obtain⟨r1,a1,s1,e1,_,_,_,g1,g1'⟩:=pick_ok c hc hl a s 30 ha (by omega)
  by_cases c0:r1=0
  ·obtain⟨r2,a2,s2,e2,_,g2,g2'⟩:=among_ok c hc hl a1 s1 [-1,8,9] (by decide) (by omega) (by omega)
   refine⟨P,Q,T.set (0:Int).toNat r2,a2,s2,Ev.succ ?_,small P _ hP hPr8 (by rw [List.length_set];exact hT),by omega,by omega⟩
   simp only [spec_l1Cur_serveWishes.l1,if_neg (show ¬ i<S by omega),e1,Option.bind_some,if_pos c0]
   rw [e2]
   simp only [Option.bind_some,if_pos (show (0:Int)< (T.length:Int) by omega)]
   exact Ev.now _
  ·by_cases c1:r1=1
   ·obtain⟨r2,a2,s2,e2,_,_,_,g2,g2'⟩:=pick_ok c hc hl a1 s1 9 (by omega) (by omega)
    have hrow:rd_L1 P 0 ∈ P:=by
     unfold rd_L1
     rw [List.getD_eq_getElem?_getD,List.getElem?_eq_getElem (show (0:Int).toNat<P.length by rw [show (0:Int).toNat=0 from rfl];omega)]
     exact List.getElem_mem _
    have hrl:=hPr _ hrow
    refine⟨P.set (0:Int).toNat ((rd_L1 P 0).set (0:Int).toNat r2),Q,T,a2,s2,Ev.succ ?_,small _ T (by rw [List.length_set];exact hP) (fun x hx=>?_) hT,by omega,by omega⟩
    ·simp only [spec_l1Cur_serveWishes.l1,if_neg (show ¬ i<S by omega),e1,Option.bind_some,if_neg c0,if_pos c1,if_pos (show (0:Int)< (P.length:Int) by omega),e2,if_pos (show (0:Int)< ((rd_L1 P 0).length:Int) by omega)]
     exact Ev.now _
    ·rcases List.mem_or_eq_of_mem_set hx with hx|hx
     ·exact hPr8 x hx
     ·rw [hx,List.length_set]
      omega
   ·refine⟨P,Q,T,a1,s1,Ev.succ ?_,small P T hP hPr8 hT,by omega,by omega⟩
    simp only [spec_l1Cur_serveWishes.l1,if_neg (show ¬ i<S by omega),e1,Option.bind_some,if_neg c0,if_neg c1]
    exact Ev.now _
 |succ d ih=>
  intro i Q T a s hi h0 hQ hT hQr ha ha1
  obtain⟨r,a1,s1,e1,hr,g1,g1'⟩:=mixed_ok c hc hl G (by omega) (by omega) a s ha (by omega)
  obtain⟨r2,a2,s2,e2,_,_,_,g2,g2'⟩:=pick_ok c hc hl a1 s1 3 (by omega) (by omega)
  obtain⟨p,q,t,a',s',e,hw,w0,w1⟩:=ih (i+1) (Q++ [r]) (T++ [r2]) a2 s2 (by omega) (by omega) (by simp only [List.length_append,List.length_singleton];omega) (by simp only [List.length_append,List.length_singleton];omega) (fun x hx=>by
   rcases List.mem_append.1 hx with hx|hx
   ·exact hQr x hx
   ·rw [List.mem_singleton.1 hx];omega) (by omega) (by omega)
  refine⟨p,q,t,a',s',Ev.succ ?_,hw,w0,w1⟩
  simp only [spec_l1Cur_serveWishes.l1,if_pos (show i<S by omega)]
  refine Ev.bind e1 ?_
  simp only [if_pos (show Q.length< 5864062014805 by omega),e2,Option.bind_some,if_pos (show T.length< 17592186044416 by omega),wrap_id (show (-9223372036854775808:Int)≤i+1 by omega) (show i+1≤9223372036854775807 by omega)]
  exact e
theorem serve_l0 (c:List Int) (hc:∀ x ∈ c,0≤x∧x≤255) (hl:c.length≤1048576) (G S:Int) (h1: 1≤G) (h2:G≤8) (h3: 1≤S) (h4:S≤8) (d:Nat):
  ∀ (i:Int) (P:List (List Int)) (a s:Int),i+d=G→0≤i→ (P.length:Int)=i→ (∀ x ∈ P,(x.length:Int)=S)→0≤a→a≤10000 - 100 * d→
  ∃ p q t a' s',Ev (fun k=>spec_l1Cur_serveWishes.l0 k G S i c a s P) (p,q,t,a',s')∧SmallW p q t∧0≤a'∧a'≤200000:=by
 induction d with
 |zero=>
  intro i P a s hi h0 hP hPr ha ha1
  obtain⟨p,q,t,a',s',e,hw,w0,w1⟩:=serve_end c hc hl G S h1 h2 h3 h4 P (by omega) hPr S.toNat 0 [] [] a s (by omega) (by omega) rfl rfl (fun x hx=>by simp at hx) ha (by omega)
  refine⟨p,q,t,a',s',Ev.succ ?_,hw,w0,w1⟩
  simp only [spec_l1Cur_serveWishes.l0,if_neg (show ¬ i<G by omega)]
  exact e
 |succ d ih=>
  intro i P a s hi h0 hP hPr ha ha1
  obtain⟨r,a1,s1,e1,hr,g1,g1'⟩:=mixed_ok c hc hl S (by omega) (by omega) a s ha (by omega)
  obtain⟨p,q,t,a',s',e,hw,w0,w1⟩:=ih (i+1) (P++ [r]) a1 s1 (by omega) (by omega) (by simp only [List.length_append,List.length_singleton];omega) (fun x hx=>by
   rcases List.mem_append.1 hx with hx|hx
   ·exact hPr x hx
   ·rw [List.mem_singleton.1 hx];exact hr) (by omega) (by omega)
  refine⟨p,q,t,a',s',Ev.succ ?_,hw,w0,w1⟩
  simp only [spec_l1Cur_serveWishes.l0,if_pos (show i<G by omega)]
  refine Ev.bind e1 ?_
  simp only [if_pos (show P.length< 5864062014805 by omega),wrap_id (show (-9223372036854775808:Int)≤i+1 by omega) (show i+1≤9223372036854775807 by omega)]
  exact e
theorem serve_ok (c:List Int) (hc:∀ x ∈ c,0≤x∧x≤255) (hl:c.length≤1048576):∃ p q t a' s',Ev (fun k=>spec_l1Cur_serveWishes.f k c 0 0) (p,q,t,a',s')∧SmallW p q t∧0≤a'∧a'≤200000:=by
 obtain⟨r1,a1,s1,e1,r10,_,r12,g1,g1'⟩:=pick_ok c hc hl 0 0 6 (by omega) (by omega)
 obtain⟨r2,a2,s2,e2,r20,_,r22,g2,g2'⟩:=pick_ok c hc hl a1 s1 4 (by omega) (by omega)
 obtain⟨b,a3,s3,e3,g3,g3'⟩:=one_ok c hc hl a2 s2 20 (by omega) (by omega)
 have q1:=r12 (by omega)
 have q2:=r22 (by omega)
 cases b with
 |true=>
  obtain⟨p,q,t,a',s',e,hw,w0,w1⟩:=serve_l0 c hc hl 8 8 (by omega) (by omega) (by omega) (by omega) 8 0 [] a3 s3 (by omega) (by omega) rfl (fun x hx=>by simp at hx) (by omega) (by omega)
  refine⟨p,q,t,a',s',?_,hw,w0,w1⟩
  unfold spec_l1Cur_serveWishes.f
  simp only [e1,Option.bind_some]
  simp only [e2,Option.bind_some]
  simp only [e3,Option.bind_some,if_true]
  refine Ev.succ ?_
  simp only [spec_l1Cur_serveWishes.j0]
  exact e
 |false=>
  obtain⟨p,q,t,a',s',e,hw,w0,w1⟩:=serve_l0 c hc hl (1+r1) (1+r2) (by omega) (by omega) (by omega) (by omega) (1+r1).toNat 0 [] a3 s3 (by omega) (by omega) rfl (fun x hx=>by simp at hx) (by omega) (by omega)
  refine⟨p,q,t,a',s',?_,hw,w0,w1⟩
  unfold spec_l1Cur_serveWishes.f
  simp only [e1,Option.bind_some]
  simp only [e2,Option.bind_some]
  simp only [e3,Option.bind_some,Bool.false_eq_true,if_false]
  rw [wrap_id (x:=1+r1) (by omega) (by omega),wrap_id (x:=1+r2) (by omega) (by omega)]
  refine Ev.succ ?_
  simp only [spec_l1Cur_serveWishes.j0]
  exact e
theorem drawGM_l (c:List Int) (hc:∀ x ∈ c,0≤x∧x≤255) (hl:c.length≤1048576) (p q:List (List Int)) (t:List Int) (hq:q.length≤8) (n:Nat) (hn:n≤8) (d:Nat):∀ (i:Nat) (m:List Int) (a s:Int),i+d=n→m.length=i→0≤a→a≤1000000 - 10 * d→
  ∃ m',Ev (fun k=>spec_DrawGoodMatch.l0 k m n i c a s p q t) (p,q,t,m')∧m'.length≤8:=by
 induction d with
 |zero=>
  intro i m a s hi hm ha ha1
  refine⟨m,Ev.succ ?_,by omega⟩
  simp only [spec_DrawGoodMatch.l0,if_neg (show ¬ (i:Int)< (n:Int) by omega)]
  exact Ev.now _
 |succ d ih=>
  intro i m a s hi hm ha ha1
  obtain⟨r1,a1,s1,e1,_,_,_,g1,g1'⟩:=pick_ok c hc hl a s ((q.length:Int)+1) ha (by omega)
  obtain⟨m',e,h⟩:=ih (i+1) (m++ [wrap64 (r1 - 1)]) a1 s1 (by omega) (by simp only [List.length_append,List.length_singleton];omega) (by omega) (by omega)
  refine⟨m',Ev.succ ?_,h⟩
  simp only [spec_DrawGoodMatch.l0,if_pos (show (i:Int)< (n:Int) by omega),wrap_id (show (-9223372036854775808:Int)≤ (q.length:Int)+1 by omega) (show (q.length:Int)+1≤9223372036854775807 by omega),e1,Option.bind_some,if_pos (show m.length< 17592186044416 by omega),wrap_id (show (-9223372036854775808:Int)≤ (i:Int)+1 by omega) (show (i:Int)+1≤9223372036854775807 by omega)]
  exact e
theorem drawGM_ok (c:List Int) (hc:∀ x ∈ c,0≤x∧x≤255) (hl:c.length≤1048576):∃ p q t m,Ev (fun k=>spec_DrawGoodMatch.f k c) (p,q,t,m)∧SmallW p q t∧m.length≤8:=by
 obtain⟨p,q,t,a,s,e,hw,w0,w1⟩:=serve_ok c hc hl
 obtain⟨R,e1,_,hR⟩:=matchAll_ev hw.ok
 have h0:=hw.a0
 have fin:∀ (b:Bool) (a s:Int),0≤a→a≤900000→ ∃ m,Ev (fun k=>spec_DrawGoodMatch.j0 k R.1 b c a s p q t) (p,q,t,m)∧m.length≤8:=by
  intro b a s ha ha1
  cases b with
  |true=>
   obtain⟨m,e,h⟩:=drawGM_l c hc hl p q t hw.a1 p.length h0 p.length 0 [] a s (by omega) rfl ha (by omega)
   refine⟨m,Ev.succ ?_,h⟩
   simp only [spec_DrawGoodMatch.j0,if_true]
   exact e
  |false=>
   refine⟨R.1,Ev.succ ?_,hR⟩
   simp only [spec_DrawGoodMatch.j0,Bool.false_eq_true,if_false]
   exact Ev.now _
 by_cases hb:R.2=true
 ·obtain⟨b,a3,s3,e3,g3,g3'⟩:=one_ok c hc hl a s 2 (by omega) (by omega)
  obtain⟨m,e4,hm⟩:=fin b a3 s3 (by omega) (by omega)
  refine⟨p,q,t,m,?_,hw,hm⟩
  unfold spec_DrawGoodMatch.f
  refine Ev.bind e ?_
  refine Ev.bind e1 ?_
  simp only [if_pos hb,e3,Option.bind_some]
  exact e4
 ·obtain⟨m,e4,hm⟩:=fin true a s (by omega) (by omega)
  refine⟨p,q,t,m,?_,hw,hm⟩
  unfold spec_DrawGoodMatch.f
  refine Ev.bind e ?_
  refine Ev.bind e1 ?_
  simp only [if_neg hb]
  exact e4
theorem drawPlace_ok (c:List Int) (hc:∀ x ∈ c,0≤x∧x≤255) (hl:c.length≤1048576):∃ l x,Ev (fun k=>spec_DrawPlaceOf.f k c) (l,x)∧l.length≤8:=by
 obtain⟨r1,a1,s1,e1,r10,_,r12,g1,g1'⟩:=pick_ok c hc hl 0 0 8 (by omega) (by omega)
 have q1:=r12 (by omega)
 obtain⟨r,a2,s2,e2,hr,g2,g2'⟩:=mixed_ok c hc hl r1 r10 (by omega) a1 s1 (by omega) (by omega)
 obtain⟨r3,a3,s3,e3,_,_,_,_,_⟩:=pick_ok c hc hl a2 s2 8 (by omega) (by omega)
 refine⟨r,r3,?_,by omega⟩
 unfold spec_DrawPlaceOf.f
 simp only [e1,Option.bind_some]
 refine Ev.bind e2 ?_
 simp only [e3,Option.bind_some]
 exact Ev.now _
/-! what stable says -/
end Go.Proofs.Ytoipbblhmcpneaa.P
namespace Go.Proofs.Ytoipbblhmcpneaa.Pure
open Go.RowKit Go.Proofs.Ytoipbblhmcpneaa.P Go.Proofs.YtoipbblhmcpneaaW.PrintWords Go.Proofs.YtoipbblhmcpneaaW.PrintLast
set_option linter.unusedVariables false
set_option linter.unusedSimpArgs false
theorem sum_cnt (S:Nat):∀ (m:List Int),(∀ x ∈ m, -1≤x∧x<S)→ ∀ (c:Nat),c≤S→ ((lds m c).foldl (· + ·) 0:Int)= ((m.countP fun x:Int=>decide (0≤x∧x< (c:Int)):Nat):Int):=by
 intro m hm c
 induction c with
 |zero=>
  intro _
  have:m.countP (fun x:Int=>decide (0≤x∧x< ((0:Nat):Int)))=0:=by
   rw [List.countP_eq_zero]
   intro x _
   simp only [decide_eq_true_eq]
   omega
  rw [this]
  rfl
 |succ c ih=>
  intro hc
  have h:=ih (by omega)
  rw [lds,List.foldl_append,h]
  show ((m.countP fun x:Int=>decide (0≤x∧x< (c:Int)):Nat):Int)+ (cnt m c:Int)=_
  have key:∀ (l:List Int),l.countP (fun x=>decide (0≤x∧x< (c:Int)))+cnt l c=l.countP (fun x=>decide (0≤x∧x< ((c+1:Nat):Int))):=by
   intro l
   induction l with
   |nil=>rfl
   |cons x l ih2=>
    unfold cnt at ih2 ⊢
    rw [List.countP_cons,List.countP_cons,List.countP_cons,← ih2]
    by_cases h1: 0≤x∧x< (c:Int)
    ·have e1:=decide_eq_true h1
     have e2:=decide_eq_false (show ¬ x= (c:Int) by omega)
     have e3:=decide_eq_true (show 0≤x∧x< ((c+1:Nat):Int) by omega)
     rw [e1,e2,e3]
     simp only [if_true,Bool.false_eq_true,if_false]
     omega
    ·have e1:=decide_eq_false h1
     by_cases h2:x= (c:Int)
     ·have e2:=decide_eq_true h2
      have e3:=decide_eq_true (show 0≤x∧x< ((c+1:Nat):Int) by omega)
      rw [e1,e2,e3]
      simp only [if_true,Bool.false_eq_true,if_false]
      omega
     ·have e2:=decide_eq_false h2
      have e3:=decide_eq_false (show ¬ (0≤x∧x< ((c+1:Nat):Int)) by omega)
      rw [e1,e2,e3]
      simp only [Bool.false_eq_true,if_false]
      omega
  have:=key m
  omega
theorem fm_l1 (d m:List Int) (g s:Int) (b:Bool) (p q:List (List Int)) (t:List Int) (hR:Ev (fun k=>laws_FnMatches.j4 k d m g s b p q t) true) (suf:List Int):∀ (pre:List Int) (n:Int),((pre++suf).length:Int)≤1000→n= ((suf.countP fun x:Int=>decide (0≤x):Nat):Int)→
  Ev (fun k=>laws_FnMatches.l1 k d m g s b n (pre++suf) ((pre++suf).length:Int) (pre.length:Int) p q t) true:=by
 induction suf with
 |nil=>
  intro pre n hb hn
  refine Ev.succ ?_
  simp only [laws_FnMatches.l1,List.append_nil,if_neg (show ¬ (pre.length:Int)< (pre.length:Int) by omega),if_pos (show n=0 from hn)]
  exact hR
 |cons x suf ih=>
  intro pre n hb hn
  have hb':=hb
  rw [len_mid] at hb'
  have hc:=List.countP_le_length (p:=fun x:Int=>decide (0≤x)) (l:=suf)
  have h:=fun n' hn'=>ih (pre++ [x]) n' (by rw [← app_one];exact hb) hn'
  simp only [← app_one,len_one] at h
  refine Ev.succ ?_
  simp only [laws_FnMatches.l1,if_pos (show (pre.length:Int)< ((pre++x::suf).length:Int) by rw [len_mid];omega),if_pos (show (0:Int)≤ (pre.length:Int) by omega),rd_mid,wrap_id (show (-9223372036854775808:Int)≤ (pre.length:Int)+1 by omega) (show (pre.length:Int)+1≤9223372036854775807 by omega)]
  rw [List.countP_cons] at hn
  by_cases hx: 0≤x
  ·simp only [hx,decide_true,if_true] at hn
   simp only [ge_iff_le,if_pos hx]
   rw [wrap_id (x:=n - 1) (by omega) (by omega)]
   exact h _ (by omega)
  ·simp only [hx,decide_false,Bool.false_eq_true,if_false] at hn
   simp only [ge_iff_le,if_neg hx]
   exact h _ (by omega)
theorem fm_l0 (d m:List Int) (g s:Int) (b:Bool) (p q:List (List Int)) (t:List Int) (ht:t.length≤8) (N:Int) (hN: 0≤N∧N≤100) (hR:Ev (fun k=>laws_FnMatches.l1 k d m g s b N m (m.length:Int) 0 p q t) true) (suf:List Int):∀ (pre:List Int) (n:Int),(pre++suf).length=t.length→ (∀ j:Nat,j< (pre++suf).length→0≤rd (pre++suf) j∧rd (pre++suf) j≤8∧rd (pre++suf) j≤rd t j)→0≤n→n≤8 * pre.length→suf.foldl (· + ·) n=N→
  Ev (fun k=>laws_FnMatches.l0 k d m g s b n (pre++suf) ((pre++suf).length:Int) (pre.length:Int) p q t) true:=by
 induction suf with
 |nil=>
  intro pre n hb hj h0 h1 hn
  obtain rfl:n=N:=hn
  refine Ev.succ ?_
  simp only [laws_FnMatches.l0,List.append_nil,if_neg (show ¬ (pre.length:Int)< (pre.length:Int) by omega)]
  exact hR
 |cons x suf ih=>
  intro pre n hb hj h0 h1 hn
  have hb':(pre.length:Int)+suf.length+1=t.length:=by rw [← len_mid pre x suf];omega
  have hx:=hj pre.length (by simp<;>omega)
  rw [rd_mid] at hx
  have h:=fun n' a0 a1 a2=>ih (pre++ [x]) n' (by rw [← app_one];exact hb) (by rw [← app_one];exact hj) a0 a1 a2
  simp only [← app_one,len_one] at h
  refine Ev.succ ?_
  simp only [laws_FnMatches.l0,if_pos (show (pre.length:Int)< ((pre++x::suf).length:Int) by rw [len_mid];omega),if_pos (show (0:Int)≤ (pre.length:Int) by omega),if_pos (show (pre.length:Int)< (t.length:Int) by omega),rd_mid,if_neg (show ¬ x > rd t (pre.length:Int) by omega),wrap_id (show (-9223372036854775808:Int)≤ (pre.length:Int)+1 by omega) (show (pre.length:Int)+1≤9223372036854775807 by omega)]
  rw [wrap_id (x:=n+x) (by omega) (by omega)]
  exact h (n+x) (by omega) (by omega) hn
theorem FnMatches:laws_FnMatches.Pure:=by
 intro c d hc1 hc2 hc3 hd1 hd2 hd3
 refine Ev.rounds ?_
 unfold laws_FnMatches.f
 by_cases h:(wrap64 ((c.length:Int)+ (d.length:Int))) > 1048576
 ·simp only [if_pos h]
  exact Ev.now _
 simp only [if_neg h]
 rw [wrap_id (by omega) (by omega)] at h
 have hcb:=bytes_ok hc3
 have hdb:=bytes_ok hd3
 obtain⟨p,q,t,m,e,hw,hm⟩:=drawGM_ok c hcb (by omega)
 have hdraw:Ev (fun k=>spec_DrawBlockingIn.f k c) (p,q,t,m):=by
  unfold spec_DrawBlockingIn.f
  exact Ev.bind e (Ev.now _)
 obtain⟨u,v,y,z,e2,hw2,hz⟩:=drawGM_ok d hdb (by omega)
 have hdraw2:Ev (fun k=>spec_DrawRanksOf.f k d) (u,v,y,z):=by
  unfold spec_DrawRanksOf.f
  exact Ev.bind e2 (Ev.now _)
 obtain⟨l,x,e3,hl⟩:=drawPlace_ok d hdb (by omega)
 have hj5:Ev (fun k=>laws_FnMatches.j5 k d) true:=by
  refine Ev.succ ?_
  simp only [laws_FnMatches.j5]
  have hrl:=ranksOf_len u v y z
  refine Ev.bind e3 ?_
  refine Ev.bind (implPlaceOf_ev l x (by omega)) ?_
  refine Ev.bind (specPlaceOf_ev l x (by omega)) ?_
  refine Ev.bind hdraw2 ?_
  refine Ev.bind (implRanksOf_ev hw2.ok z (by omega)) ?_
  refine Ev.bind (specRanksOf_ev hw2.ok z (by omega)) ?_
  simp only [beq_self_eq_true,if_true]
  refine Ev.bind (sameInts_ev _ _ (by omega)) ?_
  simp only [decide_true]
  exact Ev.now _
 have hll:=loadOf_len p q t m
 refine Ev.bind hdraw ?_
 refine Ev.bind (implBlockingIn_ev hw.ok m (by omega)) ?_
 refine Ev.bind (specBlockingIn_ev hw.ok m (by omega)) ?_
 refine Ev.bind (implIsStable_ev hw.ok m (by omega)) ?_
 refine Ev.bind (specIsStable_ev hw.ok m (by omega)) ?_
 refine Ev.bind (implLoadOf_ev hw.ok m (by omega)) ?_
 refine Ev.bind (specLoadOf_ev hw.ok m (by omega)) ?_
 simp only [bne_self_eq_false,Bool.false_eq_true,if_false,if_true]
 refine Ev.bind (sameInts_ev _ _ (by omega)) ?_
 simp only [decide_true,if_true]
 refine Ev.bind (implGoodM_ev hw.ok m (by omega)) ?_
 by_cases hg:goodM p q t m=true
 ·have bd:=bd_of hg
  have hM:=mOk_of hg
  have hlg:=bd.lg
  have hls:=bd.ls
  have hlm:=bd.lm
  have hlr:=bd.lr
  rw [show isStable p q t m= (!(blockR p q t m).2.2,true) by unfold isStable;rw [if_pos hg],show blockingIn p q t m=blockR p q t m by unfold blockingIn;rw [if_pos hg],show loadOf p q t m= (lds m q.length,true) by unfold loadOf;rw [if_pos hg],hg]
  simp only [bne_self_eq_false]
  refine Ev.succ ?_
  simp only [laws_FnMatches.j0,Bool.false_eq_true,if_false,if_true,show ∀ b:Bool,((!b)==b)=false from fun b=>by cases b<;>rfl]
  refine Ev.succ ?_
  simp only [laws_FnMatches.j1,Bool.false_eq_true,if_false,if_true]
  have hj4:Ev (fun k=>laws_FnMatches.j4 k d m (blockR p q t m).1 (blockR p q t m).2.1 (blockR p q t m).2.2 p q t) true:=by
   refine Ev.succ ?_
   cases hb:blockM p q t m with
   |none=>
    simp only [laws_FnMatches.j4,blockR,hb,Bool.false_eq_true,if_false]
    exact hj5
   |some z=>
    obtain⟨b1,b2,b3,b4,b5⟩:=block_low hb
    have hB:=(blk_iff p q t m z.1 z.2).1 b1
    have hp:=bd.w.pg z.1 b2 b3
    have hpl:=hp.pl_in b4 b5
    have hrow:=hp.len
    have hpo:placeOf (row_ p z.1) z.2= (pl (row_ p z.1) z.2,true):=by
     obtain⟨kk,_,k2,_⟩:=placeGo_some z.2 (row_ p z.1) 0 (hp.mem b4 b5)
     unfold placeOf pl
     rw [if_neg (by omega),k2]
     rfl
    have hrm:=ranksM_len p m
    have hra:=ranksM_at p m (g:=z.1) b2 (by omega)
    simp only [laws_FnMatches.j4,blockR,hb,if_true,if_pos b2,if_pos b3,rowL_is]
    refine Ev.bind (implPlaceOf_ev (row_ p z.1) z.2 (by omega)) ?_
    refine Ev.bind (implRanksOf_ev hw.ok m (by omega)) ?_
    rw [hpo,show ranksOf p q t m= (ranksM p m,true) by unfold ranksOf;rw [if_pos hg]]
    simp only [if_true,if_pos (show z.1< ((ranksM p m).length:Int) by omega)]
    have hlt:=hB.1
    simp only [if_neg (show ¬ pl (row_ p z.1) z.2≥rd (ranksM p m) z.1 by omega)]
    exact hj5
  have hs:=sum_cnt q.length m bd.low q.length (Nat.le_refl _)
  have hcc:m.countP (fun x=>decide (0≤x∧x< ((q.length:Nat):Int)))=m.countP (fun x=>decide (0≤x)):=by
   refine List.countP_congr (fun x hx=>?_)
   have:=bd.low x hx
   simp only [decide_eq_true_eq]
   omega
  rw [hcc] at hs
  have hle:=List.countP_le_length (p:=fun x:Int=>decide (0≤x)) (l:=m)
  have hll2:=lds_len m q.length
  refine fm_l0 d m _ _ _ p q t (by omega) _ (by omega) (fm_l1 d m _ _ _ p q t hj4 m [] _ (by simp only [List.nil_append];omega) rfl) (lds m q.length) [] 0 (by simp only [List.nil_append];omega) (fun j hj=>?_) (by omega) (by simp) hs
  simp only [List.nil_append] at hj ⊢
  rw [lds_at m q.length j (by omega)]
  have:=hM.cap j (by omega) (by omega)
  have:=cnt_le m j
  omega
 ·rw [show isStable p q t m= (false,false) by unfold isStable;rw [if_neg hg],show blockingIn p q t m= (0,0,false) by unfold blockingIn;rw [if_neg hg],show loadOf p q t m= ([],false) by unfold loadOf;rw [if_neg hg],Bool.eq_false_iff.2 hg]
  simp only [bne_self_eq_false]
  refine Ev.succ ?_
  simp only [laws_FnMatches.j0,Bool.false_eq_true,if_false]
  refine Ev.succ ?_
  simp only [laws_FnMatches.j1,Bool.false_eq_true,if_false]
  refine Ev.succ ?_
  simp only [laws_FnMatches.j4,Bool.false_eq_true,if_false]
  exact hj5
end Go.Proofs.Ytoipbblhmcpneaa.Pure
