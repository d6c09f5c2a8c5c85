/- Functions, walks and plain lemmas that the law FnExactOnTree reaches, part 2. -/
import Derived.Test.YtedegfbheihopaaCFnExactOnTree1
import Derived.Below
import Derived.Deep.Draws
import Derived.Deep.AppendLies
import Derived.Maps.AppendAt
import Derived.OwnWalk
import Derived.Laws.BytesArg
import Derived.Laws.MakeOwn
import Derived.Laws.OwnMore
import Derived.Deep.OwnRows
import Derived.Tactics
import Derived.Lib.ConvBytes
import Derived.Laws.Slices
import Derived.WalkKit
import Derived.KernelRfl
import Derived.RowKit3
import Derived.Deep.LoopGhost
import Derived.Deep.QuietTactic
import Derived.BigQuiet
import Derived.WideLaws
import Derived.Deep.DeepCutAuto
import Derived.Deep.CutBlock
import Derived.Deep.RegionHeld3
import Derived.Laws.Rows
import Derived.Lib.AppendStr
import Derived.ArgAppend
import Derived.Laws.IdiomCopy
import Derived.OrdersHeld
import Derived.Laws.BitsLemmas
import Derived.RowKit
import Derived.WalkSpells
import Derived.Lib.SliceRun
import Derived.Shelf.Abstract
import Derived.Maps.OwnSet
import Derived.Maps.OwnOps
import Derived.ProofKit
import Derived.OpenShut
import Derived.ShutString
import Derived.ChangeOld
import Derived.SizedLaws
namespace Go.Proofs.Ytedegfbheihopaa.P
open Go.RowKit Go.Proofs.YtedegfbheihopaaW.PrintWords Go.Proofs.YtedegfbheihopaaW.PrintLast
set_option linter.unusedVariables false
set_option linter.unusedSimpArgs false
-- a tree by its parents: the climb from every node ends
def inr (n x : Int) : Bool := decide (-1 ≤ x ∧ x ≤ wrap64 (n - 1))
def inn (n : Int) : Bool := decide (1 ≤ n ∧ n ≤ 12)
def upOk (l : List Int) : Nat → Int → Bool
 | 0, u => decide (u < 0)
 | d + 1, u => if u ≥ 0 then inr (l.length : Int) (rd l u) && upOk l d (rd l u) else true
def climb (l : List Int) : Nat → Int → Int
 | 0, u => u
 | d + 1, u => if u ≥ 0 then climb l d (rd l u) else climb l d u
def chkS (l : List Int) : List Int → Nat → Bool
 | [], _ => inn (l.length : Int)
 | x :: suf, i => inr (l.length : Int) x && (upOk l l.length i && chkS l suf (i + 1))
def chkI (l : List Int) : Nat → Nat → Bool
 | 0, _ => true
 | d + 1, i => decide (climb l l.length i < 0) && chkI l d (i + 1)
theorem topLen {l : List Int} (hl : l.length ≤ 1048576) : wrap64 ((l.length : Int) - 1) = (l.length : Int) - 1 := wrap_id (by omega) (by omega)
theorem specPar_l1 (l : List Int) (hl : l.length ≤ 1048576) (X : List Int) (m i : Int) (R : Bool) (d : Nat) : ∀ (h : Nat) (u : Int), h + d = l.length → -1 ≤ u → u < l.length →
  (upOk l d u = true → Ev (fun k => spec_GoodParents.l0 k l l.length X m (wrap64 (i + 1))) R) → (upOk l d u = false → R = false) →
  Ev (fun k => spec_GoodParents.l1 k l l.length h u X m i) R := by
 induction d with
 | zero =>
  intro h u hd h0 h1 hT hF
  refine Ev.succ ?_
  by_cases hu : u ≥ 0
  ·simp only [spec_GoodParents.l1, if_pos hu, wrap_id (show (-9223372036854775808 : Int) ≤ h + 1 by omega) (show ((h : Int) + 1 ≤ 9223372036854775807) by omega), if_pos (show (h : Int) + 1 > l.length by omega)]
   exact Ev.some_ (hF (by rw [upOk]; exact decide_eq_false (by omega))).symm
  ·simp only [spec_GoodParents.l1, if_neg hu]
   exact hT (by rw [upOk]; exact decide_eq_true (by omega))
 | succ d ih =>
  intro h u hd h0 h1 hT hF
  refine Ev.succ ?_
  by_cases hu : u ≥ 0
  ·simp only [spec_GoodParents.l1, if_pos hu, wrap_id (show (-9223372036854775808 : Int) ≤ h + 1 by omega) (show ((h : Int) + 1 ≤ 9223372036854775807) by omega), if_neg (show ¬ (h : Int) + 1 > l.length by omega), if_pos (show 0 ≤ u from hu), if_pos h1, specIn, Option.bind_some, decide_eq_true_eq]
   rw [upOk, if_pos hu] at hT hF
   by_cases hr : -1 ≤ rd l u ∧ rd l u ≤ wrap64 ((l.length : Int) - 1)
   ·simp only [if_pos hr]
    rw [inr, decide_eq_true hr, Bool.true_and] at hT hF
    rw [topLen hl] at hr
    have := ih (h + 1) (rd l u) (by omega) hr.1 (by omega) hT hF
    exact this
   ·simp only [if_neg hr]
    rw [inr, decide_eq_false hr, Bool.false_and] at hF
    exact Ev.some_ (hF rfl).symm
  ·simp only [spec_GoodParents.l1, if_neg hu]
   exact hT (by rw [upOk, if_neg hu])
theorem specPar_l0 (l : List Int) (hl : l.length ≤ 1048576) (suf : List Int) : ∀ (pre : List Int), pre ++ suf = l →
  Ev (fun k => spec_GoodParents.l0 k l l.length l l.length pre.length) (chkS l suf pre.length) := by
 induction suf with
 | nil =>
  intro pre h
  refine Ev.succ ?_
  rw [List.append_nil] at h
  subst h
  simp only [spec_GoodParents.l0, Int.lt_irrefl, if_false, specIn, Option.bind_some]
  exact Ev.now _
 | cons x suf ih =>
  intro pre h
  refine Ev.succ ?_
  have hn : (l.length : Int) = pre.length + suf.length + 1 := by rw [← h, len_mid]
  have hx : rd l (pre.length : Int) = x := by rw [← h, rd_mid]
  simp only [spec_GoodParents.l0, if_pos (show (pre.length : Int) < l.length by omega), if_pos (show (0 : Int) ≤ pre.length by omega), hx, specIn, Option.bind_some, decide_eq_true_eq]
  rw [chkS]
  by_cases hr : -1 ≤ x ∧ x ≤ wrap64 ((l.length : Int) - 1)
  ·simp only [if_pos hr]
   rw [inr, decide_eq_true hr, Bool.true_and]
   refine specPar_l1 l hl l l.length pre.length _ l.length 0 pre.length (by omega) (by omega) (by omega) ?_ ?_
   ·intro ho
    rw [ho, Bool.true_and, wrap_id (show (-9223372036854775808 : Int) ≤ pre.length + 1 by omega) (show ((pre.length : Int) + 1 ≤ 9223372036854775807) by omega)]
    have := ih (pre ++ [x]) (by rw [← app_one]; exact h)
    rw [len_one, List.length_append, List.length_singleton] at this
    exact this
   ·intro ho
    rw [ho, Bool.false_and]
  ·simp only [if_neg hr]
   rw [inr, decide_eq_false hr, Bool.false_and]
   exact Ev.now _
theorem implPar_l1 (l : List Int) (hl : l.length ≤ 1048576) (ha : allIn (-1) ((l.length : Int) - 1) l = true) (m i : Int) (R : Bool) (d : Nat) : ∀ (c : Nat) (u : Int), c + d = l.length → -1 ≤ u → u < l.length →
  Ev (fun k => if climb l d u ≥ 0 then some false else impl_GoodParents.l0 k l m (wrap64 (i + 1))) R →
  Ev (fun k => impl_GoodParents.l1 k l u m i l.length c) R := by
 induction d with
 | zero =>
  intro c u hd h0 h1 hR
  refine Ev.succ ?_
  simp only [impl_GoodParents.l1, if_neg (show ¬ (c : Int) < l.length by omega)]
  exact hR
 | succ d ih =>
  intro c u hd h0 h1 hR
  refine Ev.succ ?_
  rw [climb] at hR
  simp only [impl_GoodParents.l1, if_pos (show (c : Int) < l.length by omega), wrap_id (show (-9223372036854775808 : Int) ≤ c + 1 by omega) (show ((c : Int) + 1 ≤ 9223372036854775807) by omega)]
  by_cases hu : u ≥ 0
  ·simp only [if_pos hu, if_pos (show 0 ≤ u from hu), if_pos h1] at hR ⊢
   have hm : rd l u ∈ l := by
    unfold rd
    rw [List.getD_eq_getElem?_getD, List.getElem?_eq_getElem (show u.toNat < l.length by omega)]
    exact List.getElem_mem _
   have := List.all_eq_true.1 ha _ hm
   rw [decide_eq_true_eq] at this
   exact ih (c + 1) _ (by omega) this.1 (by omega) hR
  ·simp only [if_neg hu] at hR ⊢
   exact ih (c + 1) _ (by omega) h0 h1 hR
theorem implPar_l0 (l : List Int) (hl : l.length ≤ 1048576) (ha : allIn (-1) ((l.length : Int) - 1) l = true) (d : Nat) : ∀ (c : Nat), c + d = l.length →
  Ev (fun k => impl_GoodParents.l0 k l l.length c) (chkI l d c) := by
 induction d with
 | zero =>
  intro c h
  refine Ev.succ ?_
  simp only [impl_GoodParents.l0, if_neg (show ¬ (c : Int) < l.length by omega)]
  exact Ev.now _
 | succ d ih =>
  intro c h
  refine Ev.succ ?_
  simp only [impl_GoodParents.l0, if_pos (show (c : Int) < l.length by omega)]
  refine implPar_l1 l hl ha l.length c _ l.length 0 c (by omega) (by omega) (by omega) ?_
  rw [chkI]
  by_cases hc : climb l l.length c ≥ 0
  ·simp only [if_pos hc]
   rw [decide_eq_false (by omega), Bool.false_and]
   exact Ev.now _
  ·simp only [if_neg hc]
   rw [decide_eq_true (by omega), Bool.true_and, wrap_id (show (-9223372036854775808 : Int) ≤ c + 1 by omega) (show ((c : Int) + 1 ≤ 9223372036854775807) by omega)]
   exact ih (c + 1) (by omega)
theorem climb_neg (l : List Int) : ∀ (d : Nat) (u : Int), u < 0 → climb l d u = u
 | 0, _, _ => rfl
 | d + 1, u, h => by rw [climb, if_neg (by omega)]; exact climb_neg l d u h
theorem upOk_climb (l : List Int) (hl : l.length ≤ 1048576) (ha : allIn (-1) ((l.length : Int) - 1) l = true) : ∀ (d : Nat) (u : Int), -1 ≤ u → u < l.length → upOk l d u = decide (climb l d u < 0)
 | 0, _, _, _ => rfl
 | d + 1, u, h0, h1 => by
  rw [upOk, climb]
  by_cases hu : u ≥ 0
  ·have hm : rd l u ∈ l := by
    unfold rd
    rw [List.getD_eq_getElem?_getD, List.getElem?_eq_getElem (show u.toNat < l.length by omega)]
    exact List.getElem_mem _
   have := List.all_eq_true.1 ha _ hm
   rw [decide_eq_true_eq] at this
   rw [if_pos hu, if_pos hu, inr, topLen hl, decide_eq_true this, Bool.true_and]
   exact upOk_climb l hl ha d _ this.1 (by omega)
  ·rw [if_neg hu, if_neg hu, climb_neg l d u (by omega)]
   exact (decide_eq_true (by omega)).symm
theorem chk_same (l : List Int) (hl : l.length ≤ 1048576) (ha : allIn (-1) ((l.length : Int) - 1) l = true) : ∀ (suf : List Int) (c : Nat), (∀ x ∈ suf, x ∈ l) → c + suf.length = l.length → chkS l suf c = (chkI l suf.length c && inn (l.length : Int))
 | [], c, _, _ => by rw [chkS, List.length_nil, chkI, Bool.true_and]
 | x :: suf, c, hm, hc => by
  have hx := List.all_eq_true.1 ha x (hm x (List.mem_cons_self ..))
  rw [decide_eq_true_eq] at hx
  rw [List.length_cons] at hc
  rw [chkS, List.length_cons, chkI, inr, topLen hl, decide_eq_true hx, Bool.true_and, upOk_climb l hl ha l.length c (by omega) (by omega), chk_same l hl ha suf (c + 1) (fun y hy => hm y (List.mem_cons_of_mem _ hy)) (by omega), Bool.and_assoc]
theorem chk_all (l : List Int) (hl : l.length ≤ 1048576) : ∀ (suf : List Int) (c : Nat), chkS l suf c = true → allIn (-1) ((l.length : Int) - 1) suf = true
 | [], _, _ => rfl
 | x :: suf, c, h => by
  rw [chkS, Bool.and_eq_true, Bool.and_eq_true, inr, topLen hl] at h
  rw [allIn, List.all_cons, h.1, Bool.true_and]
  exact chk_all l hl suf (c + 1) h.2.2
def goodP (l : List Int) : Bool := chkS l l 0
theorem specGoodP_ev (l : List Int) (hl : l.length ≤ 1048576) : Ev (fun k => spec_GoodParents.f k l) (goodP l) := by
 have := specPar_l0 l hl l [] rfl
 exact this
theorem implGoodP_ev (l : List Int) (hl : l.length ≤ 1048576) : Ev (fun k => impl_GoodParents.f k l) (goodP l) := by
 unfold impl_GoodParents.f impl_isSpots.f goodP
 simp only [implIn, Option.bind_some, decide_eq_true_eq]
 have bad : Ev (fun k => impl_GoodParents.j0 k l true) false := by
  refine Ev.succ ?_
  simp only [impl_GoodParents.j0, if_true]
  exact Ev.now _
 by_cases hn : 1 ≤ (l.length : Int) ∧ (l.length : Int) ≤ 12
 ·simp only [if_pos hn]
  refine Ev.bind (implAll_ev _ _ l (by omega)) ?_
  rw [topLen hl]
  by_cases ha : allIn (-1) ((l.length : Int) - 1) l = true
  ·rw [ha, chk_same l hl ha l 0 (fun x h => h) (by omega), inn, decide_eq_true hn, Bool.and_true]
   refine Ev.succ ?_
   simp only [impl_GoodParents.j0, Bool.not_true, Bool.false_eq_true, if_false]
   exact implPar_l0 l hl ha l.length 0 (by omega)
  ·rw [show chkS l l 0 = false from Bool.eq_false_iff.2 fun hc => ha (chk_all l hl l 0 hc), Bool.eq_false_iff.2 ha]
   exact bad
 ·simp only [if_neg hn]
  rw [show chkS l l 0 = false from ?_]
  ·exact bad
  ·refine Bool.eq_false_iff.2 fun hc => ?_
   have ha := chk_all l hl l 0 hc
   rw [chk_same l hl ha l 0 (fun x h => h) (by omega), inn, decide_eq_false hn, Bool.and_false] at hc
   exact Bool.false_ne_true hc
end Go.Proofs.Ytedegfbheihopaa.P

namespace Go.Proofs.Ytedegfbheihopaa.P
open Go.RowKit Go.Proofs.YtedegfbheihopaaW.PrintWords Go.Proofs.YtedegfbheihopaaW.PrintLast
set_option linter.unusedVariables false
set_option linter.unusedSimpArgs false
theorem erase_len_le {α : Type} [DecidableEq α] {x : α} : ∀ {M : List α}, x ∈ M → (M.erase x).length + 1 = M.length := by
 intro M h
 have := List.length_erase_of_mem h
 have h2 : 0 < M.length := List.length_pos_of_mem h
 omega
theorem nodup_le {α : Type} [DecidableEq α] : ∀ (L M : List α), L.Nodup → (∀ x ∈ L, x ∈ M) → L.length ≤ M.length
 | [], _, _, _ => Nat.zero_le _
 | x :: L, M, hn, hs => by
  have hx : x ∈ M := hs x (by simp)
  rw [List.nodup_cons] at hn
  have h := nodup_le L (M.erase x) hn.2 (fun y hy => by
   have : y ≠ x := fun e => hn.1 (e ▸ hy)
   exact (List.mem_erase_of_ne this).2 (hs y (by simp [hy])))
  have := erase_len_le hx
  simp only [List.length_cons]
  omega
end Go.Proofs.Ytedegfbheihopaa.P

namespace Go.Proofs.Ytedegfbheihopaa.P
open Go.RowKit Go.Proofs.YtedegfbheihopaaW.PrintWords Go.Proofs.YtedegfbheihopaaW.PrintLast Go.Proofs.YtedegfbheihopaaW.PrintMore
attribute [local go_sem] max2_int min2_int max_two min_two max_three min_three max_four min_four   -- for this text's walks alone
set_option linter.unusedVariables false
set_option linter.unusedSimpArgs false
mutual
def spec_l10Spread.l0:Nat→List Int→List (S61)→List (S61)→Option ((List (S61)))
 | 0,_,_,_=>none
 |k+1,x0,x5,x6=>if (x6.length:Int) > 0 then(if 0< (x6.length:Int) then(if 1≤ (x6.length:Int) then((spec_l10Joined.f k x0 ((rd_T61 x6 0).f1)).bind fun t410=>(spec_l10Spread.l1 k x0 x5 (x6.drop (1:Int).toNat) t410 (t410.length:Int) 0 ((rd_T61 x6 0).f0) ((rd_T61 x6 0).f1))) else(none)) else(none)) else(some x5)
def spec_l10Spread.l1:Nat→List Int→List (S61)→List (S61)→List Int→Int→Int→Int→Int→Option ((List (S61)))
 | 0,_,_,_,_,_,_,_,_=>none
 |k+1,x0,x5,x6,x25,x26,x27,x407000,x407001=>if x27<x26 then(if 0≤x27 then(if x27< (x25.length:Int) then(if (rd x25 x27)=x407000 then(spec_l10Spread.l1 k x0 x5 x6 x25 x26 (wrap64 (x27+1)) x407000 x407001) else(if x5.length< 8796093022208 then(if x6.length< 8796093022208 then(spec_l10Spread.l1 k x0 (x5++ [(⟨x407001,rd x25 x27⟩ :S61)]) (x6++ [(⟨x407001,rd x25 x27⟩ :S61)]) x25 x26 (wrap64 (x27+1)) x407000 x407001) else(none)) else(none))) else(none)) else(none)) else(spec_l10Spread.l0 k x0 x5 x6)
end
def spec_l10Spread.f (k:Nat) (l0:List Int) (a1:Int):Option ((List (S61))):=spec_l10Spread.l0 k l0 ([] :List (S61)) (([(⟨(-1),a1⟩ :S61)] :List (S61)))
end Go.Proofs.Ytedegfbheihopaa.P

namespace Go.Proofs.Ytedegfbheihopaa.P
open Go.RowKit Go.Proofs.YtedegfbheihopaaW.PrintWords Go.Proofs.YtedegfbheihopaaW.PrintLast
set_option linter.unusedVariables false
set_option linter.unusedSimpArgs false
def joinC (l : List Int) (v : Int) (c : Nat) : List Int := (own0 c).filter fun u => decide (rd l u = v ∨ rd l v = u)
theorem joinC_succ (l : List Int) (v : Int) (c : Nat) : joinC l v (c + 1) = if rd l c = v ∨ rd l v = c then joinC l v c ++ [(c : Int)] else joinC l v c := by
 unfold joinC
 rw [own0_succ, List.filter_append]
 split
 ·rename_i h; simp [List.filter_cons, h]
 ·rename_i h; simp [List.filter_cons, h]
theorem joinC_len (l : List Int) (v : Int) (c : Nat) : (joinC l v c).length ≤ c := by
 unfold joinC
 exact Nat.le_trans (List.length_filter_le _ _) (by unfold own0; simp)
theorem joinC_mem (l : List Int) (v : Int) (c : Nat) (x : Int) : x ∈ joinC l v c ↔ (0 ≤ x ∧ x < c) ∧ (rd l x = v ∨ rd l v = x) := by
 unfold joinC
 rw [List.mem_filter, own0_mem, decide_eq_true_eq]
theorem putI_last : ∀ (l : List Int) (x : Int), (∀ y ∈ l, y < x) → putI l x = l ++ [x]
 | [], _, _ => rfl
 | y :: r, x, h => by
  rw [putI, if_pos (h y (by simp)), putI_last r x (fun z hz => h z (by simp [hz]))]
  rfl
theorem putJoin (l : List Int) (v : Int) (c : Nat) : putI (joinC l v c) c = joinC l v c ++ [(c : Int)] := putI_last _ _ (fun y hy => ((joinC_mem l v c y).1 hy).1.2)
theorem implBr_l (l : List Int) (v : Int) (h0 : 0 ≤ v) (h1 : v < l.length) (hl : l.length ≤ 1000) (d : Nat) : ∀ (c : Nat), c + d = l.length →
  Ev (fun k => impl_branches.l0 k l v (joinC l v c) l l.length c) (joinC l v l.length) := by
 induction d with
 | zero =>
  intro c hc
  refine Ev.succ ?_
  simp only [impl_branches.l0, if_neg (show ¬ (c : Int) < (l.length : Int) by omega)]
  exact Ev.some_ (by rw [show c = l.length by omega])
 | succ d ih =>
  intro c hc
  refine Ev.succ ?_
  have hlen := joinC_len l v c
  have hn := ih (c + 1) (by omega)
  rw [joinC_succ] at hn
  simp only [impl_branches.l0, if_pos (show (c : Int) < (l.length : Int) by omega), if_pos (show (0 : Int) ≤ c by omega), if_pos h0, if_pos h1, wrap_id (show (-9223372036854775808 : Int) ≤ c + 1 by omega) (show ((c : Int) + 1 ≤ 9223372036854775807) by omega), if_pos (show (joinC l v c).length < 17592186044416 by omega)]
  by_cases e1 : rd l c = v
  ·rw [if_pos (Or.inl e1)] at hn
   simp only [if_pos e1]
   exact hn
  ·simp only [if_neg e1]
   by_cases e2 : rd l v = c
   ·rw [if_pos (Or.inr e2)] at hn
    simp only [if_pos e2]
    exact hn
   ·rw [if_neg (fun hc => hc.elim e1 e2)] at hn
    simp only [if_neg e2]
    exact hn
theorem implBr_ev (l : List Int) (v : Int) (h0 : 0 ≤ v) (h1 : v < l.length) (hl : l.length ≤ 1000) : Ev (fun k => impl_branches.f k l v) (joinC l v l.length) := implBr_l l v h0 h1 hl l.length 0 (by omega)
theorem specJo_l (l : List Int) (v : Int) (h0 : 0 ≤ v) (h1 : v < l.length) (hl : l.length ≤ 1000) (d : Nat) : ∀ (c : Nat), c + d = l.length →
  Ev (fun k => spec_l10Joined.l0 k l v (joinC l v c) l l.length c) (joinC l v l.length) := by
 induction d with
 | zero =>
  intro c hc
  refine Ev.succ ?_
  simp only [spec_l10Joined.l0, if_neg (show ¬ (c : Int) < (l.length : Int) by omega)]
  exact Ev.some_ (by rw [show c = l.length by omega])
 | succ d ih =>
  intro c hc
  refine Ev.succ ?_
  have hlen := joinC_len l v c
  have hn := ih (c + 1) (by omega)
  have hp := put_ev (joinC l v c) c (by omega)
  rw [putJoin] at hp
  rw [joinC_succ] at hn
  simp only [spec_l10Joined.l0, if_pos (show (c : Int) < (l.length : Int) by omega), if_pos (show (0 : Int) ≤ c by omega), if_pos h0, if_pos h1, wrap_id (show (-9223372036854775808 : Int) ≤ c + 1 by omega) (show ((c : Int) + 1 ≤ 9223372036854775807) by omega)]
  by_cases e1 : rd l c = v
  ·rw [if_pos (Or.inl e1)] at hn
   simp only [if_pos e1]
   exact Ev.bind hp hn
  ·simp only [if_neg e1]
   by_cases e2 : rd l v = c
   ·rw [if_pos (Or.inr e2)] at hn
    simp only [if_pos e2]
    exact Ev.bind hp hn
   ·rw [if_neg (fun hc => hc.elim e1 e2)] at hn
    simp only [if_neg e2]
    exact hn
theorem specJo_ev (l : List Int) (v : Int) (h0 : 0 ≤ v) (h1 : v < l.length) (hl : l.length ≤ 1000) : Ev (fun k => spec_l10Joined.f k l v) (joinC l v l.length) := specJo_l l v h0 h1 hl l.length 0 (by omega)
def kidsM (l : List Int) (f a : Int) (J : List Int) : List Int := J.filter fun u => decide (u ≠ f)
def qS (q : List (Int × Int)) : List S61 := q.map fun x => ⟨x.1, x.2⟩
def qI (q : List (Int × Int)) : List S101 := q.map fun x => ⟨x.2, x.1⟩
def fan (a : Int) (K : List Int) : List (Int × Int) := K.map fun u => (a, u)
theorem qS_app (p q : List (Int × Int)) : qS (p ++ q) = qS p ++ qS q := List.map_append ..
theorem qI_app (p q : List (Int × Int)) : qI (p ++ q) = qI p ++ qI q := List.map_append ..
theorem qS_len (p : List (Int × Int)) : (qS p).length = p.length := List.length_map ..
theorem qI_len (p : List (Int × Int)) : (qI p).length = p.length := List.length_map ..
theorem specSp_l1 (l : List Int) (f a : Int) (R : List S61) (suf : List Int) : ∀ (pre : List Int) (out q : List (Int × Int)), ((pre ++ suf).length : Int) ≤ 1099511627776 → out.length + suf.length ≤ 1000000 → q.length + suf.length ≤ 1000000 →
  Ev (fun k => spec_l10Spread.l0 k l (qS (out ++ fan a (kidsM l f a suf))) (qS (q ++ fan a (kidsM l f a suf)))) R →
  Ev (fun k => spec_l10Spread.l1 k l (qS out) (qS q) (pre ++ suf) ((pre ++ suf).length : Int) pre.length f a) R := by
 induction suf with
 | nil =>
  intro pre out q h _ _ hR
  refine Ev.succ ?_
  simp only [spec_l10Spread.l1, List.append_nil, Int.lt_irrefl, if_false]
  simpa [kidsM, fan] using hR
 | cons x suf ih =>
  intro pre out q h ho hq hR
  refine Ev.succ ?_
  rw [List.length_cons] at ho hq
  have h' := h
  rw [len_mid] at h
  simp only [spec_l10Spread.l1, if_pos (show ((pre.length : Int) < ((pre ++ x :: suf).length : Int)) by rw [len_mid]; omega), if_pos (show (0 : Int) ≤ pre.length by omega), rd_mid, wrap_id (show (-9223372036854775808 : Int) ≤ pre.length + 1 by omega) (show ((pre.length : Int) + 1 ≤ 9223372036854775807) by omega)]
  by_cases e : x = f
  ·simp only [if_pos e]
   have := ih (pre ++ [x]) out q (by rw [← app_one]; exact h') (by omega) (by omega) (by
    rw [kidsM, List.filter_cons, if_neg (by simpa using e)] at hR; exact hR)
   rw [← app_one, len_one] at this
   exact this
  ·simp only [if_neg e, qS_len, if_pos (show out.length < 8796093022208 by omega), if_pos (show q.length < 8796093022208 by omega)]
   have := ih (pre ++ [x]) (out ++ [(a, x)]) (q ++ [(a, x)]) (by rw [← app_one]; exact h') (by simp; omega) (by simp; omega) (by
    rw [kidsM, List.filter_cons, if_pos (by simpa using e)] at hR
    simpa [fan, kidsM] using hR)
   rw [← app_one, len_one, qS_app, qS_app] at this
   exact this
theorem implSp_l1 (l : List Int) (f a : Int) (R : List S61) (suf : List Int) : ∀ (pre : List Int) (out q : List (Int × Int)), ((pre ++ suf).length : Int) ≤ 1099511627776 → out.length + suf.length ≤ 1000000 → q.length + suf.length ≤ 1000000 → 1 ≤ q.length →
  Ev (fun k => impl_spread.l0 k l (qS (out ++ fan a (kidsM l f a suf))) ((qI (q ++ fan a (kidsM l f a suf))).drop 1)) R →
  Ev (fun k => impl_spread.l1 k l (qS out) (qI q) (pre ++ suf) ((pre ++ suf).length : Int) pre.length a f) R := by
 induction suf with
 | nil =>
  intro pre out q h _ _ h1 hR
  refine Ev.succ ?_
  simp only [impl_spread.l1, List.append_nil, Int.lt_irrefl, if_false, qI_len, if_pos (show (1 : Int) ≤ (q.length : Int) by omega)]
  simpa [kidsM, fan] using hR
 | cons x suf ih =>
  intro pre out q h ho hq h1 hR
  refine Ev.succ ?_
  rw [List.length_cons] at ho hq
  have h' := h
  rw [len_mid] at h
  simp only [impl_spread.l1, if_pos (show ((pre.length : Int) < ((pre ++ x :: suf).length : Int)) by rw [len_mid]; omega), if_pos (show (0 : Int) ≤ pre.length by omega), rd_mid, wrap_id (show (-9223372036854775808 : Int) ≤ pre.length + 1 by omega) (show ((pre.length : Int) + 1 ≤ 9223372036854775807) by omega)]
  by_cases e : x = f
  ·simp only [if_pos e]
   have := ih (pre ++ [x]) out q (by rw [← app_one]; exact h') (by omega) (by omega) h1 (by
    rw [kidsM, List.filter_cons, if_neg (by simpa using e)] at hR; exact hR)
   rw [← app_one, len_one] at this
   exact this
  ·simp only [if_neg e, qS_len, qI_len, if_pos (show out.length < 8796093022208 by omega), if_pos (show q.length < 8796093022208 by omega)]
   have := ih (pre ++ [x]) (out ++ [(a, x)]) (q ++ [(a, x)]) (by rw [← app_one]; exact h') (by simp; omega) (by simp; omega) (by simp) (by
    rw [kidsM, List.filter_cons, if_pos (by simpa using e)] at hR
    simpa [fan, kidsM] using hR)
   rw [← app_one, len_one, qS_app, qI_app] at this
   exact this
-- how deep each place lies, where all climbs end
def depF (l : List Int) : Nat → Int → Nat
 | 0, _ => 0
 | d + 1, u => if u ≥ 0 then depF l d (rd l u) + 1 else 0
theorem depF_up (l : List Int) : ∀ (d : Nat) (u : Int), upOk l d u = true → depF l d u = depF l (d + 1) u
 | 0, u, h => by
  rw [upOk, decide_eq_true_eq] at h
  rw [depF, depF, if_neg (by omega)]
 | d + 1, u, h => by
  rw [upOk] at h
  rw [depF, depF]
  split
  ·rename_i hu
   rw [if_pos hu, Bool.and_eq_true] at h
   rw [depF_up l d _ h.2]
  ·rfl
theorem chkS_at (l : List Int) : ∀ (suf : List Int) (c : Nat), chkS l suf c = true → (∀ x ∈ suf, inr (l.length : Int) x = true) ∧ (∀ i : Nat, i < suf.length → upOk l l.length ((c + i : Nat) : Int) = true) ∧ inn (l.length : Int) = true
 | [], c, h => ⟨fun _ hx => by simp at hx, fun i hi => by simp at hi, h⟩
 | x :: suf, c, h => by
  rw [chkS, Bool.and_eq_true, Bool.and_eq_true] at h
  obtain ⟨h1, h2, h3⟩ := chkS_at l suf (c + 1) h.2.2
  refine ⟨fun y hy => ?_, fun i hi => ?_, h3⟩
  ·rcases List.mem_cons.1 hy with rfl | hy
   ·exact h.1
   ·exact h1 y hy
  ·cases i with
   | zero => exact h.2.1
   | succ i =>
    have := h2 i (by simp at hi; omega)
    rw [show c + (i + 1) = c + 1 + i by omega]
    exact this
theorem good_deep {l : List Int} (hg : goodP l = true) : 1 ≤ l.length ∧ l.length ≤ 12 ∧ (∀ u : Int, 0 ≤ u → u < l.length → -1 ≤ rd l u ∧ rd l u < l.length) ∧ ∃ D : Int → Nat, ∀ u : Int, 0 ≤ u → u < l.length → D u = D (rd l u) + 1 := by
 obtain ⟨h1, h2, h3⟩ := chkS_at l l 0 hg
 rw [inn, decide_eq_true_eq] at h3
 have hb : ∀ u : Int, 0 ≤ u → u < l.length → -1 ≤ rd l u ∧ rd l u < l.length := by
  intro u h0 hu
  have hm : rd l u ∈ l := by
   unfold rd
   rw [List.getD_eq_getElem?_getD, List.getElem?_eq_getElem (show u.toNat < l.length by omega)]
   exact List.getElem_mem _
  have := h1 _ hm
  rw [inr, decide_eq_true_eq, wrap_id (by omega) (by omega)] at this
  omega
 refine ⟨by omega, by omega, hb, depF l (l.length + 1), fun u h0 hu => ?_⟩
 rw [depF, if_pos (show u ≥ 0 by omega)]
 congr 1
 by_cases hr : rd l u ≥ 0
 ·have := h2 (rd l u).toNat (by have := hb u h0 hu; omega)
  rw [show ((0 + (rd l u).toNat : Nat) : Int) = rd l u by omega] at this
  exact depF_up l _ _ this
 ·obtain ⟨m, hm⟩ : ∃ m, l.length = m + 1 := ⟨l.length - 1, by omega⟩
  rw [hm, depF, depF, if_neg hr, if_neg hr]
-- whom each place is come to from
def Up (l : List Int) (s : Int) : Nat → Int → Prop
 | 0, v => v = s
 | i + 1, v => ∃ u, Up l s i u ∧ rd l u = v ∧ 0 ≤ v
def Came (l : List Int) (s f v : Int) : Prop := (v = s ∧ f = -1) ∨ (∃ i, Up l s i f ∧ rd l f = v ∧ 0 ≤ v) ∨ ((∀ i, ¬ Up l s i v) ∧ f = rd l v)
theorem Up_dep {l : List Int} {s : Int} {D : Int → Nat} (h0 : 0 ≤ s) (hs : s < l.length) (hb : ∀ u : Int, 0 ≤ u → u < l.length → -1 ≤ rd l u ∧ rd l u < l.length) (hD : ∀ u : Int, 0 ≤ u → u < l.length → D u = D (rd l u) + 1) : ∀ (i : Nat) (v : Int), Up l s i v → (0 ≤ v ∧ v < l.length) ∧ D v + i = D s
 | 0, v, h => by
  have : v = s := h
  subst this
  exact ⟨⟨h0, hs⟩, rfl⟩
 | i + 1, v, h => by
  obtain ⟨u, hu, e, hv⟩ := h
  obtain ⟨⟨a, b⟩, c⟩ := Up_dep h0 hs hb hD i u hu
  have h1 := hb u a b
  have h2 := hD u a b
  rw [e] at h1 h2
  exact ⟨⟨hv, h1.2⟩, by omega⟩
theorem Up_one {l : List Int} {s : Int} : ∀ (i : Nat) (v w : Int), Up l s i v → Up l s i w → v = w
 | 0, _, _, h, g => (show _ = s from h).trans (show _ = s from g).symm
 | i + 1, v, w, h, g => by
  obtain ⟨u, hu, e, _⟩ := h
  obtain ⟨u', hu', e', _⟩ := g
  rw [← e, ← e', Up_one i u u' hu hu']
theorem Came_one {l : List Int} {s : Int} {D : Int → Nat} (h0 : 0 ≤ s) (hs : s < l.length) (hb : ∀ u : Int, 0 ≤ u → u < l.length → -1 ≤ rd l u ∧ rd l u < l.length) (hD : ∀ u : Int, 0 ≤ u → u < l.length → D u = D (rd l u) + 1) {f g v : Int} (hf : Came l s f v) (hg : Came l s g v) : f = g := by
 have no : ∀ i f, Up l s i f → rd l f = v → 0 ≤ v → v ≠ s := by
  intro i f hi e hv es
  have := (Up_dep h0 hs hb hD (i + 1) v ⟨f, hi, e, hv⟩).2
  rw [es] at this
  omega
 rcases hf with ⟨e, rfl⟩ | ⟨i, hi, e, hv⟩ | ⟨hn, rfl⟩
 ·rcases hg with ⟨_, rfl⟩ | ⟨j, hj, e', hv'⟩ | ⟨hn', _⟩
  ·rfl
  ·exact absurd e (no j g hj e' hv')
  ·exact absurd (show Up l s 0 v from e) (hn' 0)
 ·rcases hg with ⟨e', _⟩ | ⟨j, hj, e', hv'⟩ | ⟨hn', _⟩
  ·exact absurd e' (no i f hi e hv)
  ·have a := (Up_dep h0 hs hb hD (i + 1) v ⟨f, hi, e, hv⟩).2
   have b := (Up_dep h0 hs hb hD (j + 1) v ⟨g, hj, e', hv'⟩).2
   obtain rfl : i = j := by omega
   exact Up_one i f g hi hj
  ·exact absurd (show Up l s (i + 1) v from ⟨f, hi, e, hv⟩) (hn' (i + 1))
 ·rcases hg with ⟨e', _⟩ | ⟨j, hj, e', hv'⟩ | ⟨_, rfl⟩
  ·exact absurd (show Up l s 0 v from e') (hn 0)
  ·exact absurd (show Up l s (j + 1) v from ⟨g, hj, e', hv'⟩) (hn (j + 1))
  ·rfl
theorem Came_next {l : List Int} {s : Int} {D : Int → Nat} (h0 : 0 ≤ s) (hs : s < l.length) (hb : ∀ u : Int, 0 ≤ u → u < l.length → -1 ≤ rd l u ∧ rd l u < l.length) (hD : ∀ u : Int, 0 ≤ u → u < l.length → D u = D (rd l u) + 1) {f a u : Int} (hf : Came l s f a) (ha : 0 ≤ a) (hu : 0 ≤ u) (hj : rd l u = a ∨ rd l a = u) (hne : u ≠ f) : Came l s a u := by
 by_cases hx : ∃ i, Up l s i a
 ·obtain ⟨i, hi⟩ := hx
  rcases hj with e | e
  ·by_cases hy : ∃ j, Up l s j u
   ·obtain ⟨j, hj⟩ := hy
    exact absurd (Came_one h0 hs hb hD (Or.inr (Or.inl ⟨j, hj, e, ha⟩)) hf) hne
   ·exact Or.inr (Or.inr ⟨fun j hj => hy ⟨j, hj⟩, e.symm⟩)
  ·exact Or.inr (Or.inl ⟨i, hi, e, hu⟩)
 ·rcases hj with e | e
  ·by_cases hy : ∃ j, Up l s j u
   ·obtain ⟨j, hj⟩ := hy
    exact absurd ⟨j + 1, u, hj, e, ha⟩ hx
   ·exact Or.inr (Or.inr ⟨fun j hj => hy ⟨j, hj⟩, e.symm⟩)
  ·rcases hf with ⟨e', _⟩ | ⟨i, hi, e', hv⟩ | ⟨_, e'⟩
   ·exact absurd ⟨0, e'⟩ hx
   ·exact absurd ⟨i + 1, f, hi, e', hv⟩ hx
   ·exact absurd (e.symm.trans e'.symm) hne
def sprd (l : List Int) : Nat → List (Int × Int) → List (Int × Int) → List (Int × Int)
 | _, out, [] => out
 | 0, out, _ :: _ => out
 | d + 1, out, x :: q => sprd l d (out ++ fan x.2 (kidsM l x.1 x.2 (joinC l x.2 l.length))) (q ++ fan x.2 (kidsM l x.1 x.2 (joinC l x.2 l.length)))
def tos (q : List (Int × Int)) : List Int := q.map fun x => x.2
theorem tos_app (p q : List (Int × Int)) : tos (p ++ q) = tos p ++ tos q := List.map_append ..
theorem tos_fan (a : Int) (K : List Int) : tos (fan a K) = K := by
 rw [tos, fan, List.map_map]
 exact List.map_id _
structure SInv (l : List Int) (s : Int) (P : List Int) (q : List (Int × Int)) : Prop where
 nd : (P ++ tos q).Nodup
 inb : ∀ x ∈ P ++ tos q, 0 ≤ x ∧ x < l.length
 came : ∀ x ∈ q, Came l s x.1 x.2
 from_ : ∀ v ∈ P ++ tos q, v = s ∨ ∃ g ∈ P, Came l s g v
theorem SInv.step {l : List Int} {s : Int} {D : Int → Nat} (h0 : 0 ≤ s) (hs : s < l.length) (hb : ∀ u : Int, 0 ≤ u → u < l.length → -1 ≤ rd l u ∧ rd l u < l.length) (hD : ∀ u : Int, 0 ≤ u → u < l.length → D u = D (rd l u) + 1) {P : List Int} {x : Int × Int} {q : List (Int × Int)} (h : SInv l s P (x :: q)) : SInv l s (P ++ [x.2]) (q ++ fan x.2 (kidsM l x.1 x.2 (joinC l x.2 l.length))) := by
 have hx := h.inb x.2 (by simp [tos])
 have hc := h.came x (by simp)
 have hk : ∀ u, u ∈ kidsM l x.1 x.2 (joinC l x.2 l.length) → (0 ≤ u ∧ u < l.length) ∧ Came l s x.2 u := by
  intro u hu
  rw [kidsM, List.mem_filter, joinC_mem, decide_eq_true_eq] at hu
  exact ⟨hu.1.1, Came_next h0 hs hb hD hc hx.1 hu.1.1.1 hu.1.2 hu.2⟩
 have hnd := h.nd
 rw [show P ++ tos (x :: q) = P ++ [x.2] ++ tos q by simp [tos]] at hnd
 have hxP : x.2 ∉ P := by
  intro hm
  rw [List.append_assoc, List.nodup_append] at hnd
  exact hnd.2.2 _ hm x.2 (by simp) rfl
 have old : ∀ v, v ∈ P ++ [x.2] ++ tos q → v = s ∨ ∃ g ∈ P, Came l s g v := fun v hv => h.from_ v (by simpa [tos] using hv)
 constructor
 ·rw [tos_app, tos_fan, ← List.append_assoc, List.nodup_append]
  refine ⟨hnd, ?_, ?_⟩
  ·unfold kidsM joinC
   exact ((((own0_sorted l.length).imp (fun h => Int.ne_of_lt h)).filter _).filter _ : List.Pairwise (· ≠ ·) _)
  ·intro v hv u hu e
   subst e
   have hcu := (hk v hu).2
   rcases old v hv with rfl | ⟨g, hg, hgv⟩
   ·have := Came_one h0 hs hb hD hcu (Or.inl ⟨rfl, rfl⟩)
    omega
   ·have := Came_one h0 hs hb hD hcu hgv
    exact hxP (this ▸ hg)
 ·intro v hv
  rw [tos_app, tos_fan, ← List.append_assoc, List.mem_append] at hv
  rcases hv with hv | hv
  ·exact h.inb v (by simpa [tos] using hv)
  ·exact (hk v hv).1
 ·intro y hy
  rw [List.mem_append] at hy
  rcases hy with hy | hy
  ·exact h.came y (by simp [hy])
  ·obtain ⟨u, hu, rfl⟩ := List.mem_map.1 hy
   exact (hk u hu).2
 ·intro v hv
  rw [tos_app, tos_fan, ← List.append_assoc, List.mem_append] at hv
  rcases hv with hv | hv
  ·rcases old v hv with e | ⟨g, hg, hgv⟩
   ·exact Or.inl e
   ·exact Or.inr ⟨g, by simp [hg], hgv⟩
  ·exact Or.inr ⟨x.2, by simp, (hk v hv).2⟩
theorem SInv.len {l : List Int} {s : Int} {P : List Int} {q : List (Int × Int)} (h : SInv l s P q) : P.length + q.length ≤ l.length := by
 have := nodup_le (P ++ tos q) (own0 l.length) h.nd (fun x hx => (own0_mem _ _).2 (h.inb x hx))
 rw [List.length_append, show (tos q).length = q.length from List.length_map .., show (own0 l.length).length = l.length by unfold own0; simp] at this
 exact this
theorem spread_go {l : List Int} {s : Int} {D : Int → Nat} (hl : l.length ≤ 12) (h0 : 0 ≤ s) (hs : s < l.length) (hb : ∀ u : Int, 0 ≤ u → u < l.length → -1 ≤ rd l u ∧ rd l u < l.length) (hD : ∀ u : Int, 0 ≤ u → u < l.length → D u = D (rd l u) + 1) : ∀ (d : Nat) (P : List Int) (out q : List (Int × Int)), SInv l s P q → P.length + d = l.length → out.length + 1 = P.length + q.length →
  Ev (fun k => spec_l10Spread.l0 k l (qS out) (qS q)) (qS (sprd l d out q)) ∧ Ev (fun k => impl_spread.l0 k l (qS out) (qI q)) (qS (sprd l d out q)) ∧ (sprd l d out q).length ≤ 12 := by
 intro d
 induction d with
 | zero =>
  intro P out q h hd ho
  have := h.len
  obtain rfl : q = [] := List.eq_nil_of_length_eq_zero (by omega)
  refine ⟨Ev.succ ?_, Ev.succ ?_, ?_⟩
  ·simp only [spec_l10Spread.l0, qS_len, if_neg (show ¬ (([] : List (Int × Int)).length : Int) > 0 by simp)]
   exact Ev.now _
  ·simp only [impl_spread.l0, qI_len, if_neg (show ¬ (([] : List (Int × Int)).length : Int) > 0 by simp)]
   exact Ev.now _
  ·simp only [sprd]
   simp at ho
   omega
 | succ d ih =>
  intro P out q h hd ho
  have hln := h.len
  cases q with
  | nil =>
   refine ⟨Ev.succ ?_, Ev.succ ?_, ?_⟩
   ·simp only [spec_l10Spread.l0, qS_len, if_neg (show ¬ (([] : List (Int × Int)).length : Int) > 0 by simp)]
    exact Ev.now _
   ·simp only [impl_spread.l0, qI_len, if_neg (show ¬ (([] : List (Int × Int)).length : Int) > 0 by simp)]
    exact Ev.now _
   ·simp only [sprd]
    simp at ho
    omega
  | cons x q =>
   have hx := h.inb x.2 (by simp [tos])
   rw [List.length_cons] at ho hln
   have hJ := joinC_len l x.2 l.length
   have hst := h.step h0 hs hb hD
   have hl2 := hst.len
   rw [List.length_append, List.length_append, List.length_singleton, show (fan x.2 (kidsM l x.1 x.2 (joinC l x.2 l.length))).length = (kidsM l x.1 x.2 (joinC l x.2 l.length)).length from List.length_map ..] at hl2
   obtain ⟨g1, g2, g3⟩ := ih (P ++ [x.2]) (out ++ fan x.2 (kidsM l x.1 x.2 (joinC l x.2 l.length))) _ hst (by simp; omega) (by
    simp only [List.length_append, List.length_singleton]
    omega)
   refine ⟨Ev.succ ?_, Ev.succ ?_, g3⟩
   ·have := specSp_l1 l x.1 x.2 (qS (sprd l (d + 1) out (x :: q))) (joinC l x.2 l.length) [] out q (by rw [List.nil_append]; omega) (by omega) (by omega) g1
    simp only [spec_l10Spread.l0, qS_len, List.length_cons, if_pos (show ((q.length + 1 : Nat) : Int) > 0 by omega), if_pos (show (0 : Int) < ((q.length + 1 : Nat) : Int) by omega), if_pos (show (1 : Int) ≤ ((q.length + 1 : Nat) : Int) by omega)]
    exact Ev.bind (specJo_ev l x.2 hx.1 hx.2 (by omega)) this
   ·have := implSp_l1 l x.1 x.2 (qS (sprd l (d + 1) out (x :: q))) (joinC l x.2 l.length) [] out (x :: q) (by rw [List.nil_append]; omega) (by omega) (by simp; omega) (by simp) g2
    simp only [impl_spread.l0, qI_len, List.length_cons, if_pos (show ((q.length + 1 : Nat) : Int) > 0 by omega), if_pos (show (0 : Int) < ((q.length + 1 : Nat) : Int) by omega)]
    exact Ev.bind (implBr_ev l x.2 hx.1 hx.2 (by omega)) this
def spreadM (l : List Int) (s : Int) : List (Int × Int) := sprd l l.length [] [(-1, s)]
theorem spread_ev {l : List Int} {s : Int} (hg : goodP l = true) (h0 : 0 ≤ s) (hs : s < l.length) :
  Ev (fun k => spec_l10Spread.f k l s) (qS (spreadM l s)) ∧ Ev (fun k => impl_spread.f k l s) (qS (spreadM l s)) ∧ (spreadM l s).length ≤ 12 := by
 obtain ⟨_, h12, hb, D, hD⟩ := good_deep hg
 exact spread_go h12 h0 hs hb hD l.length [] [] [(-1, s)] ⟨by simp [tos], by simp [tos]; exact ⟨h0, hs⟩, by simp; exact Or.inl ⟨rfl, rfl⟩, by simp [tos]⟩ (by simp) (by simp)
theorem specTwo_ev (l : List Int) (a b : Int) (hl : l.length ≤ 1048576) : Ev (fun k => spec_l10Two.f k l a b) (goodP l && (decide (0 ≤ a ∧ a < l.length) && decide (0 ≤ b ∧ b < l.length))) := by
 unfold spec_l10Two.f
 refine Ev.bind (specGoodP_ev l hl) ?_
 simp only [specIn, Option.bind_some, topLen hl, decide_eq_true_eq]
 cases goodP l
 ·exact Ev.now _
 ·simp only [if_true, Bool.true_and, show (a ≤ (l.length : Int) - 1) = (a < l.length) from propext ⟨fun h => by omega, fun h => by omega⟩, show (b ≤ (l.length : Int) - 1) = (b < l.length) from propext ⟨fun h => by omega, fun h => by omega⟩]
  by_cases ha : 0 ≤ a ∧ a < l.length
  ·simp only [if_pos ha, decide_eq_true ha, Bool.true_and]
   exact Ev.now _
  ·simp only [if_neg ha, decide_eq_false ha, Bool.false_and]
   exact Ev.now _
theorem implTree_ev (l q : List Int) (hl : l.length ≤ 1048576) (hq : (q.length : Int) ≤ 1099511627776) : Ev (fun k => impl_goodTree.f k l q) (goodP l && q.all fun x => decide (0 ≤ x ∧ x < l.length)) := by
 unfold impl_goodTree.f
 refine Ev.bind (implGoodP_ev l hl) ?_
 cases goodP l
 ·exact Ev.now _
 ·simp only [if_true, Bool.true_and]
  refine Ev.bind (implAll_ev _ _ q hq) ?_
  rw [topLen hl, allIn]
  simp only [show ∀ x : Int, (x ≤ (l.length : Int) - 1) = (x < l.length) from fun x => propext ⟨fun h => by omega, fun h => by omega⟩]
  exact Ev.now _
end Go.Proofs.Ytedegfbheihopaa.P

namespace Go.Proofs.Ytedegfbheihopaa.P
open Go.RowKit Go.Proofs.YtedegfbheihopaaW.PrintWords Go.Proofs.YtedegfbheihopaaW.PrintLast
set_option linter.unusedVariables false
set_option linter.unusedSimpArgs false
-- what a walk over a tree leaves: each place of the group once, with whom it came from
structure FInv (l : List Int) (s : Int) (P : List Int) (out q : List (Int × Int)) : Prop where
 base : SInv l s P q
 eq : P ++ tos q = s :: tos out
 came : ∀ y ∈ out, Came l s y.1 y.2 ∧ y.1 ∈ P
 clo : ∀ a ∈ P, ∀ u : Int, 0 ≤ u → u < l.length → (rd l u = a ∨ rd l a = u) → u ∈ P ++ tos q
theorem FInv.step {l : List Int} {s : Int} {D : Int → Nat} (h0 : 0 ≤ s) (hs : s < l.length) (hb : ∀ u : Int, 0 ≤ u → u < l.length → -1 ≤ rd l u ∧ rd l u < l.length) (hD : ∀ u : Int, 0 ≤ u → u < l.length → D u = D (rd l u) + 1) {P : List Int} {x : Int × Int} {out q : List (Int × Int)} (h : FInv l s P out (x :: q)) :
  FInv l s (P ++ [x.2]) (out ++ fan x.2 (kidsM l x.1 x.2 (joinC l x.2 l.length))) (q ++ fan x.2 (kidsM l x.1 x.2 (joinC l x.2 l.length))) := by
 have hx := h.base.inb x.2 (by simp [tos])
 have hc := h.base.came x (by simp)
 have hmem : ∀ u, u ∈ P ++ tos (x :: q) → u ∈ P ++ [x.2] ++ tos (q ++ fan x.2 (kidsM l x.1 x.2 (joinC l x.2 l.length))) := by
  intro u hu
  rw [tos_app]
  simp only [List.mem_append, tos, List.map_cons, List.mem_cons] at hu ⊢
  rcases hu with hu | hu | hu
  ·exact Or.inl (Or.inl hu)
  ·exact Or.inl (Or.inr (Or.inl hu))
  ·exact Or.inr (Or.inl hu)
 constructor
 ·exact h.base.step h0 hs hb hD
 ·rw [tos_app, tos_app, ← List.append_assoc, show P ++ [x.2] ++ tos q = P ++ tos (x :: q) by simp [tos], h.eq]
  rfl
 ·intro y hy
  rcases List.mem_append.1 hy with hy | hy
  ·have := h.came y hy
   exact ⟨this.1, List.mem_append.2 (Or.inl this.2)⟩
  ·obtain ⟨u, hu, rfl⟩ := List.mem_map.1 hy
   rw [kidsM, List.mem_filter, joinC_mem, decide_eq_true_eq] at hu
   exact ⟨Came_next h0 hs hb hD hc hx.1 hu.1.1.1 hu.1.2 hu.2, by simp⟩
 ·intro a ha u hu0 hu1 hj
  rcases List.mem_append.1 ha with ha | ha
  ·exact hmem u (h.clo a ha u hu0 hu1 hj)
  ·rw [List.mem_singleton] at ha
   subst ha
   by_cases hf : u = x.1
   ·have hfr := h.base.from_ x.2 (by simp [tos])
    rcases hfr with e | ⟨g, hg, hgv⟩
    ·have := Came_one h0 hs hb hD hc (Or.inl ⟨e, rfl⟩)
     omega
    ·have e := Came_one h0 hs hb hD hc hgv
     rw [hf, e]
     exact List.mem_append.2 (Or.inl (List.mem_append.2 (Or.inl hg)))
   ·rw [tos_app, tos_fan]
    refine List.mem_append.2 (Or.inr (List.mem_append.2 (Or.inr ?_)))
    rw [kidsM, List.mem_filter, joinC_mem, decide_eq_true_eq]
    exact ⟨⟨⟨hu0, hu1⟩, hj⟩, hf⟩
theorem spread_inv {l : List Int} {s : Int} {D : Int → Nat} (h0 : 0 ≤ s) (hs : s < l.length) (hb : ∀ u : Int, 0 ≤ u → u < l.length → -1 ≤ rd l u ∧ rd l u < l.length) (hD : ∀ u : Int, 0 ≤ u → u < l.length → D u = D (rd l u) + 1) : ∀ (d : Nat) (P : List Int) (out q : List (Int × Int)), FInv l s P out q → P.length + d = l.length → ∃ P', FInv l s P' (sprd l d out q) [] := by
 intro d
 induction d with
 | zero =>
  intro P out q h hd
  have := h.base.len
  obtain rfl : q = [] := List.eq_nil_of_length_eq_zero (by omega)
  exact ⟨P, h⟩
 | succ d ih =>
  intro P out q h hd
  cases q with
  | nil => exact ⟨P, h⟩
  | cons x q => exact ih _ _ _ (h.step h0 hs hb hD) (by simp; omega)
theorem spread_fin {l : List Int} {s : Int} {D : Int → Nat} (h0 : 0 ≤ s) (hs : s < l.length) (hb : ∀ u : Int, 0 ≤ u → u < l.length → -1 ≤ rd l u ∧ rd l u < l.length) (hD : ∀ u : Int, 0 ≤ u → u < l.length → D u = D (rd l u) + 1) :
  (s :: tos (spreadM l s)).Nodup ∧ (∀ v ∈ s :: tos (spreadM l s), 0 ≤ v ∧ v < l.length) ∧ (∀ y ∈ spreadM l s, Came l s y.1 y.2 ∧ y.1 ∈ s :: tos (spreadM l s)) ∧ (∀ a ∈ s :: tos (spreadM l s), ∀ u : Int, 0 ≤ u → u < l.length → (rd l u = a ∨ rd l a = u) → u ∈ s :: tos (spreadM l s)) := by
 obtain ⟨P, h⟩ := spread_inv h0 hs hb hD l.length [] [] [(-1, s)] ⟨⟨by simp [tos], by simp [tos]; exact ⟨h0, hs⟩, by simp; exact Or.inl ⟨rfl, rfl⟩, by simp [tos]⟩, by simp [tos], by simp, by simp⟩ (by simp)
 have e := h.eq
 rw [show tos ([] : List (Int × Int)) = [] from rfl, List.append_nil] at e
 have a := h.base.nd
 have b := h.base.inb
 have c := h.came
 have d := h.clo
 rw [show tos ([] : List (Int × Int)) = [] from rfl, List.append_nil, e] at a b d
 rw [e] at c
 exact ⟨a, b, c, d⟩
-- the last hop that goes to a place
def hopAt : List (Int × Int) → Int → Int × Bool
 | [], _ => (0, false)
 | y :: r, v => if (hopAt r v).2 = true then hopAt r v else if y.2 = v then (y.1, true) else (0, false)
theorem hopAt_none : ∀ (hs : List (Int × Int)) (v : Int), v ∉ tos hs → hopAt hs v = (0, false)
 | [], _, _ => rfl
 | y :: r, v, h => by
  simp only [tos, List.map_cons, List.mem_cons, not_or] at h
  rw [hopAt, hopAt_none r v h.2, if_neg (by simp), if_neg (fun e => h.1 e.symm)]
theorem hopAt_some : ∀ (hs : List (Int × Int)) (v : Int), v ∈ tos hs → ∃ f, hopAt hs v = (f, true) ∧ (f, v) ∈ hs
 | [], _, h => by simp [tos] at h
 | y :: r, v, h => by
  by_cases hr : v ∈ tos r
  ·obtain ⟨f, e, hm⟩ := hopAt_some r v hr
   exact ⟨f, by rw [hopAt, e, if_pos rfl], List.mem_cons_of_mem _ hm⟩
  ·simp only [tos, List.map_cons, List.mem_cons] at h
   rcases h with e | h
   ·refine ⟨y.1, by rw [hopAt, hopAt_none r v hr, if_neg (by simp), if_pos e.symm], ?_⟩
    rw [e]
    exact List.mem_cons_self ..
   ·exact absurd h hr
-- the way up from a place
def Climb (l : List Int) : Int → List Int → Prop
 | u, [] => u < 0
 | u, x :: r => 0 ≤ u ∧ x = u ∧ Climb l (rd l u) r
theorem Climb_split {l : List Int} {b : Int} : ∀ (B1 : List Int) (y : Int) (r : List Int) (i : Nat) (u : Int), Climb l u (B1 ++ y :: r) → Up l b i u → Up l b (i + B1.length) y
 | [], y, r, i, u, h, hu => by
  have := h.2.1
  rw [this]
  exact hu
 | x :: B1, y, r, i, u, h, hu => by
  have hr : ∃ z s, B1 ++ y :: r = z :: s := by
   cases B1 with
   | nil => exact ⟨_, _, rfl⟩
   | cons z s => exact ⟨_, _, rfl⟩
  obtain ⟨z, s, e⟩ := hr
  have h2 := h.2.2
  have h3 : 0 ≤ rd l u := by
   rw [show B1.append (y :: r) = B1 ++ y :: r from rfl, e] at h2
   exact h2.1
  have := Climb_split B1 y r (i + 1) (rd l u) h2 ⟨u, hu, rfl, h3⟩
  rw [List.length_cons, show i + (B1.length + 1) = i + 1 + B1.length by omega]
  exact this
theorem Climb_next {l : List Int} : ∀ (B1 : List Int) (y v : Int) (r : List Int) (u : Int), Climb l u (B1 ++ y :: v :: r) → rd l y = v ∧ 0 ≤ v
 | [], y, v, r, u, h => by
  have h1 := h.2.1
  have h2 := h.2.2
  rw [h1]
  exact ⟨h2.2.1.symm, h2.2.1 ▸ h2.1⟩
 | x :: B1, y, v, r, u, h => Climb_next B1 y v r _ h.2.2
theorem Climb_up {l : List Int} : ∀ (B : List Int) (u x : Int), Climb l u B → x ∈ B → 0 ≤ rd l x → rd l x ∈ B
 | [], _, _, _, hx, _ => by simp at hx
 | y :: r, u, x, h, hx, h0 => by
  rcases List.mem_cons.1 hx with e | hx
  ·have h2 := h.2.2
   rw [← h.2.1, ← e] at h2
   cases r with
   | nil => have : rd l x < 0 := h2; omega
   | cons z s => rw [h2.2.1]; simp
  ·exact List.mem_cons_of_mem _ (Climb_up r _ x h.2.2 hx h0)
theorem Up_mem {l : List Int} {b : Int} {B : List Int} (hB : Climb l b B) (h0 : 0 ≤ b) : ∀ (i : Nat) (v : Int), Up l b i v → v ∈ B
 | 0, v, h => by
  have e : v = b := h
  cases B with
  | nil => have : b < 0 := hB; omega
  | cons x r => rw [e, ← hB.2.1]; simp
 | i + 1, v, h => by
  obtain ⟨u, hu, e, hv⟩ := h
  rw [← e]
  exact Climb_up B b u hB (Up_mem hB h0 i u hu) (by omega)
theorem group_down {l : List Int} {s : Int} {G : List Int} (hG : ∀ a ∈ G, ∀ u : Int, 0 ≤ u → u < l.length → (rd l u = a ∨ rd l a = u) → u ∈ G) (hb : ∀ u : Int, 0 ≤ u → u < l.length → -1 ≤ rd l u ∧ rd l u < l.length) : ∀ (A : List Int) (v : Int), Climb l v A → v < l.length → (∃ x ∈ A, x ∈ G) → v ∈ G
 | [], _, _, _, h => by obtain ⟨x, hx, _⟩ := h; simp at hx
 | y :: r, v, hA, hv, h => by
  obtain ⟨x, hx, hg⟩ := h
  rcases List.mem_cons.1 hx with e | hx
  ·rw [← hA.2.1, ← e]; exact hg
  ·have := group_down (s := s) hG hb r (rd l v) hA.2.2 (hb v hA.1 hv).2 ⟨x, hx, hg⟩
   exact hG _ this v hA.1 hv (Or.inl rfl)
theorem group_up {l : List Int} {G : List Int} (hG : ∀ a ∈ G, ∀ u : Int, 0 ≤ u → u < l.length → (rd l u = a ∨ rd l a = u) → u ∈ G) (hb : ∀ u : Int, 0 ≤ u → u < l.length → -1 ≤ rd l u ∧ rd l u < l.length) : ∀ (B : List Int) (b : Int), Climb l b B → b < l.length → b ∈ G → ∀ x ∈ B, x ∈ G
 | [], _, _, _, _, x, hx => by simp at hx
 | y :: r, b, hB, hl, hg, x, hx => by
  rcases List.mem_cons.1 hx with e | hx
  ·rw [e, hB.2.1]; exact hg
  ·have h0 : 0 ≤ rd l b := by
    cases r with
    | nil => simp at hx
    | cons z s => exact hB.2.2.1
   have h1 := (hb b hB.1 hl).2
   exact group_up hG hb r (rd l b) hB.2.2 h1 (hG b hg _ h0 h1 (Or.inr rfl)) x hx
theorem group_meets {l : List Int} {b : Int} {B : List Int} {D : Int → Nat} (h0 : 0 ≤ b) (hB : Climb l b B) (hb : ∀ u : Int, 0 ≤ u → u < l.length → -1 ≤ rd l u ∧ rd l u < l.length) (hD : ∀ u : Int, 0 ≤ u → u < l.length → D u = D (rd l u) + 1)
  (hi : ∀ v ∈ b :: tos (spreadM l b), 0 ≤ v ∧ v < l.length) (hc : ∀ y ∈ spreadM l b, Came l b y.1 y.2 ∧ y.1 ∈ b :: tos (spreadM l b)) :
  ∀ (d : Nat) (v : Int), D v ≤ d → v ∈ b :: tos (spreadM l b) → ∀ A, Climb l v A → ∃ x ∈ A, x ∈ B := by
 intro d
 induction d with
 | zero =>
  intro v hd hv A hA
  have h1 := hi v hv
  have := hD v h1.1 h1.2
  omega
 | succ d ih =>
  intro v hd hv A hA
  have h1 := hi v hv
  have hself : v ∈ A := by
   cases A with
   | nil => have : v < 0 := hA; omega
   | cons x r => rw [← hA.2.1]; simp
  by_cases hvB : v ∈ B
  ·exact ⟨v, hself, hvB⟩
  ·rcases List.mem_cons.1 hv with e | hv
   ·exact absurd (Up_mem hB h0 0 v e) hvB
   ·obtain ⟨y, hy, rfl⟩ := List.mem_map.1 hv
    obtain ⟨hcame, hin⟩ := hc y hy
    rcases hcame with ⟨e, _⟩ | ⟨i, hu, e, hp⟩ | ⟨_, e⟩
    ·exact absurd (Up_mem hB h0 0 _ e) hvB
    ·exact absurd (Up_mem hB h0 (i + 1) _ ⟨_, hu, e, hp⟩) hvB
    ·rw [e] at hin
     have h3 := hD y.2 h1.1 h1.2
     cases A with
     | nil => simp at hself
     | cons x r =>
      obtain ⟨x', hx', hxB⟩ := ih (rd l y.2) (by omega) hin r hA.2.2
      exact ⟨x', List.mem_cons_of_mem _ hx', hxB⟩
-- what the hops of the walk tell of each place
structure Tells (l : List Int) (b : Int) (B : List Int) (H : Int → Int × Bool) : Prop where
 down : ∀ (B1 : List Int) (y v : Int) (r : List Int), B = B1 ++ y :: v :: r → H v = (y, true) ∧ v ≠ b
 up : ∀ (v : Int) (A : List Int), 0 ≤ v → v < l.length → v ∉ B → Climb l v A → (∃ x ∈ A, x ∈ B) → H v = (rd l v, true)
 off : ∀ (v : Int) (A : List Int), 0 ≤ v → v < l.length → Climb l v A → (¬ ∃ x ∈ A, x ∈ B) → H v = (0, false)
theorem tells {l : List Int} {b : Int} {B : List Int} {D : Int → Nat} (h0 : 0 ≤ b) (h1 : b < l.length) (hB : Climb l b B) (hb : ∀ u : Int, 0 ≤ u → u < l.length → -1 ≤ rd l u ∧ rd l u < l.length) (hD : ∀ u : Int, 0 ≤ u → u < l.length → D u = D (rd l u) + 1) : Tells l b B (hopAt (spreadM l b)) := by
 obtain ⟨hn, hi, hc, hG⟩ := spread_fin h0 h1 hb hD
 have hbG : b ∈ b :: tos (spreadM l b) := by simp
 have hBG := group_up hG hb B b hB h1 hbG
 constructor
 ·intro B1 y v r e
  have hB' := hB
  rw [e] at hB'
  have hy := Climb_split B1 y (v :: r) 0 b hB' rfl
  have hv := Climb_next B1 y v r b hB'
  have hUp : Up l b (0 + B1.length + 1) v := ⟨y, hy, hv.1, hv.2⟩
  have hdep := Up_dep h0 h1 hb hD _ v hUp
  have hne : v ≠ b := fun e => by rw [e] at hdep; omega
  have hm : v ∈ tos (spreadM l b) := by
   rcases List.mem_cons.1 (hBG v (by rw [e]; simp)) with e | h
   ·exact absurd e hne
   ·exact h
  obtain ⟨f, ef, hf⟩ := hopAt_some _ _ hm
  have efy : f = y := Came_one h0 h1 hb hD (hc _ hf).1 (Or.inr (Or.inl ⟨_, hy, hv.1, hv.2⟩))
  rw [ef, efy]
  exact ⟨rfl, hne⟩
 ·intro v A hv0 hv1 hvB hA hx
  have hG' := group_down (s := b) hG hb A v hA hv1 (by obtain ⟨x, hx, hxB⟩ := hx; exact ⟨x, hx, hBG x hxB⟩)
  have hm : v ∈ tos (spreadM l b) := by
   rcases List.mem_cons.1 hG' with e | h
   ·exact absurd (Up_mem hB h0 0 v e) hvB
   ·exact h
  obtain ⟨f, ef, hf⟩ := hopAt_some _ _ hm
  rw [ef]
  rcases (hc _ hf).1 with ⟨e, _⟩ | ⟨i, hu, e, hp⟩ | ⟨_, e⟩
  ·exact absurd (Up_mem hB h0 0 _ e) hvB
  ·exact absurd (Up_mem hB h0 (i + 1) _ ⟨_, hu, e, hp⟩) hvB
  ·rw [show f = rd l v from e]
 ·intro v A hv0 hv1 hA hx
  refine hopAt_none _ _ fun hm => hx ?_
  exact group_meets h0 hB hb hD hi hc (D v) v (Nat.le_refl _) (List.mem_cons_of_mem _ hm) A hA
-- the way: up to where both climbs meet, then down
def onGo (B : List Int) : List Int → List Int → List Int × Bool
 | _, [] => ([], false)
 | pre, x :: r => if x ∈ B then (pre ++ [x] ++ (B.takeWhile fun y => decide (y ≠ x)).reverse, true) else onGo B (pre ++ [x]) r
theorem take_split {x : Int} : ∀ (B1 r : List Int), x ∉ B1 → (B1 ++ x :: r).takeWhile (fun y => decide (y ≠ x)) = B1
 | [], r, _ => by simp
 | z :: B1, r, h => by
  simp only [List.mem_cons, not_or] at h
  rw [List.cons_append, List.takeWhile_cons, if_pos (by simpa using fun e => h.1 e.symm), take_split B1 r h.2]
theorem split_first {x : Int} : ∀ (B : List Int), x ∈ B → ∃ B1 r, B = B1 ++ x :: r ∧ x ∉ B1
 | [], h => by simp at h
 | z :: B, h => by
  by_cases e : x = z
  ·exact ⟨[], B, by rw [e]; rfl, by simp⟩
  ·rcases List.mem_cons.1 h with h | h
   ·exact absurd h e
   ·obtain ⟨B1, r, e1, h1⟩ := split_first B h
    exact ⟨z :: B1, r, by rw [e1]; rfl, by simp; exact ⟨e, h1⟩⟩
def climbL (l : List Int) : Nat → Int → List Int
 | 0, _ => []
 | d + 1, u => if u < 0 then [] else u :: climbL l d (rd l u)
theorem climbL_is {l : List Int} : ∀ (d : Nat) (u : Int), upOk l d u = true → Climb l u (climbL l d u)
 | 0, u, h => by rw [upOk, decide_eq_true_eq] at h; exact h
 | d + 1, u, h => by
  rw [climbL]
  rw [upOk] at h
  by_cases hu : u < 0
  ·rw [if_pos hu]; exact hu
  ·rw [if_neg hu]
   rw [if_pos (show u ≥ 0 by omega), Bool.and_eq_true] at h
   exact ⟨by omega, rfl, climbL_is d _ h.2⟩
theorem climbL_len (l : List Int) : ∀ (d : Nat) (u : Int), (climbL l d u).length ≤ d
 | 0, _ => by simp [climbL]
 | d + 1, u => by
  rw [climbL]
  split
  ·simp
  ·rw [List.length_cons]; have := climbL_len l d (rd l u); omega
def climbM (l : List Int) (u : Int) : List Int := climbL l l.length u
theorem good_up {l : List Int} (hg : goodP l = true) {u : Int} (h0 : 0 ≤ u) (h1 : u < l.length) : Climb l u (climbM l u) := by
 obtain ⟨_, h2, _⟩ := chkS_at l l 0 hg
 have := h2 u.toNat (by omega)
 rw [show ((0 + u.toNat : Nat) : Int) = u by omega] at this
 exact climbL_is _ _ this
theorem onGo_len (B : List Int) : ∀ (A pre : List Int), (onGo B pre A).1.length ≤ pre.length + A.length + B.length
 | [], pre => by simp [onGo]
 | x :: r, pre => by
  rw [onGo]
  split
  ·have := (List.takeWhile_sublist (fun y => decide (y ≠ x)) (l := B)).length_le
   simp only [List.length_append, List.length_reverse, List.length_cons, List.length_nil]
   omega
  ·have := onGo_len B r (pre ++ [x])
   rw [List.length_append, List.length_singleton] at this
   rw [List.length_cons]
   omega
end Go.Proofs.Ytedegfbheihopaa.P

namespace Go.Proofs.Ytedegfbheihopaa.P
open Go.RowKit Go.Proofs.YtedegfbheihopaaW.PrintWords Go.Proofs.YtedegfbheihopaaW.PrintLast
set_option linter.unusedVariables false
set_option linter.unusedSimpArgs false
def marksI : Nat → Int → List Int
 | 0, _ => []
 | n + 1, q => q :: marksI n (q + 1)
theorem markIntS_l (suf : List Int) : ∀ (pre : List Int) (k : Nat) (q : Int), suf.length < k → (pre.length : Int) + suf.length ≤ 1099511627776 → 0 ≤ q → q + suf.length ≤ 4611686018427387904 →
  laws_markIntS.l0 k (pre ++ suf) q (pre.length : Int) = some (q + suf.length, pre ++ marksI suf.length q) := by
 induction suf with
 | nil =>
  intro pre k q hk hb h0 h1
  obtain ⟨k, rfl⟩ : ∃ m, k = m + 1 := ⟨k - 1, by omega⟩
  simp only [laws_markIntS.l0]
  rw [if_neg (by simp)]
  simp [marksI]
 | cons x suf ih =>
  intro pre k q hk hb h0 h1
  simp only [List.length_cons] at hk hb h1
  obtain ⟨k, rfl⟩ : ∃ m, k = m + 1 := ⟨k - 1, by omega⟩
  have h := ih (pre ++ [q]) k (q + 1) (by omega) (by simp <;> omega) (by omega) (by omega)
  simp only [laws_markIntS.l0]
  rw [if_pos (by simp <;> omega), if_pos (by omega), set_mid, wrap_id (x := q + 1) (by omega) (by omega), wrap_id (x := (pre.length : Int) + 1) (by omega) (by omega)]
  rw [len_one] at h
  rw [app_one, h]
  simp only [marksI, List.length_cons, List.append_assoc, List.cons_append, List.nil_append, Option.some.injEq, Prod.mk.injEq, and_true]
  omega
theorem markIntS_ev (l : List Int) (q : Int) (hl : l.length ≤ 1099511627776) (h0 : 0 ≤ q) (h1 : q ≤ 1099511627776) : Ev (fun k => laws_markIntS.f k l q) (q + l.length, marksI l.length q) := by
 refine ⟨l.length + 1, fun k hk => ?_⟩
 show laws_markIntS.f k l q = _
 unfold laws_markIntS.f
 simpa using markIntS_l l [] k q (by omega) (by simp <;> omega) h0 (by omega)
theorem heldIntS_l (n : Nat) : ∀ (pre : List Int) (k : Nat) (q : Int), n < k → (pre.length : Int) + n ≤ 1099511627776 → 0 ≤ q → q + n ≤ 4611686018427387904 →
  laws_heldIntS.l0 k (pre ++ marksI n q) q (pre.length : Int) = some (q + n) := by
 induction n with
 | zero =>
  intro pre k q hk hb h0 h1
  obtain ⟨k, rfl⟩ : ∃ m, k = m + 1 := ⟨k - 1, by omega⟩
  simp only [laws_heldIntS.l0]
  rw [show marksI 0 q = [] from rfl, if_neg (by simp)]
  simp
 | succ n ih =>
  intro pre k q hk hb h0 h1
  obtain ⟨k, rfl⟩ : ∃ m, k = m + 1 := ⟨k - 1, by omega⟩
  have h := ih (pre ++ [q]) k (q + 1) (by omega) (by simp <;> omega) (by omega) (by omega)
  simp only [laws_heldIntS.l0]
  rw [show marksI (n + 1) q = q :: marksI n (q + 1) from rfl]
  rw [if_pos (by simp <;> omega), if_pos (by omega), rd_mid, if_pos rfl, wrap_id (x := q + 1) (by omega) (by omega), wrap_id (x := (pre.length : Int) + 1) (by omega) (by omega)]
  rw [len_one] at h
  rw [app_one, h]
  simp only [Option.some.injEq]
  omega
theorem heldIntS_ev (n : Nat) (q : Int) (hl : n ≤ 1099511627776) (h0 : 0 ≤ q) (h1 : q ≤ 1099511627776) : Ev (fun k => laws_heldIntS.f k (marksI n q) q) (q + n) := by
 refine ⟨n + 1, fun k hk => ?_⟩
 show laws_heldIntS.f k (marksI n q) q = _
 unfold laws_heldIntS.f
 exact heldIntS_l n [] k q (by omega) (by simp <;> omega) h0 (by omega)
end Go.Proofs.Ytedegfbheihopaa.P

namespace Go.Proofs.Ytedegfbheihopaa.P
open Go.RowKit Go.Proofs.YtedegfbheihopaaW.PrintWords Go.Proofs.YtedegfbheihopaaW.PrintLast
set_option linter.unusedVariables false
set_option linter.unusedSimpArgs false
theorem specUp_l (l : List Int) (hl : l.length ≤ 1000) (hb : ∀ u : Int, 0 ≤ u → u < l.length → rd l u < l.length) : ∀ (A : List Int) (u : Int) (out : List Int), Climb l u A → u < l.length → out.length + A.length ≤ 1000000 → Ev (fun k => spec_l10Up.l0 k l u out) (out ++ A)
 | [], u, out, h, _, _ => by
  refine Ev.succ ?_
  simp only [spec_l10Up.l0, if_neg (show ¬ u ≥ 0 from by have : u < 0 := h; omega), List.append_nil]
  exact Ev.now _
 | x :: A, u, out, h, hu, ho => by
  rw [List.length_cons] at ho
  have hx := h.2.1
  subst hx
  have := specUp_l l hl hb A (rd l x) (out ++ [x]) h.2.2 (hb x h.1 hu) (by simp; omega)
  rw [app_one out x A]
  refine Ev.succ ?_
  simp only [spec_l10Up.l0, if_pos (show x ≥ 0 from h.1), if_pos (show out.length < 17592186044416 by omega), if_pos (show 0 ≤ x from h.1), if_pos hu]
  exact this
theorem specOn_l2 : ∀ (n : Nat) (B1 rest out : List Int), B1.length = n → (B1 ++ rest).length ≤ 1000 → out.length + n ≤ 1000000 → Ev (fun k => spec_l10On.l2 k (B1 ++ rest) out ((n : Int) - 1)) (out ++ B1.reverse, true) := by
 intro n
 induction n with
 | zero =>
  intro B1 rest out h _ _
  obtain rfl : B1 = [] := List.eq_nil_of_length_eq_zero h
  refine Ev.succ ?_
  simp only [spec_l10On.l2, if_neg (show ¬ ((0 : Nat) : Int) - 1 ≥ 0 by omega), List.reverse_nil, List.append_nil]
  exact Ev.now _
 | succ n ih =>
  intro B1 rest out h hB ho
  rcases nil_or_snoc B1 with rfl | ⟨p, y, rfl⟩
  ·simp at h
  ·have hp : p.length = n := by simpa using h
   have e : p ++ [y] ++ rest = p ++ y :: rest := by simp
   rw [e] at hB ⊢
   have hln := len_mid p y rest
   have hr := rd_mid p y rest
   rw [hp] at hr
   have := ih p (y :: rest) (out ++ [y]) hp hB (by simp; omega)
   refine Ev.succ ?_
   simp only [spec_l10On.l2, show ((n + 1 : Nat) : Int) - 1 = n by omega, if_pos (show (n : Int) ≥ 0 by omega), if_pos (show 0 ≤ (n : Int) by omega), if_pos (show (n : Int) < ((p ++ y :: rest).length : Int) by omega), if_pos (show out.length < 17592186044416 by omega), hr, wrap_id (show (-9223372036854775808 : Int) ≤ (n : Int) - 1 by omega) (show (n : Int) - 1 ≤ 9223372036854775807 by omega)]
   rw [List.reverse_append, List.reverse_singleton, List.singleton_append, show out ++ y :: p.reverse = out ++ [y] ++ p.reverse by simp]
   exact this
theorem specOn_l1 (A B : List Int) (x i : Int) (R : List Int × Bool) (hA : A.length ≤ 1000) (hB : B.length ≤ 1000) (hi : 0 ≤ i) (hi1 : i < A.length) (hR : x ∉ B → Ev (fun k => spec_l10On.l0 k A B A A.length (wrap64 (i + 1))) R) (hH : x ∈ B → R = (A.take (i + 1).toNat ++ (B.takeWhile fun y => decide (y ≠ x)).reverse, true)) :
  ∀ (suf pre : List Int), pre ++ suf = B → x ∉ pre → Ev (fun k => spec_l10On.l1 k A B i x A A.length i B B.length pre.length) R
 | [], pre, e, hn => by
  rw [List.append_nil] at e
  subst e
  refine Ev.succ ?_
  simp only [spec_l10On.l1, if_neg (show ¬ (pre.length : Int) < pre.length by omega)]
  exact hR hn
 | y :: suf, pre, e, hn => by
  have hln := len_mid pre y suf
  rw [e] at hln
  have hr : rd B (pre.length : Int) = y := by rw [← e, rd_mid]
  refine Ev.succ ?_
  simp only [spec_l10On.l1, if_pos (show (pre.length : Int) < B.length by omega), if_pos (show 0 ≤ (pre.length : Int) by omega), hr, Option.bind_some]
  by_cases hxy : x = y
  ·subst hxy
   have h1 := specOn_l2 pre.length pre (x :: suf) (A.take (i + 1).toNat) rfl (by rw [e]; exact hB) (by rw [List.length_take]; omega)
   rw [e] at h1
   have hR' := hH (by rw [← e]; simp)
   rw [← e, take_split pre suf hn] at hR'
   simp only [if_true, wrap_id (show (-9223372036854775808 : Int) ≤ i + 1 by omega) (show i + 1 ≤ 9223372036854775807 by omega), if_pos (show 0 ≤ i + 1 by omega), if_pos (show i + 1 ≤ (A.length : Int) by omega), List.nil_append, List.length_nil, Nat.zero_add, if_pos (show (A.take (i + 1).toNat).length < 17592186044416 by rw [List.length_take]; omega), wrap_id (show (-9223372036854775808 : Int) ≤ (pre.length : Int) - 1 by omega) (show (pre.length : Int) - 1 ≤ 9223372036854775807 by omega)]
   rw [hR']
   exact h1
  ·simp only [if_neg hxy, wrap_id (show (-9223372036854775808 : Int) ≤ (pre.length : Int) + 1 by omega) (show (pre.length : Int) + 1 ≤ 9223372036854775807 by omega)]
   have := specOn_l1 A B x i R hA hB hi hi1 hR hH suf (pre ++ [y]) (by rw [← app_one]; exact e) (by
    rw [List.mem_append, List.mem_singleton]
    exact fun hc => hc.elim hn hxy)
   rw [len_one] at this
   exact this
theorem specOn_l0 (A B : List Int) (hA : A.length ≤ 1000) (hB : B.length ≤ 1000) : ∀ (suf pre : List Int), pre ++ suf = A → Ev (fun k => spec_l10On.l0 k A B A A.length pre.length) (onGo B pre suf)
 | [], pre, e => by
  rw [List.append_nil] at e
  subst e
  refine Ev.succ ?_
  simp only [spec_l10On.l0, if_neg (show ¬ (pre.length : Int) < pre.length by omega), onGo]
  exact Ev.now _
 | x :: suf, pre, e => by
  have hln := len_mid pre x suf
  rw [e] at hln
  have hr : rd A (pre.length : Int) = x := by rw [← e, rd_mid]
  refine Ev.succ ?_
  simp only [spec_l10On.l0, if_pos (show (pre.length : Int) < A.length by omega), if_pos (show 0 ≤ (pre.length : Int) by omega), hr]
  refine specOn_l1 A B x pre.length _ hA hB (by omega) (by omega) ?_ ?_ B [] rfl (by simp)
  ·intro hx
   have := specOn_l0 A B hA hB suf (pre ++ [x]) (by rw [← app_one]; exact e)
   rw [len_one] at this
   rw [onGo, if_neg hx, wrap_id (by omega) (by omega)]
   exact this
  ·intro hx
   rw [onGo, if_pos hx, ← e, app_one pre x suf, show ((pre.length : Int) + 1).toNat = (pre ++ [x]).length by rw [List.length_append, List.length_singleton]; omega, List.take_left]
def onTreeM (l : List Int) (a b : Int) : List Int × Bool := onGo (climbM l b) [] (climbM l a)
theorem onTreeM_len {l : List Int} (a b : Int) : (onTreeM l a b).1.length ≤ 2 * l.length := by
 have := onGo_len (climbM l b) (climbM l a) []
 have h1 := climbL_len l l.length a
 have h2 := climbL_len l l.length b
 unfold onTreeM climbM at *
 simp only [List.length_nil] at this
 omega
theorem specOn_ev {l : List Int} (hg : goodP l = true) {a b : Int} (ha : 0 ≤ a) (ha1 : a < l.length) (hb : 0 ≤ b) (hb1 : b < l.length) : Ev (fun k => spec_l10On.f k l a b) (onTreeM l a b) := by
 obtain ⟨_, h12, hbd, _⟩ := good_deep hg
 have hup : ∀ u : Int, 0 ≤ u → u < l.length → Ev (fun k => spec_l10Up.f k l u) (climbM l u) := fun u h0 h1 => by
  have := specUp_l l (by omega) (fun v h0 h1 => (hbd v h0 h1).2) (climbM l u) u [] (good_up hg h0 h1) h1 (by have := climbL_len l l.length u; unfold climbM; simp; omega)
  exact this
 have h1 := climbL_len l l.length a
 have h2 := climbL_len l l.length b
 unfold spec_l10On.f
 refine Ev.bind (hup a ha ha1) (Ev.bind (hup b hb hb1) ?_)
 have := specOn_l0 (climbM l a) (climbM l b) (by unfold climbM; omega) (by unfold climbM; omega) (climbM l a) [] rfl
 exact this
-- the program's side
theorem hopD_qS : ∀ (h : List (Int × Int)) (v : Int), hopD (qS h) v = hopAt h v
 | [], _ => rfl
 | y :: r, v => by
  show (if (hopD (qS r) v).2 = true then hopD (qS r) v else if y.2 = v then (y.1, true) else (0, false)) = _
  rw [hopD_qS r v, hopAt]
theorem okI_of {x : Int} (h0 : 0 ≤ x) (h1 : x ≤ 1000000) : okI x = true := by
 unfold okI
 rw [decide_eq_true_eq]
 omega
theorem implOn_down {l : List Int} {b : Int} {B : List Int} {hs : List S61} (ht : Tells l b B (hopD hs)) (hB : Climb l b B) (hBo : ∀ y ∈ B, okI y = true) : ∀ (n : Nat) (B1 : List Int) (x : Int) (r out : List Int), B1.length = n → B = B1 ++ x :: r → out.length + n ≤ 1000000 → Ev (fun k => impl_onTree.l1 k hs b out x) (out ++ B1.reverse, true) := by
 intro n
 induction n with
 | zero =>
  intro B1 x r out h e _
  obtain rfl : B1 = [] := List.eq_nil_of_length_eq_zero h
  rw [e] at hB
  have hx : x = b := hB.2.1
  refine Ev.succ ?_
  simp only [impl_onTree.l1, if_pos hx, List.reverse_nil, List.append_nil]
  exact Ev.now _
 | succ n ih =>
  intro B1 x r out h e ho
  rcases nil_or_snoc B1 with rfl | ⟨p, y, rfl⟩
  ·simp at h
  ·have hp : p.length = n := by simpa using h
   have e' : B = p ++ y :: x :: r := by rw [e]; simp
   obtain ⟨h1, h2⟩ := ht.down p y x r e'
   have hox := hBo x (by rw [e]; simp)
   have := ih p y (x :: r) (out ++ [y]) hp e' (by simp; omega)
   refine Ev.succ ?_
   simp only [impl_onTree.l1, if_neg h2, if_pos hox, h1, if_true, if_pos (show out.length < 17592186044416 by omega)]
   rw [List.reverse_append, List.reverse_singleton, List.singleton_append, show out ++ y :: p.reverse = out ++ [y] ++ p.reverse by simp]
   exact this
theorem implOn_up {l : List Int} {b : Int} {B : List Int} {hs : List S61} (hl : l.length ≤ 1000) (ht : Tells l b B (hopD hs)) (h0 : 0 ≤ b) (hB : Climb l b B) (hBo : ∀ y ∈ B, okI y = true) (hBl : B.length ≤ 1000) (hbd : ∀ u : Int, 0 ≤ u → u < l.length → rd l u < l.length) : ∀ (A pre : List Int) (u : Int), Climb l u A → u < l.length → (∃ x ∈ A, x ∈ B) → pre.length + A.length ≤ 1000 → Ev (fun k => impl_onTree.l1 k hs b (pre ++ [u]) u) (onGo B pre A)
 | [], pre, u, _, _, hm, _ => by obtain ⟨x, hx, _⟩ := hm; simp at hx
 | x :: A, pre, u, hA, hu, hm, hpl => by
  have hx := hA.2.1
  subst hx
  rw [List.length_cons] at hpl
  rw [onGo]
  by_cases hxB : x ∈ B
  ·rw [if_pos hxB]
   obtain ⟨B1, r, e, hn⟩ := split_first B hxB
   have hBl' := hBl
   rw [e, List.length_append] at hBl'
   have := implOn_down ht hB hBo B1.length B1 x r (pre ++ [x]) rfl e (by simp; omega)
   rw [e, take_split B1 r hn]
   exact this
  ·rw [if_neg hxB]
   have hxb : x ≠ b := fun e => hxB (Up_mem hB h0 0 x e)
   have hH := ht.up x _ hA.1 hu hxB hA hm
   have hm' : ∃ y ∈ A, y ∈ B := by
    obtain ⟨y, hy, hyB⟩ := hm
    rcases List.mem_cons.1 hy with e | hy
    ·rw [e] at hyB; exact absurd hyB hxB
    ·exact ⟨y, hy, hyB⟩
   have hr0 : 0 ≤ rd l x := by
    obtain ⟨y, hy, _⟩ := hm'
    cases A with
    | nil => simp at hy
    | cons z s => exact hA.2.2.1
   have hox : okI x = true := okI_of hA.1 (by omega)
   have := implOn_up hl ht h0 hB hBo hBl hbd A (pre ++ [x]) (rd l x) hA.2.2 (hbd x hA.1 hu) hm' (by simp; omega)
   refine Ev.succ ?_
   simp only [impl_onTree.l1, if_neg hxb, if_pos hox, hH, if_true, if_pos (show (pre ++ [x]).length < 17592186044416 by simp; omega)]
   exact this
theorem onGo_none (B : List Int) : ∀ (A pre : List Int), (¬ ∃ x ∈ A, x ∈ B) → onGo B pre A = ([], false)
 | [], _, _ => rfl
 | x :: A, pre, h => by
  rw [onGo, if_neg (fun hx => h ⟨x, by simp, hx⟩)]
  exact onGo_none B A _ (fun ⟨y, hy, hyB⟩ => h ⟨y, by simp [hy], hyB⟩)
theorem climb_lt {l : List Int} (hbd : ∀ u : Int, 0 ≤ u → u < l.length → rd l u < l.length) : ∀ (A : List Int) (u : Int), Climb l u A → u < l.length → ∀ x ∈ A, 0 ≤ x ∧ x < l.length
 | [], _, _, _, x, hx => by simp at hx
 | y :: r, u, h, hu, x, hx => by
  rcases List.mem_cons.1 hx with e | hx
  ·rw [e, h.2.1]; exact ⟨h.1, hu⟩
  ·exact climb_lt hbd r _ h.2.2 (hbd u h.1 hu) x hx
theorem implOn_ev {l : List Int} (hg : goodP l = true) {a b : Int} (ha : 0 ≤ a) (ha1 : a < l.length) (hb : 0 ≤ b) (hb1 : b < l.length) : Ev (fun k => impl_onTree.f k l a b) (onTreeM l a b) := by
 obtain ⟨_, h12, hbd, D, hD⟩ := good_deep hg
 have hA := good_up hg ha ha1
 have hB := good_up hg hb hb1
 have ht := tells hb hb1 hB hbd hD
 have hAl : (climbM l a).length ≤ 12 := Nat.le_trans (climbL_len l l.length a) h12
 have hBl : (climbM l b).length ≤ 12 := Nat.le_trans (climbL_len l l.length b) h12
 have hbd' : ∀ u : Int, 0 ≤ u → u < l.length → rd l u < l.length := fun u h0 h1 => (hbd u h0 h1).2
 have hsp := spread_ev hg hb hb1
 obtain ⟨_, hi, hc, _⟩ := spread_fin hb hb1 hbd hD
 have ht' : Tells l b (climbM l b) (hopD (qS (spreadM l b))) := by rw [show hopD (qS (spreadM l b)) = hopAt (spreadM l b) from funext (hopD_qS _)]; exact ht
 have hok : okHops (qS (spreadM l b)) = true := by
  unfold okHops
  rw [Bool.and_eq_true, decide_eq_true_eq, qS_len, List.all_eq_true]
  refine ⟨by omega, fun y hy => ?_⟩
  obtain ⟨z, hz, rfl⟩ := List.mem_map.1 hy
  have h1 := hi z.2 (List.mem_cons_of_mem _ (List.mem_map.2 ⟨z, hz, rfl⟩))
  have h2 := hi z.1 (hc z hz).2
  rw [Bool.and_eq_true]
  show okI z.1 = true ∧ okI z.2 = true
  exact ⟨okI_of h2.1 (by omega), okI_of h1.1 (by omega)⟩
 unfold impl_onTree.f
 refine Ev.bind hsp.2.1 ?_
 simp only [if_pos hok]
 unfold onTreeM
 by_cases hm : ∃ x ∈ climbM l a, x ∈ climbM l b
 ·have := implOn_up (by omega) ht' hb hB (fun y hy => by have := climb_lt hbd' _ b hB hb1 y hy; exact okI_of this.1 (by omega)) (by omega) hbd' (climbM l a) [] a hA ha1 hm (by simp; omega)
  exact this
 ·rw [onGo_none _ _ _ hm]
  have hH := ht'.off a _ ha ha1 hA hm
  have hne : a ≠ b := fun e => hm ⟨a, Up_mem hA ha 0 a rfl, by rw [e]; exact Up_mem hB hb 0 b rfl⟩
  refine Ev.succ ?_
  simp only [impl_onTree.l1, if_neg hne, if_pos (okI_of ha (by omega)), hH, Bool.false_eq_true, if_false]
  exact Ev.now _
def onTree (l : List Int) (a b : Int) : List Int × Bool := if goodP l = true ∧ (0 ≤ a ∧ a < l.length) ∧ (0 ≤ b ∧ b < l.length) then onTreeM l a b else ([], false)
theorem onTree_len (l : List Int) (a b : Int) : (onTree l a b).1.length ≤ 24 := by
 unfold onTree
 split
 ·rename_i h
  have := onTreeM_len (l := l) a b
  have := (good_deep h.1).2.1
  omega
 ·simp
theorem twoB (l : List Int) (a b : Int) : (goodP l && (decide (0 ≤ a ∧ a < l.length) && decide (0 ≤ b ∧ b < l.length))) = decide (goodP l = true ∧ (0 ≤ a ∧ a < l.length) ∧ (0 ≤ b ∧ b < l.length)) := by
 cases h : goodP l <;> simp
theorem treeB (l : List Int) (a b : Int) : (goodP l && ([a, b].all fun x => decide (0 ≤ x ∧ x < l.length))) = decide (goodP l = true ∧ (0 ≤ a ∧ a < l.length) ∧ (0 ≤ b ∧ b < l.length)) := by
 rw [← twoB]
 simp
theorem specOnTree_ev (l : List Int) (a b : Int) (hl : l.length ≤ 1048576) : Ev (fun k => spec_OnTree.f k l a b) (onTree l a b) := by
 have h2 := specTwo_ev l a b hl
 rw [twoB] at h2
 unfold spec_OnTree.f onTree
 refine Ev.bind h2 ?_
 by_cases h : goodP l = true ∧ (0 ≤ a ∧ a < l.length) ∧ (0 ≤ b ∧ b < l.length)
 ·simp only [decide_eq_true h, if_true, if_pos h]
  exact Ev.bind (specOn_ev h.1 h.2.1.1 h.2.1.2 h.2.2.1 h.2.2.2) (Ev.now _)
 ·simp only [decide_eq_false h, Bool.false_eq_true, if_false, if_neg h]
  exact Ev.now _
theorem implOnTree_ev (l : List Int) (a b : Int) (hl : l.length ≤ 1048576) : Ev (fun k => impl_OnTree.f k l a b) (onTree l a b) := by
 have h2 := implTree_ev l [a, b] hl (by simp)
 rw [treeB] at h2
 unfold impl_OnTree.f onTree
 refine Ev.bind h2 ?_
 by_cases h : goodP l = true ∧ (0 ≤ a ∧ a < l.length) ∧ (0 ≤ b ∧ b < l.length)
 ·simp only [decide_eq_true h, if_true, if_pos h]
  exact Ev.bind (implOn_ev h.1 h.2.1.1 h.2.1.2 h.2.2.1 h.2.2.2) (Ev.now _)
 ·simp only [decide_eq_false h, Bool.false_eq_true, if_false, if_neg h]
  exact Ev.now _
end Go.Proofs.Ytedegfbheihopaa.P

namespace Go.Proofs.Ytedegfbheihopaa.Pure
open Go.RowKit Go.Proofs.Ytedegfbheihopaa.P Go.Proofs.YtedegfbheihopaaW.PrintWords Go.Proofs.YtedegfbheihopaaW.PrintLast
set_option linter.unusedVariables false
set_option linter.unusedSimpArgs false
theorem FnExactOnTree : laws_FnExactOnTree.Pure := by
 intro l a b _ _ _ _ _
 refine Ev.rounds ?_
 unfold laws_FnExactOnTree.f
 by_cases hq : (l.length : Int) > 1048576
 ·simp only [if_pos hq]
  exact Ev.now _
 simp only [if_neg hq]
 have hl : l.length ≤ 1048576 := by omega
 have hr := onTree_len l a b
 have hi := implOnTree_ev l a b hl
 refine Ev.bind (toIntS_ev l hl) ?_
 refine Ev.bind (specOnTree_ev l a b hl) ?_
 refine Ev.bind (toIntS_ev l hl) ?_
 refine Ev.bind hi ?_
 generalize onTree l a b = r at hr hi
 refine Ev.bind (eqIntS_ev _ _ (by omega)) ?_
 simp only [decide_true, if_true, bne_self_eq_false]
 refine Ev.succ ?_
 simp only [laws_FnExactOnTree.j0, Bool.false_eq_true, if_false]
 refine Ev.bind (toIntS_ev l hl) ?_
 refine Ev.bind (eqIntS_ev _ _ (by omega)) ?_
 simp only [decide_true, if_true]
 refine Ev.bind (markIntS_ev l 1 (by omega) (by omega) (by omega)) ?_
 simp only [if_neg (show ¬ ((1 : Int) + (l.length : Int) < 0) by omega)]
 refine Ev.bind (eqIntS_ev _ _ (by omega)) ?_
 simp only [decide_true, if_true, bne_self_eq_false]
 refine Ev.succ ?_
 simp only [laws_FnExactOnTree.j1, Bool.false_eq_true, if_false]
 refine Ev.bind (markIntS_ev _ 1 (by omega) (by omega) (by omega)) ?_
 refine Ev.bind (heldIntS_ev _ 1 (by omega) (by omega) (by omega)) ?_
 simp only [if_neg (show ¬ (1 + (r.1.length : Int)) < 0 by omega), if_true]
 refine Ev.bind (toIntS_ev l hl) ?_
 refine Ev.bind hi ?_
 refine Ev.bind (eqIntS_ev _ _ (by omega)) ?_
 simp only [decide_true, if_true, bne_self_eq_false]
 refine Ev.succ ?_
 simp only [laws_FnExactOnTree.j2, Bool.false_eq_true, if_false]
 refine Ev.bind (heldIntS_ev _ 1 (by omega) (by omega) (by omega)) ?_
 simp only [if_neg (show ¬ (1 + (r.1.length : Int)) < 0 by omega), if_true]
 exact Ev.now _
end Go.Proofs.Ytedegfbheihopaa.Pure
