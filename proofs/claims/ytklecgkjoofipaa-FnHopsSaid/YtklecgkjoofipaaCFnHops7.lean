/- Functions, walks and plain lemmas that the law FnHops reaches, part 7. -/
import Derived.Test.YtklecgkjoofipaaCFnHops6
import Derived.Below
import Derived.Deep.Draws
import Derived.Deep.AppendLies
import Derived.Maps.AppendAt
import Derived.OwnWalk
import Derived.Laws.BytesArg
import Derived.Laws.MakeOwn
import Derived.Laws.OwnMore
import Derived.Deep.OwnRows
import Derived.Tactics
import Derived.Lib.ConvBytes
import Derived.Laws.Slices
import Derived.WalkKit
import Derived.KernelRfl
import Derived.RowKit3
import Derived.Deep.LoopGhost
import Derived.Deep.QuietTactic
import Derived.BigQuiet
import Derived.WideLaws
import Derived.Deep.DeepCutAuto
import Derived.Deep.CutBlock
import Derived.Deep.RegionHeld3
import Derived.Laws.Rows
import Derived.Lib.AppendStr
import Derived.ArgAppend
import Derived.Laws.IdiomCopy
import Derived.OrdersHeld
import Derived.Laws.BitsLemmas
import Derived.RowKit
import Derived.WalkSpells
import Derived.Lib.SliceRun
import Derived.Shelf.Abstract
import Derived.ProofKit
import Derived.OpenShut
import Derived.ShutString
import Derived.ChangeOld
import Derived.SizedLaws
namespace Go.Proofs.Ytklecgkjoofipaa.P
open Go.RowKit Go.Proofs.YtklecgkjoofipaaW.PrintWords Go.Proofs.YtklecgkjoofipaaW.PrintLast
set_option linter.unusedVariables false
set_option linter.unusedSimpArgs false
def isEdge (m : Int) (x : S67) : Bool := decide (0 ≤ x.f0 ∧ x.f0 ≤ m ∧ 0 ≤ x.f1 ∧ x.f1 ≤ m ∧ x.f0 < x.f1 ∧ 1 ≤ x.f2 ∧ x.f2 ≤ 100)
def edgeLt (y x : S67) : Bool := decide (y.f0 < x.f0 ∨ y.f0 = x.f0 ∧ y.f1 < x.f1)
def goodEF (m : Int) : Option S67 → List S67 → Bool
 | _, [] => true
 | none, x :: r => isEdge m x && goodEF m (some x) r
 | some y, x :: r => isEdge m x && (edgeLt y x && goodEF m (some x) r)
def goodE (n : Int) (l : List S67) : Bool := goodEF (wrap64 (n - 1)) none l && (decide (1 ≤ n ∧ n ≤ 12) && decide (l.length ≤ 40))
theorem isEdge_iff (m : Int) (x : S67) : isEdge m x = true ↔ (0 ≤ x.f0 ∧ x.f0 ≤ m ∧ 0 ≤ x.f1 ∧ x.f1 ≤ m ∧ x.f0 < x.f1 ∧ 1 ≤ x.f2 ∧ x.f2 ≤ 100) := by unfold isEdge; simp only [decide_eq_true_eq]
theorem specGoodE_l (n : Int) (suf : List S67) : ∀ (pre : List S67), (pre.length : Int) + suf.length ≤ 1099511627776 →
  Ev (fun k => spec_GoodEdges.l0 k n (pre ++ suf) (pre ++ suf) ((pre ++ suf).length : Int) (pre.length : Int)) (goodEF (wrap64 (n - 1)) pre.getLast? suf && (decide (1 ≤ n ∧ n ≤ 12) && decide ((pre ++ suf).length ≤ 40))) := by
 induction suf with
 | nil =>
  intro pre hb
  refine Ev.succ ?_
  simp only [spec_GoodEdges.l0]
  simp only [if_neg (show ¬ (pre.length : Int) < ((pre ++ ([] : List S67)).length : Int) by simp), specIn, Option.bind_some]
  have : goodEF (wrap64 (n - 1)) pre.getLast? [] = true := by cases pre.getLast? <;> rfl
  rw [this, Bool.true_and]
  by_cases h : 1 ≤ n ∧ n ≤ 12
  ·simp only [h, and_self, decide_true, if_true, Bool.true_and]
   refine Ev.some_ ?_
   congr 1
   simp only [eq_iff_iff]
   omega
  ·simp only [h, decide_false, Bool.false_eq_true, if_false, Bool.false_and]
   exact Ev.now _
 | cons x suf ih =>
  intro pre hb
  simp only [List.length_cons] at hb
  have c1 : (pre.length : Int) < ((pre ++ x :: suf).length : Int) := by simp <;> omega
  have c0 : (0 : Int) ≤ (pre.length : Int) := by omega
  have h := ih (pre ++ [x]) (by simp <;> omega)
  rw [← app_one, len_one, List.getLast?_concat] at h
  refine Ev.succ ?_
  simp only [spec_GoodEdges.l0]
  simp only [if_pos c1, if_pos c0, rdEdge_mid, specIn, Option.bind_some]
  generalize wrap64 (n - 1) = m at h ⊢
  generalize hfin : (decide (1 ≤ n ∧ n ≤ 12) && decide ((pre ++ x :: suf).length ≤ 40)) = fin at h ⊢
  have bad : ∀ (b : Bool), isEdge m x = false → b = true → Ev (fun k => spec_GoodEdges.j1 k n (pre ++ x :: suf) (pre.length : Int) (pre ++ x :: suf) ((pre ++ x :: suf).length : Int) (pre.length : Int) b x.f0 x.f1 x.f2) (goodEF m pre.getLast? (x :: suf) && fin) := by
   intro b he hb
   refine Ev.succ ?_
   simp only [spec_GoodEdges.j1, hb, if_true]
   refine Ev.some_ ?_
   cases pre.getLast? <;> simp [goodEF, he]
  by_cases h1 : 0 ≤ x.f0 ∧ x.f0 ≤ m
  ·simp only [h1, and_self, decide_true, if_true]
   by_cases h2 : 0 ≤ x.f1 ∧ x.f1 ≤ m
   ·simp only [h2, and_self, decide_true, if_true]
    by_cases h3 : x.f0 ≥ x.f1
    ·simp only [if_pos h3]
     refine bad true ?_ rfl
     unfold isEdge; simp only [decide_eq_false_iff_not]; omega
    ·simp only [if_neg h3]
     by_cases h4 : 1 ≤ x.f2 ∧ x.f2 ≤ 100
     ·have he : isEdge m x = true := by rw [isEdge_iff]; omega
      simp only [h4, and_self, decide_true, Bool.not_true]
      refine Ev.succ ?_
      simp only [spec_GoodEdges.j1, Bool.false_eq_true, if_false]
      rw [wrap_id (x := (pre.length : Int) + 1) (by omega) (by omega)]
      rcases nil_or_snoc pre with rfl | ⟨pre', y, rfl⟩
      ·simp only [if_neg (show ¬ (([] : List S67).length : Int) > 0 by simp)]
       have e : goodEF m ([] : List S67).getLast? (x :: suf) = goodEF m (some x) suf := by simp [goodEF, he]
       rw [e]
       exact h
      ·have hy : rd_T67 ((pre' ++ [y]) ++ x :: suf) (((pre' ++ [y]).length : Int) - 1) = y := by
        rw [show ((pre' ++ [y]) ++ x :: suf) = pre' ++ y :: (x :: suf) by simp, show (((pre' ++ [y]).length : Int) - 1) = (pre'.length : Int) by simp]
        exact rdEdge_mid _ _ _
       have q0 : (((pre' ++ [y]).length : Int)) > 0 := by simp <;> omega
       rw [wrap_id (x := ((pre' ++ [y]).length : Int) - 1) (by omega) (by omega)]
       simp only [if_pos q0, if_pos (show 0 ≤ ((pre' ++ [y]).length : Int) - 1 by omega), if_pos (show ((pre' ++ [y]).length : Int) - 1 < (((pre' ++ [y]) ++ x :: suf).length : Int) by omega), hy]
       have e : goodEF m (pre' ++ [y]).getLast? (x :: suf) = (edgeLt y x && goodEF m (some x) suf) := by simp [goodEF, he]
       rw [e]
       by_cases g1 : y.f0 > x.f0
       ·simp only [if_pos g1]
        refine Ev.some_ ?_
        have : edgeLt y x = false := by unfold edgeLt; simp only [decide_eq_false_iff_not]; omega
        rw [this]; rfl
       ·simp only [if_neg g1]
        by_cases g2 : y.f0 = x.f0
        ·simp only [if_pos g2]
         by_cases g3 : y.f1 ≥ x.f1
         ·simp only [if_pos g3]
          refine Ev.some_ ?_
          have : edgeLt y x = false := by unfold edgeLt; simp only [decide_eq_false_iff_not]; omega
          rw [this]; rfl
         ·simp only [if_neg g3]
          have : edgeLt y x = true := by unfold edgeLt; simp only [decide_eq_true_eq]; omega
          rw [this, Bool.true_and]
          exact h
        ·simp only [if_neg g2]
         have : edgeLt y x = true := by unfold edgeLt; simp only [decide_eq_true_eq]; omega
         rw [this, Bool.true_and]
         exact h
     ·simp only [h4, decide_false, Bool.not_false]
      refine bad true ?_ rfl
      unfold isEdge; simp only [decide_eq_false_iff_not]; omega
   ·simp only [h2, decide_false, Bool.false_eq_true, if_false]
    refine bad true ?_ rfl
    unfold isEdge; simp only [decide_eq_false_iff_not]; omega
  ·simp only [h1, decide_false, Bool.false_eq_true, if_false]
   refine bad true ?_ rfl
   unfold isEdge; simp only [decide_eq_false_iff_not]; omega
theorem specGoodE_ev (n : Int) (l : List S67) (hl : l.length ≤ 1048576) : Ev (fun k => spec_GoodEdges.f k n l) (goodE n l) := by
 unfold spec_GoodEdges.f
 exact specGoodE_l n l [] (by simp <;> omega)
theorem implGoodE_l (n : Int) (hm : wrap64 (n - 1) ≤ 9223372036854775807) (suf : List S67) : ∀ (pre : List S67), (pre.length : Int) + suf.length ≤ 1099511627776 → (∀ y, pre.getLast? = some y → isEdge (wrap64 (n - 1)) y = true) →
  Ev (fun k => impl_GoodEdges.l0 k n (pre ++ suf) (pre ++ suf) ((pre ++ suf).length : Int) (pre.length : Int)) (goodEF (wrap64 (n - 1)) pre.getLast? suf && (decide (1 ≤ n ∧ n ≤ 12) && decide ((pre ++ suf).length ≤ 40))) := by
 induction suf with
 | nil =>
  intro pre hb _
  refine Ev.succ ?_
  simp only [impl_GoodEdges.l0]
  simp only [if_neg (show ¬ (pre.length : Int) < ((pre ++ ([] : List S67)).length : Int) by simp), impl_isSpots.f, implIn, Option.bind_some]
  have : goodEF (wrap64 (n - 1)) pre.getLast? [] = true := by cases pre.getLast? <;> rfl
  rw [this, Bool.true_and]
  by_cases h : 1 ≤ n ∧ n ≤ 12
  ·simp only [h, and_self, decide_true, if_true, Bool.true_and]
   refine Ev.some_ ?_
   congr 1
   simp only [eq_iff_iff]
   omega
  ·simp only [h, decide_false, Bool.false_eq_true, if_false, Bool.false_and]
   exact Ev.now _
 | cons x suf ih =>
  intro pre hb hlast
  simp only [List.length_cons] at hb
  have c1 : (pre.length : Int) < ((pre ++ x :: suf).length : Int) := by simp <;> omega
  have c0 : (0 : Int) ≤ (pre.length : Int) := by omega
  have h := ih (pre ++ [x]) (by simp <;> omega)
  rw [← app_one, len_one, List.getLast?_concat] at h
  refine Ev.succ ?_
  simp only [impl_GoodEdges.l0]
  simp only [if_pos c1, if_pos c0, rdEdge_mid, implIn, Option.bind_some]
  generalize wrap64 (n - 1) = m at h hm hlast ⊢
  generalize hfin : (decide (1 ≤ n ∧ n ≤ 12) && decide ((pre ++ x :: suf).length ≤ 40)) = fin at h ⊢
  have bad : isEdge m x = false → Ev (fun k => some false) (goodEF m pre.getLast? (x :: suf) && fin) := by
   intro he
   refine Ev.some_ ?_
   cases pre.getLast? <;> simp [goodEF, he]
  by_cases h1 : 0 ≤ x.f0 ∧ x.f0 ≤ m
  ·simp only [h1, and_self, decide_true, if_true]
   by_cases h2 : 0 ≤ x.f1 ∧ x.f1 ≤ m
   ·simp only [h2, and_self, decide_true, if_true]
    by_cases h3 : x.f0 ≥ x.f1
    ·simp only [if_pos h3]
     refine bad ?_
     unfold isEdge; simp only [decide_eq_false_iff_not]; omega
    ·simp only [if_neg h3]
     by_cases h4 : 1 ≤ x.f2 ∧ x.f2 ≤ 100
     ·have he : isEdge m x = true := by rw [isEdge_iff]; omega
      have h := h (fun y hy => by cases hy; exact he)
      simp only [h4, and_self, decide_true, if_true]
      rw [wrap_id (x := (pre.length : Int) + 1) (by omega) (by omega)]
      rcases nil_or_snoc pre with rfl | ⟨pre', y, rfl⟩
      ·simp only [if_neg (show ¬ (([] : List S67).length : Int) > 0 by simp)]
       have e : goodEF m ([] : List S67).getLast? (x :: suf) = goodEF m (some x) suf := by simp [goodEF, he]
       rw [e]
       exact h
      ·have hy : rd_T67 ((pre' ++ [y]) ++ x :: suf) (((pre' ++ [y]).length : Int) - 1) = y := by
        rw [show ((pre' ++ [y]) ++ x :: suf) = pre' ++ y :: (x :: suf) by simp, show (((pre' ++ [y]).length : Int) - 1) = (pre'.length : Int) by simp]
        exact rdEdge_mid _ _ _
       have hye := (isEdge_iff m y).1 (hlast y (by simp))
       have hxe := (isEdge_iff m x).1 he
       have q0 : (((pre' ++ [y]).length : Int)) > 0 := by simp <;> omega
       rw [wrap_id (x := ((pre' ++ [y]).length : Int) - 1) (by omega) (by omega)]
       simp only [if_pos q0, if_pos (show 0 ≤ ((pre' ++ [y]).length : Int) - 1 by omega), if_pos (show ((pre' ++ [y]).length : Int) - 1 < (((pre' ++ [y]) ++ x :: suf).length : Int) by omega), hy]
       have e : goodEF m (pre' ++ [y]).getLast? (x :: suf) = (edgeLt y x && goodEF m (some x) suf) := by simp [goodEF, he]
       rw [e]
       have eb : impl_byEnds.f y.f0 y.f1 y.f2 x.f0 x.f1 x.f2 = some (if y.f0 = x.f0 then y.f1 - x.f1 else y.f0 - x.f0) := by
        unfold impl_byEnds.f
        split
        ·rw [wrap_id (by omega) (by omega)]
        ·rw [wrap_id (by omega) (by omega)]
       simp only [eb, Option.bind_some]
       by_cases g : edgeLt y x = true
       ·have g' : (y.f0 < x.f0 ∨ y.f0 = x.f0 ∧ y.f1 < x.f1) := by unfold edgeLt at g; simpa only [decide_eq_true_eq] using g
        rw [g, Bool.true_and]
        simp only [if_neg (show ¬ (if y.f0 = x.f0 then y.f1 - x.f1 else y.f0 - x.f0) ≥ 0 by split <;> omega)]
        exact h
       ·have g' : ¬ (y.f0 < x.f0 ∨ y.f0 = x.f0 ∧ y.f1 < x.f1) := by unfold edgeLt at g; simpa only [decide_eq_true_eq] using g
        simp only [if_pos (show (if y.f0 = x.f0 then y.f1 - x.f1 else y.f0 - x.f0) ≥ 0 by split <;> omega)]
        refine Ev.some_ ?_
        rw [Bool.not_eq_true] at g
        rw [g]; rfl
     ·simp only [h4, decide_false, Bool.false_eq_true, if_false]
      refine bad ?_
      unfold isEdge; simp only [decide_eq_false_iff_not]; omega
   ·simp only [h2, decide_false, Bool.false_eq_true, if_false]
    refine bad ?_
    unfold isEdge; simp only [decide_eq_false_iff_not]; omega
  ·simp only [h1, decide_false, Bool.false_eq_true, if_false]
   refine bad ?_
   unfold isEdge; simp only [decide_eq_false_iff_not]; omega
theorem wrap_top (x : Int) : -9223372036854775808 ≤ wrap64 x ∧ wrap64 x ≤ 9223372036854775807 := by unfold wrap64; omega
theorem implGoodE_ev (n : Int) (l : List S67) (hl : l.length ≤ 1048576) : Ev (fun k => impl_GoodEdges.f k n l) (goodE n l) := by
 unfold impl_GoodEdges.f
 exact implGoodE_l n (wrap_top _).2 l [] (by simp <;> omega) (fun y hy => by simp at hy)
/-- What good edges are. -/
theorem goodE_n {n : Int} {l : List S67} (h : goodE n l = true) : 1 ≤ n ∧ n ≤ 12 ∧ l.length ≤ 40 := by
 unfold goodE at h
 simp only [Bool.and_eq_true, decide_eq_true_eq] at h
 exact ⟨h.2.1.1, h.2.1.2, h.2.2⟩
theorem goodEF_all {m : Int} : ∀ (l : List S67) (o : Option S67), goodEF m o l = true → ∀ x ∈ l, isEdge m x = true
 | [], _, _, x, hx => by simp at hx
 | y :: r, o, h, x, hx => by
  have h2 : isEdge m y = true ∧ goodEF m (some y) r = true := by
   cases o with
   | none => simpa [goodEF] using h
   | some z =>
    simp only [goodEF, Bool.and_eq_true] at h
    exact ⟨h.1, h.2.2⟩
  rcases List.mem_cons.1 hx with rfl | hx
  ·exact h2.1
  ·exact goodEF_all r _ h2.2 x hx
theorem goodE_edge {n : Int} {l : List S67} (h : goodE n l = true) : ∀ x ∈ l, 0 ≤ x.f0 ∧ x.f0 < x.f1 ∧ x.f1 < n ∧ 1 ≤ x.f2 ∧ x.f2 ≤ 100 := by
 have hn := goodE_n h
 intro x hx
 unfold goodE at h
 simp only [Bool.and_eq_true] at h
 have := (isEdge_iff _ _).1 (goodEF_all l none h.1 x hx)
 rw [wrap_id (by omega) (by omega)] at this
 omega
theorem goodEF_rise {m : Int} : ∀ (l : List S67) (y : S67), goodEF m (some y) l = true → ∀ x ∈ l, (y.f0 < x.f0 ∨ y.f0 = x.f0 ∧ y.f1 < x.f1)
 | [], _, _, x, hx => by simp at hx
 | a :: r, y, h, x, hx => by
  simp only [goodEF, Bool.and_eq_true, edgeLt, decide_eq_true_eq] at h
  rcases List.mem_cons.1 hx with rfl | hx
  ·exact h.2.1
  ·have := goodEF_rise r a h.2.2 x hx
   omega
theorem goodEF_pair {m : Int} : ∀ (l : List S67) (o : Option S67), goodEF m o l = true → l.Pairwise (fun y x => y.f0 < x.f0 ∨ y.f0 = x.f0 ∧ y.f1 < x.f1)
 | [], _, _ => List.Pairwise.nil
 | y :: r, o, h => by
  have h2 : goodEF m (some y) r = true := by
   cases o with
   | none => simp only [goodEF, Bool.and_eq_true] at h; exact h.2
   | some z => simp only [goodEF, Bool.and_eq_true] at h; exact h.2.2
  exact List.Pairwise.cons (goodEF_rise r y h2) (goodEF_pair r _ h2)
theorem goodE_pair {n : Int} {l : List S67} (h : goodE n l = true) : l.Pairwise (fun y x => y.f0 < x.f0 ∨ y.f0 = x.f0 ∧ y.f1 < x.f1) := by
 unfold goodE at h
 simp only [Bool.and_eq_true] at h
 exact goodEF_pair l none h.1
end Go.Proofs.Ytklecgkjoofipaa.P

namespace Go.Proofs.Ytklecgkjoofipaa.P
open Go.RowKit Go.Proofs.YtklecgkjoofipaaW.PrintWords Go.Proofs.YtklecgkjoofipaaW.PrintLast
set_option linter.unusedVariables false
set_option linter.unusedSimpArgs false
/-- The spots' own numbers. -/
def own0 (n : Nat) : List Int := (List.range n).map fun (i : Nat) => (i : Int)
theorem own0_len (n : Nat) : (own0 n).length = n := by simp [own0]
end Go.Proofs.Ytklecgkjoofipaa.P

namespace Go.Proofs.Ytklecgkjoofipaa.P
open Go.RowKit Go.Proofs.YtklecgkjoofipaaW.PrintWords Go.Proofs.YtklecgkjoofipaaW.PrintLast
set_option linter.unusedVariables false
set_option linter.unusedSimpArgs false
-- sweeps over a list of numbers; the least of two
theorem least_is (a b : Int) : spec_l1Least.f a b = some (min a b) := by
 unfold spec_l1Least.f
 split
 ·rw [Int.min_eq_left (by omega)]
 ·rw [Int.min_eq_right (by omega)]
theorem mn_is (a b : Int) : mn a b = min a b := by
 unfold mn
 split
 ·rw [Int.min_eq_right (by omega)]
 ·rw [Int.min_eq_left (by omega)]
theorem own0_succ (n : Nat) : own0 (n + 1) = own0 n ++ [(n : Int)] := by
 unfold own0
 rw [List.range_succ, List.map_append]
 rfl
theorem mx_is (a b : Int) : mx a b = max a b := by
 unfold mx
 split <;> omega
theorem own0_mem (n : Nat) (x : Int) : x ∈ own0 n ↔ 0 ≤ x ∧ x < n := by
 unfold own0
 rw [List.mem_map]
 constructor
 ·rintro ⟨i, hi, rfl⟩
  have := List.mem_range.1 hi
  omega
 ·intro ⟨h0, h1⟩
  exact ⟨x.toNat, List.mem_range.2 (by omega), by omega⟩
theorem own0_sorted : ∀ (n : Nat), (own0 n).Pairwise (· < ·)
 | 0 => by simp [own0]
 | n + 1 => by
  rw [own0_succ]
  refine List.pairwise_append.2 ⟨own0_sorted n, by simp, fun a ha b hb => ?_⟩
  have := (own0_mem n a).1 ha
  simp only [List.mem_singleton] at hb
  omega
end Go.Proofs.Ytklecgkjoofipaa.P

namespace Go.Proofs.Ytklecgkjoofipaa.P
open Go.RowKit Go.Proofs.YtklecgkjoofipaaW.PrintWords Go.Proofs.YtklecgkjoofipaaW.PrintLast
set_option linter.unusedVariables false
set_option linter.unusedSimpArgs false
-- one round of shortening, both sides
def relStep (old out : List Int) (e : S67) : List Int := (out.set e.f0.toNat (min (rd out e.f0) (wrap64 (rd old e.f1 + e.f2)))).set e.f1.toNat (min (rd (out.set e.f0.toNat (min (rd out e.f0) (wrap64 (rd old e.f1 + e.f2)))) e.f1) (wrap64 (rd old e.f0 + e.f2)))
theorem relStep_len (old out : List Int) (e : S67) : (relStep old out e).length = out.length := by simp [relStep]
def relaxM (l : List S67) (old : List Int) : List Int := l.foldl (relStep old) old
theorem relFold_len (old : List Int) : ∀ (l : List S67) (out : List Int), (l.foldl (relStep old) out).length = out.length
 | [], _ => rfl
 | e :: l, out => by rw [List.foldl_cons, relFold_len old l, relStep_len]
theorem relaxM_len (l : List S67) (old : List Int) : (relaxM l old).length = old.length := relFold_len old l old
theorem specRelax_l (old : List Int) (suf : List S67) : ∀ (pre : List S67) (out : List Int), ((pre ++ suf).length : Int) ≤ 1099511627776 → out.length = old.length → (∀ x ∈ suf, 0 ≤ x.f0 ∧ x.f0 < x.f1 ∧ x.f1 < old.length) →
  Ev (fun k => spec_l9Relax.l0 k old out (pre ++ suf) ((pre ++ suf).length : Int) pre.length) (suf.foldl (relStep old) out) := by
 induction suf with
 | nil =>
  intro pre out h ho hx
  refine Ev.succ ?_
  simp only [spec_l9Relax.l0, List.append_nil, Int.lt_irrefl, if_false, List.foldl_nil]
  exact Ev.now _
 | cons e suf ih =>
  intro pre out h ho hx
  refine Ev.succ ?_
  rw [len_mid] at h ⊢
  have hs := relStep_len old out e
  have := ih (pre ++ [e]) (relStep old out e) (by rw [← app_one, len_mid]; exact h) (by omega) (fun x hm => hx x (List.mem_cons_of_mem _ hm))
  rw [← app_one, len_mid, len_one] at this
  have he := hx e (List.mem_cons_self ..)
  simp only [spec_l9Relax.l0, List.foldl_cons]
  simp only [if_pos (show ((pre.length : Int) < pre.length + suf.length + 1) by omega), if_pos (show (0 : Int) ≤ pre.length by omega), len_mid, rdEdge_mid, wrap_id (show (-9223372036854775808 : Int) ≤ pre.length + 1 by omega) (show ((pre.length : Int) + 1 ≤ 9223372036854775807) by omega), if_pos he.1, if_pos (show e.f0 < (out.length : Int) by omega), if_pos (show 0 ≤ e.f1 by omega), if_pos he.2.2, if_pos (show e.f1 < (out.length : Int) by omega), if_pos (show e.f0 < (old.length : Int) by omega), least_is, Option.bind_some]
  exact this
theorem implRelax_l (old : List Int) (suf : List S67) : ∀ (pre : List S67) (out : List Int), ((pre ++ suf).length : Int) ≤ 1099511627776 → out.length = old.length → (∀ x ∈ suf, 0 ≤ x.f0 ∧ x.f0 < x.f1 ∧ x.f1 < old.length) →
  Ev (fun k => impl_relaxed.l0 k old out (pre ++ suf) ((pre ++ suf).length : Int) pre.length) (suf.foldl (relStep old) out) := by
 induction suf with
 | nil =>
  intro pre out h ho hx
  refine Ev.succ ?_
  simp only [impl_relaxed.l0, List.append_nil, Int.lt_irrefl, if_false, List.foldl_nil]
  exact Ev.now _
 | cons e suf ih =>
  intro pre out h ho hx
  refine Ev.succ ?_
  rw [len_mid] at h ⊢
  have hs := relStep_len old out e
  have := ih (pre ++ [e]) (relStep old out e) (by rw [← app_one, len_mid]; exact h) (by omega) (fun x hm => hx x (List.mem_cons_of_mem _ hm))
  rw [← app_one, len_mid, len_one] at this
  have he := hx e (List.mem_cons_self ..)
  simp only [impl_relaxed.l0, List.foldl_cons]
  simp only [if_pos (show ((pre.length : Int) < pre.length + suf.length + 1) by omega), if_pos (show (0 : Int) ≤ pre.length by omega), len_mid, rdEdge_mid, wrap_id (show (-9223372036854775808 : Int) ≤ pre.length + 1 by omega) (show ((pre.length : Int) + 1 ≤ 9223372036854775807) by omega), if_pos he.1, if_pos (show e.f0 < (out.length : Int) by omega), if_pos (show 0 ≤ e.f1 by omega), if_pos he.2.2, if_pos (show e.f1 < (out.length : Int) by omega), if_pos (show e.f0 < (old.length : Int) by omega), mn_is, Option.bind_some]
  exact this
theorem specRelax_ev (l : List S67) (old : List Int) (hb : (l.length : Int) ≤ 1099511627776) (ho : old.length ≤ 1048576) (hx : ∀ x ∈ l, 0 ≤ x.f0 ∧ x.f0 < x.f1 ∧ x.f1 < old.length) : Ev (fun k => spec_l9Relax.f k l old) (relaxM l old) := by
 unfold spec_l9Relax.f
 simp only [Option.bind_some, List.length_nil, Nat.zero_add, List.nil_append, if_pos (show old.length < 17592186044416 by omega)]
 have := specRelax_l old l [] old hb rfl hx
 exact this
theorem implRelax_ev (l : List S67) (old : List Int) (hb : (l.length : Int) ≤ 1099511627776) (ho : old.length ≤ 1048576) (hx : ∀ x ∈ l, 0 ≤ x.f0 ∧ x.f0 < x.f1 ∧ x.f1 < old.length) : Ev (fun k => impl_relaxed.f k l old) (relaxM l old) := by
 unfold impl_relaxed.f
 simp only [Option.bind_some, List.length_nil, Nat.zero_add, List.nil_append, if_pos (show old.length < 17592186044416 by omega)]
 have := implRelax_l old l [] old hb rfl hx
 exact this
end Go.Proofs.Ytklecgkjoofipaa.P

namespace Go.Proofs.Ytklecgkjoofipaa.P
open Go.RowKit Go.Proofs.YtklecgkjoofipaaW.PrintWords Go.Proofs.YtklecgkjoofipaaW.PrintLast
set_option linter.unusedVariables false
set_option linter.unusedSimpArgs false
-- the neighbours of a node: the sorted puts and the sweep over costs give one list
def putI : List Int → Int → List Int
 | [], x => [x]
 | y :: r, x => if y < x then y :: putI r x else if y = x then y :: r else x :: y :: r
theorem putI_len : ∀ (l : List Int) (x : Int), (putI l x).length ≤ l.length + 1
 | [], x => by simp [putI]
 | y :: r, x => by
  have := putI_len r x
  unfold putI
  split
  ·simp; omega
  ·split <;> simp
theorem putI_mem : ∀ (l : List Int) (x z : Int), z ∈ putI l x ↔ z = x ∨ z ∈ l
 | [], x, z => by simp [putI]
 | y :: r, x, z => by
  have := putI_mem r x z
  unfold putI
  split
  ·simp only [List.mem_cons, this]
   constructor
   ·rintro (h | h | h) <;> simp [h]
   ·rintro (h | h | h) <;> simp [h]
  ·split
   ·rename_i h
    subst h
    simp
   ·simp
theorem putI_sorted : ∀ (l : List Int) (x : Int), l.Pairwise (· < ·) → (putI l x).Pairwise (· < ·)
 | [], x, _ => by simp [putI]
 | y :: r, x, h => by
  have h1 := List.pairwise_cons.1 h
  have := putI_sorted r x h1.2
  unfold putI
  split
  ·rename_i hyx
   refine List.pairwise_cons.2 ⟨fun z hz => ?_, this⟩
   rcases (putI_mem r x z).1 hz with h2 | h2
   ·omega
   ·exact h1.1 z h2
  ·split
   ·exact h
   ·refine List.pairwise_cons.2 ⟨fun z hz => ?_, h⟩
    rcases List.mem_cons.1 hz with h2 | h2
    ·omega
    ·have := h1.1 z h2
     omega
theorem sorted_ext : ∀ (a b : List Int), a.Pairwise (· < ·) → b.Pairwise (· < ·) → (∀ x, x ∈ a ↔ x ∈ b) → a = b
 | [], [], _, _, _ => rfl
 | [], y :: b, _, _, h => by have := (h y).2 (List.mem_cons_self ..); simp at this
 | x :: a, [], _, _, h => by have := (h x).1 (List.mem_cons_self ..); simp at this
 | x :: a, y :: b, ha, hb, h => by
  have ha1 := List.pairwise_cons.1 ha
  have hb1 := List.pairwise_cons.1 hb
  have hxy : x = y := by
   rcases List.mem_cons.1 ((h x).1 (List.mem_cons_self ..)) with h1 | h1
   ·exact h1
   ·rcases List.mem_cons.1 ((h y).2 (List.mem_cons_self ..)) with h2 | h2
    ·exact h2.symm
    ·have := ha1.1 y h2
     have := hb1.1 x h1
     omega
  subst hxy
  rw [sorted_ext a b ha1.2 hb1.2 fun z => ?_]
  constructor
  ·intro hz
   rcases List.mem_cons.1 ((h z).1 (List.mem_cons_of_mem _ hz)) with h1 | h1
   ·have := ha1.1 z hz
    omega
   ·exact h1
  ·intro hz
   rcases List.mem_cons.1 ((h z).2 (List.mem_cons_of_mem _ hz)) with h1 | h1
   ·have := hb1.1 z hz
    omega
   ·exact h1
theorem put_l (x : Int) (suf : List Int) : ∀ (pre : List Int), ((pre ++ suf).length : Int) ≤ 4398046511104 → Ev (fun k => spec_l1Put.l0 k (pre ++ suf) x pre.length) (pre ++ putI suf x) := by
 induction suf with
 | nil =>
  intro pre h
  refine Ev.succ ?_
  simp only [List.append_nil] at h ⊢
  have h0 : pre.length < 17592186044416 := by omega
  simp only [spec_l1Put.l0, Int.lt_irrefl, if_false, Option.bind_some, if_pos (show (0 : Int) ≤ pre.length by omega), if_pos (Int.le_refl (pre.length : Int)), Int.toNat_natCast, List.take_length, List.drop_length, List.nil_append, List.length_nil, Nat.zero_add, if_pos h0, List.length_append, List.length_cons, Nat.add_zero, List.append_nil, if_pos (show pre.length + (0 + 1) < 17592186044416 by omega), if_pos (show pre.length + 1 < 17592186044416 by omega), putI]
  exact Ev.now _
 | cons y suf ih =>
  intro pre h
  refine Ev.succ ?_
  have hl := len_mid pre y suf
  rw [hl] at h
  simp only [spec_l1Put.l0, hl, rd_mid, if_pos (show ((pre.length : Int) < pre.length + suf.length + 1) by omega), if_pos (show (0 : Int) ≤ pre.length by omega), wrap_id (show (-9223372036854775808 : Int) ≤ pre.length + 1 by omega) (show ((pre.length : Int) + 1 ≤ 9223372036854775807) by omega)]
  by_cases h1 : y < x
  ·have := ih (pre ++ [y]) (by rw [← app_one, hl]; exact h)
   rw [← app_one, len_one] at this
   simp only [if_pos h1, putI]
   rw [app_one] at this
   rw [app_one pre y (putI suf x)]
   rw [← app_one] at this
   exact this
  ·by_cases h2 : y = x
   ·simp only [if_neg h1, if_pos h2, putI]
    exact Ev.now _
   ·have h0 : pre.length < 17592186044416 := by omega
    simp only [if_neg h1, if_neg h2, putI, Option.bind_some, if_pos (show (pre.length : Int) ≤ pre.length + suf.length + 1 by omega), Int.toNat_natCast, List.take_left, List.drop_left, List.nil_append, List.length_nil, Nat.zero_add, if_pos h0, List.length_append, List.length_cons, if_pos (show pre.length + 1 + (suf.length + 1) < 17592186044416 by omega), if_pos (show pre.length + (0 + 1) + (suf.length + 1) < 17592186044416 by omega), List.append_assoc, List.cons_append]
    exact Ev.now _
theorem put_ev (l : List Int) (x : Int) (h : (l.length : Int) ≤ 4398046511104) : Ev (fun k => spec_l1Put.f k l x) (putI l x) := by
 have := put_l x l [] h
 exact this
def nearStep (v : Int) (out : List Int) (e : S67) : List Int := if e.f0 = v then (if e.f1 = v then putI (putI out e.f1) e.f0 else putI out e.f1) else (if e.f1 = v then putI out e.f0 else out)
theorem nearStep_len (v : Int) (out : List Int) (e : S67) : (nearStep v out e).length ≤ out.length + 2 := by
 unfold nearStep
 split
 ·split
  ·have := putI_len (putI out e.f1) e.f0
   have := putI_len out e.f1
   omega
  ·have := putI_len out e.f1
   omega
 ·split
  ·have := putI_len out e.f0
   omega
  ·omega
theorem specNear_l (v : Int) (suf : List S67) : ∀ (pre : List S67) (out : List Int), ((pre ++ suf).length : Int) ≤ 1099511627776 → (out.length : Int) ≤ 2 * pre.length →
  Ev (fun k => spec_l8Near.l0 k v out (pre ++ suf) ((pre ++ suf).length : Int) pre.length) (suf.foldl (nearStep v) out) := by
 induction suf with
 | nil =>
  intro pre out h ho
  refine Ev.succ ?_
  simp only [spec_l8Near.l0, List.append_nil, Int.lt_irrefl, if_false, List.foldl_nil]
  exact Ev.now _
 | cons e suf ih =>
  intro pre out h ho
  refine Ev.succ ?_
  rw [len_mid] at h ⊢
  have hs := nearStep_len v out e
  have := ih (pre ++ [e]) (nearStep v out e) (by rw [← app_one, len_mid]; exact h) (by rw [len_one]; omega)
  rw [← app_one, len_mid, len_one] at this
  simp only [spec_l8Near.l0, List.foldl_cons]
  simp only [if_pos (show ((pre.length : Int) < pre.length + suf.length + 1) by omega), if_pos (show (0 : Int) ≤ pre.length by omega), len_mid, rdEdge_mid, wrap_id (show (-9223372036854775808 : Int) ≤ pre.length + 1 by omega) (show ((pre.length : Int) + 1 ≤ 9223372036854775807) by omega)]
  have hp := putI_len out e.f1
  by_cases h1 : e.f0 = v
  ·by_cases h2 : e.f1 = v
   ·simp only [if_pos h1, if_pos h2]
    refine Ev.bind (put_ev _ _ (by omega)) ?_
    refine Ev.bind (put_ev _ _ (by omega)) ?_
    rw [show nearStep v out e = putI (putI out e.f1) e.f0 by simp [nearStep, h1, h2]] at this
    rw [show nearStep v out e = putI (putI out e.f1) e.f0 by simp [nearStep, h1, h2]]
    exact this
   ·simp only [if_pos h1, if_neg h2]
    refine Ev.bind (put_ev _ _ (by omega)) ?_
    rw [show nearStep v out e = putI out e.f1 by simp only [nearStep, if_pos h1, if_neg h2]] at this
    rw [show nearStep v out e = putI out e.f1 by simp only [nearStep, if_pos h1, if_neg h2]]
    exact this
  ·by_cases h2 : e.f1 = v
   ·simp only [if_neg h1, if_pos h2]
    refine Ev.bind (put_ev _ _ (by omega)) ?_
    rw [show nearStep v out e = putI out e.f0 by simp only [nearStep, if_neg h1, if_pos h2]] at this
    rw [show nearStep v out e = putI out e.f0 by simp only [nearStep, if_neg h1, if_pos h2]]
    exact this
   ·simp only [if_neg h1, if_neg h2]
    rw [show nearStep v out e = out by simp only [nearStep, if_neg h1, if_neg h2]] at this
    rw [show nearStep v out e = out by simp only [nearStep, if_neg h1, if_neg h2]]
    exact this
def nearS (l : List S67) (v : Int) : List Int := l.foldl (nearStep v) []
theorem specNear_ev (l : List S67) (v : Int) (h : (l.length : Int) ≤ 1099511627776) : Ev (fun k => spec_l8Near.f k l v) (nearS l v) := by
 have := specNear_l v l [] [] h (by simp)
 exact this
theorem foldNear (v : Int) : ∀ (l : List S67) (out : List Int), out.Pairwise (· < ·) → (l.foldl (nearStep v) out).Pairwise (· < ·) ∧ ∀ x, x ∈ l.foldl (nearStep v) out ↔ x ∈ out ∨ ∃ e ∈ l, (e.f0 = v ∧ e.f1 = x) ∨ (e.f1 = v ∧ e.f0 = x)
 | [], out, h => by simp [h]
 | e :: l, out, h => by
  have h1 : (nearStep v out e).Pairwise (· < ·) := by
   unfold nearStep
   split
   ·split
    ·exact putI_sorted _ _ (putI_sorted _ _ h)
    ·exact putI_sorted _ _ h
   ·split
    ·exact putI_sorted _ _ h
    ·exact h
  have h2 : ∀ x, x ∈ nearStep v out e ↔ x ∈ out ∨ (e.f0 = v ∧ e.f1 = x) ∨ (e.f1 = v ∧ e.f0 = x) := by
   intro x
   unfold nearStep
   split
   ·rename_i a
    split
    ·rename_i b
     rw [putI_mem, putI_mem]
     constructor
     ·rintro (c | c | c)
      ·exact .inr (.inr ⟨b, c.symm⟩)
      ·exact .inr (.inl ⟨a, c.symm⟩)
      ·exact .inl c
     ·rintro (c | c | c)
      ·exact .inr (.inr c)
      ·exact .inr (.inl c.2.symm)
      ·exact .inl c.2.symm
    ·rename_i b
     rw [putI_mem]
     constructor
     ·rintro (c | c)
      ·exact .inr (.inl ⟨a, c.symm⟩)
      ·exact .inl c
     ·rintro (c | c | c)
      ·exact .inr c
      ·exact .inl c.2.symm
      ·exact absurd c.1 b
   ·rename_i a
    split
    ·rename_i b
     rw [putI_mem]
     constructor
     ·rintro (c | c)
      ·exact .inr (.inr ⟨b, c.symm⟩)
      ·exact .inl c
     ·rintro (c | c | c)
      ·exact .inr c
      ·exact absurd c.1 a
      ·exact .inl c.2.symm
    ·rename_i b
     constructor
     ·exact .inl
     ·rintro (c | c | c)
      ·exact c
      ·exact absurd c.1 a
      ·exact absurd c.1 b
  have h3 := foldNear v l (nearStep v out e) h1
  refine ⟨h3.1, fun x => ?_⟩
  rw [List.foldl_cons, h3.2, h2]
  constructor
  ·rintro ((c | c) | ⟨y, c, d⟩)
   ·exact .inl c
   ·exact .inr ⟨e, List.mem_cons_self .., c⟩
   ·exact .inr ⟨y, List.mem_cons_of_mem _ c, d⟩
  ·rintro (c | ⟨y, c, d⟩)
   ·exact .inl (.inl c)
   ·rcases List.mem_cons.1 c with rfl | c
    ·exact .inl (.inr d)
    ·exact .inr ⟨y, c, d⟩
def isAt (a b : Int) (e : S67) : Bool := decide (e.f0 = min a b ∧ e.f1 = max a b)
def costM (l : List S67) (a b : Int) : Int := match l.find? (isAt a b) with
 | some e => e.f2
 | none => 0
theorem implCost_l (a b : Int) (suf : List S67) : ∀ (pre : List S67), ((pre ++ suf).length : Int) ≤ 1099511627776 →
  Ev (fun k => impl_cost.l0 k a b (pre ++ suf) ((pre ++ suf).length : Int) pre.length) (costM suf a b) := by
 induction suf with
 | nil =>
  intro pre h
  refine Ev.succ ?_
  simp only [impl_cost.l0, List.append_nil, Int.lt_irrefl, if_false]
  exact Ev.now _
 | cons e suf ih =>
  intro pre h
  refine Ev.succ ?_
  rw [len_mid] at h ⊢
  have := ih (pre ++ [e]) (by rw [← app_one, len_mid]; exact h)
  rw [← app_one, len_mid, len_one] at this
  simp only [impl_cost.l0]
  simp only [if_pos (show ((pre.length : Int) < pre.length + suf.length + 1) by omega), if_pos (show (0 : Int) ≤ pre.length by omega), len_mid, rdEdge_mid, wrap_id (show (-9223372036854775808 : Int) ≤ pre.length + 1 by omega) (show ((pre.length : Int) + 1 ≤ 9223372036854775807) by omega), mn_is, mx_is]
  by_cases h1 : e.f0 = min a b
  ·by_cases h2 : e.f1 = max a b
   ·simp only [if_pos h1, if_pos h2]
    rw [show costM (e :: suf) a b = e.f2 by unfold costM; rw [List.find?_cons_of_pos (by simp only [isAt, h1, h2, and_self, decide_true])]]
    exact Ev.now _
   ·simp only [if_pos h1, if_neg h2]
    rw [show costM (e :: suf) a b = costM suf a b by unfold costM; rw [List.find?_cons_of_neg (by simp only [isAt, h2, and_false, decide_false]; simp)]]
    exact this
  ·simp only [if_neg h1]
   rw [show costM (e :: suf) a b = costM suf a b by unfold costM; rw [List.find?_cons_of_neg (by simp only [isAt, h1, false_and, decide_false]; simp)]]
   exact this
theorem implCost_ev (l : List S67) (a b : Int) (h : (l.length : Int) ≤ 1099511627776) : Ev (fun k => impl_cost.f k l a b) (costM l a b) := by
 have := implCost_l a b l [] h
 exact this
def nearM (n : Nat) (l : List S67) (v : Int) : List Int := (own0 n).filter fun u => decide (costM l v u > 0)
theorem nearM_succ (n : Nat) (l : List S67) (v : Int) : nearM (n + 1) l v = if costM l v n > 0 then nearM n l v ++ [(n : Int)] else nearM n l v := by
 unfold nearM
 rw [own0_succ, List.filter_append]
 split
 ·rename_i h
  simp [h]
 ·rename_i h
  simp [h]
theorem nearM_len (n : Nat) (l : List S67) (v : Int) : (nearM n l v).length ≤ n := by
 have := List.length_filter_le (fun u => decide (costM l v u > 0)) (own0 n)
 rw [own0_len] at this
 exact this
theorem implNear_l (l : List S67) (v : Int) (hb : (l.length : Int) ≤ 1099511627776) (d : Nat) : ∀ (c : Nat), c + d ≤ 1000000 →
  Ev (fun k => impl_near.l0 k l v (nearM c l v) ((c + d : Nat) : Int) c) (nearM (c + d) l v) := by
 induction d with
 | zero =>
  intro c h
  refine Ev.succ ?_
  simp only [impl_near.l0, Nat.add_zero, Int.lt_irrefl, if_false]
  exact Ev.now _
 | succ d ih =>
  intro c h
  refine Ev.succ ?_
  have := ih (c + 1) (by omega)
  rw [show c + 1 + d = c + (d + 1) by omega] at this
  have hl := nearM_len c l v
  simp only [impl_near.l0, if_pos (show (c : Int) < ((c + (d + 1) : Nat) : Int) by omega), wrap_id (show (-9223372036854775808 : Int) ≤ c + 1 by omega) (show ((c : Int) + 1 ≤ 9223372036854775807) by omega)]
  refine Ev.bind (implCost_ev l v c hb) ?_
  rw [nearM_succ] at this
  by_cases h1 : costM l v c > 0
  ·simp only [if_pos h1, if_pos (show (nearM c l v).length < 17592186044416 by omega)] at this ⊢
   exact this
  ·simp only [if_neg h1] at this ⊢
   exact this
theorem implNear_ev (n : Int) (l : List S67) (v : Int) (h0 : 0 ≤ n) (hn : n ≤ 1000) (hb : (l.length : Int) ≤ 1099511627776) : Ev (fun k => impl_near.f k n l v) (nearM n.toNat l v) := by
 have := implNear_l l v hb n.toNat 0 (by omega)
 rw [Nat.zero_add, show ((n.toNat : Nat) : Int) = n by omega] at this
 exact this
theorem costM_pos {n : Int} {l : List S67} (hx : ∀ x ∈ l, 0 ≤ x.f0 ∧ x.f0 < x.f1 ∧ x.f1 < n ∧ 1 ≤ x.f2 ∧ x.f2 ≤ 100) (a b : Int) : costM l a b > 0 ↔ ∃ e ∈ l, (e.f0 = a ∧ e.f1 = b) ∨ (e.f1 = a ∧ e.f0 = b) := by
 unfold costM
 cases hf : l.find? (isAt a b) with
 | none =>
  simp only [gt_iff_lt, Int.lt_irrefl, false_iff]
  rintro ⟨e, he, hc⟩
  have := hx e he
  have h1 := List.find?_eq_none.1 hf e he
  simp only [isAt, decide_eq_true_eq] at h1
  omega
 | some e =>
  have he := List.mem_of_find?_eq_some hf
  have := hx e he
  have h1 := List.find?_some hf
  simp only [isAt, decide_eq_true_eq] at h1
  simp only [gt_iff_lt]
  refine ⟨fun _ => ⟨e, he, ?_⟩, fun _ => by omega⟩
  omega
theorem near_same {n : Int} {l : List S67} (hx : ∀ x ∈ l, 0 ≤ x.f0 ∧ x.f0 < x.f1 ∧ x.f1 < n ∧ 1 ≤ x.f2 ∧ x.f2 ≤ 100) (v : Int) : nearS l v = nearM n.toNat l v := by
 have h := foldNear v l [] (by simp)
 refine sorted_ext _ _ h.1 ?_ fun x => ?_
 ·exact (own0_sorted _).filter _
 ·unfold nearM
  rw [List.mem_filter, own0_mem, decide_eq_true_eq, costM_pos hx]
  have h2 := h.2 x
  simp only [List.not_mem_nil, false_or] at h2
  refine h2.trans ⟨fun hc => ⟨?_, hc⟩, fun hc => hc.2⟩
  obtain ⟨e, he, hc⟩ := hc
  have := hx e he
  omega
theorem goodAt_ev (n : Int) (l : List S67) (q : List Int) (hl : l.length ≤ 1048576) (hq : (q.length : Int) ≤ 1099511627776) : Ev (fun k => impl_goodAt.f k n l q) (goodE n l && allIn 0 (wrap64 (n - 1)) q) := by
 unfold impl_goodAt.f
 refine Ev.bind (implGoodE_ev n l hl) ?_
 by_cases h : goodE n l = true
 ·simp only [h, if_true, Bool.true_and]
  exact Ev.bind (implAll_ev _ _ q hq) (Ev.now _)
 ·simp only [h, Bool.false_and, Bool.false_eq_true, if_false]
  exact Ev.now _
end Go.Proofs.Ytklecgkjoofipaa.P

namespace Go.Proofs.Ytklecgkjoofipaa.P
open Go.RowKit Go.Proofs.YtklecgkjoofipaaW.PrintWords Go.Proofs.YtklecgkjoofipaaW.PrintLast
set_option linter.unusedVariables false
set_option linter.unusedSimpArgs false
-- all the shortest ways from a node, both sides
def farsIt (l : List S67) : Nat → List Int → List Int
 | 0, x => x
 | d + 1, x => farsIt l d (relaxM l x)
theorem farsIt_len (l : List S67) : ∀ (d : Nat) (x : List Int), (farsIt l d x).length = x.length
 | 0, _ => rfl
 | d + 1, x => by rw [farsIt, farsIt_len l d, relaxM_len]
def fars0 (n : Nat) (a : Int) : List Int := (List.replicate n (100000 : Int)).set a.toNat 0
theorem fars0_len (n : Nat) (a : Int) : (fars0 n a).length = n := by simp [fars0]
def farsM (n : Nat) (l : List S67) (a : Int) : List Int := farsIt l n (fars0 n a)
theorem farsM_len (n : Nat) (l : List S67) (a : Int) : (farsM n l a).length = n := by rw [farsM, farsIt_len, fars0_len]
theorem specFars_l1 (n : Nat) (hn : n ≤ 1000) (l : List S67) (hb : (l.length : Int) ≤ 1099511627776) (hx : ∀ x ∈ l, 0 ≤ x.f0 ∧ x.f0 < x.f1 ∧ x.f1 < n) (d : Nat) : ∀ (c : Nat) (x : List Int), c + d = n → x.length = n →
  Ev (fun k => spec_l9Fars.l1 k n l x c) (farsIt l d x) := by
 induction d with
 | zero =>
  intro c x h hl
  refine Ev.succ ?_
  simp only [spec_l9Fars.l1, if_neg (show ¬ (c : Int) < n by omega)]
  exact Ev.now _
 | succ d ih =>
  intro c x h hl
  refine Ev.succ ?_
  have := ih (c + 1) (relaxM l x) (by omega) (by rw [relaxM_len, hl])
  simp only [spec_l9Fars.l1, if_pos (show (c : Int) < n by omega), wrap_id (show (-9223372036854775808 : Int) ≤ c + 1 by omega) (show ((c : Int) + 1 ≤ 9223372036854775807) by omega)]
  refine Ev.bind (specRelax_ev l x hb (by omega) (by rw [hl]; exact hx)) ?_
  exact this
theorem implFars_l1 (n : Nat) (hn : n ≤ 1000) (l : List S67) (hb : (l.length : Int) ≤ 1099511627776) (hx : ∀ x ∈ l, 0 ≤ x.f0 ∧ x.f0 < x.f1 ∧ x.f1 < n) (d : Nat) : ∀ (c : Nat) (x : List Int), c + d = n → x.length = n →
  Ev (fun k => impl_fars.l1 k l x n c) (farsIt l d x) := by
 induction d with
 | zero =>
  intro c x h hl
  refine Ev.succ ?_
  simp only [impl_fars.l1, if_neg (show ¬ (c : Int) < n by omega)]
  exact Ev.now _
 | succ d ih =>
  intro c x h hl
  refine Ev.succ ?_
  have := ih (c + 1) (relaxM l x) (by omega) (by rw [relaxM_len, hl])
  simp only [impl_fars.l1, if_pos (show (c : Int) < n by omega), wrap_id (show (-9223372036854775808 : Int) ≤ c + 1 by omega) (show ((c : Int) + 1 ≤ 9223372036854775807) by omega)]
  refine Ev.bind (implRelax_ev l x hb (by omega) (by rw [hl]; exact hx)) ?_
  exact this
theorem rep_succ (c : Nat) (x : Int) : List.replicate c x ++ [x] = List.replicate (c + 1) x := by
 rw [List.replicate_succ']
theorem specFars_l0 (n : Nat) (hn : n ≤ 1000) (l : List S67) (a : Int) (R : List Int) (ha : 0 ≤ a) (ha1 : a < n) (hR : Ev (fun k => spec_l9Fars.l1 k n l (fars0 n a) 0) R) (d : Nat) : ∀ (c : Nat), c + d = n →
  Ev (fun k => spec_l9Fars.l0 k n l a (List.replicate c 100000) c) R := by
 induction d with
 | zero =>
  intro c h
  refine Ev.succ ?_
  have hc : c = n := by omega
  subst hc
  simp only [spec_l9Fars.l0, Int.lt_irrefl, if_false, if_pos ha, List.length_replicate, if_pos ha1]
  exact hR
 | succ d ih =>
  intro c h
  refine Ev.succ ?_
  have := ih (c + 1) (by omega)
  simp only [spec_l9Fars.l0, if_pos (show (c : Int) < n by omega), List.length_replicate, if_pos (show c < 17592186044416 by omega), wrap_id (show (-9223372036854775808 : Int) ≤ c + 1 by omega) (show ((c : Int) + 1 ≤ 9223372036854775807) by omega)]
  rw [rep_succ]
  exact this
theorem specFars_ev (n : Int) (l : List S67) (a : Int) (hn : n ≤ 1000) (hb : (l.length : Int) ≤ 1099511627776) (hx : ∀ x ∈ l, 0 ≤ x.f0 ∧ x.f0 < x.f1 ∧ x.f1 < n) (ha : 0 ≤ a) (ha1 : a < n) : Ev (fun k => spec_l9Fars.f k n l a) (farsM n.toNat l a) := by
 obtain ⟨m, rfl⟩ := Int.eq_ofNat_of_zero_le (show 0 ≤ n by omega)
 rw [Int.toNat_natCast]
 have := specFars_l0 m (by omega) l a _ ha ha1 (specFars_l1 m (by omega) l hb hx m 0 _ (by omega) (fars0_len m a)) m 0 (by omega)
 exact this
theorem implFars_l0 (n : Nat) (hn : n ≤ 1000) (l : List S67) (a : Int) (R : List Int) (ha : 0 ≤ a) (ha1 : a < n) (hR : Ev (fun k => impl_fars.l1 k l (fars0 n a) n 0) R) (d : Nat) : ∀ (c : Nat), c + d = n →
  Ev (fun k => impl_fars.l0 k n l a (List.replicate c 100000 ++ List.replicate d 0) n c) R := by
 induction d with
 | zero =>
  intro c h
  refine Ev.succ ?_
  have hc : c = n := by omega
  subst hc
  simp only [impl_fars.l0, Int.lt_irrefl, if_false, if_pos ha, List.replicate_zero, List.append_nil, List.length_replicate, if_pos ha1]
  exact hR
 | succ d ih =>
  intro c h
  refine Ev.succ ?_
  have := ih (c + 1) (by omega)
  have hl : ((List.replicate c (100000 : Int) ++ List.replicate (d + 1) (0 : Int)).length : Int) = n := by simp; omega
  simp only [impl_fars.l0, hl, if_pos (show (c : Int) < n by omega), if_pos (show (0 : Int) ≤ c by omega), wrap_id (show (-9223372036854775808 : Int) ≤ c + 1 by omega) (show ((c : Int) + 1 ≤ 9223372036854775807) by omega)]
  have hs := set_mid (List.replicate c (100000 : Int)) 0 100000 (List.replicate d 0)
  rw [List.length_replicate] at hs
  rw [List.replicate_succ, hs, app_one, rep_succ]
  exact this
theorem implFars_ev (n : Int) (l : List S67) (a : Int) (hn : n ≤ 1000) (hb : (l.length : Int) ≤ 1099511627776) (hx : ∀ x ∈ l, 0 ≤ x.f0 ∧ x.f0 < x.f1 ∧ x.f1 < n) (ha : 0 ≤ a) (ha1 : a < n) : Ev (fun k => impl_fars.f k n l a) (farsM n.toNat l a) := by
 obtain ⟨m, rfl⟩ := Int.eq_ofNat_of_zero_le (show 0 ≤ n by omega)
 rw [Int.toNat_natCast]
 unfold impl_fars.f
 simp only [Int.toNat_natCast, if_pos (show (0 : Int) ≤ (m : Int) by omega), if_pos (show m ≤ 35184372088832 by omega), Option.bind_some, List.length_replicate]
 have := implFars_l0 m (by omega) l a _ ha ha1 (implFars_l1 m (by omega) l hb hx m 0 _ (by omega) (fars0_len m a)) m 0 (by omega)
 exact this
theorem allIn1 (a b x : Int) : allIn a b [x] = decide (a ≤ x ∧ x ≤ b) := by rw [allIn, List.all_cons, List.all_nil, Bool.and_true]
theorem allIn2 (a b x y : Int) : allIn a b [x, y] = (decide (a ≤ x ∧ x ≤ b) && decide (a ≤ y ∧ y ≤ b)) := by rw [allIn, List.all_cons, List.all_cons, List.all_nil, Bool.and_true]
theorem edge3 {n : Int} {l : List S67} (h : goodE n l = true) : ∀ x ∈ l, 0 ≤ x.f0 ∧ x.f0 < x.f1 ∧ x.f1 < n := fun x hm => ⟨(goodE_edge h x hm).1, (goodE_edge h x hm).2.1, (goodE_edge h x hm).2.2.1⟩
theorem top_is {n : Int} (h0 : 1 ≤ n) (h1 : n ≤ 12) : wrap64 (n - 1) = n - 1 := wrap_id (by omega) (by omega)
end Go.Proofs.Ytklecgkjoofipaa.P

namespace Go.Proofs.Ytklecgkjoofipaa.P
open Go.RowKit Go.Proofs.YtklecgkjoofipaaW.PrintWords Go.Proofs.YtklecgkjoofipaaW.PrintLast
set_option linter.unusedVariables false
set_option linter.unusedSimpArgs false
-- the cost of a list of nodes, both sides
theorem specEdge_l (a b : Int) (suf : List S67) : ∀ (pre : List S67), ((pre ++ suf).length : Int) ≤ 1099511627776 → (∀ x ∈ suf, x.f0 < x.f1) →
  Ev (fun k => spec_l9Edge.l0 k a b (pre ++ suf) ((pre ++ suf).length : Int) pre.length) (costM suf a b) := by
 induction suf with
 | nil =>
  intro pre h hx
  refine Ev.succ ?_
  simp only [spec_l9Edge.l0, List.append_nil, Int.lt_irrefl, if_false]
  exact Ev.now _
 | cons e suf ih =>
  intro pre h hx
  refine Ev.succ ?_
  rw [len_mid] at h ⊢
  have := ih (pre ++ [e]) (by rw [← app_one, len_mid]; exact h) (fun x hm => hx x (List.mem_cons_of_mem _ hm))
  rw [← app_one, len_mid, len_one] at this
  have he := hx e (List.mem_cons_self ..)
  simp only [spec_l9Edge.l0]
  simp only [if_pos (show ((pre.length : Int) < pre.length + suf.length + 1) by omega), if_pos (show (0 : Int) ≤ pre.length by omega), len_mid, rdEdge_mid, wrap_id (show (-9223372036854775808 : Int) ≤ pre.length + 1 by omega) (show ((pre.length : Int) + 1 ≤ 9223372036854775807) by omega)]
  by_cases hc : e.f0 = min a b ∧ e.f1 = max a b
  ·rw [show costM (e :: suf) a b = e.f2 by unfold costM; rw [List.find?_cons_of_pos (by simp only [isAt, hc, and_self, decide_true])]]
   by_cases hab : a ≤ b
   ·simp only [if_pos (show e.f0 = a by omega), if_pos (show e.f1 = b by omega)]
    exact Ev.now _
   ·simp only [if_neg (show ¬ e.f0 = a by omega), if_pos (show e.f0 = b by omega), if_pos (show e.f1 = a by omega)]
    exact Ev.now _
  ·rw [show costM (e :: suf) a b = costM suf a b by unfold costM; rw [List.find?_cons_of_neg (by simp only [isAt, hc, decide_false]; simp)]]
   by_cases h1 : e.f0 = a
   ·simp only [if_pos h1, if_neg (show ¬ e.f1 = b by omega)]
    by_cases h2 : e.f0 = b
    ·simp only [if_pos h2, if_neg (show ¬ e.f1 = a by omega)]
     exact this
    ·simp only [if_neg h2]
     exact this
   ·simp only [if_neg h1]
    by_cases h2 : e.f0 = b
    ·simp only [if_pos h2, if_neg (show ¬ e.f1 = a by omega)]
     exact this
    ·simp only [if_neg h2]
     exact this
theorem specEdge_ev {n : Int} (l : List S67) (a b : Int) (h : (l.length : Int) ≤ 1099511627776) (hg : ∀ x ∈ l, 0 ≤ x.f0 ∧ x.f0 < x.f1 ∧ x.f1 < n) : Ev (fun k => spec_l9Edge.f k l a b) (costM l a b) := by
 have := specEdge_l a b l [] h (fun x hm => (hg x hm).2.1)
 exact this
end Go.Proofs.Ytklecgkjoofipaa.P

namespace Go.Proofs.Ytklecgkjoofipaa.P
open Go.RowKit Go.Proofs.YtklecgkjoofipaaW.PrintWords Go.Proofs.YtklecgkjoofipaaW.PrintLast
set_option linter.unusedVariables false
set_option linter.unusedSimpArgs false
-- the first steps of the shortest ways, one side
def hopsGo (l : List S67) (a : Int) (F : List Int) (q : List Int) : List Int := q.filter fun u => decide (rd F a < 100000 ∧ wrap64 (rd F u + costM l a u) = rd F a)
theorem hopsGo_len (l : List S67) (a : Int) (F q : List Int) : (hopsGo l a F q).length ≤ q.length := List.length_filter_le ..
theorem hopsGo_pos (l : List S67) (a : Int) (F : List Int) (u : Int) (q : List Int) (h : rd F a < 100000 ∧ wrap64 (rd F u + costM l a u) = rd F a) : hopsGo l a F (u :: q) = u :: hopsGo l a F q := by
 unfold hopsGo
 exact List.filter_cons_of_pos (decide_eq_true h)
theorem hopsGo_neg (l : List S67) (a : Int) (F : List Int) (u : Int) (q : List Int) (h : ¬ (rd F a < 100000 ∧ wrap64 (rd F u + costM l a u) = rd F a)) : hopsGo l a F (u :: q) = hopsGo l a F q := by
 unfold hopsGo
 exact List.filter_cons_of_neg (by rw [decide_eq_true_eq]; exact h)
theorem implHops_l (n : Nat) (l : List S67) (hb : (l.length : Int) ≤ 1099511627776) (a : Int) (ha : 0 ≤ a) (ha1 : a < n) (F : List Int) (hF : F.length = n) (suf : List Int) : ∀ (pre out : List Int), ((pre ++ suf).length : Int) ≤ 1000000 → out.length ≤ pre.length → (∀ u ∈ suf, 0 ≤ u ∧ u < n) →
  Ev (fun k => impl_hops.l0 k l a F out (pre ++ suf) ((pre ++ suf).length : Int) pre.length) (out ++ hopsGo l a F suf) := by
 induction suf with
 | nil =>
  intro pre out h ho hu
  refine Ev.succ ?_
  simp only [impl_hops.l0, List.append_nil, Int.lt_irrefl, if_false, hopsGo, List.filter_nil]
  exact Ev.now _
 | cons u suf ih =>
  intro pre out h ho hu
  refine Ev.succ ?_
  rw [len_mid] at h ⊢
  have h0 := hu u (List.mem_cons_self ..)
  have := fun o ho => ih (pre ++ [u]) o (by rw [← app_one, len_mid]; exact h) ho (fun x hm => hu x (List.mem_cons_of_mem _ hm))
  rw [← app_one, len_mid, len_one] at this
  simp only [impl_hops.l0]
  simp only [if_pos (show ((pre.length : Int) < pre.length + suf.length + 1) by omega), if_pos (show (0 : Int) ≤ pre.length by omega), len_mid, rd_mid, wrap_id (show (-9223372036854775808 : Int) ≤ pre.length + 1 by omega) (show ((pre.length : Int) + 1 ≤ 9223372036854775807) by omega), if_pos ha, if_pos (show a < (F.length : Int) by omega), if_pos h0.1, if_pos (show u < (F.length : Int) by omega)]
  by_cases h1 : rd F a < 100000
  ·simp only [if_pos h1]
   refine Ev.bind (implCost_ev l a u hb) ?_
   by_cases h2 : wrap64 (rd F u + costM l a u) = rd F a
   ·simp only [if_pos h2, if_pos (show out.length < 17592186044416 by omega)]
    rw [hopsGo_pos l a F u suf ⟨h1, h2⟩, app_one out u (hopsGo l a F suf)]
    exact this (out ++ [u]) (by simp only [List.length_append, List.length_singleton]; omega)
   ·simp only [if_neg h2]
    rw [hopsGo_neg l a F u suf (fun hc => h2 hc.2)]
    exact this out (by rw [List.length_append]; omega)
  ·simp only [if_neg h1]
   rw [hopsGo_neg l a F u suf (fun hc => h1 hc.1)]
   exact this out (by rw [List.length_append]; omega)
def hopsM (n : Nat) (l : List S67) (a b : Int) : List Int := hopsGo l a (farsM n l b) (nearM n l a)
theorem hopsM_len (n : Nat) (l : List S67) (a b : Int) : (hopsM n l a b).length ≤ n := by
 have := hopsGo_len l a (farsM n l b) (nearM n l a)
 have := nearM_len n l a
 unfold hopsM
 omega
theorem nearM_in (n : Nat) (l : List S67) (a u : Int) (h : u ∈ nearM n l a) : 0 ≤ u ∧ u < n := (own0_mem n u).1 (List.mem_filter.1 h).1
theorem implHops_ev (n : Int) (l : List S67) (a b : Int) (hl : l.length ≤ 1048576) (h : goodE n l = true) (ha : 0 ≤ a) (ha1 : a < n) : Ev (fun k => impl_hops.f k n l a (farsM n.toNat l b)) (hopsM n.toNat l a b) := by
 have hn := goodE_n h
 unfold impl_hops.f
 refine Ev.bind (implNear_ev n l a (by omega) (by omega) (by omega)) ?_
 have hq := nearM_len n.toNat l a
 have := implHops_l n.toNat l (by omega) a ha (by omega) (farsM n.toNat l b) (farsM_len ..) (nearM n.toNat l a) [] [] (by rw [List.nil_append]; omega) (by simp) (fun u hu => nearM_in _ _ _ _ hu)
 exact this
end Go.Proofs.Ytklecgkjoofipaa.P

namespace Go.Proofs.Ytklecgkjoofipaa.P
open Go.RowKit Go.Proofs.YtklecgkjoofipaaW.PrintWords Go.Proofs.YtklecgkjoofipaaW.PrintLast
set_option linter.unusedVariables false
set_option linter.unusedSimpArgs false
-- the first steps of the shortest ways, both sides
theorem specHops_l (n : Nat) (l : List S67) (hb : (l.length : Int) ≤ 1099511627776) (hg : ∀ x ∈ l, 0 ≤ x.f0 ∧ x.f0 < x.f1 ∧ x.f1 < n) (a : Int) (ha : 0 ≤ a) (ha1 : a < n) (F : List Int) (hF : F.length = n) (suf : List Int) : ∀ (pre out : List Int), ((pre ++ suf).length : Int) ≤ 1000000 → out.length ≤ pre.length → (∀ u ∈ suf, 0 ≤ u ∧ u < n) →
  Ev (fun k => spec_l9Hops.l0 k l a F out (pre ++ suf) ((pre ++ suf).length : Int) pre.length) (out ++ hopsGo l a F suf) := by
 induction suf with
 | nil =>
  intro pre out h ho hu
  refine Ev.succ ?_
  simp only [spec_l9Hops.l0, List.append_nil, Int.lt_irrefl, if_false, hopsGo, List.filter_nil]
  exact Ev.now _
 | cons u suf ih =>
  intro pre out h ho hu
  refine Ev.succ ?_
  rw [len_mid] at h ⊢
  have h0 := hu u (List.mem_cons_self ..)
  have := fun o ho => ih (pre ++ [u]) o (by rw [← app_one, len_mid]; exact h) ho (fun x hm => hu x (List.mem_cons_of_mem _ hm))
  rw [← app_one, len_mid, len_one] at this
  simp only [spec_l9Hops.l0]
  simp only [if_pos (show ((pre.length : Int) < pre.length + suf.length + 1) by omega), if_pos (show (0 : Int) ≤ pre.length by omega), len_mid, rd_mid, wrap_id (show (-9223372036854775808 : Int) ≤ pre.length + 1 by omega) (show ((pre.length : Int) + 1 ≤ 9223372036854775807) by omega), if_pos ha, if_pos (show a < (F.length : Int) by omega), if_pos h0.1, if_pos (show u < (F.length : Int) by omega)]
  by_cases h1 : rd F a < 100000
  ·simp only [if_pos h1]
   refine Ev.bind (specEdge_ev l a u hb hg) ?_
   by_cases h2 : wrap64 (rd F u + costM l a u) = rd F a
   ·simp only [if_pos h2, if_pos (show out.length < 17592186044416 by omega)]
    rw [hopsGo_pos l a F u suf ⟨h1, h2⟩, app_one out u (hopsGo l a F suf)]
    exact this (out ++ [u]) (by simp only [List.length_append, List.length_singleton]; omega)
   ·simp only [if_neg h2]
    rw [hopsGo_neg l a F u suf (fun hc => h2 hc.2)]
    exact this out (by rw [List.length_append]; omega)
  ·simp only [if_neg h1]
   rw [hopsGo_neg l a F u suf (fun hc => h1 hc.1)]
   exact this out (by rw [List.length_append]; omega)
theorem specHops_ev (n : Int) (l : List S67) (a b : Int) (hl : l.length ≤ 1048576) (h : goodE n l = true) (ha : 0 ≤ a) (ha1 : a < n) (hb : 0 ≤ b) (hb1 : b < n) : Ev (fun k => spec_l9Hops.f k n l a b) (hopsM n.toNat l a b) := by
 have hn := goodE_n h
 unfold spec_l9Hops.f
 refine Ev.bind (specFars_ev n l b (by omega) (by omega) (edge3 h) hb hb1) ?_
 refine Ev.bind (specNear_ev l a (by omega)) ?_
 rw [near_same (goodE_edge h)]
 have hq := nearM_len n.toNat l a
 have := specHops_l n.toNat l (by omega) (by rw [show ((n.toNat : Nat) : Int) = n by omega]; exact edge3 h) a ha (by omega) (farsM n.toNat l b) (farsM_len ..) (nearM n.toNat l a) [] [] (by rw [List.nil_append]; omega) (by simp) (fun u hu => nearM_in _ _ _ _ hu)
 exact this
def two (n : Int) (l : List S67) (a b : Int) : Prop := goodE n l = true ∧ (0 ≤ a ∧ a ≤ wrap64 (n - 1)) ∧ (0 ≤ b ∧ b ≤ wrap64 (n - 1))
instance (n : Int) (l : List S67) (a b : Int) : Decidable (two n l a b) := by unfold two; infer_instance
theorem two_lt {n : Int} {l : List S67} {a b : Int} (h : two n l a b) : goodE n l = true ∧ 0 ≤ a ∧ a < n ∧ 0 ≤ b ∧ b < n := by
 obtain ⟨h0, h1, h2⟩ := h
 have hn := goodE_n h0
 rw [top_is hn.1 hn.2.1] at h1 h2
 exact ⟨h0, h1.1, by omega, h2.1, by omega⟩
theorem specTwo_ev (n : Int) (l : List S67) (a b : Int) (hl : l.length ≤ 1048576) : Ev (fun k => spec_l9Two.f k n l a b) (decide (two n l a b)) := by
 unfold spec_l9Two.f
 refine Ev.bind (specGoodE_ev n l hl) ?_
 by_cases h : goodE n l = true
 ·simp only [if_pos h, specIn, Option.bind_some, decide_eq_true_eq]
  by_cases h1 : 0 ≤ a ∧ a ≤ wrap64 (n - 1)
  ·simp only [if_pos h1]
   refine Ev.some_ ?_
   by_cases h2 : 0 ≤ b ∧ b ≤ wrap64 (n - 1)
   ·rw [decide_eq_true h2, decide_eq_true (show two n l a b from ⟨h, h1, h2⟩)]
   ·rw [decide_eq_false h2, decide_eq_false (fun hc : two n l a b => h2 hc.2.2)]
  ·simp only [if_neg h1]
   exact Ev.some_ (decide_eq_false (fun hc : two n l a b => h1 hc.2.1)).symm
 ·simp only [if_neg h]
  exact Ev.some_ (decide_eq_false (fun hc : two n l a b => h hc.1)).symm
theorem goodAt2_ev (n : Int) (l : List S67) (a b : Int) (hl : l.length ≤ 1048576) : Ev (fun k => impl_goodAt.f k n l [a, b]) (decide (two n l a b)) := by
 have hga := goodAt_ev n l [a, b] hl (by simp)
 rw [allIn2] at hga
 rw [show decide (two n l a b) = (goodE n l && (decide (0 ≤ a ∧ a ≤ wrap64 (n - 1)) && decide (0 ≤ b ∧ b ≤ wrap64 (n - 1)))) from ?_]
 ·exact hga
 ·rw [Bool.eq_iff_iff, decide_eq_true_eq, Bool.and_eq_true, Bool.and_eq_true, decide_eq_true_eq, decide_eq_true_eq]
  rfl
def firstHops (n : Int) (l : List S67) (a b : Int) : List Int × Bool := if two n l a b then (if a = b then ([], false) else (hopsM n.toNat l a b, true)) else ([], false)
theorem firstHops_len (n : Int) (l : List S67) (a b : Int) : (firstHops n l a b).1.length ≤ 12 := by
 unfold firstHops
 split
 ·rename_i h
  have := goodE_n h.1
  split
  ·simp
  ·have := hopsM_len n.toNat l a b
   show (hopsM n.toNat l a b).length ≤ 12
   omega
 ·simp
theorem specFirstHops_ev (n : Int) (l : List S67) (a b : Int) (hl : l.length ≤ 1048576) : Ev (fun k => spec_FirstHops.f k n l a b) (firstHops n l a b) := by
 unfold spec_FirstHops.f firstHops
 refine Ev.bind (specTwo_ev n l a b hl) ?_
 by_cases h : two n l a b
 ·rw [if_pos h, decide_eq_true h]
  have h' := two_lt h
  simp only [if_true]
  by_cases hab : a = b
  ·simp only [if_pos hab]
   exact Ev.now _
  ·simp only [if_neg hab]
   refine Ev.bind (specHops_ev n l a b hl h'.1 h'.2.1 h'.2.2.1 h'.2.2.2.1 h'.2.2.2.2) ?_
   exact Ev.now _
 ·rw [if_neg h, decide_eq_false h]
  simp only [Bool.false_eq_true, if_false]
  exact Ev.now _
theorem implFirstHops_ev (n : Int) (l : List S67) (a b : Int) (hl : l.length ≤ 1048576) : Ev (fun k => impl_FirstHops.f k n l a b) (firstHops n l a b) := by
 unfold impl_FirstHops.f firstHops
 have bad : Ev (fun k => impl_FirstHops.j0 k n l a b true) (([] : List Int), false) := by
  refine Ev.succ ?_
  simp only [impl_FirstHops.j0, if_true]
  exact Ev.now _
 refine Ev.bind (goodAt2_ev n l a b hl) ?_
 by_cases h : two n l a b
 ·rw [if_pos h, decide_eq_true h]
  have h' := two_lt h
  have hn := goodE_n h'.1
  simp only [if_true]
  by_cases hab : a = b
  ·rw [if_pos hab, beq_iff_eq.2 hab]
   exact bad
  ·rw [if_neg hab, beq_eq_false_iff_ne.2 hab]
   refine Ev.succ ?_
   simp only [impl_FirstHops.j0, Bool.false_eq_true, if_false]
   refine Ev.bind (implFars_ev n l b (by omega) (by omega) (edge3 h'.1) h'.2.2.2.1 h'.2.2.2.2) ?_
   refine Ev.bind (implHops_ev n l a b hl h'.1 h'.2.1 h'.2.2.1) ?_
   exact Ev.now _
 ·rw [if_neg h, decide_eq_false h]
  simp only [Bool.false_eq_true, if_false]
  exact bad
def hopFor (n : Int) (l : List S67) (a b m : Int) : Int × Bool := if (firstHops n l a b).2 = true then (if 0 ≤ m ∧ m ≤ 1000 then (if ((firstHops n l a b).1.length : Int) = 0 then (0, false) else (rd (firstHops n l a b).1 (Int.tmod m ((firstHops n l a b).1.length : Int)), true)) else (0, false)) else (0, false)
theorem specHopFor_ev (n : Int) (l : List S67) (a b m : Int) (hl : l.length ≤ 1048576) : Ev (fun k => spec_HopFor.f k n l a b m) (hopFor n l a b m) := by
 unfold spec_HopFor.f hopFor
 refine Ev.bind (specFirstHops_ev n l a b hl) ?_
 generalize firstHops n l a b = r
 by_cases h : r.2 = true
 ·simp only [if_pos h, specIn, Option.bind_some, decide_eq_true_eq]
  by_cases h1 : 0 ≤ m ∧ m ≤ 1000
  ·simp only [if_pos h1]
   by_cases h2 : (r.1.length : Int) = 0
   ·simp only [if_pos h2]
    exact Ev.now _
   ·have h3 := Int.tmod_nonneg (r.1.length : Int) h1.1
    have h4 := Int.tmod_lt_of_pos m (show 0 < (r.1.length : Int) by omega)
    simp only [if_neg h2, if_pos h3, if_pos h4]
    exact Ev.now _
  ·simp only [if_neg h1]
   exact Ev.now _
 ·simp only [if_neg h]
  exact Ev.now _
theorem implHopFor_ev (n : Int) (l : List S67) (a b m : Int) (hl : l.length ≤ 1048576) : Ev (fun k => impl_HopFor.f k n l a b m) (hopFor n l a b m) := by
 unfold impl_HopFor.f hopFor
 refine Ev.bind (implFirstHops_ev n l a b hl) ?_
 generalize firstHops n l a b = r
 by_cases h : r.2 = true
 ·simp only [if_pos h, implIn, Option.bind_some, decide_eq_true_eq]
  by_cases h1 : 0 ≤ m ∧ m ≤ 1000
  ·simp only [if_pos h1]
   by_cases h2 : (r.1.length : Int) = 0
   ·simp only [if_pos h2]
    exact Ev.now _
   ·have h3 := Int.tmod_nonneg (r.1.length : Int) h1.1
    have h4 := Int.tmod_lt_of_pos m (show 0 < (r.1.length : Int) by omega)
    simp only [if_neg h2, if_pos h3, if_pos h4]
    exact Ev.now _
  ·simp only [if_neg h1]
   exact Ev.now _
 ·simp only [if_neg h]
  exact Ev.now _
end Go.Proofs.Ytklecgkjoofipaa.P

namespace Go.Proofs.Ytklecgkjoofipaa.P
open Go.RowKit Go.Proofs.YtklecgkjoofipaaW.PrintWords Go.Proofs.YtklecgkjoofipaaW.PrintLast
set_option linter.unusedVariables false
set_option linter.unusedSimpArgs false
-- what one round of shortening does to one node
def sane (x : List Int) : Prop := ∀ v : Int, 0 ≤ rd x v ∧ rd x v ≤ 100000
def offer (old : List Int) (v m : Int) (e : S67) : Int := if e.f0 = v then min m (rd old e.f1 + e.f2) else if e.f1 = v then min m (rd old e.f0 + e.f2) else m
theorem rd_setI {x : List Int} {i v : Int} (hi : 0 ≤ i) (h1 : i < x.length) (hv : 0 ≤ v) (y : Int) : rd (x.set i.toNat y) v = if v = i then y else rd x v := by
 unfold rd
 rw [List.getD_eq_getElem?_getD, List.getD_eq_getElem?_getD, List.getElem?_set]
 by_cases h : v = i
 ·subst h
  rw [if_pos rfl, if_pos rfl, if_pos (by omega)]
  rfl
 ·rw [if_neg (by omega), if_neg h]
theorem relStep_at {old out : List Int} {e : S67} (hs : sane old) (he : 0 ≤ e.f0 ∧ e.f0 < e.f1 ∧ e.f1 < out.length ∧ 1 ≤ e.f2 ∧ e.f2 ≤ 100) (v : Int) (hv : 0 ≤ v) : rd (relStep old out e) v = offer old v (rd out v) e := by
 have a := hs e.f0
 have b := hs e.f1
 unfold relStep offer
 rw [rd_setI (by omega) (by rw [List.length_set]; omega) hv, rd_setI (by omega) (by omega) (by omega), rd_setI (by omega) (by omega) hv, wrap_id (by omega) (by omega), if_neg (show ¬ e.f1 = e.f0 by omega)]
 by_cases h0 : e.f0 = v
 ·rw [if_pos h0, if_neg (by omega), if_pos h0.symm, h0]
 ·rw [if_neg h0]
  by_cases h1 : e.f1 = v
  ·rw [if_pos h1, if_pos h1.symm, wrap_id (by omega) (by omega), h1]
  ·rw [if_neg h1, if_neg (fun c => h1 (Eq.symm c)), if_neg (fun c => h0 (Eq.symm c))]
theorem relFold_at {old : List Int} (hs : sane old) (v : Int) (hv : 0 ≤ v) : ∀ (l : List S67) (out : List Int), (∀ e ∈ l, 0 ≤ e.f0 ∧ e.f0 < e.f1 ∧ e.f1 < out.length ∧ 1 ≤ e.f2 ∧ e.f2 ≤ 100) → rd (l.foldl (relStep old) out) v = l.foldl (offer old v) (rd out v)
 | [], _, _ => rfl
 | e :: l, out, h => by
  rw [List.foldl_cons, List.foldl_cons, relFold_at hs v hv l (relStep old out e) (fun x hx => by rw [relStep_len]; exact h x (List.mem_cons_of_mem _ hx)), relStep_at hs (h e (List.mem_cons_self ..)) v hv]
theorem offer_le (old : List Int) (v m : Int) (e : S67) : offer old v m e ≤ m := by
 unfold offer
 split
 ·omega
 ·split <;> omega
theorem offers_le (old : List Int) (v : Int) : ∀ (l : List S67) (m : Int), l.foldl (offer old v) m ≤ m
 | [], m => Int.le_refl m
 | e :: l, m => by
  rw [List.foldl_cons]
  have := offers_le old v l (offer old v m e)
  have := offer_le old v m e
  omega
/-- the value is what stood there, or what an edge offers -/
theorem offers_is (old : List Int) (v : Int) : ∀ (l : List S67) (m : Int), l.foldl (offer old v) m = m ∨ ∃ e ∈ l, (e.f0 = v ∧ l.foldl (offer old v) m = rd old e.f1 + e.f2) ∨ (e.f1 = v ∧ l.foldl (offer old v) m = rd old e.f0 + e.f2)
 | [], m => .inl rfl
 | e :: l, m => by
  rw [List.foldl_cons]
  rcases offers_is old v l (offer old v m e) with h | ⟨x, hx, h⟩
  ·by_cases h0 : e.f0 = v
   ·rw [show offer old v m e = min m (rd old e.f1 + e.f2) by unfold offer; rw [if_pos h0]] at h ⊢
    by_cases c : m ≤ rd old e.f1 + e.f2
    ·exact .inl (by rw [h, Int.min_eq_left c])
    ·exact .inr ⟨e, List.mem_cons_self .., .inl ⟨h0, by rw [h, Int.min_eq_right (by omega)]⟩⟩
   ·by_cases h1 : e.f1 = v
    ·rw [show offer old v m e = min m (rd old e.f0 + e.f2) by unfold offer; rw [if_neg h0, if_pos h1]] at h ⊢
     by_cases c : m ≤ rd old e.f0 + e.f2
     ·exact .inl (by rw [h, Int.min_eq_left c])
     ·exact .inr ⟨e, List.mem_cons_self .., .inr ⟨h1, by rw [h, Int.min_eq_right (by omega)]⟩⟩
    ·rw [show offer old v m e = m by unfold offer; rw [if_neg h0, if_neg h1]] at h ⊢
     exact .inl h
  ·exact .inr ⟨x, List.mem_cons_of_mem _ hx, h⟩
/-- no edge offers less -/
theorem offers_min (old : List Int) (v : Int) : ∀ (l : List S67) (m : Int), (∀ x ∈ l, x.f0 < x.f1) → ∀ e ∈ l, (e.f0 = v → l.foldl (offer old v) m ≤ rd old e.f1 + e.f2) ∧ (e.f1 = v → l.foldl (offer old v) m ≤ rd old e.f0 + e.f2)
 | [], _, _, e, he => by simp at he
 | x :: l, m, hx, e, he => by
  rw [List.foldl_cons]
  rcases List.mem_cons.1 he with rfl | he
  ·have h := offers_le old v l (offer old v m e)
   have hlt := hx e (List.mem_cons_self ..)
   constructor
   ·intro h0
    have : offer old v m e = min m (rd old e.f1 + e.f2) := by unfold offer; rw [if_pos h0]
    omega
   ·intro h1
    have : offer old v m e = min m (rd old e.f0 + e.f2) := by unfold offer; rw [if_neg (by omega), if_pos h1]
    omega
  ·exact offers_min old v l _ (fun y hy => hx y (List.mem_cons_of_mem _ hy)) e he
end Go.Proofs.Ytklecgkjoofipaa.P

namespace Go.Proofs.Ytklecgkjoofipaa.P
open Go.RowKit Go.Proofs.YtklecgkjoofipaaW.PrintWords Go.Proofs.YtklecgkjoofipaaW.PrintLast
set_option linter.unusedVariables false
set_option linter.unusedSimpArgs false
theorem erase_len_le {α : Type} [DecidableEq α] {x : α} : ∀ {M : List α}, x ∈ M → (M.erase x).length + 1 = M.length := by
 intro M h
 have := List.length_erase_of_mem h
 have h2 : 0 < M.length := List.length_pos_of_mem h
 omega
theorem nodup_le {α : Type} [DecidableEq α] : ∀ (L M : List α), L.Nodup → (∀ x ∈ L, x ∈ M) → L.length ≤ M.length
 | [], _, _, _ => Nat.zero_le _
 | x :: L, M, hn, hs => by
  have hx : x ∈ M := hs x (by simp)
  rw [List.nodup_cons] at hn
  have h := nodup_le L (M.erase x) hn.2 (fun y hy => by
   have : y ≠ x := fun e => hn.1 (e ▸ hy)
   exact (List.mem_erase_of_ne this).2 (hs y (by simp [hy])))
  have := erase_len_le hx
  simp only [List.length_cons]
  omega
end Go.Proofs.Ytklecgkjoofipaa.P

namespace Go.Proofs.Ytklecgkjoofipaa.P
open Go.RowKit Go.Proofs.YtklecgkjoofipaaW.PrintWords Go.Proofs.YtklecgkjoofipaaW.PrintLast
set_option linter.unusedVariables false
set_option linter.unusedSimpArgs false
-- as many rounds as there are nodes are enough
def fr (n : Nat) (l : List S67) (a : Int) (k : Nat) : List Int := farsIt l k (fars0 n a)
theorem farsIt_succ (l : List S67) : ∀ (k : Nat) (x : List Int), farsIt l (k + 1) x = relaxM l (farsIt l k x)
 | 0, _ => rfl
 | k + 1, x => by rw [farsIt, farsIt_succ l k (relaxM l x), farsIt]
theorem fr_succ (n : Nat) (l : List S67) (a : Int) (k : Nat) : fr n l a (k + 1) = relaxM l (fr n l a k) := farsIt_succ l k _
theorem fr_len (n : Nat) (l : List S67) (a : Int) (k : Nat) : (fr n l a k).length = n := by unfold fr; rw [farsIt_len, fars0_len]
def okE (n : Nat) (l : List S67) : Prop := ∀ e ∈ l, 0 ≤ e.f0 ∧ e.f0 < e.f1 ∧ e.f1 < n ∧ 1 ≤ e.f2 ∧ e.f2 ≤ 100
theorem rd_out {x : List Int} {v : Int} (h : (x.length : Int) ≤ v) : rd x v = 0 := by
 unfold rd
 rw [List.getD_eq_getElem?_getD, List.getElem?_eq_none (by omega)]
 rfl
theorem fars0_at (n : Nat) (a v : Int) (ha : 0 ≤ a) (ha1 : a < n) (hv : 0 ≤ v) (hv1 : v < n) : rd (fars0 n a) v = if v = a then 0 else 100000 := by
 unfold fars0
 rw [rd_setI ha (by rw [List.length_replicate]; exact ha1) hv]
 by_cases h : v = a
 ·rw [if_pos h, if_pos h]
 ·rw [if_neg h, if_neg h]
  unfold rd
  rw [List.getD_eq_getElem?_getD, List.getElem?_replicate, if_pos (by omega)]
  rfl
theorem sane_of {x : List Int} (h : ∀ v : Int, 0 ≤ v → v < x.length → 0 ≤ rd x v ∧ rd x v ≤ 100000) : sane x := by
 intro v
 by_cases hv : 0 ≤ v
 ·by_cases h1 : v < x.length
  ·exact h v hv h1
  ·rw [rd_out (by omega)]
   omega
 ·have e : rd x v = rd x 0 := by
   unfold rd
   rw [show v.toNat = (0 : Int).toNat by omega]
  rw [e]
  by_cases h1 : (0 : Int) < x.length
  ·exact h 0 (by omega) h1
  ·rw [rd_out (by omega)]
   omega
theorem fr_at (n : Nat) (l : List S67) (a : Int) (hl : okE n l) (k : Nat) (hs : sane (fr n l a k)) (v : Int) (hv : 0 ≤ v) : rd (fr n l a (k + 1)) v = l.foldl (offer (fr n l a k) v) (rd (fr n l a k) v) := by
 rw [fr_succ, relaxM, relFold_at hs v hv l _ (fun e he => by rw [fr_len]; exact hl e he)]
theorem fr_sane (n : Nat) (l : List S67) (a : Int) (hl : okE n l) (ha : 0 ≤ a) (ha1 : a < n) : ∀ k, sane (fr n l a k)
 | 0 => sane_of fun v hv hv1 => by
  rw [fr_len] at hv1
  show 0 ≤ rd (fars0 n a) v ∧ rd (fars0 n a) v ≤ 100000
  rw [fars0_at n a v ha ha1 hv hv1]
  split <;> omega
 | k + 1 => sane_of fun v hv hv1 => by
  have hs := fr_sane n l a hl ha ha1 k
  rw [fr_at n l a hl k hs v hv]
  have h1 := offers_le (fr n l a k) v l (rd (fr n l a k) v)
  have h2 := hs v
  refine ⟨?_, by omega⟩
  rcases offers_is (fr n l a k) v l (rd (fr n l a k) v) with h | ⟨e, he, h⟩
  ·omega
  ·have := hl e he
   have := hs e.f0
   have := hs e.f1
   omega
/-- an edge between two nodes, with its cost -/
def adj (l : List S67) (v u c : Int) : Prop := ∃ e ∈ l, ((e.f0 = v ∧ e.f1 = u) ∨ (e.f1 = v ∧ e.f0 = u)) ∧ e.f2 = c
theorem adj_in {n : Nat} {l : List S67} (hl : okE n l) {v u c : Int} (h : adj l v u c) : 0 ≤ v ∧ v < n ∧ 0 ≤ u ∧ u < n ∧ v ≠ u ∧ 1 ≤ c ∧ c ≤ 100 := by
 obtain ⟨e, he, h, rfl⟩ := h
 have := hl e he
 omega
theorem fr_mono (n : Nat) (l : List S67) (a : Int) (hl : okE n l) (ha : 0 ≤ a) (ha1 : a < n) (k : Nat) (v : Int) (hv : 0 ≤ v) : rd (fr n l a (k + 1)) v ≤ rd (fr n l a k) v := by
 rw [fr_at n l a hl k (fr_sane n l a hl ha ha1 k) v hv]
 exact offers_le ..
theorem fr_mono2 (n : Nat) (l : List S67) (a : Int) (hl : okE n l) (ha : 0 ≤ a) (ha1 : a < n) (v : Int) (hv : 0 ≤ v) (j : Nat) : ∀ d, rd (fr n l a (j + d)) v ≤ rd (fr n l a j) v
 | 0 => Int.le_refl _
 | d + 1 => Int.le_trans (fr_mono n l a hl ha ha1 (j + d) v hv) (fr_mono2 n l a hl ha ha1 v hv j d)
theorem fr_min (n : Nat) (l : List S67) (a : Int) (hl : okE n l) (ha : 0 ≤ a) (ha1 : a < n) (k : Nat) {v u c : Int} (h : adj l v u c) : rd (fr n l a (k + 1)) v ≤ rd (fr n l a k) u + c := by
 have hin := adj_in hl h
 rw [fr_at n l a hl k (fr_sane n l a hl ha ha1 k) v hin.1]
 obtain ⟨e, he, h, rfl⟩ := h
 have := offers_min (fr n l a k) v l (rd (fr n l a k) v) (fun x hx => (hl x hx).2.1) e he
 rcases h with ⟨h0, rfl⟩ | ⟨h0, rfl⟩
 ·exact this.1 h0
 ·exact this.2 h0
theorem fr_is (n : Nat) (l : List S67) (a : Int) (hl : okE n l) (ha : 0 ≤ a) (ha1 : a < n) (k : Nat) (v : Int) (hv : 0 ≤ v) : rd (fr n l a (k + 1)) v = rd (fr n l a k) v ∨ ∃ u c, adj l v u c ∧ rd (fr n l a (k + 1)) v = rd (fr n l a k) u + c := by
 rw [fr_at n l a hl k (fr_sane n l a hl ha ha1 k) v hv]
 rcases offers_is (fr n l a k) v l (rd (fr n l a k) v) with h | ⟨e, he, h | h⟩
 ·exact .inl h
 ·exact .inr ⟨e.f1, e.f2, ⟨e, he, .inl ⟨h.1, rfl⟩, rfl⟩, h.2⟩
 ·exact .inr ⟨e.f0, e.f2, ⟨e, he, .inr ⟨h.1, rfl⟩, rfl⟩, h.2⟩
/-- a label that still falls has a chain of falling labels behind it -/
theorem chain (n : Nat) (l : List S67) (a : Int) (hl : okE n l) (ha : 0 ≤ a) (ha1 : a < n) : ∀ (k : Nat) (v : Int), 0 ≤ v → v < n → rd (fr n l a (k + 1)) v < rd (fr n l a k) v →
  ∃ L : List Int, (v :: L).Nodup ∧ L.length = k + 1 ∧ (∀ w ∈ L, 0 ≤ w ∧ w < n) ∧ ∀ w ∈ L, ∃ j, j ≤ k ∧ rd (fr n l a j) w < rd (fr n l a (k + 1)) v := by
 intro k
 have key : ∀ (k : Nat) (v u c : Int), adj l v u c → rd (fr n l a (k + 1)) v = rd (fr n l a k) u + c → rd (fr n l a (k + 1)) v < rd (fr n l a k) v → ∀ (L : List Int), (u :: L).Nodup → L.length = k → (∀ w ∈ L, 0 ≤ w ∧ w < n) → (∀ w ∈ L, ∃ j, j ≤ k ∧ rd (fr n l a j) w < rd (fr n l a k) u) →
   ∃ L : List Int, (v :: L).Nodup ∧ L.length = k + 1 ∧ (∀ w ∈ L, 0 ≤ w ∧ w < n) ∧ ∀ w ∈ L, ∃ j, j ≤ k ∧ rd (fr n l a j) w < rd (fr n l a (k + 1)) v := by
  intro k v u c hadj he hlt L hn hlen hin hw
  have ha' := adj_in hl hadj
  have all : ∀ w ∈ u :: L, ∃ j, j ≤ k ∧ rd (fr n l a j) w < rd (fr n l a (k + 1)) v := by
   intro w hm
   rcases List.mem_cons.1 hm with rfl | hm
   ·exact ⟨k, Nat.le_refl k, by omega⟩
   ·obtain ⟨j, hj, h⟩ := hw w hm
    exact ⟨j, hj, by omega⟩
  refine ⟨u :: L, List.nodup_cons.2 ⟨fun hv => ?_, hn⟩, by rw [List.length_cons, hlen], fun w hm => ?_, all⟩
  ·obtain ⟨j, hj, h⟩ := all v hv
   have := fr_mono2 n l a hl ha ha1 v ha'.1 j (k + 1 - j)
   rw [show j + (k + 1 - j) = k + 1 by omega] at this
   omega
  ·rcases List.mem_cons.1 hm with rfl | hm
   ·exact ⟨ha'.2.2.1, ha'.2.2.2.1⟩
   ·exact hin w hm
 induction k with
 | zero =>
  intro v hv hv1 hlt
  rcases fr_is n l a hl ha ha1 0 v hv with h | ⟨u, c, hadj, he⟩
  ·omega
  ·exact key 0 v u c hadj he hlt [] (by simp) rfl (fun w hw => by simp at hw) (fun w hw => by simp at hw)
 | succ k ih =>
  intro v hv hv1 hlt
  rcases fr_is n l a hl ha ha1 (k + 1) v hv with h | ⟨u, c, hadj, he⟩
  ·omega
  ·have ha' := adj_in hl hadj
   have hu : rd (fr n l a (k + 1)) u < rd (fr n l a k) u := by
    have := fr_min n l a hl ha ha1 k hadj
    omega
   obtain ⟨L, h1, h2, h3, h4⟩ := ih u ha'.2.2.1 ha'.2.2.2.1 hu
   exact key (k + 1) v u c hadj he hlt L h1 h2 h3 (fun w hm => by obtain ⟨j, hj, h⟩ := h4 w hm; exact ⟨j, by omega, h⟩)
theorem fr_still (n : Nat) (l : List S67) (a : Int) (hl : okE n l) (ha : 0 ≤ a) (ha1 : a < n) (k : Nat) (hk : n ≤ k + 1) (v : Int) (hv : 0 ≤ v) (hv1 : v < n) : rd (fr n l a (k + 1)) v = rd (fr n l a k) v := by
 have h1 := fr_mono n l a hl ha ha1 k v hv
 by_cases h : rd (fr n l a (k + 1)) v < rd (fr n l a k) v
 ·obtain ⟨L, hn, hlen, hin, _⟩ := chain n l a hl ha ha1 k v hv hv1 h
  have := nodup_le (v :: L) (own0 n) hn (fun x hx => by
   rw [own0_mem]
   rcases List.mem_cons.1 hx with rfl | hx
   ·exact ⟨hv, hv1⟩
   ·exact hin x hx)
  rw [own0_len, List.length_cons, hlen] at this
  omega
 ·omega
theorem farsM_fr (n : Nat) (l : List S67) (a : Int) : farsM n l a = fr n l a n := rfl
/-- no edge shortens what is settled -/
theorem fars_min {n : Nat} {l : List S67} {a : Int} (hl : okE n l) (ha : 0 ≤ a) (ha1 : a < n) {v u c : Int} (h : adj l v u c) : rd (farsM n l a) v ≤ rd (farsM n l a) u + c := by
 have hin := adj_in hl h
 rw [farsM_fr, ← fr_still n l a hl ha ha1 n (by omega) v hin.1 hin.2.1]
 exact fr_min n l a hl ha ha1 n h
theorem fars_self {n : Nat} {l : List S67} {a : Int} (hl : okE n l) (ha : 0 ≤ a) (ha1 : a < n) : rd (farsM n l a) a = 0 := by
 have h := fr_mono2 n l a hl ha ha1 a ha 0 n
 rw [Nat.zero_add] at h
 have h0 : rd (fr n l a 0) a = 0 := by
  show rd (fars0 n a) a = 0
  rw [fars0_at n a a ha ha1 ha ha1, if_pos rfl]
 have := (fr_sane n l a hl ha ha1 n a).1
 rw [farsM_fr]
 omega
/-- a node that is reached has a next hop -/
theorem fars_hop {n : Nat} {l : List S67} {a : Int} (hl : okE n l) (ha : 0 ≤ a) (ha1 : a < n) {v : Int} (hv : 0 ≤ v) (hv1 : v < n) (hne : v ≠ a) (hlt : rd (farsM n l a) v < 100000) : ∃ u c, adj l v u c ∧ rd (farsM n l a) v = rd (farsM n l a) u + c := by
 have gen : ∀ k, k ≤ n → rd (fr n l a k) v = rd (farsM n l a) v → ∃ u c, adj l v u c ∧ rd (farsM n l a) v = rd (farsM n l a) u + c := by
  intro k
  induction k with
  | zero =>
   intro _ he
   have : rd (fr n l a 0) v = 100000 := by
    show rd (fars0 n a) v = 100000
    rw [fars0_at n a v ha ha1 hv hv1, if_neg hne]
   omega
  | succ k ih =>
   intro hk he
   rcases fr_is n l a hl ha ha1 k v hv with h | ⟨u, c, hadj, h⟩
   ·exact ih (by omega) (by rw [← h]; exact he)
   ·refine ⟨u, c, hadj, ?_⟩
    have h1 := fars_min hl ha ha1 hadj
    have h2 := fr_mono2 n l a hl ha ha1 u (adj_in hl hadj).2.2.1 k (n - k)
    rw [show k + (n - k) = n by omega, ← farsM_fr] at h2
    omega
 exact gen n (Nat.le_refl n) rfl
end Go.Proofs.Ytklecgkjoofipaa.P

namespace Go.Proofs.Ytklecgkjoofipaa.P
open Go.RowKit Go.Proofs.YtklecgkjoofipaaW.PrintWords Go.Proofs.YtklecgkjoofipaaW.PrintLast
set_option linter.unusedVariables false
set_option linter.unusedSimpArgs false
-- the ways of least cost: what the settled labels say of them
theorem okE_of {n : Int} {l : List S67} (h : goodE n l = true) : okE n.toNat l := fun e he => by
 have := goodE_edge h e he
 have := goodE_n h
 omega
theorem pair_uniq {α β : Type} {R : α → α → Prop} (k : α → β) (hk : ∀ x y, R x y → k x ≠ k y) : ∀ (l : List α), l.Pairwise R → ∀ x ∈ l, ∀ y ∈ l, k x = k y → x = y
 | [], _, x, hx, _, _, _ => by simp at hx
 | a :: l, h, x, hx, y, hy, e => by
  obtain ⟨h1, h2⟩ := List.pairwise_cons.1 h
  rcases List.mem_cons.1 hx with e1 | hx2
  ·rcases List.mem_cons.1 hy with e2 | hy2
   ·rw [e1, e2]
   ·subst e1
    exact absurd e (hk _ _ (h1 y hy2))
  ·rcases List.mem_cons.1 hy with e2 | hy2
   ·subst e2
    exact absurd e.symm (hk _ _ (h1 x hx2))
   ·exact pair_uniq k hk l h2 x hx2 y hy2 e
theorem adj_cost {n : Int} {l : List S67} (h : goodE n l = true) {v u c : Int} (ha : adj l v u c) : costM l v u = c := by
 obtain ⟨e, he, hv, rfl⟩ := ha
 have h1 := goodE_edge h e he
 have hat : isAt v u e = true := by
  unfold isAt
  rw [decide_eq_true_eq]
  omega
 unfold costM
 cases hf : l.find? (isAt v u) with
 | none =>
  have := List.find?_eq_none.1 hf e he
  exact absurd hat this
 | some x =>
  have hx := List.mem_of_find?_eq_some hf
  have h2 := List.find?_some hf
  unfold isAt at h2 hat
  rw [decide_eq_true_eq] at h2 hat
  have := pair_uniq (fun x : S67 => (x.f0, x.f1)) (fun x y hR he => by
   simp only [Prod.mk.injEq] at he
   omega) l (goodE_pair h) x hx e he (by simp only [Prod.mk.injEq]; omega)
  rw [this]
theorem cost_adj {n : Int} {l : List S67} (h : goodE n l = true) {v u : Int} (hc : costM l v u > 0) : adj l v u (costM l v u) := by
 unfold costM at hc ⊢
 cases hf : l.find? (isAt v u) with
 | none => rw [hf] at hc; exact absurd hc (by simp)
 | some x =>
  have hx := List.mem_of_find?_eq_some hf
  have h2 := List.find?_some hf
  unfold isAt at h2
  rw [decide_eq_true_eq] at h2
  exact ⟨x, hx, by omega, rfl⟩
theorem hops_mem {n : Int} {l : List S67} (h : goodE n l = true) {a : Int} (ha : 0 ≤ a) (ha1 : a < n) {v u : Int} (hm : u ∈ hopsGo l v (farsM n.toNat l a) (nearM n.toNat l v)) :
  0 ≤ u ∧ u < n ∧ adj l v u (costM l v u) ∧ rd (farsM n.toNat l a) v < 100000 ∧ rd (farsM n.toNat l a) v = rd (farsM n.toNat l a) u + costM l v u := by
 unfold hopsGo at hm
 obtain ⟨h1, h2⟩ := List.mem_filter.1 hm
 rw [decide_eq_true_eq] at h2
 have hin := nearM_in _ _ _ _ h1
 unfold nearM at h1
 have hc := (List.mem_filter.1 h1).2
 rw [decide_eq_true_eq] at hc
 have had := cost_adj h hc
 have h3 := adj_in (okE_of h) had
 have hs := fr_sane n.toNat l a (okE_of h) ha (by omega) n.toNat u
 rw [← farsM_fr] at hs
 rw [wrap_id (by omega) (by omega)] at h2
 exact ⟨hin.1, by omega, had, h2.1, h2.2.symm⟩
theorem hops_some {n : Int} {l : List S67} (h : goodE n l = true) {a : Int} (ha : 0 ≤ a) (ha1 : a < n) {v : Int} (hv : 0 ≤ v) (hv1 : v < n) (hne : v ≠ a) (hlt : rd (farsM n.toNat l a) v < 100000) :
  ∃ u t, hopsGo l v (farsM n.toNat l a) (nearM n.toNat l v) = u :: t := by
 obtain ⟨u, c, had, he⟩ := fars_hop (okE_of h) ha (by omega) hv (by omega) hne hlt
 have h3 := adj_in (okE_of h) had
 have hc := adj_cost h had
 have hs := fr_sane n.toNat l a (okE_of h) ha (by omega) n.toNat u
 rw [← farsM_fr] at hs
 have hm : u ∈ hopsGo l v (farsM n.toNat l a) (nearM n.toNat l v) := by
  unfold hopsGo
  refine List.mem_filter.2 ⟨?_, ?_⟩
  ·unfold nearM
   refine List.mem_filter.2 ⟨(own0_mem _ _).2 ⟨h3.2.2.1, h3.2.2.2.1⟩, ?_⟩
   rw [decide_eq_true_eq, hc]
   omega
  ·rw [decide_eq_true_eq, hc, wrap_id (by omega) (by omega)]
   exact ⟨hlt, he.symm⟩
 cases hl : hopsGo l v (farsM n.toNat l a) (nearM n.toNat l v) with
 | nil => rw [hl] at hm; simp at hm
 | cons u t => exact ⟨u, t, rfl⟩
theorem hops_far {l : List S67} {v : Int} {F q : List Int} (h : ¬ rd F v < 100000) : hopsGo l v F q = [] := by
 unfold hopsGo
 refine List.filter_eq_nil_iff.2 fun u _ => ?_
 rw [decide_eq_true_eq]
 exact fun hc => h hc.1
/-- the way on from a node, with a bound on its steps -/
def wayGo (n : Nat) (l : List S67) (F : List Int) (b : Int) : Nat → Int → List Int
 | 0, _ => []
 | d + 1, v => if v = b then [] else rd (hopsGo l v F (nearM n l v)) 0 :: wayGo n l F b d (rd (hopsGo l v F (nearM n l v)) 0)
theorem way_step {n : Int} {l : List S67} (h : goodE n l = true) {b : Int} (hb : 0 ≤ b) (hb1 : b < n) {v : Int} (hv : 0 ≤ v) (hv1 : v < n) (hne : v ≠ b) (hlt : rd (farsM n.toNat l b) v < 100000) :
  ∃ u t, hopsGo l v (farsM n.toNat l b) (nearM n.toNat l v) = u :: t ∧ 0 ≤ u ∧ u < n ∧ rd (farsM n.toNat l b) u < rd (farsM n.toNat l b) v ∧ adj l v u (costM l v u) ∧ rd (farsM n.toNat l b) v = rd (farsM n.toNat l b) u + costM l v u ∧ 0 ≤ rd (farsM n.toNat l b) u := by
 obtain ⟨u, t, e⟩ := hops_some h hb hb1 hv hv1 hne hlt
 have hm : u ∈ hopsGo l v (farsM n.toNat l b) (nearM n.toNat l v) := by rw [e]; exact List.mem_cons_self ..
 obtain ⟨h0, h1, h2, h3, h4⟩ := hops_mem h hb hb1 hm
 have h5 := adj_in (okE_of h) h2
 have hs := fr_sane n.toNat l b (okE_of h) hb (by omega) n.toNat u
 rw [← farsM_fr] at hs
 exact ⟨u, t, e, h0, h1, by omega, h2, h4, hs.1⟩
/-- a walk over edges, with its cost -/
inductive Walk (l : List S67) : Int → Int → Int → Prop
 | nil (v : Int) : Walk l v v 0
 | cons {v u b c d : Int} : adj l v u c → Walk l u b d → Walk l v b (c + d)
theorem adj_symm {l : List S67} {v u c : Int} (h : adj l v u c) : adj l u v c := by
 obtain ⟨e, he, h, rfl⟩ := h
 exact ⟨e, he, h.elim (fun x => .inr ⟨x.2, x.1⟩) (fun x => .inl ⟨x.2, x.1⟩), rfl⟩
theorem Walk.trans {l : List S67} {v u b c d : Int} (h : Walk l v u c) (k : Walk l u b d) : Walk l v b (c + d) := by
 induction h with
 | nil v => rw [Int.zero_add]; exact k
 | cons ha _ ih => rw [Int.add_assoc]; exact .cons ha (ih k)
theorem Walk.symm {l : List S67} {v b d : Int} (h : Walk l v b d) : Walk l b v d := by
 induction h with
 | nil v => exact .nil v
 | @cons v u b c d ha _ ih =>
  have := ih.trans (.cons (adj_symm ha) (.nil v))
  rw [show c + d = d + (c + 0) by omega]
  exact this
theorem Walk.far {n : Nat} {l : List S67} (hl : okE n l) {a : Int} (ha : 0 ≤ a) (ha1 : a < n) {v b d : Int} (h : Walk l v b d) : rd (farsM n l a) v ≤ rd (farsM n l a) b + d := by
 induction h with
 | nil v => omega
 | cons hadj _ ih =>
  have := fars_min hl ha ha1 hadj
  omega
theorem walk_of {n : Int} {l : List S67} (h : goodE n l = true) {b : Int} (hb : 0 ≤ b) (hb1 : b < n) : ∀ (d : Nat) (v : Int), 0 ≤ v → v < n → rd (farsM n.toNat l b) v < 100000 → rd (farsM n.toNat l b) v ≤ d → Walk l v b (rd (farsM n.toNat l b) v)
 | 0, v, hv, hv1, hlt, hd => by
  by_cases hne : v = b
  ·subst hne
   rw [fars_self (okE_of h) hv (by omega)]
   exact .nil v
  ·obtain ⟨u, t, _, _, _, h5, _, _, h6⟩ := way_step h hb hb1 hv hv1 hne hlt
   omega
 | d + 1, v, hv, hv1, hlt, hd => by
  by_cases hne : v = b
  ·subst hne
   rw [fars_self (okE_of h) hv (by omega)]
   exact .nil v
  ·obtain ⟨u, t, _, h0, h1, h5, h6, h7, _⟩ := way_step h hb hb1 hv hv1 hne hlt
   rw [show rd (farsM n.toNat l b) v = costM l v u + rd (farsM n.toNat l b) u by omega]
   exact .cons h6 (walk_of h hb hb1 d u h0 h1 (by omega) (by omega))
theorem fars_sane {n : Int} {l : List S67} (h : goodE n l = true) {b : Int} (hb : 0 ≤ b) (hb1 : b < n) (v : Int) : 0 ≤ rd (farsM n.toNat l b) v ∧ rd (farsM n.toNat l b) v ≤ 100000 := by
 have hs := fr_sane n.toNat l b (okE_of h) hb (by omega) n.toNat v
 rw [← farsM_fr] at hs
 exact hs
theorem fars_symm_le {n : Int} {l : List S67} (h : goodE n l = true) {a b : Int} (ha : 0 ≤ a) (ha1 : a < n) (hb : 0 ≤ b) (hb1 : b < n) : rd (farsM n.toNat l a) b ≤ rd (farsM n.toNat l b) a := by
 have h1 := fars_sane h hb hb1 a
 have h2 := fars_sane h ha ha1 b
 by_cases hlt : rd (farsM n.toNat l b) a < 100000
 ·have hw := walk_of h hb hb1 (rd (farsM n.toNat l b) a).toNat a ha ha1 hlt (by omega)
  have := hw.symm.far (okE_of h) ha (by omega)
  rw [fars_self (okE_of h) ha (by omega)] at this
  omega
 ·omega
theorem fars_symm {n : Int} {l : List S67} (h : goodE n l = true) {a b : Int} (ha : 0 ≤ a) (ha1 : a < n) (hb : 0 ≤ b) (hb1 : b < n) : rd (farsM n.toNat l a) b = rd (farsM n.toNat l b) a :=
 Int.le_antisymm (fars_symm_le h ha ha1 hb hb1) (fars_symm_le h hb hb1 ha ha1)
end Go.Proofs.Ytklecgkjoofipaa.P

namespace Go.Proofs.Ytklecgkjoofipaa.P
open Go.RowKit Go.Proofs.YtklecgkjoofipaaW.PrintWords Go.Proofs.YtklecgkjoofipaaW.PrintLast
set_option linter.unusedVariables false
set_option linter.unusedSimpArgs false
-- the way that the first hops make
def wayCost (l : List S67) : Int → List Int → Int
 | _, [] => 0
 | v, u :: r => costM l v u + wayCost l u r
def wayPos (l : List S67) : Int → List Int → Prop
 | _, [] => True
 | v, u :: r => costM l v u > 0 ∧ wayPos l u r
theorem rd_head (u : Int) (t : List Int) : rd (u :: t) 0 = u := rfl
theorem wayGo_at {n : Nat} {l : List S67} {F : List Int} {b : Int} (d : Nat) : wayGo n l F b (d + 1) b = [] := by rw [wayGo, if_pos rfl]
theorem wayGo_cons {n : Nat} {l : List S67} {F : List Int} {b v u : Int} {t : List Int} (d : Nat) (hne : v ≠ b) (e : hopsGo l v F (nearM n l v) = u :: t) : wayGo n l F b (d + 1) v = u :: wayGo n l F b d u := by
 rw [wayGo, if_neg hne, e, rd_head]
structure WayOk (n : Int) (l : List S67) (F : List Int) (b v : Int) (W : List Int) : Prop where
 low : ∀ w ∈ W, 0 ≤ w ∧ w < n ∧ rd F w < rd F v
 nodup : (v :: W).Nodup
 last : (v :: W).getLast? = some b
 cost : wayCost l v W = rd F v
 pos : wayPos l v W
theorem wayGo_ok {n : Int} {l : List S67} (h : goodE n l = true) {b : Int} (hb : 0 ≤ b) (hb1 : b < n) : ∀ (d : Nat) (v : Int), 0 ≤ v → v < n → rd (farsM n.toNat l b) v < 100000 → rd (farsM n.toNat l b) v ≤ d → WayOk n l (farsM n.toNat l b) b v (wayGo n.toNat l (farsM n.toNat l b) b (d + 1) v) := by
 intro d
 induction d with
 | zero =>
  intro v hv hv1 hlt hd
  by_cases hne : v = b
  ·subst hne
   rw [wayGo_at]
   exact ⟨fun w hw => by simp at hw, by simp, rfl, (fars_self (okE_of h) hv (by omega)).symm, trivial⟩
  ·obtain ⟨u, t, _, _, _, h5, _, _, h6⟩ := way_step h hb hb1 hv hv1 hne hlt
   omega
 | succ d ih =>
  intro v hv hv1 hlt hd
  by_cases hne : v = b
  ·subst hne
   rw [wayGo_at]
   exact ⟨fun w hw => by simp at hw, by simp, rfl, (fars_self (okE_of h) hv (by omega)).symm, trivial⟩
  ·obtain ⟨u, t, e, h0, h1, h5, h6, h7, _⟩ := way_step h hb hb1 hv hv1 hne hlt
   rw [wayGo_cons (d + 1) hne e]
   have r := ih u h0 h1 (by omega) (by omega)
   generalize wayGo n.toNat l (farsM n.toNat l b) b (d + 1) u = W at r
   have hlow : ∀ w ∈ u :: W, 0 ≤ w ∧ w < n ∧ rd (farsM n.toNat l b) w < rd (farsM n.toNat l b) v := by
    intro w hw
    rcases List.mem_cons.1 hw with rfl | hw
    ·exact ⟨h0, h1, h5⟩
    ·have := r.low w hw
     exact ⟨this.1, this.2.1, by omega⟩
   refine ⟨hlow, List.nodup_cons.2 ⟨fun hm => ?_, r.nodup⟩, ?_, ?_, ?_, r.pos⟩
   ·have := hlow v hm
    omega
   ·rw [List.getLast?_cons_cons]
    exact r.last
   ·rw [wayCost, r.cost, h7, Int.add_comm]
   ·have := adj_in (okE_of h) h6
    show costM l v u > 0
    omega
theorem way_len {n : Int} {l : List S67} {F : List Int} {b v : Int} {W : List Int} (hv : 0 ≤ v) (hv1 : v < n) (h : WayOk n l F b v W) : W.length + 1 ≤ n.toNat := by
 have := nodup_le (v :: W) (own0 n.toNat) h.nodup (fun x hx => by
  rw [own0_mem]
  rcases List.mem_cons.1 hx with rfl | hx
  ·omega
  ·have := h.low x hx
   omega)
 rw [own0_len, List.length_cons] at this
 exact this
end Go.Proofs.Ytklecgkjoofipaa.P

namespace Go.Proofs.Ytklecgkjoofipaa.P
open Go.RowKit Go.Proofs.YtklecgkjoofipaaW.PrintWords Go.Proofs.YtklecgkjoofipaaW.PrintLast
set_option linter.unusedVariables false
set_option linter.unusedSimpArgs false
-- the way of least cost, both sides
theorem specWay_l {n : Int} {l : List S67} (hl : l.length ≤ 1048576) (h : goodE n l = true) {a b : Int} (ha : 0 ≤ a) (ha1 : a < n) (hb : 0 ≤ b) (hb1 : b < n) : ∀ (d : Nat) (v : Int) (out : List Int), 0 ≤ v → v < n → rd (farsM n.toNat l b) v < 100000 → rd (farsM n.toNat l b) v ≤ d → out.length + d ≤ 1000000 →
  Ev (fun k => spec_WayTo.l0 k n l a b out v) (out ++ wayGo n.toNat l (farsM n.toNat l b) b (d + 1) v, rd (farsM n.toNat l b) a, true) := by
 have hn := goodE_n h
 have hend : ∀ (d : Nat) (out : List Int), Ev (fun k => spec_WayTo.l0 k n l a b out b) (out ++ wayGo n.toNat l (farsM n.toNat l b) b (d + 1) b, rd (farsM n.toNat l b) a, true) := by
  intro d out
  refine Ev.succ ?_
  simp only [spec_WayTo.l0, if_true]
  refine Ev.bind (specFars_ev n l b (by omega) (by omega) (edge3 h) hb hb1) ?_
  simp only [if_pos ha, farsM_len, if_pos (show a < ((n.toNat : Nat) : Int) by omega), wayGo_at, List.append_nil]
  exact Ev.now _
 intro d
 induction d with
 | zero =>
  intro v out hv hv1 hlt hd ho
  by_cases hne : v = b
  ·subst hne
   exact hend 0 out
  ·obtain ⟨u, t, _, _, _, h5, _, _, h6⟩ := way_step h hb hb1 hv hv1 hne hlt
   omega
 | succ d ih =>
  intro v out hv hv1 hlt hd ho
  by_cases hne : v = b
  ·subst hne
   exact hend (d + 1) out
  ·obtain ⟨u, t, e, h0, h1, h5, _, _, _⟩ := way_step h hb hb1 hv hv1 hne hlt
   have := ih u (out ++ [u]) h0 h1 (by omega) (by omega) (by rw [List.length_append, List.length_singleton]; omega)
   rw [wayGo_cons (d + 1) hne e, app_one out u]
   refine Ev.succ ?_
   simp only [spec_WayTo.l0, if_neg hne]
   refine Ev.bind (specHops_ev n l v b hl h hv hv1 hb hb1) ?_
   rw [show hopsM n.toNat l v b = u :: t from e]
   simp only [List.length_cons, rd_head, if_neg (show ¬ (((t.length + 1 : Nat) : Int) = 0) by omega), if_pos (show (0 : Int) < ((t.length + 1 : Nat) : Int) by omega), if_pos (show out.length < 17592186044416 by omega)]
   exact this
theorem implWay_l {n : Int} {l : List S67} (hl : l.length ≤ 1048576) (h : goodE n l = true) {a b : Int} (ha : 0 ≤ a) (ha1 : a < n) (hb : 0 ≤ b) (hb1 : b < n) : ∀ (d : Nat) (v : Int) (out : List Int), 0 ≤ v → v < n → rd (farsM n.toNat l b) v < 100000 → rd (farsM n.toNat l b) v ≤ d → out.length + d ≤ 1000000 →
  Ev (fun k => impl_wayTo.l0 k n l a b (farsM n.toNat l b) out v) (out ++ wayGo n.toNat l (farsM n.toNat l b) b (d + 1) v, rd (farsM n.toNat l b) a, true) := by
 have hn := goodE_n h
 have hend : ∀ (d : Nat) (out : List Int), Ev (fun k => impl_wayTo.l0 k n l a b (farsM n.toNat l b) out b) (out ++ wayGo n.toNat l (farsM n.toNat l b) b (d + 1) b, rd (farsM n.toNat l b) a, true) := by
  intro d out
  refine Ev.succ ?_
  simp only [impl_wayTo.l0, if_true, if_pos ha, farsM_len, if_pos (show a < ((n.toNat : Nat) : Int) by omega), wayGo_at, List.append_nil]
  exact Ev.now _
 intro d
 induction d with
 | zero =>
  intro v out hv hv1 hlt hd ho
  by_cases hne : v = b
  ·subst hne
   exact hend 0 out
  ·obtain ⟨u, t, _, _, _, h5, _, _, h6⟩ := way_step h hb hb1 hv hv1 hne hlt
   omega
 | succ d ih =>
  intro v out hv hv1 hlt hd ho
  by_cases hne : v = b
  ·subst hne
   exact hend (d + 1) out
  ·obtain ⟨u, t, e, h0, h1, h5, _, _, _⟩ := way_step h hb hb1 hv hv1 hne hlt
   have := ih u (out ++ [u]) h0 h1 (by omega) (by omega) (by rw [List.length_append, List.length_singleton]; omega)
   rw [wayGo_cons (d + 1) hne e, app_one out u]
   refine Ev.succ ?_
   simp only [impl_wayTo.l0, if_neg hne]
   refine Ev.bind (implHops_ev n l v b hl h hv hv1) ?_
   rw [show hopsM n.toNat l v b = u :: t from e]
   simp only [List.length_cons, rd_head, if_pos (show (0 : Int) < ((t.length + 1 : Nat) : Int) by omega), if_pos (show out.length < 17592186044416 by omega)]
   exact this
def wayList (n : Int) (l : List S67) (a b : Int) : List Int := a :: wayGo n.toNat l (farsM n.toNat l b) b ((rd (farsM n.toNat l b) a).toNat + 1) a
def wayM (n : Int) (l : List S67) (a b : Int) : List Int × Int × Bool := if two n l a b then (if rd (farsM n.toNat l b) a = 100000 then ([], 0, false) else (wayList n l a b, rd (farsM n.toNat l b) a, true)) else ([], 0, false)
theorem wayList_ok {n : Int} {l : List S67} {a b : Int} (h : two n l a b) (hf : ¬ rd (farsM n.toNat l b) a = 100000) : WayOk n l (farsM n.toNat l b) b a (wayGo n.toNat l (farsM n.toNat l b) b ((rd (farsM n.toNat l b) a).toNat + 1) a) := by
 have h' := two_lt h
 have hs := fars_sane h.1 h'.2.2.2.1 h'.2.2.2.2 a
 exact wayGo_ok h.1 h'.2.2.2.1 h'.2.2.2.2 _ a h'.2.1 h'.2.2.1 (by omega) (by omega)
theorem wayM_len (n : Int) (l : List S67) (a b : Int) : (wayM n l a b).1.length ≤ 12 := by
 unfold wayM
 split
 ·rename_i h
  have h' := two_lt h
  have hn := goodE_n h.1
  split
  ·simp
  ·rename_i hf
   have := way_len h'.2.1 h'.2.2.1 (wayList_ok h hf)
   show (wayList n l a b).length ≤ 12
   unfold wayList
   rw [List.length_cons]
   omega
 ·simp
theorem specWayTo_ev (n : Int) (l : List S67) (a b : Int) (hl : l.length ≤ 1048576) : Ev (fun k => spec_WayTo.f k n l a b) (wayM n l a b) := by
 unfold spec_WayTo.f wayM
 refine Ev.bind (specTwo_ev n l a b hl) ?_
 by_cases h : two n l a b
 ·rw [if_pos h, decide_eq_true h]
  have h' := two_lt h
  have hs := fars_sane h.1 h'.2.2.2.1 h'.2.2.2.2 a
  simp only [if_true]
  by_cases hf : rd (farsM n.toNat l b) a = 100000
  ·rw [if_pos hf]
   have hne : a ≠ b := by
    intro e
    subst e
    rw [fars_self (okE_of h.1) h'.2.1 (by omega)] at hf
    omega
   refine Ev.succ ?_
   simp only [spec_WayTo.l0, if_neg hne]
   refine Ev.bind (specHops_ev n l a b hl h.1 h'.2.1 h'.2.2.1 h'.2.2.2.1 h'.2.2.2.2) ?_
   rw [show hopsM n.toNat l a b = [] from hops_far (by omega)]
   simp only [List.length_nil, Int.ofNat_zero, if_true]
   exact Ev.now _
  ·rw [if_neg hf]
   exact specWay_l hl h.1 h'.2.1 h'.2.2.1 h'.2.2.2.1 h'.2.2.2.2 (rd (farsM n.toNat l b) a).toNat a [a] h'.2.1 h'.2.2.1 (by omega) (by omega) (by rw [List.length_singleton]; omega)
 ·rw [if_neg h, decide_eq_false h]
  simp only [Bool.false_eq_true, if_false]
  exact Ev.now _
theorem implWayTo_ev (n : Int) (l : List S67) (a b : Int) (hl : l.length ≤ 1048576) : Ev (fun k => impl_WayTo.f k n l a b) (wayM n l a b) := by
 unfold impl_WayTo.f wayM
 refine Ev.bind (goodAt2_ev n l a b hl) ?_
 by_cases h : two n l a b
 ·rw [if_pos h, decide_eq_true h]
  have h' := two_lt h
  have hn := goodE_n h.1
  have hs := fars_sane h.1 h'.2.2.2.1 h'.2.2.2.2 a
  simp only [if_true]
  have key : Ev (fun k => impl_wayTo.f k n l a b) (if rd (farsM n.toNat l b) a = 100000 then ([], 0, false) else (wayList n l a b, rd (farsM n.toNat l b) a, true)) := by
   unfold impl_wayTo.f
   refine Ev.bind (implFars_ev n l b (by omega) (by omega) (edge3 h.1) h'.2.2.2.1 h'.2.2.2.2) ?_
   simp only [if_pos h'.2.1, farsM_len, if_pos (show a < ((n.toNat : Nat) : Int) by omega)]
   by_cases hf : rd (farsM n.toNat l b) a = 100000
   ·simp only [if_pos hf]
    exact Ev.now _
   ·simp only [if_neg hf]
    exact implWay_l hl h.1 h'.2.1 h'.2.2.1 h'.2.2.2.1 h'.2.2.2.2 (rd (farsM n.toNat l b) a).toNat a [a] h'.2.1 h'.2.2.1 (by omega) (by omega) (by rw [List.length_singleton]; omega)
  refine Ev.bind key ?_
  exact Ev.now _
 ·rw [if_neg h, decide_eq_false h]
  simp only [Bool.false_eq_true, if_false]
  exact Ev.now _
end Go.Proofs.Ytklecgkjoofipaa.P

namespace Go.Proofs.Ytklecgkjoofipaa.P
open Go.RowKit Go.Proofs.YtklecgkjoofipaaW.PrintWords Go.Proofs.YtklecgkjoofipaaW.PrintLast
set_option linter.unusedVariables false
set_option linter.unusedSimpArgs false
-- the given sweep over a list of numbers
theorem specAll_l (a b : Int) (suf : List Int) : ∀ (pre : List Int), ((pre ++ suf).length : Int) ≤ 1099511627776 → Ev (fun k => spec_l1All.l0 k a b (pre ++ suf) ((pre ++ suf).length : Int) pre.length) (allIn a b suf) := by
 induction suf with
 | nil =>
  intro pre h
  refine Ev.succ ?_
  simp only [spec_l1All.l0, List.append_nil, Int.lt_irrefl, if_false]
  exact Ev.now _
 | cons x suf ih =>
  intro pre h
  refine Ev.succ ?_
  rw [len_mid] at h ⊢
  simp only [spec_l1All.l0]
  simp only [if_pos (show ((pre.length : Int) < pre.length + suf.length + 1) by omega), if_pos (show (0 : Int) ≤ pre.length by omega), len_mid, rd_mid, specIn, Option.bind_some, wrap_id (show (-9223372036854775808 : Int) ≤ pre.length + 1 by omega) (show ((pre.length : Int) + 1 ≤ 9223372036854775807) by omega)]
  by_cases hx : a ≤ x ∧ x ≤ b
  ·have := ih (pre ++ [x]) (by rw [← app_one, len_mid]; exact h)
   rw [← app_one, len_mid, len_one] at this
   simp only [hx, and_self, decide_true, if_true]
   rw [show allIn a b (x :: suf) = allIn a b suf by simp [allIn, hx]]
   exact this
  ·simp only [decide_eq_true_eq, if_neg hx]
   rw [show allIn a b (x :: suf) = false by simp [allIn]; intro h1 h2; exact absurd ⟨h1, h2⟩ hx]
   exact Ev.now _
theorem specAll_ev (a b : Int) (l : List Int) (h : (l.length : Int) ≤ 1099511627776) : Ev (fun k => spec_l1All.f k l a b) (allIn a b l) := by
 have := specAll_l a b l [] h
 exact this
end Go.Proofs.Ytklecgkjoofipaa.P

namespace Go.Proofs.Ytklecgkjoofipaa.P
open Go.RowKit Go.Proofs.YtklecgkjoofipaaW.PrintWords Go.Proofs.YtklecgkjoofipaaW.PrintLast
set_option linter.unusedVariables false
set_option linter.unusedSimpArgs false
-- CostOf, both sides
def costGo (l : List S67) : Int → List Int → Int → Int × Bool
 | _, [], s => (s, true)
 | p, x :: r, s => if costM l p x = 0 then (0, false) else costGo l x r (wrap64 (s + costM l p x))
theorem specCost_l {n : Int} (l : List S67) (hb : (l.length : Int) ≤ 1099511627776) (hg : ∀ x ∈ l, 0 ≤ x.f0 ∧ x.f0 < x.f1 ∧ x.f1 < n) (suf : List Int) : ∀ (pre : List Int) (p s : Int), ((pre ++ p :: suf).length : Int) ≤ 1099511627776 →
  Ev (fun k => spec_CostOf.l0 k l (pre ++ p :: suf) s (pre.length + 1)) (costGo l p suf s) := by
 induction suf with
 | nil =>
  intro pre p s h
  refine Ev.succ ?_
  simp only [spec_CostOf.l0, len_mid, List.length_nil, if_neg (show ¬ ((pre.length : Int) + 1 < pre.length + ((0 : Nat) : Int) + 1) by omega)]
  exact Ev.now _
 | cons x suf ih =>
  intro pre p s h
  refine Ev.succ ?_
  have := fun s => ih (pre ++ [p]) x s (by rw [← app_one]; exact h)
  rw [len_mid, List.length_cons] at h
  rw [← app_one, len_one] at this
  have h1 : rd (pre ++ p :: x :: suf) ((pre.length : Int) + 1) = x := by
   have := rd_mid (pre ++ [p]) x suf
   rw [len_one, ← app_one] at this
   exact this
  simp only [spec_CostOf.l0, len_mid, List.length_cons]
  simp only [wrap_id (show (-9223372036854775808 : Int) ≤ (pre.length : Int) by omega) (show ((pre.length : Int) ≤ 9223372036854775807) by omega), wrap_id (show (-9223372036854775808 : Int) ≤ (pre.length : Int) + 1 + 1 by omega) (show ((pre.length : Int) + 1 + 1 ≤ 9223372036854775807) by omega), if_pos (show (pre.length : Int) + 1 < pre.length + ((suf.length + 1 : Nat) : Int) + 1 by omega), if_pos (show (0 : Int) ≤ (pre.length : Int) by omega), if_pos (show (pre.length : Int) < pre.length + ((suf.length + 1 : Nat) : Int) + 1 by omega), if_pos (show (0 : Int) ≤ (pre.length : Int) + 1 by omega), h1, show (pre.length : Int) + 1 - 1 = pre.length by omega, rd_mid]
  refine Ev.bind (specEdge_ev l p x hb hg) ?_
  rw [costGo]
  by_cases hc : costM l p x = 0
  ·simp only [if_pos hc]
   exact Ev.now _
  ·simp only [if_neg hc]
   exact this _
theorem implCost2_l (l : List S67) (hb : (l.length : Int) ≤ 1099511627776) (suf : List Int) : ∀ (pre : List Int) (p s : Int), ((pre ++ p :: suf).length : Int) ≤ 1099511627776 →
  Ev (fun k => impl_CostOf.l0 k l (pre ++ p :: suf) s (pre.length + 1)) (costGo l p suf s) := by
 induction suf with
 | nil =>
  intro pre p s h
  refine Ev.succ ?_
  simp only [impl_CostOf.l0, len_mid, List.length_nil, if_neg (show ¬ ((pre.length : Int) + 1 < pre.length + ((0 : Nat) : Int) + 1) by omega)]
  exact Ev.now _
 | cons x suf ih =>
  intro pre p s h
  refine Ev.succ ?_
  have := fun s => ih (pre ++ [p]) x s (by rw [← app_one]; exact h)
  rw [len_mid, List.length_cons] at h
  rw [← app_one, len_one] at this
  have h1 : rd (pre ++ p :: x :: suf) ((pre.length : Int) + 1) = x := by
   have := rd_mid (pre ++ [p]) x suf
   rw [len_one, ← app_one] at this
   exact this
  simp only [impl_CostOf.l0, len_mid, List.length_cons]
  simp only [wrap_id (show (-9223372036854775808 : Int) ≤ (pre.length : Int) by omega) (show ((pre.length : Int) ≤ 9223372036854775807) by omega), wrap_id (show (-9223372036854775808 : Int) ≤ (pre.length : Int) + 1 + 1 by omega) (show ((pre.length : Int) + 1 + 1 ≤ 9223372036854775807) by omega), if_pos (show (pre.length : Int) + 1 < pre.length + ((suf.length + 1 : Nat) : Int) + 1 by omega), if_pos (show (0 : Int) ≤ (pre.length : Int) by omega), if_pos (show (pre.length : Int) < pre.length + ((suf.length + 1 : Nat) : Int) + 1 by omega), if_pos (show (0 : Int) ≤ (pre.length : Int) + 1 by omega), h1, show (pre.length : Int) + 1 - 1 = pre.length by omega, rd_mid]
  refine Ev.bind (implCost_ev l p x hb) ?_
  rw [costGo]
  by_cases hc : costM l p x = 0
  ·simp only [if_pos hc]
   exact Ev.now _
  ·simp only [if_neg hc]
   exact this _
def costOf (n : Int) (l : List S67) (q : List Int) : Int × Bool := if goodE n l = true ∧ (1 ≤ (q.length : Int) ∧ (q.length : Int) ≤ 12) ∧ allIn 0 (wrap64 (n - 1)) q = true then costGo l (q.headD 0) q.tail 0 else (0, false)
theorem specCostOf_ev (n : Int) (l : List S67) (q : List Int) (hl : l.length ≤ 1048576) (hq : q.length ≤ 1048576) : Ev (fun k => spec_CostOf.f k n l q) (costOf n l q) := by
 unfold spec_CostOf.f costOf
 have bad : Ev (fun k => spec_CostOf.j0 k l q true) ((0 : Int), false) := by
  refine Ev.succ ?_
  simp only [spec_CostOf.j0, if_true]
  exact Ev.now _
 refine Ev.bind (specGoodE_ev n l hl) ?_
 by_cases h : goodE n l = true
 ·simp only [if_pos h, specIn, Option.bind_some, decide_eq_true_eq]
  by_cases h1 : 1 ≤ (q.length : Int) ∧ (q.length : Int) ≤ 12
  ·simp only [if_pos h1]
   refine Ev.bind (specAll_ev _ _ q (by omega)) ?_
   by_cases h2 : allIn 0 (wrap64 (n - 1)) q = true
   ·rw [if_pos ⟨h, h1, h2⟩, h2]
    refine Ev.succ ?_
    simp only [spec_CostOf.j0, Bool.not_true, Bool.false_eq_true, if_false]
    match q, h1 with
    | p :: q, h1 => exact specCost_l l (by omega) (edge3 h) q [] p 0 (by simp only [List.nil_append]; omega)
   ·rw [if_neg (fun hc => h2 hc.2.2), Bool.eq_false_iff.2 h2]
    exact bad
  ·simp only [if_neg h1]
   rw [if_neg (fun hc => h1 hc.2.1)]
   exact bad
 ·simp only [if_neg h]
  rw [if_neg (fun hc => h hc.1)]
  exact bad
theorem implCostOf_ev (n : Int) (l : List S67) (q : List Int) (hl : l.length ≤ 1048576) (hq : q.length ≤ 1048576) : Ev (fun k => impl_CostOf.f k n l q) (costOf n l q) := by
 unfold impl_CostOf.f costOf
 have bad : Ev (fun k => impl_CostOf.j0 k l q true) ((0 : Int), false) := by
  refine Ev.succ ?_
  simp only [impl_CostOf.j0, if_true]
  exact Ev.now _
 simp only [implIn, Option.bind_some, decide_eq_true_eq]
 by_cases h1 : 1 ≤ (q.length : Int) ∧ (q.length : Int) ≤ 12
 ·simp only [if_pos h1]
  have hga := goodAt_ev n l q hl (by omega)
  refine Ev.bind hga ?_
  by_cases h : goodE n l = true ∧ allIn 0 (wrap64 (n - 1)) q = true
  ·rw [if_pos ⟨h.1, h1, h.2⟩, h.1, h.2]
   refine Ev.succ ?_
   simp only [impl_CostOf.j0, Bool.and_true, Bool.not_true, Bool.false_eq_true, if_false]
   match q, h1 with
   | p :: q, h1 => exact implCost2_l l (by omega) q [] p 0 (by simp only [List.nil_append]; omega)
  ·rw [if_neg (fun hc => h ⟨hc.1, hc.2.2⟩), show (goodE n l && allIn 0 (wrap64 (n - 1)) q) = false by rw [Bool.eq_false_iff]; intro hc; rw [Bool.and_eq_true] at hc; exact h hc]
   exact bad
 ·simp only [if_neg h1]
  rw [if_neg (fun hc => h1 hc.2.1)]
  exact bad
end Go.Proofs.Ytklecgkjoofipaa.P

namespace Go.Proofs.Ytklecgkjoofipaa.P
open Go.RowKit Go.Proofs.YtklecgkjoofipaaW.PrintWords Go.Proofs.YtklecgkjoofipaaW.PrintLast
set_option linter.unusedVariables false
set_option linter.unusedSimpArgs false
-- FarsFrom, both sides
def farsFrom (n : Int) (l : List S67) (v : Int) : List Int × Bool := if goodE n l = true then (if 0 ≤ v ∧ v ≤ wrap64 (n - 1) then (farsM n.toNat l v, true) else ([], false)) else ([], false)
theorem implFarsFrom_ev (n : Int) (l : List S67) (v : Int) (hl : l.length ≤ 1048576) : Ev (fun k => impl_FarsFrom.f k n l v) (farsFrom n l v) := by
 unfold impl_FarsFrom.f farsFrom
 have hga := goodAt_ev n l [v] hl (by simp)
 rw [allIn1] at hga
 by_cases h : goodE n l = true
 ·have hn := goodE_n h
  by_cases hv : 0 ≤ v ∧ v ≤ wrap64 (n - 1)
  ·rw [h, decide_eq_true hv, Bool.true_and] at hga
   refine Ev.bind hga ?_
   simp only [if_true]
   rw [if_pos h, if_pos hv]
   rw [top_is hn.1 hn.2.1] at hv
   refine Ev.bind (implFars_ev n l v (by omega) (by omega) (edge3 h) hv.1 (by omega)) ?_
   exact Ev.now _
  ·rw [h, decide_eq_false hv, Bool.true_and] at hga
   refine Ev.bind hga ?_
   simp only [Bool.false_eq_true, if_false]
   rw [if_pos h, if_neg hv]
   exact Ev.now _
 ·rw [Bool.eq_false_iff.2 h, Bool.false_and] at hga
  refine Ev.bind hga ?_
  simp only [Bool.false_eq_true, if_false]
  rw [if_neg h]
  exact Ev.now _
end Go.Proofs.Ytklecgkjoofipaa.P

namespace Go.Proofs.Ytklecgkjoofipaa.P
open Go.RowKit Go.Proofs.YtklecgkjoofipaaW.PrintWords Go.Proofs.YtklecgkjoofipaaW.PrintLast
set_option linter.unusedVariables false
set_option linter.unusedSimpArgs false
theorem and255 (x : Int) : 0 ≤ wrap64 (Go.bits .and .u64 x 255) ∧ wrap64 (Go.bits .and .u64 x 255) ≤ 255 := by
 have e : ∃ n : Nat, n ≤ 255 ∧ Go.bits .and .u64 x 255 = IntKind.u64.wrap (n : Int) := by
  refine ⟨(BitVec.ofInt 64 x &&& BitVec.ofInt 64 255).toNat, ?_, rfl⟩
  rw [BitVec.toNat_and]
  exact Nat.le_trans Nat.and_le_right (by decide)
 obtain ⟨n, hn, e⟩ := e
 rw [e]
 have e2 : IntKind.u64.wrap (n : Int) = (n : Int) := by
  simp only [IntKind.wrap, IntKind.bits, IntKind.signed, Bool.false_and, Bool.false_eq_true, if_false]
  omega
 rw [e2, wrap_id (by omega) (by omega)]
 omega
theorem next_ok (c : List Int) (hc : ∀ x ∈ c, 0 ≤ x ∧ x ≤ 255) (hl : c.length ≤ 1048576) (a s : Int) (h0 : 0 ≤ a) (h1 : a ≤ 1152921504606846976) :
  ∃ r s', spec_l1Cur_next.f c a s = some (r, a + 1, s') ∧ 0 ≤ r ∧ r ≤ 255 := by
 unfold spec_l1Cur_next.f
 rw [wrap_id (x := a + 1) (by omega) (by omega)]
 by_cases h : a < (c.length : Int)
 ·have hm : rd c a ∈ c := by
   unfold rd
   rw [List.getD_eq_getElem?_getD, List.getElem?_eq_getElem (by omega)]
   exact List.getElem_mem _
  have hb := hc _ hm
  rw [if_pos h, if_pos h0]
  by_cases h2 : a + 1 ≤ (c.length : Int)
  ·rw [if_pos h2, wrap_id (x := rd c a) (by omega) (by omega)]
   exact ⟨_, _, rfl, hb.1, hb.2⟩
  ·omega
 ·rw [if_neg h, if_neg (by omega)]
  exact ⟨_, _, rfl, (and255 _).1, (and255 _).2⟩
theorem pick_ok (c : List Int) (hc : ∀ x ∈ c, 0 ≤ x ∧ x ≤ 255) (hl : c.length ≤ 1048576) (a s n : Int) (h0 : 0 ≤ a) (h1 : a ≤ 1125899906842624) :
  ∃ r a' s', spec_l1Cur_pick.f c a s n = some (r, a', s') ∧ 0 ≤ r ∧ (n ≤ 1 → r = 0) ∧ (2 ≤ n → r < n) ∧ a ≤ a' ∧ a' ≤ a + 2 := by
 unfold spec_l1Cur_pick.f
 by_cases hn : n ≤ 1
 ·rw [if_pos hn]
  exact ⟨0, a, s, rfl, by omega, fun _ => rfl, by omega, by omega, by omega⟩
 ·rw [if_neg hn]
  obtain ⟨r, s', e, r0, r1⟩ := next_ok c hc hl a s h0 (by omega)
  rw [e]
  simp only [Option.bind_some]
  by_cases h2 : n > 200
  ·rw [if_pos h2]
   obtain ⟨q, s2, e2, q0, q1⟩ := next_ok c hc hl (a + 1) s' (by omega) (by omega)
   rw [e2]
   simp only [Option.bind_some]
   rw [if_neg (by omega), wrap_id (x := r * 256) (by omega) (by omega), wrap_id (x := r * 256 + q) (by omega) (by omega), Int.tmod_eq_emod_of_nonneg (by omega)]
   exact ⟨_, _, _, rfl, Int.emod_nonneg _ (by omega), fun h => absurd h hn, fun _ => Int.emod_lt_of_pos _ (by omega), by omega, by omega⟩
  ·rw [if_neg h2, if_neg (by omega), Int.tmod_eq_emod_of_nonneg r0]
   exact ⟨_, _, _, rfl, Int.emod_nonneg _ (by omega), fun h => absurd h hn, fun _ => Int.emod_lt_of_pos _ (by omega), by omega, by omega⟩
theorem one_ok (c : List Int) (hc : ∀ x ∈ c, 0 ≤ x ∧ x ≤ 255) (hl : c.length ≤ 1048576) (a s n : Int) (h0 : 0 ≤ a) (h1 : a ≤ 1125899906842624) :
  ∃ b a' s', spec_l1Cur_one.f c a s n = some (b, a', s') ∧ a ≤ a' ∧ a' ≤ a + 2 := by
 unfold spec_l1Cur_one.f
 obtain ⟨r, a', s', e, _, _, _, g1, g2⟩ := pick_ok c hc hl a s n h0 h1
 rw [e]
 exact ⟨_, _, _, rfl, g1, g2⟩
theorem among_ok (c : List Int) (hc : ∀ x ∈ c, 0 ≤ x ∧ x ≤ 255) (hl : c.length ≤ 1048576) (a s : Int) (l : List Int) (hn : 0 < l.length) (h0 : 0 ≤ a) (h1 : a ≤ 1125899906842624) :
  ∃ r a' s', spec_l1Cur_among.f c a s l = some (r, a', s') ∧ r ∈ l ∧ a ≤ a' ∧ a' ≤ a + 2 := by
 unfold spec_l1Cur_among.f
 obtain ⟨r, a', s', e, r0, r1, r2, g1, g2⟩ := pick_ok c hc hl a s (l.length : Int) h0 h1
 rw [e]
 simp only [Option.bind_some]
 have hlt : r < (l.length : Int) := by
  by_cases h : 2 ≤ (l.length : Int)
  ·exact r2 h
  ·have := r1 (by omega); omega
 rw [if_pos r0, if_pos hlt]
 refine ⟨_, _, _, rfl, ?_, g1, g2⟩
 unfold rd
 rw [List.getD_eq_getElem?_getD, List.getElem?_eq_getElem (by omega)]
 exact List.getElem_mem _
theorem bytes_ok {q : List Int} (hq : ∀ x ∈ q, (Lit.int .u8 x).wf = true) : ∀ x ∈ q, 0 ≤ x ∧ x ≤ 255 := fun x hx => by
 have := hq x hx
 simp only [Lit.wf, IntKind.has, IntKind.min, IntKind.max, IntKind.signed, IntKind.bits, Bool.and_eq_true, decide_eq_true_eq, Bool.false_eq_true, if_false] at this
 omega
end Go.Proofs.Ytklecgkjoofipaa.P

namespace Go.Proofs.Ytklecgkjoofipaa.P
open Go.RowKit Go.Proofs.YtklecgkjoofipaaW.PrintWords Go.Proofs.YtklecgkjoofipaaW.PrintLast
set_option linter.unusedVariables false
set_option linter.unusedSimpArgs false
-- The drawn lists of edges are short, whatever bytes they are drawn from.
theorem up1 (v : Nat) (h : v ≤ 1000) : wrap64 ((v : Int) + 1) = ((v + 1 : Nat) : Int) := by rw [wrap_id (by omega) (by omega)]; omega
theorem edges_l0 (c : List Int) (hc : ∀ x ∈ c, 0 ≤ x ∧ x ≤ 255) (hl : c.length ≤ 1048576) (n : Nat) (hn : n ≤ 13) (p : Int) (d : Nat) :
  ∀ (u : Nat) (l : List S67) (a s : Int), u + d = n → l.length ≤ 40 → 0 ≤ a → a ≤ 100000 - 60 * d → ∃ r a' s', Ev (fun k => spec_l1Cur_edges.l0 k n l p u c a s) ((n : Int), r, a', s') ∧ r.length ≤ 40 ∧ a ≤ a' ∧ a' ≤ a + 60 * d + 10 := by
 induction d with
 | zero =>
  intro u l a s hu hl2 h0 h1
  by_cases hp : (l.length : Int) > 0
  ·obtain ⟨b, a1, s1, e1, g1, g1'⟩ := one_ok c hc hl a s 30 h0 (by omega)
   cases b with
   | true =>
    obtain ⟨r2, a2, s2, e2, _, g2, g2'⟩ := among_ok c hc hl a1 s1 [0, 100, 101] (by decide) (by omega) (by omega)
    refine ⟨l.set (0 : Int).toNat ⟨(rd_T67 l 0).f0, (rd_T67 l 0).f1, r2⟩, a2, s2, Ev.succ ?_, by simpa using hl2, by omega, by omega⟩
    simp only [spec_l1Cur_edges.l0, if_neg (show ¬ (u : Int) < n by omega), if_pos hp, e1, Option.bind_some, if_true]
    rw [e2]
    simp only [Option.bind_some, if_pos (show (0 : Int) < (l.length : Int) from hp)]
    exact Ev.now _
   | false =>
    refine ⟨l, a1, s1, Ev.succ ?_, hl2, by omega, by omega⟩
    simp only [spec_l1Cur_edges.l0, if_neg (show ¬ (u : Int) < n by omega), if_pos hp, e1, Option.bind_some, Bool.false_eq_true, if_false]
    exact Ev.now _
  ·refine ⟨l, a, s, Ev.succ ?_, hl2, by omega, by omega⟩
   simp only [spec_l1Cur_edges.l0, if_neg (show ¬ (u : Int) < n by omega), if_neg hp]
   exact Ev.now _
 | succ d ih =>
  intro u l a s hu hl2 h0 h1
  have hd : d ≤ 12 := by omega
  have key : ∀ (d2 : Nat) (v : Nat) (l : List S67) (a s : Int), v + d2 = n → l.length ≤ 40 → 0 ≤ a → a + 4 * d2 ≤ 100000 - 60 * d → d2 ≤ 12 → ∃ r a' s', Ev (fun k => spec_l1Cur_edges.l1 k n l p u v c a s) ((n : Int), r, a', s') ∧ r.length ≤ 40 ∧ a ≤ a' ∧ a' ≤ a + 4 * d2 + (60 * d + 10) := by
   intro d2
   induction d2 with
   | zero =>
    intro v l a s hv hl2 h0 h1 _
    obtain ⟨r, a', s', e, hr, g, g'⟩ := ih (u + 1) l a s (by omega) hl2 h0 (by omega)
    refine ⟨r, a', s', Ev.succ ?_, hr, g, by omega⟩
    simp only [spec_l1Cur_edges.l1, if_neg (show ¬ (v : Int) < n by omega)]
    rw [up1 u (by omega)]
    exact e
   | succ d2 ih2 =>
    intro v l a s hv hl2 h0 h1 h12
    obtain ⟨b, a1, s1, e1, g1, g1'⟩ := one_ok c hc hl a s (wrap64 (1 + p)) h0 (by omega)
    have skip : ∃ r a' s', Ev (fun k => spec_l1Cur_edges.l1 k n l p u (wrap64 ((v : Int) + 1)) c a1 s1) ((n : Int), r, a', s') ∧ r.length ≤ 40 ∧ a ≤ a' ∧ a' ≤ a + 4 * ((d2 + 1 : Nat) : Int) + (60 * d + 10) := by
     obtain ⟨r, a', s', e, hr, g, g'⟩ := ih2 (v + 1) l a1 s1 (by omega) hl2 (by omega) (by omega) (by omega)
     rw [up1 v (by omega)]
     exact ⟨r, a', s', e, hr, by omega, by omega⟩
    cases b with
    | false =>
     obtain ⟨r, a', s', e, hr, g, g'⟩ := skip
     refine ⟨r, a', s', Ev.succ ?_, hr, g, g'⟩
     simp only [spec_l1Cur_edges.l1, if_pos (show (v : Int) < n by omega), e1, Option.bind_some, Bool.false_eq_true, if_false]
     exact e
    | true =>
     by_cases h40 : (l.length : Int) < 40
     ·obtain ⟨q, a2, s2, e2, _, _, _, g2, g2'⟩ := pick_ok c hc hl a1 s1 5 (by omega) (by omega)
      obtain ⟨r, a', s', e, hr, g, g'⟩ := ih2 (v + 1) (l ++ [⟨(u : Int), (v : Int), wrap64 (1 + q)⟩]) a2 s2 (by omega) (by simp <;> omega) (by omega) (by omega) (by omega)
      refine ⟨r, a', s', Ev.succ ?_, hr, by omega, by omega⟩
      simp only [spec_l1Cur_edges.l1, if_pos (show (v : Int) < n by omega), e1, Option.bind_some, if_true, if_pos h40]
      rw [e2]
      simp only [Option.bind_some, if_pos (show l.length < 5864062014805 by omega)]
      rw [up1 v (by omega)]
      exact e
     ·obtain ⟨r, a', s', e, hr, g, g'⟩ := skip
      refine ⟨r, a', s', Ev.succ ?_, hr, g, g'⟩
      simp only [spec_l1Cur_edges.l1, if_pos (show (v : Int) < n by omega), e1, Option.bind_some, if_true, if_neg h40]
      exact e
  obtain ⟨r, a', s', e, hr, g, g'⟩ := key d (u + 1) l a s (by omega) hl2 h0 (by omega) hd
  refine ⟨r, a', s', Ev.succ ?_, hr, g, by omega⟩
  simp only [spec_l1Cur_edges.l0, if_pos (show (u : Int) < n by omega)]
  rw [up1 u (by omega)]
  exact e
theorem edges_ok (c : List Int) (hc : ∀ x ∈ c, 0 ≤ x ∧ x ≤ 255) (hl : c.length ≤ 1048576) :
  ∃ (n : Int) (r : List S67) (a' s' : Int), Ev (fun k => spec_l1Cur_edges.f k c 0 0) (n, r, a', s') ∧ 0 ≤ n ∧ n ≤ 13 ∧ r.length ≤ 40 ∧ 0 ≤ a' ∧ a' ≤ 10000 := by
 obtain ⟨r1, a1, s1, e1, r10, _, r12, g1, g1'⟩ := pick_ok c hc hl 0 0 8 (by omega) (by omega)
 obtain ⟨b, a2, s2, e2, g2, g2'⟩ := one_ok c hc hl a1 s1 30 (by omega) (by omega)
 have := r12 (by omega)
 have fin : ∀ (n : Int) (a s : Int), 0 ≤ n → n ≤ 13 → 0 ≤ a → a ≤ 100 → ∃ (r : List S67) (a' s' : Int), Ev (fun k => spec_l1Cur_edges.j0 k n c a s) (n, r, a', s') ∧ r.length ≤ 40 ∧ 0 ≤ a' ∧ a' ≤ 10000 := by
  intro n a s h0 h1 ha ha1
  obtain ⟨m, rfl⟩ := Int.eq_ofNat_of_zero_le h0
  obtain ⟨q, a3, s3, e3, _, _, _, g3, g3'⟩ := pick_ok c hc hl a s 3 ha (by omega)
  obtain ⟨r, a4, s4, e4, hr, g4, g4'⟩ := edges_l0 c hc hl m (by omega) (wrap64 (1 + q)) m 0 [] a3 s3 (by omega) (by simp) (by omega) (by omega)
  refine ⟨r, a4, s4, Ev.succ ?_, hr, by omega, by omega⟩
  simp only [spec_l1Cur_edges.j0, e3, Option.bind_some]
  exact e4
 cases b with
 | true =>
  obtain ⟨r3, a3, s3, e3, m3, g3, g3'⟩ := among_ok c hc hl a2 s2 [0, 12, 13] (by decide) (by omega) (by omega)
  have hr3 : 0 ≤ r3 ∧ r3 ≤ 13 := by
   simp only [List.mem_cons, List.not_mem_nil, or_false] at m3
   omega
  obtain ⟨r, a4, s4, e4, hr, g4, g4'⟩ := fin r3 a3 s3 hr3.1 hr3.2 (by omega) (by omega)
  refine ⟨r3, r, a4, s4, ?_, hr3.1, hr3.2, hr, g4, g4'⟩
  unfold spec_l1Cur_edges.f
  simp only [e1, Option.bind_some]
  rw [e2]
  simp only [Option.bind_some, if_true]
  rw [e3]
  simp only [Option.bind_some]
  exact e4
 | false =>
  obtain ⟨r, a4, s4, e4, hr, g4, g4'⟩ := fin (1 + r1) a2 s2 (by omega) (by omega) (by omega) (by omega)
  refine ⟨1 + r1, r, a4, s4, ?_, by omega, by omega, hr, g4, g4'⟩
  unfold spec_l1Cur_edges.f
  simp only [e1, Option.bind_some]
  rw [e2]
  simp only [Option.bind_some, Bool.false_eq_true, if_false]
  rw [wrap_id (x := 1 + r1) (by omega) (by omega)]
  exact e4
end Go.Proofs.Ytklecgkjoofipaa.P

namespace Go.Proofs.Ytklecgkjoofipaa.P
open Go.RowKit Go.Proofs.YtklecgkjoofipaaW.PrintWords Go.Proofs.YtklecgkjoofipaaW.PrintLast
set_option linter.unusedVariables false
set_option linter.unusedSimpArgs false
-- the law's own comparison of two lists of numbers
theorem sameInts_l (s : List Int) : ∀ (t pre qre : List Int), pre.length = qre.length → s.length = t.length → (pre.length : Int) + s.length ≤ 1099511627776 →
  Ev (fun k => laws_sameInts.l0 k (pre ++ s) (qre ++ t) ((pre ++ s).length : Int) pre.length) (decide (s = t)) := by
 induction s with
 | nil =>
  intro t pre qre hq hl hb
  obtain rfl : t = [] := List.eq_nil_of_length_eq_zero (by simpa using hl.symm)
  refine Ev.succ ?_
  simp only [laws_sameInts.l0, List.append_nil, Int.lt_irrefl, if_false, decide_true]
  exact Ev.now _
 | cons x s ih =>
  intro t pre qre hq hl hb
  cases t with
  | nil => simp at hl
  | cons y t =>
   simp only [List.length_cons] at hl hb
   have h := ih t (pre ++ [x]) (qre ++ [y]) (by simp; omega) (by omega) (by simp; omega)
   rw [← app_one, ← app_one, len_mid, len_one] at h
   have hy : rd (qre ++ y :: t) (pre.length : Int) = y := by rw [hq]; exact rd_mid qre y t
   refine Ev.succ ?_
   simp only [laws_sameInts.l0]
   simp only [len_mid, if_pos (show ((pre.length : Int) < pre.length + s.length + 1) by omega), if_pos (show (0 : Int) ≤ pre.length by omega), if_pos (show ((pre.length : Int) < qre.length + t.length + 1) by omega), rd_mid, hy, wrap_id (show (-9223372036854775808 : Int) ≤ pre.length + 1 by omega) (show ((pre.length : Int) + 1 ≤ 9223372036854775807) by omega)]
   by_cases e : x = y
   ·simp only [if_pos e]
    rw [show decide (x :: s = y :: t) = decide (s = t) by simp [e]]
    exact h
   ·simp only [if_neg e]
    rw [show decide (x :: s = y :: t) = false by simp [e]]
    exact Ev.now _
theorem sameInts_ev (s t : List Int) (hs : s.length ≤ 1099511627776) : Ev (fun k => laws_sameInts.f k s t) (decide (s = t)) := by
 unfold laws_sameInts.f
 by_cases hl : s.length = t.length
 ·simp only [if_pos (show (s.length : Int) = t.length by omega)]
  have := sameInts_l s t [] [] rfl hl (by simp; omega)
  exact this
 ·simp only [if_neg (show ¬ (s.length : Int) = t.length by omega)]
  rw [decide_eq_false (fun e => hl (by rw [e]))]
  exact Ev.now _
end Go.Proofs.Ytklecgkjoofipaa.P

namespace Go.Proofs.Ytklecgkjoofipaa.P
open Go.RowKit Go.Proofs.YtklecgkjoofipaaW.PrintWords Go.Proofs.YtklecgkjoofipaaW.PrintLast
set_option linter.unusedVariables false
set_option linter.unusedSimpArgs false
-- what the law of hops asks of good edges, and its draws
theorem drawFirst_ok (c : List Int) (hc : ∀ x ∈ c, 0 ≤ x ∧ x ≤ 255) (hl : c.length ≤ 1048576) : ∃ n l a b, Ev (fun k => spec_DrawFirstHops.f k c) (n, l, a, b) ∧ l.length ≤ 40 := by
 obtain ⟨n, l, a0, s0, e, hn0, hn1, hl2, h0, h1⟩ := edges_ok c hc hl
 obtain ⟨r1, a1, s1, e1, _, _, _, g1, g1'⟩ := pick_ok c hc hl a0 s0 (wrap64 (n + 1)) h0 (by omega)
 obtain ⟨r2, a2, s2, e2, _, _, _, g2, g2'⟩ := pick_ok c hc hl a1 s1 9 (by omega) (by omega)
 obtain ⟨r3, a3, s3, e3, _, _, _, g3, g3'⟩ := pick_ok c hc hl a2 s2 9 (by omega) (by omega)
 obtain ⟨r4, a4, s4, e4, _, _, _, g4, g4'⟩ := pick_ok c hc hl a3 s3 (wrap64 (n + wrap64 (Int.tdiv r3 8))) (by omega) (by omega)
 refine ⟨n, l, wrap64 (r1 - wrap64 (Int.tdiv r2 8)), r4, ?_, hl2⟩
 unfold spec_DrawFirstHops.f
 refine Ev.bind e ?_
 simp only [e1, Option.bind_some]
 rw [e2]
 simp only [Option.bind_some]
 rw [e3]
 simp only [Option.bind_some]
 rw [e4]
 simp only [Option.bind_some]
 exact Ev.now _
theorem drawHopFor_ok (c : List Int) (hc : ∀ x ∈ c, 0 ≤ x ∧ x ≤ 255) (hl : c.length ≤ 1048576) : ∃ n l a b m, Ev (fun k => spec_DrawHopFor.f k c) (n, l, a, b, m) ∧ l.length ≤ 40 := by
 obtain ⟨n, l, a, b, e, hl2⟩ := drawFirst_ok c hc hl
 obtain ⟨r, a1, s1, e1, _⟩ := among_ok c hc hl 0 0 [-1, 0, 1, 7, 1000, 1001] (by decide) (by omega) (by omega)
 refine ⟨n, l, a, b, r, ?_, hl2⟩
 unfold spec_DrawHopFor.f
 refine Ev.bind e ?_
 simp only [e1, Option.bind_some]
 exact Ev.now _
theorem drawCost_ok (c : List Int) (hc : ∀ x ∈ c, 0 ≤ x ∧ x ≤ 255) (hl : c.length ≤ 1048576) : ∃ n l q, Ev (fun k => spec_DrawCostOf.f k c) (n, l, q) ∧ l.length ≤ 40 ∧ q.length ≤ 12 := by
 obtain ⟨n, l, a, b, e, hl2⟩ := drawFirst_ok c hc hl
 have hw := wayM_len n l a b
 have ew := specWayTo_ev n l a b (by omega)
 generalize wayM n l a b = w at hw ew
 have out : ∀ q, Ev (fun k => spec_DrawCostOf.f k c) (n, l, q) → q.length ≤ 12 → ∃ n l q, Ev (fun k => spec_DrawCostOf.f k c) (n, l, q) ∧ l.length ≤ 40 ∧ q.length ≤ 12 := fun q h1 h2 => ⟨n, l, q, h1, hl2, h2⟩
 by_cases h1 : w.2.2 = true
 ·by_cases h2 : (w.1.length : Int) > 1
  ·obtain ⟨b1, a1, s1, e1, g1, g1'⟩ := one_ok c hc hl 0 0 4 (by omega) (by omega)
   cases b1 with
   | true =>
    obtain ⟨r2, a2, s2, e2, _⟩ := pick_ok c hc hl a1 s1 9 (by omega) (by omega)
    refine out (w.1.set (0 : Int).toNat r2) ?_ (by rw [List.length_set]; exact hw)
    unfold spec_DrawCostOf.f
    refine Ev.bind e (Ev.bind ew ?_)
    simp only [if_pos h1, if_pos h2, e1, Option.bind_some, if_true]
    rw [e2]
    simp only [Option.bind_some, if_pos (show (0 : Int) < (w.1.length : Int) by omega)]
    exact Ev.now _
   | false =>
    refine out w.1 ?_ hw
    unfold spec_DrawCostOf.f
    refine Ev.bind e (Ev.bind ew ?_)
    simp only [if_pos h1, if_pos h2, e1, Option.bind_some, Bool.false_eq_true, if_false]
    exact Ev.now _
  ·refine out w.1 ?_ hw
   unfold spec_DrawCostOf.f
   refine Ev.bind e (Ev.bind ew ?_)
   simp only [if_pos h1, if_neg h2]
   exact Ev.now _
 ·refine out w.1 ?_ hw
  unfold spec_DrawCostOf.f
  refine Ev.bind e (Ev.bind ew ?_)
  simp only [if_neg h1]
  exact Ev.now _
theorem costGo_way {n : Int} {l : List S67} (h : goodE n l = true) : ∀ (W : List Int) (v s : Int), wayPos l v W → 0 ≤ s → s + 100 * W.length ≤ 1000000 → costGo l v W s = (s + wayCost l v W, true)
 | [], v, s, _, _, _ => by rw [costGo, wayCost, Int.add_zero]
 | u :: W, v, s, hp, h0, h1 => by
  obtain ⟨p1, p2⟩ := hp
  have hc := adj_in (okE_of h) (cost_adj h p1)
  rw [List.length_cons] at h1
  rw [costGo, if_neg (by omega), wrap_id (by omega) (by omega), costGo_way h W u _ p2 (by omega) (by omega), wayCost, Int.add_assoc]
theorem cost_way {n : Int} {l : List S67} {a b : Int} (h : two n l a b) (hf : ¬ rd (farsM n.toNat l b) a = 100000) : costOf n l (wayList n l a b) = (rd (farsM n.toNat l b) a, true) := by
 have h' := two_lt h
 have hn := goodE_n h.1
 have w := wayList_ok h hf
 have hl := way_len h'.2.1 h'.2.2.1 w
 unfold costOf wayList
 generalize wayGo n.toNat l (farsM n.toNat l b) b ((rd (farsM n.toNat l b) a).toNat + 1) a = W at w hl
 have hall : allIn 0 (wrap64 (n - 1)) (a :: W) = true := by
  unfold allIn
  rw [List.all_eq_true, top_is hn.1 hn.2.1]
  intro x hx
  rw [decide_eq_true_eq]
  rcases List.mem_cons.1 hx with rfl | hx
  ·omega
  ·have := w.low x hx
   omega
 rw [if_pos ⟨h.1, ⟨by rw [List.length_cons]; omega, by rw [List.length_cons]; omega⟩, hall⟩]
 show costGo l a W 0 = _
 rw [costGo_way h.1 W a 0 w.pos (by omega) (by omega), w.cost, Int.zero_add]
theorem rd_getLast {l : List Int} {b : Int} (h : l.getLast? = some b) : 0 < l.length ∧ rd l ((l.length : Int) - 1) = b := by
 have hl : 0 < l.length := by
  cases l with
  | nil => simp at h
  | cons x l => simp
 rw [List.getLast?_eq_getElem?] at h
 refine ⟨hl, ?_⟩
 unfold rd
 rw [show ((l.length : Int) - 1).toNat = l.length - 1 by omega, List.getD_eq_getElem?_getD, h]
 rfl
theorem cost_two {n : Int} {l : List S67} (h : goodE n l = true) {x u : Int} (hx : 0 ≤ x) (hx1 : x < n) (hu : 0 ≤ u) (hu1 : u < n) (hc : costM l x u > 0) : costOf n l [x, u] = (costM l x u, true) := by
 have hn := goodE_n h
 have hb := adj_in (okE_of h) (cost_adj h hc)
 unfold costOf
 rw [if_pos ⟨h, ⟨by simp, by simp⟩, by rw [allIn2, top_is hn.1 hn.2.1, decide_eq_true (by omega), decide_eq_true (by omega)]; rfl⟩]
 show costGo l x [u] 0 = _
 rw [costGo, if_neg (by omega), costGo, wrap_id (by omega) (by omega), Int.zero_add]
theorem hopLaw_l0 (x1 : List Int) {n : Int} {l : List S67} (hg : goodE n l = true) (hl : l.length ≤ 1048576) {x y : Int} (hx : 0 ≤ x) (hx1 : x < n) (hy : 0 ≤ y) (hy1 : y < n) (R : Bool) (hR : Ev (fun k => laws_FnHops.j4 k x1) R) (suf : List Int) : ∀ (pre : List Int), ((pre ++ suf).length : Int) ≤ 1000 → (∀ u ∈ suf, u ∈ hopsM n.toNat l x y) →
  Ev (fun k => laws_FnHops.l0 k x1 n l x (farsM n.toNat l y) true (pre ++ suf) ((pre ++ suf).length : Int) pre.length) R := by
 have hf := farsM_len n.toNat l y
 induction suf with
 | nil =>
  intro pre h hm
  refine Ev.succ ?_
  simp only [laws_FnHops.l0, List.append_nil, Int.lt_irrefl, if_false]
  exact hR
 | cons u suf ih =>
  intro pre h hm
  refine Ev.succ ?_
  rw [len_mid] at h ⊢
  have h' := ih (pre ++ [u]) (by rw [← app_one, len_mid]; exact h) (fun z hz => hm z (List.mem_cons_of_mem _ hz))
  rw [← app_one, len_mid, len_one] at h'
  have hu := hm u (List.mem_cons_self ..)
  unfold hopsM at hu
  obtain ⟨u0, u1, had, _, he⟩ := hops_mem hg hy hy1 hu
  have hc := adj_in (okE_of hg) had
  have hs := fars_sane hg hy hy1 u
  simp only [laws_FnHops.l0]
  simp only [if_pos (show ((pre.length : Int) < pre.length + suf.length + 1) by omega), if_pos (show (0 : Int) ≤ pre.length by omega), len_mid, rd_mid, wrap_id (show (-9223372036854775808 : Int) ≤ pre.length + 1 by omega) (show ((pre.length : Int) + 1 ≤ 9223372036854775807) by omega)]
  refine Ev.bind (implCostOf_ev n l [x, u] hl (by simp)) ?_
  rw [cost_two hg hx hx1 u0 u1 (by omega)]
  simp only [if_true, if_pos u0, hf, if_pos (show u < ((n.toNat : Nat) : Int) by omega), if_pos hx, if_pos (show x < ((n.toNat : Nat) : Int) by omega)]
  rw [wrap_id (x := rd (farsM n.toNat l y) u + costM l x u) (by omega) (by omega)]
  simp only [if_pos he.symm]
  exact h'
theorem lawHas_l (x : Int) (suf : List Int) : ∀ (pre : List Int), ((pre ++ suf).length : Int) ≤ 1099511627776 → x ∈ suf → Ev (fun k => laws_has.l0 k x (pre ++ suf) ((pre ++ suf).length : Int) pre.length) true := by
 induction suf with
 | nil => exact fun _ _ h => by simp at h
 | cons y suf ih =>
  intro pre h hm
  refine Ev.succ ?_
  rw [len_mid] at h ⊢
  simp only [laws_has.l0]
  simp only [if_pos (show ((pre.length : Int) < pre.length + suf.length + 1) by omega), if_pos (show (0 : Int) ≤ pre.length by omega), len_mid, rd_mid, wrap_id (show (-9223372036854775808 : Int) ≤ pre.length + 1 by omega) (show ((pre.length : Int) + 1 ≤ 9223372036854775807) by omega)]
  by_cases e : y = x
  ·simp only [if_pos e]
   exact Ev.now _
  ·have := ih (pre ++ [y]) (by rw [← app_one, len_mid]; exact h) ((List.mem_cons.1 hm).resolve_left (fun c => e c.symm))
   rw [← app_one, len_mid, len_one] at this
   simp only [if_neg e]
   exact this
theorem lawHas_ev {x : Int} {l : List Int} (h : (l.length : Int) ≤ 1099511627776) (hm : x ∈ l) : Ev (fun k => laws_has.f k l x) true := lawHas_l x l [] h hm
end Go.Proofs.Ytklecgkjoofipaa.P

namespace Go.Proofs.Ytklecgkjoofipaa.Pure
open Go.RowKit Go.Proofs.Ytklecgkjoofipaa.P Go.Proofs.YtklecgkjoofipaaW.PrintWords Go.Proofs.YtklecgkjoofipaaW.PrintLast
set_option linter.unusedVariables false
set_option linter.unusedSimpArgs false
theorem FnHops : laws_FnHops.Pure := by
 intro c d hc1 hc2 hc3 hd1 hd2 hd3
 refine Ev.rounds ?_
 unfold laws_FnHops.f
 by_cases h : (wrap64 ((c.length : Int) + (d.length : Int))) > 1048576
 ·simp only [if_pos h]
  exact Ev.now _
 simp only [if_neg h]
 rw [wrap_id (by omega) (by omega)] at h
 have hcb := bytes_ok hc3
 have hdb := bytes_ok hd3
 have hj4 : Ev (fun k => laws_FnHops.j4 k d) true := by
  obtain ⟨n, l, a, b, m, e, hl⟩ := drawHopFor_ok d hdb (by omega)
  obtain ⟨s, t, q, e2, hl2, hq⟩ := drawCost_ok d hdb (by omega)
  refine Ev.succ ?_
  simp only [laws_FnHops.j4]
  refine Ev.bind e ?_
  refine Ev.bind (implHopFor_ev n l a b m (by omega)) ?_
  refine Ev.bind (specHopFor_ev n l a b m (by omega)) ?_
  refine Ev.bind e2 ?_
  refine Ev.bind (implCostOf_ev s t q (by omega) (by omega)) ?_
  refine Ev.bind (specCostOf_ev s t q (by omega) (by omega)) ?_
  simp only [bne_self_eq_false, Bool.false_eq_true, if_false, if_true]
  refine Ev.succ ?_
  simp only [laws_FnHops.j5, Bool.false_eq_true, if_false]
  have hfl := firstHops_len n l a b
  have hi := implFirstHops_ev n l a b (by omega)
  unfold hopFor
  by_cases h1 : (firstHops n l a b).2 = true
  ·rw [if_pos h1]
   by_cases h2 : 0 ≤ m ∧ m ≤ 1000
   ·rw [if_pos h2]
    by_cases h3 : ((firstHops n l a b).1.length : Int) = 0
    ·rw [if_pos h3]
     simp only [Bool.false_eq_true, if_false]
     exact Ev.now _
    ·rw [if_neg h3]
     simp only [if_true]
     refine Ev.bind hi ?_
     simp only [if_pos h1]
     have t0 := Int.tmod_nonneg ((firstHops n l a b).1.length : Int) h2.1
     have t1 := Int.tmod_lt_of_pos m (show 0 < ((firstHops n l a b).1.length : Int) by omega)
     refine Ev.bind (lawHas_ev (by omega) ?_) (Ev.now _)
     unfold rd
     rw [List.getD_eq_getElem?_getD, List.getElem?_eq_getElem (by omega)]
     exact List.getElem_mem _
   ·rw [if_neg h2]
    simp only [Bool.false_eq_true, if_false]
    exact Ev.now _
  ·rw [if_neg h1]
   simp only [Bool.false_eq_true, if_false]
   exact Ev.now _
 have hj1 : Ev (fun k => laws_FnHops.j1 k d) true := by
  obtain ⟨n, l, a, b, e, hl⟩ := drawFirst_ok d hdb (by omega)
  have hfl := firstHops_len n l a b
  refine Ev.succ ?_
  simp only [laws_FnHops.j1]
  refine Ev.bind e ?_
  refine Ev.bind (implFirstHops_ev n l a b (by omega)) ?_
  refine Ev.bind (specFirstHops_ev n l a b (by omega)) ?_
  simp only [bne_self_eq_false, Bool.false_eq_true, if_false]
  refine Ev.bind (sameInts_ev _ _ (by omega)) ?_
  simp only [decide_true, Bool.not_true]
  refine Ev.succ ?_
  simp only [laws_FnHops.j2, Bool.false_eq_true, if_false]
  unfold firstHops at hfl ⊢
  by_cases h1 : two n l a b
  ·rw [if_pos h1] at hfl ⊢
   have h' := two_lt h1
   have hn := goodE_n h'.1
   by_cases h2 : a = b
   ·rw [if_pos h2]
    simp only [Bool.false_eq_true, if_false]
    exact hj4
   ·rw [if_neg h2] at hfl ⊢
    simp only [if_true]
    refine Ev.bind (implFarsFrom_ev n l b (by omega)) ?_
    rw [show farsFrom n l b = (farsM n.toNat l b, true) by unfold farsFrom; rw [if_pos h'.1, if_pos ⟨h'.2.2.2.1, by rw [top_is hn.1 hn.2.1]; omega⟩]]
    have hlen : (hopsM n.toNat l a b).length ≤ 12 := hfl
    have := hopLaw_l0 d h'.1 (by omega) h'.2.1 h'.2.2.1 h'.2.2.2.1 h'.2.2.2.2 true hj4 (hopsM n.toNat l a b) [] (by rw [List.nil_append]; omega) (fun u hu => hu)
    exact this
  ·rw [if_neg h1]
   simp only [Bool.false_eq_true, if_false]
   exact hj4
 obtain ⟨n, l, a, b, e, hl⟩ := drawFirst_ok c hcb (by omega)
 have hdraw : Ev (fun k => spec_DrawWayTo.f k c) (n, l, a, b) := by
  unfold spec_DrawWayTo.f
  exact Ev.bind e (Ev.now _)
 have hwl := wayM_len n l a b
 refine Ev.bind hdraw ?_
 refine Ev.bind (implWayTo_ev n l a b (by omega)) ?_
 refine Ev.bind (specWayTo_ev n l a b (by omega)) ?_
 simp only [bne_self_eq_false, Bool.false_eq_true, if_false, if_true]
 refine Ev.bind (sameInts_ev _ _ (by omega)) ?_
 simp only [decide_true, Bool.not_true]
 refine Ev.succ ?_
 simp only [laws_FnHops.j0, Bool.false_eq_true, if_false]
 unfold wayM at hwl ⊢
 by_cases h1 : two n l a b
 ·rw [if_pos h1] at hwl ⊢
  have h' := two_lt h1
  have hn := goodE_n h'.1
  by_cases hf : rd (farsM n.toNat l b) a = 100000
  ·rw [if_pos hf]
   simp only [Bool.false_eq_true, if_false]
   exact hj1
  ·rw [if_neg hf] at hwl ⊢
   have hw : (wayList n l a b).length ≤ 12 := hwl
   have wok := wayList_ok h1 hf
   have hlast := rd_getLast wok.last
   have hla := farsM_len n.toNat l a
   simp only [if_true]
   refine Ev.bind (implCostOf_ev n l (wayList n l a b) (by omega) (by omega)) ?_
   refine Ev.bind (implFarsFrom_ev n l a (by omega)) ?_
   rw [cost_way h1 hf, show farsFrom n l a = (farsM n.toNat l a, true) by unfold farsFrom; rw [if_pos h'.1, if_pos ⟨h'.2.1, by rw [top_is hn.1 hn.2.1]; omega⟩]]
   have hlen : 0 < (wayList n l a b).length := hlast.1
   have hl2 : rd (wayList n l a b) (((wayList n l a b).length : Int) - 1) = b := hlast.2
   have hh : rd (wayList n l a b) 0 = a := rfl
   rw [wrap_id (x := ((wayList n l a b).length : Int) - 1) (by omega) (by omega)]
   simp only [if_true, if_pos h'.2.2.2.1, hla, if_pos (show b < ((n.toNat : Nat) : Int) by omega), if_pos (fars_symm h'.1 h'.2.1 h'.2.2.1 h'.2.2.2.1 h'.2.2.2.2), if_pos (show (0 : Int) < ((wayList n l a b).length : Int) by omega), hh, if_pos (show (0 : Int) ≤ ((wayList n l a b).length : Int) - 1 by omega), if_pos (show ((wayList n l a b).length : Int) - 1 < ((wayList n l a b).length : Int) by omega), hl2]
   exact hj1
 ·rw [if_neg h1]
  simp only [Bool.false_eq_true, if_false]
  exact hj1
end Go.Proofs.Ytklecgkjoofipaa.Pure
