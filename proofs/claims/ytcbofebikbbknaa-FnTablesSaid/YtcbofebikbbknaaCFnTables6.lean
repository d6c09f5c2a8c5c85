/- Functions, walks and plain lemmas that the law FnTables reaches, part 6. -/
import Derived.Test.YtcbofebikbbknaaCFnTables5
import Derived.Below
import Derived.Deep.Draws
import Derived.Deep.AppendLies
import Derived.Maps.AppendAt
import Derived.OwnWalk
import Derived.Laws.BytesArg
import Derived.Laws.MakeOwn
import Derived.Laws.OwnMore
import Derived.Deep.OwnRows
import Derived.Tactics
import Derived.Lib.ConvBytes
import Derived.Laws.Slices
import Derived.WalkKit
import Derived.KernelRfl
import Derived.RowKit3
import Derived.Deep.LoopGhost
import Derived.Deep.QuietTactic
import Derived.BigQuiet
import Derived.WideLaws
import Derived.Deep.DeepCutAuto
import Derived.Deep.CutBlock
import Derived.Deep.RegionHeld3
import Derived.Laws.Rows
import Derived.Lib.AppendStr
import Derived.ArgAppend
import Derived.Laws.IdiomCopy
import Derived.OrdersHeld
import Derived.Laws.BitsLemmas
import Derived.RowKit
import Derived.WalkSpells
import Derived.Lib.SliceRun
import Derived.Shelf.Abstract
import Derived.ProofKit
import Derived.OpenShut
import Derived.ShutString
import Derived.ChangeOld
import Derived.SizedLaws
namespace Go.Proofs.Ytcbofebikbbknaa.P
open Go.RowKit Go.Proofs.YtcbofebikbbknaaW.PrintWords Go.Proofs.YtcbofebikbbknaaW.PrintLast
set_option linter.unusedVariables false
set_option linter.unusedSimpArgs false
theorem kept_l (p : S53 → Bool) (a : Int) (suf : List S53) : ∀ (pre out : List S53), ((pre ++ suf).length : Int) ≤ 1048576 → out.length ≤ pre.length →
  Ev (fun k => impl_Table_kept.l0 p k (pre ++ suf) ((pre ++ suf).length : Int) pre.length a out) (a, out ++ suf.filter p) := by
 induction suf with
 | nil =>
  intro pre out h ho
  refine Ev.succ ?_
  simp only [impl_Table_kept.l0, List.append_nil, Int.lt_irrefl, if_false, List.filter_nil]
  exact Ev.now _
 | cons x suf ih =>
  intro pre out h ho
  refine Ev.succ ?_
  rw [len_mid] at h ⊢
  have := fun o ho => ih (pre ++ [x]) o (by rw [← app_one, len_mid]; exact h) ho
  rw [← app_one, len_mid, len_one] at this
  simp only [impl_Table_kept.l0]
  simp only [if_pos (show ((pre.length : Int) < pre.length + suf.length + 1) by omega), if_pos (show (0 : Int) ≤ pre.length by omega), len_mid, rdSeen_mid, wrap_id (show (-9223372036854775808 : Int) ≤ pre.length + 1 by omega) (show ((pre.length : Int) + 1 ≤ 9223372036854775807) by omega), Option.bind_some, eta3]
  cases hp : p x with
  | true =>
   simp only [if_true, if_pos (show out.length < 5864062014805 by omega)]
   rw [List.filter_cons_of_pos hp, app_one out x (suf.filter p)]
   exact this (out ++ [x]) (by simp only [List.length_append, List.length_singleton]; omega)
  | false =>
   simp only [Bool.false_eq_true, if_false]
   rw [List.filter_cons_of_neg (by rw [hp]; exact Bool.false_ne_true)]
   exact this out (by rw [List.length_append]; omega)
theorem kept_ev (p : S53 → Bool) (a : Int) (l : List S53) (hl : l.length ≤ 1048576) : Ev (fun k => impl_Table_kept.f k a l p) (a, l.filter p) := by
 have := kept_l p a l [] [] (by rw [List.nil_append]; omega) (by simp)
 exact this
def learnM (a : Int) (l : List S53) (x : S53) : List S53 := (x :: l.filter fun y => y.f0 != x.f0).take a.toNat
theorem learnM_len (a : Int) (l : List S53) (x : S53) : (learnM a l x).length ≤ a.toNat := List.length_take_le ..
theorem implLearn_ev (a : Int) (l : List S53) (x : S53) (ha : 0 ≤ a) (hl : l.length ≤ 1048575) : Ev (fun k => impl_Table_learn.f k a l x.f0 x.f1 x.f2) (a, learnM a l x) := by
 unfold impl_Table_learn.f
 refine Ev.bind (kept_ev _ a l (by omega)) ?_
 have hf := List.length_filter_le (fun y : S53 => y.f0 != x.f0) l
 simp only [Option.bind_some, eta3, List.length_singleton, if_pos (show 1 + (l.filter fun y => y.f0 != x.f0).length < 5864062014805 by omega), List.singleton_append]
 have hmn : mn ((x :: l.filter fun y => y.f0 != x.f0).length : Int) a = min ((x :: l.filter fun y => y.f0 != x.f0).length : Int) a := by
  unfold mn
  split
  ·rw [Int.min_eq_right (by omega)]
  ·rw [Int.min_eq_left (by omega)]
 rw [hmn]
 simp only [if_pos (show 0 ≤ min ((x :: l.filter fun y => y.f0 != x.f0).length : Int) a by omega), if_pos (show min ((x :: l.filter fun y => y.f0 != x.f0).length : Int) a ≤ ((x :: l.filter fun y => y.f0 != x.f0).length : Int) by omega)]
 refine Ev.some_ ?_
 unfold learnM
 congr 1
 generalize (x :: l.filter fun y => y.f0 != x.f0) = L
 by_cases h : (L.length : Int) ≤ a
 ·rw [Int.min_eq_left h, Int.toNat_natCast, List.take_length, List.take_of_length_le (by omega)]
 ·rw [Int.min_eq_right (by omega)]
theorem specLearn_l (a : Int) (l0 : List S53) (x : S53) (suf : List S53) : ∀ (pre out : List S53), ((pre ++ suf).length : Int) ≤ 1048576 → out.length ≤ pre.length + 1 → (out.length : Int) ≤ a →
  Ev (fun k => spec_l13Learn.l0 k (pre ++ suf) ((pre ++ suf).length : Int) pre.length a l0 x.f0 x.f1 x.f2 a out) (a, (out ++ suf.filter fun y => y.f0 != x.f0).take a.toNat) := by
 induction suf with
 | nil =>
  intro pre out h ho ha
  refine Ev.succ ?_
  simp only [spec_l13Learn.l0, List.append_nil, Int.lt_irrefl, if_false, List.filter_nil]
  rw [List.take_of_length_le (by omega)]
  exact Ev.now _
 | cons y suf ih =>
  intro pre out h ho ha
  refine Ev.succ ?_
  rw [len_mid] at h ⊢
  have := fun o ho => ih (pre ++ [y]) o (by rw [← app_one, len_mid]; exact h) ho
  rw [← app_one, len_mid, len_one] at this
  simp only [spec_l13Learn.l0]
  simp only [if_pos (show ((pre.length : Int) < pre.length + suf.length + 1) by omega), if_pos (show (0 : Int) ≤ pre.length by omega), len_mid, rdSeen_mid, wrap_id (show (-9223372036854775808 : Int) ≤ pre.length + 1 by omega) (show ((pre.length : Int) + 1 ≤ 9223372036854775807) by omega), eta3]
  by_cases h1 : y.f0 = x.f0
  ·simp only [if_pos h1]
   rw [List.filter_cons_of_neg (by simp [h1])]
   exact this out (by rw [List.length_append]; omega) ha
  ·simp only [if_neg h1]
   rw [List.filter_cons_of_pos (by simp [h1])]
   by_cases h2 : (out.length : Int) < a
   ·simp only [if_pos h2, if_pos (show out.length < 5864062014805 by omega)]
    rw [app_one out y (suf.filter fun y => y.f0 != x.f0)]
    exact this (out ++ [y]) (by simp only [List.length_append, List.length_singleton]; omega) (by rw [len_one]; omega)
   ·simp only [if_neg h2]
    have h3 := this out (by rw [List.length_append]; omega) ha
    rw [List.take_append_of_le_length (by omega)] at h3 ⊢
    exact h3
theorem specLearn_ev (a : Int) (l : List S53) (x : S53) (ha : 1 ≤ a) (hl : l.length ≤ 1048576) : Ev (fun k => spec_l13Learn.f k a l x.f0 x.f1 x.f2) (a, learnM a l x) := by
 have := specLearn_l a l x l [] [x] (by rw [List.nil_append]; omega) (by simp) (by simpa using ha)
 exact this
/-- the row of a host -/
def findM (l : List S53) (h : Int) : Int := ixF53 (fun x => x.f0 == h) l 0
theorem specFind_l (h : Int) (suf : List S53) : ∀ (pre : List S53), ((pre ++ suf).length : Int) ≤ 1099511627776 →
  Ev (fun k => spec_l13Find.l0 k h (pre ++ suf) ((pre ++ suf).length : Int) pre.length) (ixF53 (fun x => x.f0 == h) suf pre.length) := by
 induction suf with
 | nil =>
  intro pre hl
  refine Ev.succ ?_
  simp only [spec_l13Find.l0, List.append_nil, Int.lt_irrefl, if_false, ixF53]
  exact Ev.now _
 | cons y suf ih =>
  intro pre hl
  refine Ev.succ ?_
  rw [len_mid] at hl ⊢
  have := ih (pre ++ [y]) (by rw [← app_one, len_mid]; exact hl)
  rw [← app_one, len_mid, len_one] at this
  simp only [spec_l13Find.l0, ixF53]
  simp only [if_pos (show ((pre.length : Int) < pre.length + suf.length + 1) by omega), if_pos (show (0 : Int) ≤ pre.length by omega), len_mid, rdSeen_mid, wrap_id (show (-9223372036854775808 : Int) ≤ pre.length + 1 by omega) (show ((pre.length : Int) + 1 ≤ 9223372036854775807) by omega), beq_iff_eq]
  by_cases h1 : y.f0 = h
  ·simp only [if_pos h1]
   exact Ev.now _
  ·simp only [if_neg h1]
   exact this
theorem specFind_ev (a : Int) (l : List S53) (h : Int) (hl : l.length ≤ 1048576) : Ev (fun k => spec_l13Find.f k a l h) (findM l h) := by
 have := specFind_l h l [] (by rw [List.nil_append]; omega)
 exact this
theorem findM_neg (l : List S53) (h : Int) : findM l h < 0 ↔ l.any (fun x => x.f0 == h) = false := by
 unfold findM
 cases hc : l.any (fun x => x.f0 == h) with
 | true =>
  have := ix_some _ l 0 hc
  simp only [Bool.true_eq_false, iff_false]
  omega
 | false =>
  rw [ix_none _ _ _ hc]
  simp
end Go.Proofs.Ytcbofebikbbknaa.P

namespace Go.Proofs.Ytcbofebikbbknaa.P
open Go.RowKit Go.Proofs.YtcbofebikbbknaaW.PrintWords Go.Proofs.YtcbofebikbbknaaW.PrintLast
set_option linter.unusedVariables false
set_option linter.unusedSimpArgs false
def earlier (o : Option S53) (x : S53) : Bool := match o with
 | none => true
 | some y => !decide (y.f2 > x.f2)
def goH (o : Option S53) : List S53 → Bool
 | [] => true
 | x :: r => okSeen x && (earlier o x && goH (some x) r)
def goodH (a : Int) (l : List S53) : Bool := goH none l && (decide (1 ≤ a ∧ a ≤ 8) && decide ((l.length : Int) ≤ 60))
def hitOf (l : List S53) (x : S53) (n : Int) : Int := if findM l x.f0 ≥ 0 then wrap64 (n + 1) else n
def playM (a : Int) : List S53 → List S53 → List S53
 | t, [] => t
 | t, x :: r => playM a (learnM a t x) r
def hitsM (a : Int) : List S53 → Int → List S53 → Int
 | _, n, [] => n
 | t, n, x :: r => hitsM a (learnM a t x) (hitOf t x n) r
theorem specHeard_l (a : Int) (l : List S53) (hl : l.length ≤ 1048576) (suf : List S53) : ∀ (pre : List S53), pre ++ suf = l →
  Ev (fun k => spec_l13Heard.l0 k a l l (l.length : Int) pre.length) (goH pre.getLast? suf && (decide (1 ≤ a ∧ a ≤ 8) && decide ((l.length : Int) ≤ 60))) := by
 induction suf with
 | nil =>
  intro pre h
  rw [List.append_nil] at h
  subst h
  refine Ev.succ ?_
  simp only [spec_l13Heard.l0, Int.lt_irrefl, if_false, specIn3, Option.bind_some]
  rw [show goH pre.getLast? [] = true by cases pre.getLast? <;> rfl, Bool.true_and]
  by_cases h1 : 1 ≤ a ∧ a ≤ 8
  ·simp only [h1, and_self, decide_true, if_true, Bool.true_and]
   exact Ev.now _
  ·simp only [h1, decide_false, Bool.false_eq_true, if_false, Bool.false_and]
   exact Ev.now _
 | cons x suf ih =>
  intro pre h
  have h' := ih (pre ++ [x]) (by rw [← app_one]; exact h)
  rw [len_one, List.getLast?_concat] at h'
  refine Ev.succ ?_
  have hlen : (l.length : Int) = pre.length + suf.length + 1 := by rw [← h, len_mid]
  have hx : rd_T53 l (pre.length : Int) = x := by rw [← h]; exact rdSeen_mid pre x suf
  simp only [spec_l13Heard.l0]
  simp only [if_pos (show ((pre.length : Int) < l.length) by omega), if_pos (show (0 : Int) ≤ pre.length by omega), hx, specRow3, Option.bind_some, wrap_id (show (-9223372036854775808 : Int) ≤ pre.length + 1 by omega) (show ((pre.length : Int) + 1 ≤ 9223372036854775807) by omega)]
  generalize (decide (1 ≤ a ∧ a ≤ 8) && decide ((l.length : Int) ≤ 60)) = fin at h' ⊢
  have eg : goH pre.getLast? (x :: suf) = (okSeen x && (earlier pre.getLast? x && goH (some x) suf)) := by cases pre.getLast? <;> rfl
  rw [eg]
  cases hk : okSeen x with
  | false =>
   simp only [Bool.false_eq_true, if_false, Bool.false_and]
   exact Ev.now _
  | true =>
   simp only [if_true, Bool.true_and]
   rcases nil_or_snoc pre with rfl | ⟨p, y, rfl⟩
   ·simp only [List.length_nil, Int.ofNat_zero, gt_iff_lt, Int.lt_irrefl, if_false, List.getLast?_nil, earlier, Bool.true_and] at h' ⊢
    exact h'
   ·have hy : rd_T53 l (wrap64 (((p ++ [y]).length : Int) - 1)) = y := by
     rw [wrap_id (by omega) (by omega), len_one, show (p.length : Int) + 1 - 1 = p.length by omega, ← h, ← app_one]
     exact rdSeen_mid p y _
    have h0 : (0 : Int) ≤ wrap64 (((p ++ [y]).length : Int) - 1) ∧ wrap64 (((p ++ [y]).length : Int) - 1) < l.length := by
     rw [wrap_id (by omega) (by omega)]
     rw [len_one] at hlen ⊢
     omega
    simp only [if_pos (show (((p ++ [y]).length : Int)) > 0 by rw [len_one]; omega), if_pos h0.1, if_pos h0.2, hy]
    have hlast : (p ++ [y]).getLast? = some y := by simp
    by_cases ht : y.f2 > x.f2
    ·simp only [if_pos ht, hlast, earlier, decide_eq_true ht, Bool.not_true, Bool.false_and]
     exact Ev.now _
    ·simp only [if_neg ht, hlast, earlier, decide_eq_false ht, Bool.not_false, Bool.true_and]
     exact h'
theorem specHeard_ev (a : Int) (l : List S53) (hl : l.length ≤ 1048576) : Ev (fun k => spec_l13Heard.f k a l) (goodH a l) := specHeard_l a l hl l [] rfl
theorem implHeard_l1 (a : Int) (ha : 1 ≤ a ∧ a ≤ 8) (suf : List S53) : ∀ (pre t : List S53) (n : Int), ((pre ++ suf).length : Int) ≤ 1048576 → t.length ≤ 8 →
  Ev (fun k => impl_heard.l1 k n (pre ++ suf) ((pre ++ suf).length : Int) pre.length a t) (a, playM a t suf, hitsM a t n suf, true) := by
 induction suf with
 | nil =>
  intro pre t n h ht
  refine Ev.succ ?_
  simp only [impl_heard.l1, List.append_nil, Int.lt_irrefl, if_false, playM, hitsM]
  exact Ev.now _
 | cons x suf ih =>
  intro pre t n h ht
  refine Ev.succ ?_
  rw [len_mid] at h ⊢
  have := fun t n ht => ih (pre ++ [x]) t n (by rw [← app_one, len_mid]; exact h) ht
  rw [← app_one, len_mid, len_one] at this
  have hl := learnM_len a t x
  have hlearn := implLearn_ev a t x (by omega) (by omega)
  simp only [impl_heard.l1]
  simp only [if_pos (show ((pre.length : Int) < pre.length + suf.length + 1) by omega), if_pos (show (0 : Int) ≤ pre.length by omega), len_mid, rdSeen_mid, wrap_id (show (-9223372036854775808 : Int) ≤ pre.length + 1 by omega) (show ((pre.length : Int) + 1 ≤ 9223372036854775807) by omega), show impl_row.f t x.f0 = some (findM t x.f0) from rfl, Option.bind_some, playM, hitsM, hitOf]
  by_cases h1 : findM t x.f0 ≥ 0
  ·simp only [if_pos h1]
   exact Ev.bind hlearn (this (learnM a t x) _ (by omega))
  ·simp only [if_neg h1]
   exact Ev.bind hlearn (this (learnM a t x) _ (by omega))
theorem specPlay_l (a : Int) (ha : 1 ≤ a ∧ a ≤ 8) (suf : List S53) : ∀ (pre t : List S53), ((pre ++ suf).length : Int) ≤ 1048576 → t.length ≤ 8 →
  Ev (fun k => spec_PlayTable.l0 k (pre ++ suf) ((pre ++ suf).length : Int) pre.length a t) (a, playM a t suf, true) := by
 induction suf with
 | nil =>
  intro pre t h ht
  refine Ev.succ ?_
  simp only [spec_PlayTable.l0, List.append_nil, Int.lt_irrefl, if_false, playM]
  exact Ev.now _
 | cons x suf ih =>
  intro pre t h ht
  refine Ev.succ ?_
  rw [len_mid] at h ⊢
  have := fun t ht => ih (pre ++ [x]) t (by rw [← app_one, len_mid]; exact h) ht
  rw [← app_one, len_mid, len_one] at this
  have hl := learnM_len a t x
  have hlearn := specLearn_ev a t x (by omega) (by omega)
  simp only [spec_PlayTable.l0]
  simp only [if_pos (show ((pre.length : Int) < pre.length + suf.length + 1) by omega), if_pos (show (0 : Int) ≤ pre.length by omega), len_mid, rdSeen_mid, wrap_id (show (-9223372036854775808 : Int) ≤ pre.length + 1 by omega) (show ((pre.length : Int) + 1 ≤ 9223372036854775807) by omega), playM]
  exact Ev.bind hlearn (this (learnM a t x) (by omega))
theorem specHits_l (a : Int) (ha : 1 ≤ a ∧ a ≤ 8) (suf : List S53) : ∀ (pre t : List S53) (n : Int), ((pre ++ suf).length : Int) ≤ 1048576 → t.length ≤ 8 →
  Ev (fun k => spec_HitsIn.l0 k n (pre ++ suf) ((pre ++ suf).length : Int) pre.length a t) (hitsM a t n suf, true) := by
 induction suf with
 | nil =>
  intro pre t n h ht
  refine Ev.succ ?_
  simp only [spec_HitsIn.l0, List.append_nil, Int.lt_irrefl, if_false, hitsM]
  exact Ev.now _
 | cons x suf ih =>
  intro pre t n h ht
  refine Ev.succ ?_
  rw [len_mid] at h ⊢
  have := fun t n ht => ih (pre ++ [x]) t n (by rw [← app_one, len_mid]; exact h) ht
  rw [← app_one, len_mid, len_one] at this
  have hl := learnM_len a t x
  have hlearn := specLearn_ev a t x (by omega) (by omega)
  simp only [spec_HitsIn.l0]
  simp only [if_pos (show ((pre.length : Int) < pre.length + suf.length + 1) by omega), if_pos (show (0 : Int) ≤ pre.length by omega), len_mid, rdSeen_mid, wrap_id (show (-9223372036854775808 : Int) ≤ pre.length + 1 by omega) (show ((pre.length : Int) + 1 ≤ 9223372036854775807) by omega), hitsM, hitOf]
  refine Ev.bind (specFind_ev a t x.f0 (by omega)) ?_
  by_cases h1 : findM t x.f0 ≥ 0
  ·simp only [if_pos h1]
   exact Ev.bind hlearn (this (learnM a t x) _ (by omega))
  ·simp only [if_neg h1]
   exact Ev.bind hlearn (this (learnM a t x) _ (by omega))
theorem implHeard_l0 (a : Int) (ha : 1 ≤ a ∧ a ≤ 8) (l : List S53) (hl : l.length ≤ 1048576) (suf : List S53) : ∀ (pre : List S53), pre ++ suf = l →
  Ev (fun k => impl_heard.l0 k l l (l.length : Int) pre.length a []) (if goH pre.getLast? suf = true then (a, playM a [] l, hitsM a [] 0 l, true) else (0, [], 0, false)) := by
 induction suf with
 | nil =>
  intro pre h
  rw [List.append_nil] at h
  subst h
  refine Ev.succ ?_
  simp only [impl_heard.l0, Int.lt_irrefl, if_false]
  rw [show goH pre.getLast? [] = true by cases pre.getLast? <;> rfl, if_pos rfl]
  have := implHeard_l1 a ha pre [] [] 0 (by rw [List.nil_append]; omega) (by simp)
  exact this
 | cons x suf ih =>
  intro pre h
  have h' := ih (pre ++ [x]) (by rw [← app_one]; exact h)
  rw [len_one, List.getLast?_concat] at h'
  refine Ev.succ ?_
  have hlen : (l.length : Int) = pre.length + suf.length + 1 := by rw [← h, len_mid]
  have hx : rd_T53 l (pre.length : Int) = x := by rw [← h]; exact rdSeen_mid pre x suf
  simp only [impl_heard.l0]
  simp only [if_pos (show ((pre.length : Int) < l.length) by omega), if_pos (show (0 : Int) ≤ pre.length by omega), hx, implSeen3, Option.bind_some, wrap_id (show (-9223372036854775808 : Int) ≤ pre.length + 1 by omega) (show ((pre.length : Int) + 1 ≤ 9223372036854775807) by omega)]
  have eg : goH pre.getLast? (x :: suf) = (okSeen x && (earlier pre.getLast? x && goH (some x) suf)) := by cases pre.getLast? <;> rfl
  rw [eg]
  cases hk : okSeen x with
  | false =>
   simp only [Bool.false_eq_true, if_false, Bool.false_and]
   exact Ev.now _
  | true =>
   simp only [if_true, Bool.true_and]
   rcases nil_or_snoc pre with rfl | ⟨p, y, rfl⟩
   ·simp only [List.length_nil, Int.ofNat_zero, gt_iff_lt, Int.lt_irrefl, if_false, List.getLast?_nil, earlier, Bool.true_and] at h' ⊢
    exact h'
   ·have hy : rd_T53 l (wrap64 (((p ++ [y]).length : Int) - 1)) = y := by
     rw [wrap_id (by omega) (by omega), len_one, show (p.length : Int) + 1 - 1 = p.length by omega, ← h, ← app_one]
     exact rdSeen_mid p y _
    have h0 : (0 : Int) ≤ wrap64 (((p ++ [y]).length : Int) - 1) ∧ wrap64 (((p ++ [y]).length : Int) - 1) < l.length := by
     rw [wrap_id (by omega) (by omega)]
     rw [len_one] at hlen ⊢
     omega
    simp only [if_pos (show (((p ++ [y]).length : Int)) > 0 by rw [len_one]; omega), if_pos h0.1, if_pos h0.2, hy]
    have hlast : (p ++ [y]).getLast? = some y := by simp
    by_cases ht : y.f2 > x.f2
    ·simp only [if_pos ht, hlast, earlier, decide_eq_true ht, Bool.not_true, Bool.false_and, Bool.false_eq_true, if_false]
     exact Ev.now _
    ·simp only [if_neg ht, hlast, earlier, decide_eq_false ht, Bool.not_false, Bool.true_and]
     exact h'
def heardM (a : Int) (l : List S53) : Int × List S53 × Int × Bool := if goodH a l = true then (a, playM a [] l, hitsM a [] 0 l, true) else (0, [], 0, false)
theorem implHeard_ev (a : Int) (l : List S53) (hl : l.length ≤ 1048576) : Ev (fun k => impl_heard.f k a l) (heardM a l) := by
 unfold impl_heard.f heardM goodH impl_NewTable.f
 have bad : ∀ (b : Int) (t : List S53), Ev (fun k => impl_heard.j0 k l true b t) ((0 : Int), ([] : List S53), (0 : Int), false) := by
  intro b t
  refine Ev.succ ?_
  simp only [impl_heard.j0, if_true]
  exact Ev.now _
 simp only [implIn3, Option.bind_some]
 by_cases h1 : 1 ≤ a ∧ a ≤ 8
 ·simp only [h1, and_self, decide_true, if_true, Option.bind_some, Bool.true_and]
  by_cases h2 : (l.length : Int) > 60
  ·rw [decide_eq_true h2, decide_eq_false (show ¬ (l.length : Int) ≤ 60 by omega), Bool.and_false, if_neg Bool.false_ne_true]
   exact bad _ _
  ·rw [decide_eq_false h2, decide_eq_true (show (l.length : Int) ≤ 60 by omega), Bool.and_true]
   refine Ev.succ ?_
   simp only [impl_heard.j0, Bool.false_eq_true, if_false]
   exact implHeard_l0 a h1 l hl l [] rfl
 ·simp only [h1, decide_false, Bool.false_eq_true, if_false, Option.bind_some, Bool.false_and, Bool.and_false]
  exact bad _ _
theorem playM_len (a : Int) : ∀ (l t : List S53), t.length ≤ a.toNat → (playM a t l).length ≤ a.toNat
 | [], _, h => h
 | x :: l, t, h => playM_len a l _ (learnM_len a t x)
theorem heardM_len (a : Int) (l : List S53) : (heardM a l).2.1.length ≤ 8 := by
 unfold heardM
 split
 ·rename_i h
  unfold goodH at h
  rw [Bool.and_eq_true, Bool.and_eq_true, decide_eq_true_eq] at h
  have := playM_len a l [] (by simp)
  show (playM a [] l).length ≤ 8
  omega
 ·simp
theorem specPlay_ev (a : Int) (l : List S53) (hl : l.length ≤ 1048576) : Ev (fun k => spec_PlayTable.f k a l) ((heardM a l).1, (heardM a l).2.1, (heardM a l).2.2.2) := by
 unfold spec_PlayTable.f heardM
 refine Ev.bind (specHeard_ev a l hl) ?_
 by_cases h : goodH a l = true
 ·have h' := h
  unfold goodH at h'
  rw [Bool.and_eq_true, Bool.and_eq_true, decide_eq_true_eq] at h'
  simp only [if_pos h]
  have := specPlay_l a h'.2.1 l [] [] (by rw [List.nil_append]; omega) (by simp)
  exact this
 ·simp only [if_neg h]
  exact Ev.now _
theorem implPlay_ev (a : Int) (l : List S53) (hl : l.length ≤ 1048576) : Ev (fun k => impl_PlayTable.f k a l) ((heardM a l).1, (heardM a l).2.1, (heardM a l).2.2.2) := by
 unfold impl_PlayTable.f
 exact Ev.bind (implHeard_ev a l hl) (Ev.now _)
theorem specHits_ev (a : Int) (l : List S53) (hl : l.length ≤ 1048576) : Ev (fun k => spec_HitsIn.f k a l) ((heardM a l).2.2.1, (heardM a l).2.2.2) := by
 unfold spec_HitsIn.f heardM
 refine Ev.bind (specHeard_ev a l hl) ?_
 by_cases h : goodH a l = true
 ·have h' := h
  unfold goodH at h'
  rw [Bool.and_eq_true, Bool.and_eq_true, decide_eq_true_eq] at h'
  simp only [if_pos h]
  have := specHits_l a h'.2.1 l [] [] 0 (by rw [List.nil_append]; omega) (by simp)
  exact this
 ·simp only [if_neg h]
  exact Ev.now _
theorem implHits_ev (a : Int) (l : List S53) (hl : l.length ≤ 1048576) : Ev (fun k => impl_HitsIn.f k a l) ((heardM a l).2.2.1, (heardM a l).2.2.2) := by
 unfold impl_HitsIn.f
 exact Ev.bind (implHeard_ev a l hl) (Ev.now _)
end Go.Proofs.Ytcbofebikbbknaa.P

namespace Go.Proofs.Ytcbofebikbbknaa.P
open Go.RowKit Go.Proofs.YtcbofebikbbknaaW.PrintWords Go.Proofs.YtcbofebikbbknaaW.PrintLast
set_option linter.unusedVariables false
set_option linter.unusedSimpArgs false
/-- rows that are good: seen, of hosts of their own, none later than one ahead -/
def GT (l : List S53) : Prop := (∀ x ∈ l, okSeen x = true) ∧ l.Pairwise (fun y x => x.f2 ≤ y.f2 ∧ y.f0 ≠ x.f0)
theorem goT_of (suf : List S53) : ∀ (pre : List S53), GT (pre ++ suf) → goT pre suf = true := by
 induction suf with
 | nil => exact fun _ _ => rfl
 | cons x suf ih =>
  intro pre h
  have h' := h
  rw [app_one] at h'
  obtain ⟨h1, h2⟩ := h
  obtain ⟨hp, _, hc⟩ := List.pairwise_append.1 h2
  have hx : okSeen x = true := h1 x (by simp)
  have hl : later pre.getLast? x = true := by
   rcases nil_or_snoc pre with rfl | ⟨p, y, rfl⟩
   ·rfl
   ·have := (hc y (by simp) x (by simp)).1
    rw [show (p ++ [y]).getLast? = some y by simp]
    simp only [later, Bool.not_eq_true', decide_eq_false_iff_not]
    omega
  have ha : (pre.any fun y => y.f0 == x.f0) = false := by
   rw [List.any_eq_false]
   intro y hy
   have := (hc y hy x (by simp)).2
   simpa using this
  rw [goT, hx, hl, ha, ih (pre ++ [x]) h']
  rfl
theorem GT.learn {l : List S53} (h : GT l) {x : S53} (hx : okSeen x = true) (ht : ∀ y ∈ l, y.f2 ≤ x.f2) (a : Int) : GT (learnM a l x) := by
 have hs : GT (x :: l.filter fun y => y.f0 != x.f0) := by
  refine ⟨fun y hy => ?_, List.pairwise_cons.2 ⟨fun y hy => ?_, h.2.filter _⟩⟩
  ·rcases List.mem_cons.1 hy with rfl | hy
   ·exact hx
   ·exact h.1 y (List.mem_filter.1 hy).1
  ·obtain ⟨h1, h2⟩ := List.mem_filter.1 hy
   exact ⟨ht y h1, fun e => by simp [e] at h2⟩
 unfold learnM
 exact ⟨fun y hy => hs.1 y (List.mem_of_mem_take hy), hs.2.sublist (List.take_sublist _ _)⟩
theorem learnM_le {a : Int} {l : List S53} {x : S53} (ht : ∀ y ∈ l, y.f2 ≤ x.f2) : ∀ y ∈ learnM a l x, y.f2 ≤ x.f2 := by
 intro y hy
 unfold learnM at hy
 rcases List.mem_cons.1 (List.mem_of_mem_take hy) with rfl | hy
 ·exact Int.le_refl _
 ·exact ht y (List.mem_filter.1 hy).1
/-- what was heard last is no earlier than all that is in the table -/
def LateT (o : Option S53) (t : List S53) : Prop := match o with
 | none => t = []
 | some z => ∀ y ∈ t, y.f2 ≤ z.f2
theorem goH_step {o : Option S53} {x : S53} {r : List S53} (h : goH o (x :: r) = true) {t : List S53} (hl : LateT o t) : okSeen x = true ∧ (∀ y ∈ t, y.f2 ≤ x.f2) ∧ goH (some x) r = true := by
 have e : goH o (x :: r) = (okSeen x && (earlier o x && goH (some x) r)) := by cases o <;> rfl
 rw [e, Bool.and_eq_true, Bool.and_eq_true] at h
 refine ⟨h.1, fun y hy => ?_, h.2.2⟩
 cases o with
 | none =>
  have hl : t = [] := hl
  subst hl
  simp at hy
 | some z =>
  have h1 := hl y hy
  have h2 := h.2.1
  simp only [earlier, Bool.not_eq_true', decide_eq_false_iff_not] at h2
  omega
theorem play_GT (a : Int) : ∀ (l t : List S53) (o : Option S53), goH o l = true → LateT o t → GT t → GT (playM a t l)
 | [], t, o, _, _, ht => ht
 | x :: l, t, o, h, hl, ht => by
  obtain ⟨h1, h2, h3⟩ := goH_step h hl
  rw [playM]
  exact play_GT a l _ (some x) h3 (learnM_le h2) (ht.learn h1 h2 a)
theorem GT_nil : GT [] := ⟨fun x hx => by simp at hx, List.Pairwise.nil⟩
theorem play_good {a : Int} {l : List S53} (h : goodH a l = true) : goodT a (playM a [] l) = true := by
 unfold goodH at h
 rw [Bool.and_eq_true, Bool.and_eq_true, decide_eq_true_eq] at h
 have hg := goT_of (playM a [] l) [] (play_GT a l [] none h.1 rfl GT_nil)
 have hl := playM_len a l [] (by simp)
 unfold goodT
 rw [hg, decide_eq_true h.2.1, decide_eq_true (show ((playM a [] l).length : Int) ≤ a by omega)]
 rfl
/-- of a list with one host each, a cut ahead of a filter on a host loses nothing that is wanted -/
theorem take_filter (h : Int) : ∀ (b : Nat) (u : List S53), u.Pairwise (fun y x => x.f2 ≤ y.f2 ∧ y.f0 ≠ x.f0) → ((u.take (b + 1)).filter fun y => y.f0 != h).take b = (u.filter fun y => y.f0 != h).take b
 | b, [], _ => by simp
 | b, y :: u, hu => by
  obtain ⟨h1, h2⟩ := List.pairwise_cons.1 hu
  rw [List.take_succ_cons]
  by_cases hy : y.f0 = h
  ·rw [List.filter_cons_of_neg (by simp [hy]), List.filter_cons_of_neg (by simp [hy])]
   have hall : u.filter (fun y => y.f0 != h) = u := List.filter_eq_self.2 fun z hz => by
    have := (h1 z hz).2
    rw [hy] at this
    simpa using fun e => this e.symm
   have hall2 : (u.take b).filter (fun y => y.f0 != h) = u.take b := List.filter_eq_self.2 fun z hz => by
    have := (h1 z (List.mem_of_mem_take hz)).2
    rw [hy] at this
    simpa using fun e => this e.symm
   rw [hall, hall2, List.take_take, Nat.min_self]
  ·rw [List.filter_cons_of_pos (by simp [hy]), List.filter_cons_of_pos (by simp [hy])]
   cases b with
   | zero => simp
   | succ b => rw [List.take_succ_cons, List.take_succ_cons, take_filter h b u h2]
theorem learn_take {a : Int} (ha : 1 ≤ a) {u : List S53} (hu : GT u) (x : S53) : learnM a (u.take a.toNat) x = (learnM (a + 1) u x).take a.toNat := by
 obtain ⟨b, hb⟩ : ∃ b, a.toNat = b + 1 := ⟨a.toNat - 1, by omega⟩
 unfold learnM
 rw [List.take_take, show min a.toNat (a + 1).toNat = a.toNat by omega, hb, List.take_succ_cons, List.take_succ_cons, take_filter x.f0 b u hu.2]
theorem find_take {u : List S53} (n : Nat) (h : Int) (hf : findM (u.take n) h ≥ 0) : findM u h ≥ 0 := by
 by_cases c : findM u h < 0
 ·have h1 := (findM_neg u h).1 c
  have h2 : (u.take n).any (fun x => x.f0 == h) = false := by
   rw [List.any_eq_false] at h1 ⊢
   exact fun y hy => h1 y (List.mem_of_mem_take hy)
  have := (findM_neg (u.take n) h).2 h2
  omega
 ·omega
theorem play_take {a : Int} (ha : 1 ≤ a) : ∀ (l u : List S53) (o : Option S53) (n m : Int), goH o l = true → LateT o u → GT u → 0 ≤ n → n ≤ m → m + l.length ≤ 100000 →
  playM a (u.take a.toNat) l = (playM (a + 1) u l).take a.toNat ∧ 0 ≤ hitsM a (u.take a.toNat) n l ∧ hitsM a (u.take a.toNat) n l ≤ hitsM (a + 1) u m l
 | [], u, o, n, m, _, _, _, h0, h1, _ => ⟨rfl, h0, h1⟩
 | x :: l, u, o, n, m, h, hl, hu, h0, h1, h2 => by
  obtain ⟨g1, g2, g3⟩ := goH_step h hl
  rw [List.length_cons] at h2
  rw [playM, playM, hitsM, hitsM, learn_take ha hu x]
  have hn : wrap64 (n + 1) = n + 1 := wrap_id (by omega) (by omega)
  have hm : wrap64 (m + 1) = m + 1 := wrap_id (by omega) (by omega)
  refine play_take ha l _ (some x) _ _ g3 (learnM_le g2) (hu.learn g1 g2 (a + 1)) ?_ ?_ ?_
  ·unfold hitOf
   split <;> omega
  ·unfold hitOf
   by_cases c : findM (u.take a.toNat) x.f0 ≥ 0
   ·rw [if_pos c, if_pos (find_take _ _ c)]
    omega
   ·rw [if_neg c]
    split <;> omega
  ·unfold hitOf
   split <;> omega
theorem lateT_none : LateT none [] := rfl
theorem sameTable_l (a b : Int) (l m : List S53) (s : List S53) : ∀ (pre : List S53), pre ++ s = l → (l.length : Int) ≤ 1099511627776 →
  Ev (fun k => laws_sameTable.l0 k (l.length : Int) pre.length a l b l) true := by
 induction s with
 | nil =>
  intro pre h hb
  rw [List.append_nil] at h
  subst h
  refine Ev.succ ?_
  simp only [laws_sameTable.l0, Int.lt_irrefl, if_false]
  exact Ev.now _
 | cons x s ih =>
  intro pre h hb
  have h' := ih (pre ++ [x]) (by rw [← app_one]; exact h) hb
  rw [len_one] at h'
  have hlen : (l.length : Int) = pre.length + s.length + 1 := by rw [← h, len_mid]
  refine Ev.succ ?_
  simp only [laws_sameTable.l0]
  simp only [if_pos (show (pre.length : Int) < l.length by omega), if_pos (show (0 : Int) ≤ pre.length by omega), beq_self_eq_true, Bool.not_true, Bool.or_false, Bool.false_eq_true, if_false, wrap_id (show (-9223372036854775808 : Int) ≤ pre.length + 1 by omega) (show ((pre.length : Int) + 1 ≤ 9223372036854775807) by omega)]
  exact h'
theorem sameTable_ev (a : Int) (l : List S53) (hl : (l.length : Int) ≤ 1099511627776) : Ev (fun k => laws_sameTable.f k a l a l) true := by
 unfold laws_sameTable.f
 simp only [if_true, bne_self_eq_false]
 refine Ev.succ ?_
 simp only [laws_sameTable.j0, Bool.false_eq_true, if_false]
 exact sameTable_l a a l l l [] rfl hl
theorem tabLaw_l0 (x1 : List Int) (b : Int) (t u : List S53) (R : Bool) (hR : Ev (fun k => laws_FnTables.j4 k x1) R) (hu : t.length ≤ u.length) (hl : (t.length : Int) ≤ 1000) (he : ∀ j : Int, 0 ≤ j → j < t.length → rd_T53 u j = rd_T53 t j) (d : Nat) : ∀ (j : Nat), j + d = t.length →
  Ev (fun k => laws_FnTables.l0 k x1 t (t.length : Int) j b u) R := by
 induction d with
 | zero =>
  intro j hj
  refine Ev.succ ?_
  simp only [laws_FnTables.l0, if_neg (show ¬ (j : Int) < (t.length : Int) by omega)]
  exact hR
 | succ d ih =>
  intro j hj
  have h' := ih (j + 1) (by omega)
  refine Ev.succ ?_
  simp only [laws_FnTables.l0]
  simp only [if_pos (show (j : Int) < (t.length : Int) by omega), if_pos (show (0 : Int) ≤ j by omega), if_pos (show (j : Int) < (u.length : Int) by omega), he j (by omega) (by omega), beq_self_eq_true, Bool.not_true, Bool.or_false, Bool.false_eq_true, if_false, wrap_id (show (-9223372036854775808 : Int) ≤ j + 1 by omega) (show ((j : Int) + 1 ≤ 9223372036854775807) by omega)]
  exact h'
end Go.Proofs.Ytcbofebikbbknaa.P

namespace Go.Proofs.Ytcbofebikbbknaa.P
open Go.RowKit Go.Proofs.YtcbofebikbbknaaW.PrintWords Go.Proofs.YtcbofebikbbknaaW.PrintLast
set_option linter.unusedVariables false
set_option linter.unusedSimpArgs false
theorem and255 (x : Int) : 0 ≤ wrap64 (Go.bits .and .u64 x 255) ∧ wrap64 (Go.bits .and .u64 x 255) ≤ 255 := by
 have e : ∃ n : Nat, n ≤ 255 ∧ Go.bits .and .u64 x 255 = IntKind.u64.wrap (n : Int) := by
  refine ⟨(BitVec.ofInt 64 x &&& BitVec.ofInt 64 255).toNat, ?_, rfl⟩
  rw [BitVec.toNat_and]
  exact Nat.le_trans Nat.and_le_right (by decide)
 obtain ⟨n, hn, e⟩ := e
 rw [e]
 have e2 : IntKind.u64.wrap (n : Int) = (n : Int) := by
  simp only [IntKind.wrap, IntKind.bits, IntKind.signed, Bool.false_and, Bool.false_eq_true, if_false]
  omega
 rw [e2, wrap_id (by omega) (by omega)]
 omega
theorem next_ok (c : List Int) (hc : ∀ x ∈ c, 0 ≤ x ∧ x ≤ 255) (hl : c.length ≤ 1048576) (a s : Int) (h0 : 0 ≤ a) (h1 : a ≤ 1152921504606846976) :
  ∃ r s', spec_l1Cur_next.f c a s = some (r, a + 1, s') ∧ 0 ≤ r ∧ r ≤ 255 := by
 unfold spec_l1Cur_next.f
 rw [wrap_id (x := a + 1) (by omega) (by omega)]
 by_cases h : a < (c.length : Int)
 ·have hm : rd c a ∈ c := by
   unfold rd
   rw [List.getD_eq_getElem?_getD, List.getElem?_eq_getElem (by omega)]
   exact List.getElem_mem _
  have hb := hc _ hm
  rw [if_pos h, if_pos h0]
  by_cases h2 : a + 1 ≤ (c.length : Int)
  ·rw [if_pos h2, wrap_id (x := rd c a) (by omega) (by omega)]
   exact ⟨_, _, rfl, hb.1, hb.2⟩
  ·omega
 ·rw [if_neg h, if_neg (by omega)]
  exact ⟨_, _, rfl, (and255 _).1, (and255 _).2⟩
theorem pick_ok (c : List Int) (hc : ∀ x ∈ c, 0 ≤ x ∧ x ≤ 255) (hl : c.length ≤ 1048576) (a s n : Int) (h0 : 0 ≤ a) (h1 : a ≤ 1125899906842624) :
  ∃ r a' s', spec_l1Cur_pick.f c a s n = some (r, a', s') ∧ 0 ≤ r ∧ (n ≤ 1 → r = 0) ∧ (2 ≤ n → r < n) ∧ a ≤ a' ∧ a' ≤ a + 2 := by
 unfold spec_l1Cur_pick.f
 by_cases hn : n ≤ 1
 ·rw [if_pos hn]
  exact ⟨0, a, s, rfl, by omega, fun _ => rfl, by omega, by omega, by omega⟩
 ·rw [if_neg hn]
  obtain ⟨r, s', e, r0, r1⟩ := next_ok c hc hl a s h0 (by omega)
  rw [e]
  simp only [Option.bind_some]
  by_cases h2 : n > 200
  ·rw [if_pos h2]
   obtain ⟨q, s2, e2, q0, q1⟩ := next_ok c hc hl (a + 1) s' (by omega) (by omega)
   rw [e2]
   simp only [Option.bind_some]
   rw [if_neg (by omega), wrap_id (x := r * 256) (by omega) (by omega), wrap_id (x := r * 256 + q) (by omega) (by omega), Int.tmod_eq_emod_of_nonneg (by omega)]
   exact ⟨_, _, _, rfl, Int.emod_nonneg _ (by omega), fun h => absurd h hn, fun _ => Int.emod_lt_of_pos _ (by omega), by omega, by omega⟩
  ·rw [if_neg h2, if_neg (by omega), Int.tmod_eq_emod_of_nonneg r0]
   exact ⟨_, _, _, rfl, Int.emod_nonneg _ (by omega), fun h => absurd h hn, fun _ => Int.emod_lt_of_pos _ (by omega), by omega, by omega⟩
theorem one_ok (c : List Int) (hc : ∀ x ∈ c, 0 ≤ x ∧ x ≤ 255) (hl : c.length ≤ 1048576) (a s n : Int) (h0 : 0 ≤ a) (h1 : a ≤ 1125899906842624) :
  ∃ b a' s', spec_l1Cur_one.f c a s n = some (b, a', s') ∧ a ≤ a' ∧ a' ≤ a + 2 := by
 unfold spec_l1Cur_one.f
 obtain ⟨r, a', s', e, _, _, _, g1, g2⟩ := pick_ok c hc hl a s n h0 h1
 rw [e]
 exact ⟨_, _, _, rfl, g1, g2⟩
theorem among_ok (c : List Int) (hc : ∀ x ∈ c, 0 ≤ x ∧ x ≤ 255) (hl : c.length ≤ 1048576) (a s : Int) (l : List Int) (hn : 0 < l.length) (h0 : 0 ≤ a) (h1 : a ≤ 1125899906842624) :
  ∃ r a' s', spec_l1Cur_among.f c a s l = some (r, a', s') ∧ r ∈ l ∧ a ≤ a' ∧ a' ≤ a + 2 := by
 unfold spec_l1Cur_among.f
 obtain ⟨r, a', s', e, r0, r1, r2, g1, g2⟩ := pick_ok c hc hl a s (l.length : Int) h0 h1
 rw [e]
 simp only [Option.bind_some]
 have hlt : r < (l.length : Int) := by
  by_cases h : 2 ≤ (l.length : Int)
  ·exact r2 h
  ·have := r1 (by omega); omega
 rw [if_pos r0, if_pos hlt]
 refine ⟨_, _, _, rfl, ?_, g1, g2⟩
 unfold rd
 rw [List.getD_eq_getElem?_getD, List.getElem?_eq_getElem (by omega)]
 exact List.getElem_mem _
theorem bytes_ok {q : List Int} (hq : ∀ x ∈ q, (Lit.int .u8 x).wf = true) : ∀ x ∈ q, 0 ≤ x ∧ x ≤ 255 := fun x hx => by
 have := hq x hx
 simp only [Lit.wf, IntKind.has, IntKind.min, IntKind.max, IntKind.signed, IntKind.bits, Bool.and_eq_true, decide_eq_true_eq, Bool.false_eq_true, if_false] at this
 omega
end Go.Proofs.Ytcbofebikbbknaa.P

namespace Go.Proofs.Ytcbofebikbbknaa.P
open Go.RowKit Go.Proofs.YtcbofebikbbknaaW.PrintWords Go.Proofs.YtcbofebikbbknaaW.PrintLast
set_option linter.unusedVariables false
set_option linter.unusedSimpArgs false
theorem heard_j2 (c : List Int) (hc : ∀ x ∈ c, 0 ≤ x ∧ x ≤ 255) (hl : c.length ≤ 1048576) (l : List S53) (b : Bool) (hb : b = true → 0 < l.length) (hn : l.length ≤ 1000) (a s : Int) (h0 : 0 ≤ a) (h1 : a ≤ 1000000000) :
  ∃ r a' s', Ev (fun k => spec_l1Cur_heard.j2 k l b c a s) (r, a', s') ∧ r.length = l.length := by
 cases b with
 | false =>
  refine ⟨l, a, s, Ev.succ ?_, rfl⟩
  simp only [spec_l1Cur_heard.j2, Bool.false_eq_true, if_false]
  exact Ev.now _
 | true =>
  have hp := hb rfl
  obtain ⟨r1, a1, s1, e1, _, g1, g1'⟩ := among_ok c hc hl a s [0, 99, 100] (by decide) h0 (by omega)
  obtain ⟨r2, a2, s2, e2, _, g2, g2'⟩ := among_ok c hc hl a1 s1 [-1, 9, 10] (by decide) (by omega) (by omega)
  obtain ⟨r3, a3, s3, e3, _, g3, g3'⟩ := among_ok c hc hl a2 s2 [-1, 10000, 10001] (by decide) (by omega) (by omega)
  have hw : wrap64 ((l.length : Int) - 1) = (l.length : Int) - 1 := wrap_id (by omega) (by omega)
  refine ⟨l.set ((l.length : Int) - 1).toNat ⟨r1, r2, r3⟩, a3, s3, Ev.succ ?_, by simp⟩
  simp only [spec_l1Cur_heard.j2, if_true, e1, Option.bind_some]
  rw [e2]
  simp only [Option.bind_some]
  rw [e3]
  simp only [Option.bind_some, hw, if_pos (show (0 : Int) ≤ (l.length : Int) - 1 by omega), if_pos (show (l.length : Int) - 1 < (l.length : Int) by omega)]
  exact Ev.now _
theorem heard_l0 (c : List Int) (hc : ∀ x ∈ c, 0 ≤ x ∧ x ≤ 255) (hl : c.length ≤ 1048576) (n : Nat) : ∀ (l : List S53) (t a s : Int), l.length + n ≤ 1000 → 0 ≤ a → a + 6 * n ≤ 100000000 →
  ∃ r a' s', Ev (fun k => spec_l1Cur_heard.l0 k l t (n : Int) c a s) (r, a', s') ∧ r.length = l.length + n := by
 induction n with
 | zero =>
  intro l t a s hn h0 h1
  by_cases hp : (l.length : Int) > 0
  ·obtain ⟨b, a1, s1, e1, g1, g1'⟩ := one_ok c hc hl a s 20 h0 (by omega)
   obtain ⟨r, a2, s2, e2, hr⟩ := heard_j2 c hc hl l b (fun _ => by omega) (by omega) a1 s1 (by omega) (by omega)
   refine ⟨r, a2, s2, Ev.succ ?_, by omega⟩
   simp only [spec_l1Cur_heard.l0]
   simp only [if_neg (show ¬ ((0 : Nat) : Int) > 0 by omega), if_pos hp, e1, Option.bind_some]
   exact e2
  ·obtain ⟨r, a2, s2, e2, hr⟩ := heard_j2 c hc hl l false (fun h => by cases h) (by omega) a s (by omega) (by omega)
   refine ⟨r, a2, s2, Ev.succ ?_, by omega⟩
   simp only [spec_l1Cur_heard.l0]
   simp only [if_neg (show ¬ ((0 : Nat) : Int) > 0 by omega), if_neg hp]
   exact e2
 | succ n ih =>
  intro l t a s hn h0 h1
  obtain ⟨r1, a1, s1, e1, _, _, _, g1, g1'⟩ := pick_ok c hc hl a s 3 h0 (by omega)
  obtain ⟨r2, a2, s2, e2, _, _, _, g2, g2'⟩ := pick_ok c hc hl a1 s1 9 (by omega) (by omega)
  obtain ⟨r3, a3, s3, e3, _, _, _, g3, g3'⟩ := pick_ok c hc hl a2 s2 4 (by omega) (by omega)
  obtain ⟨r, a4, s4, e4, hr⟩ := ih (l ++ [⟨wrap64 (1 + r2), r3, wrap64 (t + r1)⟩]) (wrap64 (t + r1)) a3 s3 (by simp <;> omega) (by omega) (by omega)
  refine ⟨r, a4, s4, Ev.succ ?_, by simp at hr; omega⟩
  simp only [spec_l1Cur_heard.l0]
  simp only [if_pos (show ((n + 1 : Nat) : Int) > 0 by omega), e1, Option.bind_some]
  rw [e2]
  simp only [Option.bind_some]
  rw [e3]
  simp only [Option.bind_some, if_pos (show l.length < 5864062014805 by omega)]
  rw [wrap_id (x := ((n + 1 : Nat) : Int) - 1) (by omega) (by omega), show ((n + 1 : Nat) : Int) - 1 = (n : Int) by omega]
  exact e4
theorem heard_ok (c : List Int) (hc : ∀ x ∈ c, 0 ≤ x ∧ x ≤ 255) (hl : c.length ≤ 1048576) (a s : Int) (h0 : 0 ≤ a) (h1 : a ≤ 1000) :
  ∃ r a' s', Ev (fun k => spec_l1Cur_heard.f k c a s) (r, a', s') ∧ r.length ≤ 1000 := by
 obtain ⟨r1, a1, s1, e1, _, _, _, g1, g1'⟩ := pick_ok c hc hl a s 20 h0 (by omega)
 obtain ⟨r2, a2, s2, e2, q0, _, q2, g2, g2'⟩ := pick_ok c hc hl a1 s1 20 (by omega) (by omega)
 obtain ⟨b, a3, s3, e3, g3, g3'⟩ := one_ok c hc hl a2 s2 20 (by omega) (by omega)
 have hq2 := q2 (by omega)
 cases b with
 | true =>
  obtain ⟨r4, a4, s4, e4, p0, _, p2, g4, g4'⟩ := pick_ok c hc hl a3 s3 2 (by omega) (by omega)
  have hp2 := p2 (by omega)
  obtain ⟨n, hn⟩ := Int.eq_ofNat_of_zero_le (show 0 ≤ 60 + r4 by omega)
  obtain ⟨r, a5, s5, e5, hr⟩ := heard_l0 c hc hl n [] r1 a4 s4 (by simp; omega) (by omega) (by omega)
  refine ⟨r, a5, s5, ?_, by simp at hr; omega⟩
  unfold spec_l1Cur_heard.f
  simp only [e1, Option.bind_some]
  rw [e2]
  simp only [Option.bind_some]
  rw [e3]
  simp only [Option.bind_some, if_true]
  rw [e4]
  simp only [Option.bind_some]
  refine Ev.succ ?_
  simp only [spec_l1Cur_heard.j0]
  rw [wrap_id (by omega) (by omega), hn]
  exact e5
 | false =>
  obtain ⟨n, hn⟩ := Int.eq_ofNat_of_zero_le q0
  subst hn
  obtain ⟨r, a5, s5, e5, hr⟩ := heard_l0 c hc hl n [] r1 a3 s3 (by simp; omega) (by omega) (by omega)
  refine ⟨r, a5, s5, ?_, by simp at hr; omega⟩
  unfold spec_l1Cur_heard.f
  simp only [e1, Option.bind_some]
  rw [e2]
  simp only [Option.bind_some]
  rw [e3]
  simp only [Option.bind_some, Bool.false_eq_true, if_false]
  refine Ev.succ ?_
  simp only [spec_l1Cur_heard.j0]
  exact e5
theorem drawPlay_ok (c : List Int) (hc : ∀ x ∈ c, 0 ≤ x ∧ x ≤ 255) (hl : c.length ≤ 1048576) : ∃ a l, Ev (fun k => spec_DrawPlayTable.f k c) (a, l) ∧ 0 ≤ a ∧ a < 10 ∧ l.length ≤ 1000 := by
 obtain ⟨r1, a1, s1, e1, q0, _, q2, g1, g1'⟩ := pick_ok c hc hl 0 0 10 (by omega) (by omega)
 obtain ⟨r, a2, s2, e2, hr⟩ := heard_ok c hc hl a1 s1 (by omega) (by omega)
 refine ⟨r1, r, ?_, q0, q2 (by omega), hr⟩
 unfold spec_DrawPlayTable.f
 simp only [e1, Option.bind_some]
 exact Ev.bind e2 (Ev.now _)
theorem drawNewT_ok (c : List Int) (hc : ∀ x ∈ c, 0 ≤ x ∧ x ≤ 255) (hl : c.length ≤ 1048576) : ∃ a, spec_DrawNewTable.f c = some a := by
 obtain ⟨r1, a1, s1, e1, _⟩ := pick_ok c hc hl 0 0 11 (by omega) (by omega)
 refine ⟨wrap64 (r1 - 1), ?_⟩
 unfold spec_DrawNewTable.f
 rw [e1]
 rfl
end Go.Proofs.Ytcbofebikbbknaa.P

namespace Go.Proofs.Ytcbofebikbbknaa.P
open Go.RowKit Go.Proofs.YtcbofebikbbknaaW.PrintWords Go.Proofs.YtcbofebikbbknaaW.PrintLast
set_option linter.unusedVariables false
set_option linter.unusedSimpArgs false
-- a new table is empty, both sides
def newTab (a : Int) : Int × List S53 × Bool := if 1 ≤ a ∧ a ≤ 8 then (a, [], true) else (0, [], false)
theorem specNewTab (a : Int) : spec_NewTable.f a = some (newTab a) := by
 unfold spec_NewTable.f spec_l1In.f newTab
 by_cases h1 : a ≥ 1
 ·by_cases h2 : a ≤ 8
  ·simp [h1, h2, show (1 : Int) ≤ a from h1]
  ·simp [h1, h2, show (1 : Int) ≤ a from h1]
 ·simp [h1, show ¬ (1 : Int) ≤ a from h1]
theorem implNewTab (a : Int) : impl_NewTable.f a = some (newTab a) := specNewTab a
theorem newTab_nil (a : Int) : (newTab a).2.1 = [] := by unfold newTab; split <;> rfl
end Go.Proofs.Ytcbofebikbbknaa.P

namespace Go.Proofs.Ytcbofebikbbknaa.Pure
open Go.RowKit Go.Proofs.Ytcbofebikbbknaa.P Go.Proofs.YtcbofebikbbknaaW.PrintWords Go.Proofs.YtcbofebikbbknaaW.PrintLast
set_option linter.unusedVariables false
set_option linter.unusedSimpArgs false
theorem FnTables : laws_FnTables.Pure := by
 intro c d hc1 hc2 hc3 hd1 hd2 hd3
 refine Ev.rounds ?_
 unfold laws_FnTables.f
 by_cases h : (wrap64 ((c.length : Int) + (d.length : Int))) > 1048576
 ·simp only [if_pos h]
  exact Ev.now _
 simp only [if_neg h]
 rw [wrap_id (by omega) (by omega)] at h
 have hcb := bytes_ok hc3
 have hdb := bytes_ok hd3
 have hj4 : Ev (fun k => laws_FnTables.j4 k d) true := by
  obtain ⟨a, e⟩ := drawNewT_ok d hdb (by omega)
  refine Ev.succ ?_
  simp only [laws_FnTables.j4, e, Option.bind_some, implNewTab, specNewTab, beq_self_eq_true, if_true]
  refine Ev.bind (sameTable_ev _ _ (by rw [newTab_nil]; simp)) ?_
  exact Ev.now _
 obtain ⟨a, l, e, ha0, ha1, hl⟩ := drawPlay_ok c hcb (by omega)
 have hlen := heardM_len a l
 refine Ev.bind e ?_
 refine Ev.bind (implPlay_ev a l (by omega)) ?_
 refine Ev.bind (specPlay_ev a l (by omega)) ?_
 refine Ev.bind (implHits_ev a l (by omega)) ?_
 refine Ev.bind (specHits_ev a l (by omega)) ?_
 simp only [bne_self_eq_false, Bool.false_eq_true, if_false]
 refine Ev.bind (sameTable_ev _ _ (by omega)) ?_
 simp only [if_true, bne_self_eq_false, Bool.false_eq_true, if_false]
 refine Ev.succ ?_
 simp only [laws_FnTables.j0, Bool.false_eq_true, if_false]
 by_cases hg : goodH a l = true
 ·have hg' := hg
  unfold goodH at hg'
  rw [Bool.and_eq_true, Bool.and_eq_true, decide_eq_true_eq, decide_eq_true_eq] at hg'
  rw [show heardM a l = (a, playM a [] l, hitsM a [] 0 l, true) by unfold heardM; rw [if_pos hg]] at hlen ⊢
  simp only [if_true]
  have hlen' : (playM a [] l).length ≤ 8 := hlen
  refine Ev.bind (implGoodT_ev a (playM a [] l) (by omega)) ?_
  rw [play_good hg]
  simp only [if_true]
  rw [wrap_id (by omega) (by omega)]
  have hlen2 := heardM_len (a + 1) l
  refine Ev.bind (implPlay_ev (a + 1) l (by omega)) ?_
  refine Ev.bind (implHits_ev (a + 1) l (by omega)) ?_
  simp only [bne_self_eq_false, Bool.false_eq_true, if_false]
  by_cases h8 : a < 8
  ·have hg2 : goodH (a + 1) l = true := by
    unfold goodH
    rw [hg'.1, decide_eq_true (show 1 ≤ a + 1 ∧ a + 1 ≤ 8 by omega), decide_eq_true hg'.2.2]
    rfl
   rw [show heardM (a + 1) l = (a + 1, playM (a + 1) [] l, hitsM (a + 1) [] 0 l, true) by unfold heardM; rw [if_pos hg2]] at hlen2 ⊢
   have hlen2' : (playM (a + 1) [] l).length ≤ 8 := hlen2
   simp only [decide_eq_true h8, bne_self_eq_false]
   refine Ev.succ ?_
   simp only [laws_FnTables.j1, Bool.false_eq_true, if_false, if_true]
   obtain ⟨p1, p2, p3⟩ := play_take hg'.2.1.1 l [] none 0 0 hg'.1 lateT_none GT_nil (by omega) (by omega) (by omega)
   rw [List.take_nil] at p1 p2 p3
   have hle : (playM a [] l).length ≤ (playM (a + 1) [] l).length := by
    rw [p1]
    exact List.length_take_le' ..
   simp only [if_neg (show ¬ ((playM a [] l).length : Int) > ((playM (a + 1) [] l).length : Int) by omega), decide_eq_false (show ¬ hitsM (a + 1) [] 0 l < hitsM a [] 0 l by omega)]
   refine Ev.succ ?_
   simp only [laws_FnTables.j2, Bool.false_eq_true, if_false]
   have := tabLaw_l0 d (a + 1) (playM a [] l) (playM (a + 1) [] l) true hj4 hle (by omega) (fun j h0 h1 => by
    rw [p1] at h1 ⊢
    unfold rd_T53
    rw [List.length_take] at h1
    rw [List.getD_eq_getElem?_getD, List.getD_eq_getElem?_getD, List.getElem?_take, if_pos (by omega)]) (playM a [] l).length 0 (by omega)
   exact this
  ·have hg2 : goodH (a + 1) l = false := by
    unfold goodH
    rw [decide_eq_false (show ¬ (1 ≤ a + 1 ∧ a + 1 ≤ 8) by omega), Bool.false_and, Bool.and_false]
   rw [show heardM (a + 1) l = (0, [], 0, false) by unfold heardM; rw [hg2]; rfl]
   simp only [decide_eq_false h8, bne_self_eq_false]
   refine Ev.succ ?_
   simp only [laws_FnTables.j1, Bool.false_eq_true, if_false]
   exact hj4
 ·rw [show heardM a l = (0, [], 0, false) by unfold heardM; rw [if_neg hg]]
  simp only [Bool.false_eq_true, if_false]
  exact hj4
end Go.Proofs.Ytcbofebikbbknaa.Pure
