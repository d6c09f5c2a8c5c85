/- Functions, walks and plain lemmas that the law FnFars reaches, part 6. -/
import Derived.Test.YtklecgkjoofipaaCFnFars5
import Derived.Below
import Derived.Deep.Draws
import Derived.Deep.AppendLies
import Derived.Maps.AppendAt
import Derived.OwnWalk
import Derived.Laws.BytesArg
import Derived.Laws.MakeOwn
import Derived.Laws.OwnMore
import Derived.Deep.OwnRows
import Derived.Tactics
import Derived.Lib.ConvBytes
import Derived.Laws.Slices
import Derived.WalkKit
import Derived.KernelRfl
import Derived.RowKit3
import Derived.Deep.LoopGhost
import Derived.Deep.QuietTactic
import Derived.BigQuiet
import Derived.WideLaws
import Derived.Deep.DeepCutAuto
import Derived.Deep.CutBlock
import Derived.Deep.RegionHeld3
import Derived.Laws.Rows
import Derived.Lib.AppendStr
import Derived.ArgAppend
import Derived.Laws.IdiomCopy
import Derived.OrdersHeld
import Derived.Laws.BitsLemmas
import Derived.RowKit
import Derived.WalkSpells
import Derived.Lib.SliceRun
import Derived.Shelf.Abstract
import Derived.ProofKit
import Derived.OpenShut
import Derived.ShutString
import Derived.ChangeOld
import Derived.SizedLaws
namespace Go.Proofs.Ytklecgkjoofipaa.P
open Go.RowKit Go.Proofs.YtklecgkjoofipaaW.PrintWords Go.Proofs.YtklecgkjoofipaaW.PrintLast
set_option linter.unusedVariables false
set_option linter.unusedSimpArgs false
-- sweeps over a list of numbers; the least of two
theorem least_is (a b : Int) : spec_l1Least.f a b = some (min a b) := by
 unfold spec_l1Least.f
 split
 ·rw [Int.min_eq_left (by omega)]
 ·rw [Int.min_eq_right (by omega)]
theorem mn_is (a b : Int) : mn a b = min a b := by
 unfold mn
 split
 ·rw [Int.min_eq_right (by omega)]
 ·rw [Int.min_eq_left (by omega)]
theorem own0_succ (n : Nat) : own0 (n + 1) = own0 n ++ [(n : Int)] := by
 unfold own0
 rw [List.range_succ, List.map_append]
 rfl
theorem mx_is (a b : Int) : mx a b = max a b := by
 unfold mx
 split <;> omega
theorem own0_mem (n : Nat) (x : Int) : x ∈ own0 n ↔ 0 ≤ x ∧ x < n := by
 unfold own0
 rw [List.mem_map]
 constructor
 ·rintro ⟨i, hi, rfl⟩
  have := List.mem_range.1 hi
  omega
 ·intro ⟨h0, h1⟩
  exact ⟨x.toNat, List.mem_range.2 (by omega), by omega⟩
end Go.Proofs.Ytklecgkjoofipaa.P

namespace Go.Proofs.Ytklecgkjoofipaa.P
open Go.RowKit Go.Proofs.YtklecgkjoofipaaW.PrintWords Go.Proofs.YtklecgkjoofipaaW.PrintLast
set_option linter.unusedVariables false
set_option linter.unusedSimpArgs false
-- one round of shortening, both sides
def relStep (old out : List Int) (e : S67) : List Int := (out.set e.f0.toNat (min (rd out e.f0) (wrap64 (rd old e.f1 + e.f2)))).set e.f1.toNat (min (rd (out.set e.f0.toNat (min (rd out e.f0) (wrap64 (rd old e.f1 + e.f2)))) e.f1) (wrap64 (rd old e.f0 + e.f2)))
theorem relStep_len (old out : List Int) (e : S67) : (relStep old out e).length = out.length := by simp [relStep]
def relaxM (l : List S67) (old : List Int) : List Int := l.foldl (relStep old) old
theorem relFold_len (old : List Int) : ∀ (l : List S67) (out : List Int), (l.foldl (relStep old) out).length = out.length
 | [], _ => rfl
 | e :: l, out => by rw [List.foldl_cons, relFold_len old l, relStep_len]
theorem relaxM_len (l : List S67) (old : List Int) : (relaxM l old).length = old.length := relFold_len old l old
theorem specRelax_l (old : List Int) (suf : List S67) : ∀ (pre : List S67) (out : List Int), ((pre ++ suf).length : Int) ≤ 1099511627776 → out.length = old.length → (∀ x ∈ suf, 0 ≤ x.f0 ∧ x.f0 < x.f1 ∧ x.f1 < old.length) →
  Ev (fun k => spec_l9Relax.l0 k old out (pre ++ suf) ((pre ++ suf).length : Int) pre.length) (suf.foldl (relStep old) out) := by
 induction suf with
 | nil =>
  intro pre out h ho hx
  refine Ev.succ ?_
  simp only [spec_l9Relax.l0, List.append_nil, Int.lt_irrefl, if_false, List.foldl_nil]
  exact Ev.now _
 | cons e suf ih =>
  intro pre out h ho hx
  refine Ev.succ ?_
  rw [len_mid] at h ⊢
  have hs := relStep_len old out e
  have := ih (pre ++ [e]) (relStep old out e) (by rw [← app_one, len_mid]; exact h) (by omega) (fun x hm => hx x (List.mem_cons_of_mem _ hm))
  rw [← app_one, len_mid, len_one] at this
  have he := hx e (List.mem_cons_self ..)
  simp only [spec_l9Relax.l0, List.foldl_cons]
  simp only [if_pos (show ((pre.length : Int) < pre.length + suf.length + 1) by omega), if_pos (show (0 : Int) ≤ pre.length by omega), len_mid, rdEdge_mid, wrap_id (show (-9223372036854775808 : Int) ≤ pre.length + 1 by omega) (show ((pre.length : Int) + 1 ≤ 9223372036854775807) by omega), if_pos he.1, if_pos (show e.f0 < (out.length : Int) by omega), if_pos (show 0 ≤ e.f1 by omega), if_pos he.2.2, if_pos (show e.f1 < (out.length : Int) by omega), if_pos (show e.f0 < (old.length : Int) by omega), least_is, Option.bind_some]
  exact this
theorem implRelax_l (old : List Int) (suf : List S67) : ∀ (pre : List S67) (out : List Int), ((pre ++ suf).length : Int) ≤ 1099511627776 → out.length = old.length → (∀ x ∈ suf, 0 ≤ x.f0 ∧ x.f0 < x.f1 ∧ x.f1 < old.length) →
  Ev (fun k => impl_relaxed.l0 k old out (pre ++ suf) ((pre ++ suf).length : Int) pre.length) (suf.foldl (relStep old) out) := by
 induction suf with
 | nil =>
  intro pre out h ho hx
  refine Ev.succ ?_
  simp only [impl_relaxed.l0, List.append_nil, Int.lt_irrefl, if_false, List.foldl_nil]
  exact Ev.now _
 | cons e suf ih =>
  intro pre out h ho hx
  refine Ev.succ ?_
  rw [len_mid] at h ⊢
  have hs := relStep_len old out e
  have := ih (pre ++ [e]) (relStep old out e) (by rw [← app_one, len_mid]; exact h) (by omega) (fun x hm => hx x (List.mem_cons_of_mem _ hm))
  rw [← app_one, len_mid, len_one] at this
  have he := hx e (List.mem_cons_self ..)
  simp only [impl_relaxed.l0, List.foldl_cons]
  simp only [if_pos (show ((pre.length : Int) < pre.length + suf.length + 1) by omega), if_pos (show (0 : Int) ≤ pre.length by omega), len_mid, rdEdge_mid, wrap_id (show (-9223372036854775808 : Int) ≤ pre.length + 1 by omega) (show ((pre.length : Int) + 1 ≤ 9223372036854775807) by omega), if_pos he.1, if_pos (show e.f0 < (out.length : Int) by omega), if_pos (show 0 ≤ e.f1 by omega), if_pos he.2.2, if_pos (show e.f1 < (out.length : Int) by omega), if_pos (show e.f0 < (old.length : Int) by omega), mn_is, Option.bind_some]
  exact this
theorem specRelax_ev (l : List S67) (old : List Int) (hb : (l.length : Int) ≤ 1099511627776) (ho : old.length ≤ 1048576) (hx : ∀ x ∈ l, 0 ≤ x.f0 ∧ x.f0 < x.f1 ∧ x.f1 < old.length) : Ev (fun k => spec_l9Relax.f k l old) (relaxM l old) := by
 unfold spec_l9Relax.f
 simp only [Option.bind_some, List.length_nil, Nat.zero_add, List.nil_append, if_pos (show old.length < 17592186044416 by omega)]
 have := specRelax_l old l [] old hb rfl hx
 exact this
theorem implRelax_ev (l : List S67) (old : List Int) (hb : (l.length : Int) ≤ 1099511627776) (ho : old.length ≤ 1048576) (hx : ∀ x ∈ l, 0 ≤ x.f0 ∧ x.f0 < x.f1 ∧ x.f1 < old.length) : Ev (fun k => impl_relaxed.f k l old) (relaxM l old) := by
 unfold impl_relaxed.f
 simp only [Option.bind_some, List.length_nil, Nat.zero_add, List.nil_append, if_pos (show old.length < 17592186044416 by omega)]
 have := implRelax_l old l [] old hb rfl hx
 exact this
end Go.Proofs.Ytklecgkjoofipaa.P

namespace Go.Proofs.Ytklecgkjoofipaa.P
open Go.RowKit Go.Proofs.YtklecgkjoofipaaW.PrintWords Go.Proofs.YtklecgkjoofipaaW.PrintLast
set_option linter.unusedVariables false
set_option linter.unusedSimpArgs false
-- the neighbours of a node: the sorted puts and the sweep over costs give one list
def isAt (a b : Int) (e : S67) : Bool := decide (e.f0 = min a b ∧ e.f1 = max a b)
def costM (l : List S67) (a b : Int) : Int := match l.find? (isAt a b) with
 | some e => e.f2
 | none => 0
def nearM (n : Nat) (l : List S67) (v : Int) : List Int := (own0 n).filter fun u => decide (costM l v u > 0)
theorem goodAt_ev (n : Int) (l : List S67) (q : List Int) (hl : l.length ≤ 1048576) (hq : (q.length : Int) ≤ 1099511627776) : Ev (fun k => impl_goodAt.f k n l q) (goodE n l && allIn 0 (wrap64 (n - 1)) q) := by
 unfold impl_goodAt.f
 refine Ev.bind (implGoodE_ev n l hl) ?_
 by_cases h : goodE n l = true
 ·simp only [h, if_true, Bool.true_and]
  exact Ev.bind (implAll_ev _ _ q hq) (Ev.now _)
 ·simp only [h, Bool.false_and, Bool.false_eq_true, if_false]
  exact Ev.now _
end Go.Proofs.Ytklecgkjoofipaa.P

namespace Go.Proofs.Ytklecgkjoofipaa.P
open Go.RowKit Go.Proofs.YtklecgkjoofipaaW.PrintWords Go.Proofs.YtklecgkjoofipaaW.PrintLast
set_option linter.unusedVariables false
set_option linter.unusedSimpArgs false
-- all the shortest ways from a node, both sides
def farsIt (l : List S67) : Nat → List Int → List Int
 | 0, x => x
 | d + 1, x => farsIt l d (relaxM l x)
theorem farsIt_len (l : List S67) : ∀ (d : Nat) (x : List Int), (farsIt l d x).length = x.length
 | 0, _ => rfl
 | d + 1, x => by rw [farsIt, farsIt_len l d, relaxM_len]
def fars0 (n : Nat) (a : Int) : List Int := (List.replicate n (100000 : Int)).set a.toNat 0
theorem fars0_len (n : Nat) (a : Int) : (fars0 n a).length = n := by simp [fars0]
def farsM (n : Nat) (l : List S67) (a : Int) : List Int := farsIt l n (fars0 n a)
theorem farsM_len (n : Nat) (l : List S67) (a : Int) : (farsM n l a).length = n := by rw [farsM, farsIt_len, fars0_len]
theorem specFars_l1 (n : Nat) (hn : n ≤ 1000) (l : List S67) (hb : (l.length : Int) ≤ 1099511627776) (hx : ∀ x ∈ l, 0 ≤ x.f0 ∧ x.f0 < x.f1 ∧ x.f1 < n) (d : Nat) : ∀ (c : Nat) (x : List Int), c + d = n → x.length = n →
  Ev (fun k => spec_l9Fars.l1 k n l x c) (farsIt l d x) := by
 induction d with
 | zero =>
  intro c x h hl
  refine Ev.succ ?_
  simp only [spec_l9Fars.l1, if_neg (show ¬ (c : Int) < n by omega)]
  exact Ev.now _
 | succ d ih =>
  intro c x h hl
  refine Ev.succ ?_
  have := ih (c + 1) (relaxM l x) (by omega) (by rw [relaxM_len, hl])
  simp only [spec_l9Fars.l1, if_pos (show (c : Int) < n by omega), wrap_id (show (-9223372036854775808 : Int) ≤ c + 1 by omega) (show ((c : Int) + 1 ≤ 9223372036854775807) by omega)]
  refine Ev.bind (specRelax_ev l x hb (by omega) (by rw [hl]; exact hx)) ?_
  exact this
theorem implFars_l1 (n : Nat) (hn : n ≤ 1000) (l : List S67) (hb : (l.length : Int) ≤ 1099511627776) (hx : ∀ x ∈ l, 0 ≤ x.f0 ∧ x.f0 < x.f1 ∧ x.f1 < n) (d : Nat) : ∀ (c : Nat) (x : List Int), c + d = n → x.length = n →
  Ev (fun k => impl_fars.l1 k l x n c) (farsIt l d x) := by
 induction d with
 | zero =>
  intro c x h hl
  refine Ev.succ ?_
  simp only [impl_fars.l1, if_neg (show ¬ (c : Int) < n by omega)]
  exact Ev.now _
 | succ d ih =>
  intro c x h hl
  refine Ev.succ ?_
  have := ih (c + 1) (relaxM l x) (by omega) (by rw [relaxM_len, hl])
  simp only [impl_fars.l1, if_pos (show (c : Int) < n by omega), wrap_id (show (-9223372036854775808 : Int) ≤ c + 1 by omega) (show ((c : Int) + 1 ≤ 9223372036854775807) by omega)]
  refine Ev.bind (implRelax_ev l x hb (by omega) (by rw [hl]; exact hx)) ?_
  exact this
theorem rep_succ (c : Nat) (x : Int) : List.replicate c x ++ [x] = List.replicate (c + 1) x := by
 rw [List.replicate_succ']
theorem specFars_l0 (n : Nat) (hn : n ≤ 1000) (l : List S67) (a : Int) (R : List Int) (ha : 0 ≤ a) (ha1 : a < n) (hR : Ev (fun k => spec_l9Fars.l1 k n l (fars0 n a) 0) R) (d : Nat) : ∀ (c : Nat), c + d = n →
  Ev (fun k => spec_l9Fars.l0 k n l a (List.replicate c 100000) c) R := by
 induction d with
 | zero =>
  intro c h
  refine Ev.succ ?_
  have hc : c = n := by omega
  subst hc
  simp only [spec_l9Fars.l0, Int.lt_irrefl, if_false, if_pos ha, List.length_replicate, if_pos ha1]
  exact hR
 | succ d ih =>
  intro c h
  refine Ev.succ ?_
  have := ih (c + 1) (by omega)
  simp only [spec_l9Fars.l0, if_pos (show (c : Int) < n by omega), List.length_replicate, if_pos (show c < 17592186044416 by omega), wrap_id (show (-9223372036854775808 : Int) ≤ c + 1 by omega) (show ((c : Int) + 1 ≤ 9223372036854775807) by omega)]
  rw [rep_succ]
  exact this
theorem specFars_ev (n : Int) (l : List S67) (a : Int) (hn : n ≤ 1000) (hb : (l.length : Int) ≤ 1099511627776) (hx : ∀ x ∈ l, 0 ≤ x.f0 ∧ x.f0 < x.f1 ∧ x.f1 < n) (ha : 0 ≤ a) (ha1 : a < n) : Ev (fun k => spec_l9Fars.f k n l a) (farsM n.toNat l a) := by
 obtain ⟨m, rfl⟩ := Int.eq_ofNat_of_zero_le (show 0 ≤ n by omega)
 rw [Int.toNat_natCast]
 have := specFars_l0 m (by omega) l a _ ha ha1 (specFars_l1 m (by omega) l hb hx m 0 _ (by omega) (fars0_len m a)) m 0 (by omega)
 exact this
theorem implFars_l0 (n : Nat) (hn : n ≤ 1000) (l : List S67) (a : Int) (R : List Int) (ha : 0 ≤ a) (ha1 : a < n) (hR : Ev (fun k => impl_fars.l1 k l (fars0 n a) n 0) R) (d : Nat) : ∀ (c : Nat), c + d = n →
  Ev (fun k => impl_fars.l0 k n l a (List.replicate c 100000 ++ List.replicate d 0) n c) R := by
 induction d with
 | zero =>
  intro c h
  refine Ev.succ ?_
  have hc : c = n := by omega
  subst hc
  simp only [impl_fars.l0, Int.lt_irrefl, if_false, if_pos ha, List.replicate_zero, List.append_nil, List.length_replicate, if_pos ha1]
  exact hR
 | succ d ih =>
  intro c h
  refine Ev.succ ?_
  have := ih (c + 1) (by omega)
  have hl : ((List.replicate c (100000 : Int) ++ List.replicate (d + 1) (0 : Int)).length : Int) = n := by simp; omega
  simp only [impl_fars.l0, hl, if_pos (show (c : Int) < n by omega), if_pos (show (0 : Int) ≤ c by omega), wrap_id (show (-9223372036854775808 : Int) ≤ c + 1 by omega) (show ((c : Int) + 1 ≤ 9223372036854775807) by omega)]
  have hs := set_mid (List.replicate c (100000 : Int)) 0 100000 (List.replicate d 0)
  rw [List.length_replicate] at hs
  rw [List.replicate_succ, hs, app_one, rep_succ]
  exact this
theorem implFars_ev (n : Int) (l : List S67) (a : Int) (hn : n ≤ 1000) (hb : (l.length : Int) ≤ 1099511627776) (hx : ∀ x ∈ l, 0 ≤ x.f0 ∧ x.f0 < x.f1 ∧ x.f1 < n) (ha : 0 ≤ a) (ha1 : a < n) : Ev (fun k => impl_fars.f k n l a) (farsM n.toNat l a) := by
 obtain ⟨m, rfl⟩ := Int.eq_ofNat_of_zero_le (show 0 ≤ n by omega)
 rw [Int.toNat_natCast]
 unfold impl_fars.f
 simp only [Int.toNat_natCast, if_pos (show (0 : Int) ≤ (m : Int) by omega), if_pos (show m ≤ 35184372088832 by omega), Option.bind_some, List.length_replicate]
 have := implFars_l0 m (by omega) l a _ ha ha1 (implFars_l1 m (by omega) l hb hx m 0 _ (by omega) (fars0_len m a)) m 0 (by omega)
 exact this
theorem allIn1 (a b x : Int) : allIn a b [x] = decide (a ≤ x ∧ x ≤ b) := by rw [allIn, List.all_cons, List.all_nil, Bool.and_true]
theorem edge3 {n : Int} {l : List S67} (h : goodE n l = true) : ∀ x ∈ l, 0 ≤ x.f0 ∧ x.f0 < x.f1 ∧ x.f1 < n := fun x hm => ⟨(goodE_edge h x hm).1, (goodE_edge h x hm).2.1, (goodE_edge h x hm).2.2.1⟩
theorem top_is {n : Int} (h0 : 1 ≤ n) (h1 : n ≤ 12) : wrap64 (n - 1) = n - 1 := wrap_id (by omega) (by omega)
end Go.Proofs.Ytklecgkjoofipaa.P

namespace Go.Proofs.Ytklecgkjoofipaa.P
open Go.RowKit Go.Proofs.YtklecgkjoofipaaW.PrintWords Go.Proofs.YtklecgkjoofipaaW.PrintLast
set_option linter.unusedVariables false
set_option linter.unusedSimpArgs false
-- the first steps of the shortest ways, one side
def hopsGo (l : List S67) (a : Int) (F : List Int) (q : List Int) : List Int := q.filter fun u => decide (rd F a < 100000 ∧ wrap64 (rd F u + costM l a u) = rd F a)
theorem nearM_in (n : Nat) (l : List S67) (a u : Int) (h : u ∈ nearM n l a) : 0 ≤ u ∧ u < n := (own0_mem n u).1 (List.mem_filter.1 h).1
end Go.Proofs.Ytklecgkjoofipaa.P

namespace Go.Proofs.Ytklecgkjoofipaa.P
open Go.RowKit Go.Proofs.YtklecgkjoofipaaW.PrintWords Go.Proofs.YtklecgkjoofipaaW.PrintLast
set_option linter.unusedVariables false
set_option linter.unusedSimpArgs false
-- the first steps of the shortest ways, both sides
def two (n : Int) (l : List S67) (a b : Int) : Prop := goodE n l = true ∧ (0 ≤ a ∧ a ≤ wrap64 (n - 1)) ∧ (0 ≤ b ∧ b ≤ wrap64 (n - 1))
instance (n : Int) (l : List S67) (a b : Int) : Decidable (two n l a b) := by unfold two; infer_instance
end Go.Proofs.Ytklecgkjoofipaa.P

namespace Go.Proofs.Ytklecgkjoofipaa.P
open Go.RowKit Go.Proofs.YtklecgkjoofipaaW.PrintWords Go.Proofs.YtklecgkjoofipaaW.PrintLast
set_option linter.unusedVariables false
set_option linter.unusedSimpArgs false
-- what one round of shortening does to one node
def sane (x : List Int) : Prop := ∀ v : Int, 0 ≤ rd x v ∧ rd x v ≤ 100000
def offer (old : List Int) (v m : Int) (e : S67) : Int := if e.f0 = v then min m (rd old e.f1 + e.f2) else if e.f1 = v then min m (rd old e.f0 + e.f2) else m
theorem rd_setI {x : List Int} {i v : Int} (hi : 0 ≤ i) (h1 : i < x.length) (hv : 0 ≤ v) (y : Int) : rd (x.set i.toNat y) v = if v = i then y else rd x v := by
 unfold rd
 rw [List.getD_eq_getElem?_getD, List.getD_eq_getElem?_getD, List.getElem?_set]
 by_cases h : v = i
 ·subst h
  rw [if_pos rfl, if_pos rfl, if_pos (by omega)]
  rfl
 ·rw [if_neg (by omega), if_neg h]
theorem relStep_at {old out : List Int} {e : S67} (hs : sane old) (he : 0 ≤ e.f0 ∧ e.f0 < e.f1 ∧ e.f1 < out.length ∧ 1 ≤ e.f2 ∧ e.f2 ≤ 100) (v : Int) (hv : 0 ≤ v) : rd (relStep old out e) v = offer old v (rd out v) e := by
 have a := hs e.f0
 have b := hs e.f1
 unfold relStep offer
 rw [rd_setI (by omega) (by rw [List.length_set]; omega) hv, rd_setI (by omega) (by omega) (by omega), rd_setI (by omega) (by omega) hv, wrap_id (by omega) (by omega), if_neg (show ¬ e.f1 = e.f0 by omega)]
 by_cases h0 : e.f0 = v
 ·rw [if_pos h0, if_neg (by omega), if_pos h0.symm, h0]
 ·rw [if_neg h0]
  by_cases h1 : e.f1 = v
  ·rw [if_pos h1, if_pos h1.symm, wrap_id (by omega) (by omega), h1]
  ·rw [if_neg h1, if_neg (fun c => h1 (Eq.symm c)), if_neg (fun c => h0 (Eq.symm c))]
theorem relFold_at {old : List Int} (hs : sane old) (v : Int) (hv : 0 ≤ v) : ∀ (l : List S67) (out : List Int), (∀ e ∈ l, 0 ≤ e.f0 ∧ e.f0 < e.f1 ∧ e.f1 < out.length ∧ 1 ≤ e.f2 ∧ e.f2 ≤ 100) → rd (l.foldl (relStep old) out) v = l.foldl (offer old v) (rd out v)
 | [], _, _ => rfl
 | e :: l, out, h => by
  rw [List.foldl_cons, List.foldl_cons, relFold_at hs v hv l (relStep old out e) (fun x hx => by rw [relStep_len]; exact h x (List.mem_cons_of_mem _ hx)), relStep_at hs (h e (List.mem_cons_self ..)) v hv]
theorem offer_le (old : List Int) (v m : Int) (e : S67) : offer old v m e ≤ m := by
 unfold offer
 split
 ·omega
 ·split <;> omega
theorem offers_le (old : List Int) (v : Int) : ∀ (l : List S67) (m : Int), l.foldl (offer old v) m ≤ m
 | [], m => Int.le_refl m
 | e :: l, m => by
  rw [List.foldl_cons]
  have := offers_le old v l (offer old v m e)
  have := offer_le old v m e
  omega
/-- the value is what stood there, or what an edge offers -/
theorem offers_is (old : List Int) (v : Int) : ∀ (l : List S67) (m : Int), l.foldl (offer old v) m = m ∨ ∃ e ∈ l, (e.f0 = v ∧ l.foldl (offer old v) m = rd old e.f1 + e.f2) ∨ (e.f1 = v ∧ l.foldl (offer old v) m = rd old e.f0 + e.f2)
 | [], m => .inl rfl
 | e :: l, m => by
  rw [List.foldl_cons]
  rcases offers_is old v l (offer old v m e) with h | ⟨x, hx, h⟩
  ·by_cases h0 : e.f0 = v
   ·rw [show offer old v m e = min m (rd old e.f1 + e.f2) by unfold offer; rw [if_pos h0]] at h ⊢
    by_cases c : m ≤ rd old e.f1 + e.f2
    ·exact .inl (by rw [h, Int.min_eq_left c])
    ·exact .inr ⟨e, List.mem_cons_self .., .inl ⟨h0, by rw [h, Int.min_eq_right (by omega)]⟩⟩
   ·by_cases h1 : e.f1 = v
    ·rw [show offer old v m e = min m (rd old e.f0 + e.f2) by unfold offer; rw [if_neg h0, if_pos h1]] at h ⊢
     by_cases c : m ≤ rd old e.f0 + e.f2
     ·exact .inl (by rw [h, Int.min_eq_left c])
     ·exact .inr ⟨e, List.mem_cons_self .., .inr ⟨h1, by rw [h, Int.min_eq_right (by omega)]⟩⟩
    ·rw [show offer old v m e = m by unfold offer; rw [if_neg h0, if_neg h1]] at h ⊢
     exact .inl h
  ·exact .inr ⟨x, List.mem_cons_of_mem _ hx, h⟩
/-- no edge offers less -/
theorem offers_min (old : List Int) (v : Int) : ∀ (l : List S67) (m : Int), (∀ x ∈ l, x.f0 < x.f1) → ∀ e ∈ l, (e.f0 = v → l.foldl (offer old v) m ≤ rd old e.f1 + e.f2) ∧ (e.f1 = v → l.foldl (offer old v) m ≤ rd old e.f0 + e.f2)
 | [], _, _, e, he => by simp at he
 | x :: l, m, hx, e, he => by
  rw [List.foldl_cons]
  rcases List.mem_cons.1 he with rfl | he
  ·have h := offers_le old v l (offer old v m e)
   have hlt := hx e (List.mem_cons_self ..)
   constructor
   ·intro h0
    have : offer old v m e = min m (rd old e.f1 + e.f2) := by unfold offer; rw [if_pos h0]
    omega
   ·intro h1
    have : offer old v m e = min m (rd old e.f0 + e.f2) := by unfold offer; rw [if_neg (by omega), if_pos h1]
    omega
  ·exact offers_min old v l _ (fun y hy => hx y (List.mem_cons_of_mem _ hy)) e he
end Go.Proofs.Ytklecgkjoofipaa.P

namespace Go.Proofs.Ytklecgkjoofipaa.P
open Go.RowKit Go.Proofs.YtklecgkjoofipaaW.PrintWords Go.Proofs.YtklecgkjoofipaaW.PrintLast
set_option linter.unusedVariables false
set_option linter.unusedSimpArgs false
theorem erase_len_le {α : Type} [DecidableEq α] {x : α} : ∀ {M : List α}, x ∈ M → (M.erase x).length + 1 = M.length := by
 intro M h
 have := List.length_erase_of_mem h
 have h2 : 0 < M.length := List.length_pos_of_mem h
 omega
theorem nodup_le {α : Type} [DecidableEq α] : ∀ (L M : List α), L.Nodup → (∀ x ∈ L, x ∈ M) → L.length ≤ M.length
 | [], _, _, _ => Nat.zero_le _
 | x :: L, M, hn, hs => by
  have hx : x ∈ M := hs x (by simp)
  rw [List.nodup_cons] at hn
  have h := nodup_le L (M.erase x) hn.2 (fun y hy => by
   have : y ≠ x := fun e => hn.1 (e ▸ hy)
   exact (List.mem_erase_of_ne this).2 (hs y (by simp [hy])))
  have := erase_len_le hx
  simp only [List.length_cons]
  omega
end Go.Proofs.Ytklecgkjoofipaa.P

namespace Go.Proofs.Ytklecgkjoofipaa.P
open Go.RowKit Go.Proofs.YtklecgkjoofipaaW.PrintWords Go.Proofs.YtklecgkjoofipaaW.PrintLast
set_option linter.unusedVariables false
set_option linter.unusedSimpArgs false
-- as many rounds as there are nodes are enough
def fr (n : Nat) (l : List S67) (a : Int) (k : Nat) : List Int := farsIt l k (fars0 n a)
theorem farsIt_succ (l : List S67) : ∀ (k : Nat) (x : List Int), farsIt l (k + 1) x = relaxM l (farsIt l k x)
 | 0, _ => rfl
 | k + 1, x => by rw [farsIt, farsIt_succ l k (relaxM l x), farsIt]
theorem fr_succ (n : Nat) (l : List S67) (a : Int) (k : Nat) : fr n l a (k + 1) = relaxM l (fr n l a k) := farsIt_succ l k _
theorem fr_len (n : Nat) (l : List S67) (a : Int) (k : Nat) : (fr n l a k).length = n := by unfold fr; rw [farsIt_len, fars0_len]
def okE (n : Nat) (l : List S67) : Prop := ∀ e ∈ l, 0 ≤ e.f0 ∧ e.f0 < e.f1 ∧ e.f1 < n ∧ 1 ≤ e.f2 ∧ e.f2 ≤ 100
theorem rd_out {x : List Int} {v : Int} (h : (x.length : Int) ≤ v) : rd x v = 0 := by
 unfold rd
 rw [List.getD_eq_getElem?_getD, List.getElem?_eq_none (by omega)]
 rfl
theorem fars0_at (n : Nat) (a v : Int) (ha : 0 ≤ a) (ha1 : a < n) (hv : 0 ≤ v) (hv1 : v < n) : rd (fars0 n a) v = if v = a then 0 else 100000 := by
 unfold fars0
 rw [rd_setI ha (by rw [List.length_replicate]; exact ha1) hv]
 by_cases h : v = a
 ·rw [if_pos h, if_pos h]
 ·rw [if_neg h, if_neg h]
  unfold rd
  rw [List.getD_eq_getElem?_getD, List.getElem?_replicate, if_pos (by omega)]
  rfl
theorem sane_of {x : List Int} (h : ∀ v : Int, 0 ≤ v → v < x.length → 0 ≤ rd x v ∧ rd x v ≤ 100000) : sane x := by
 intro v
 by_cases hv : 0 ≤ v
 ·by_cases h1 : v < x.length
  ·exact h v hv h1
  ·rw [rd_out (by omega)]
   omega
 ·have e : rd x v = rd x 0 := by
   unfold rd
   rw [show v.toNat = (0 : Int).toNat by omega]
  rw [e]
  by_cases h1 : (0 : Int) < x.length
  ·exact h 0 (by omega) h1
  ·rw [rd_out (by omega)]
   omega
theorem fr_at (n : Nat) (l : List S67) (a : Int) (hl : okE n l) (k : Nat) (hs : sane (fr n l a k)) (v : Int) (hv : 0 ≤ v) : rd (fr n l a (k + 1)) v = l.foldl (offer (fr n l a k) v) (rd (fr n l a k) v) := by
 rw [fr_succ, relaxM, relFold_at hs v hv l _ (fun e he => by rw [fr_len]; exact hl e he)]
theorem fr_sane (n : Nat) (l : List S67) (a : Int) (hl : okE n l) (ha : 0 ≤ a) (ha1 : a < n) : ∀ k, sane (fr n l a k)
 | 0 => sane_of fun v hv hv1 => by
  rw [fr_len] at hv1
  show 0 ≤ rd (fars0 n a) v ∧ rd (fars0 n a) v ≤ 100000
  rw [fars0_at n a v ha ha1 hv hv1]
  split <;> omega
 | k + 1 => sane_of fun v hv hv1 => by
  have hs := fr_sane n l a hl ha ha1 k
  rw [fr_at n l a hl k hs v hv]
  have h1 := offers_le (fr n l a k) v l (rd (fr n l a k) v)
  have h2 := hs v
  refine ⟨?_, by omega⟩
  rcases offers_is (fr n l a k) v l (rd (fr n l a k) v) with h | ⟨e, he, h⟩
  ·omega
  ·have := hl e he
   have := hs e.f0
   have := hs e.f1
   omega
/-- an edge between two nodes, with its cost -/
def adj (l : List S67) (v u c : Int) : Prop := ∃ e ∈ l, ((e.f0 = v ∧ e.f1 = u) ∨ (e.f1 = v ∧ e.f0 = u)) ∧ e.f2 = c
theorem adj_in {n : Nat} {l : List S67} (hl : okE n l) {v u c : Int} (h : adj l v u c) : 0 ≤ v ∧ v < n ∧ 0 ≤ u ∧ u < n ∧ v ≠ u ∧ 1 ≤ c ∧ c ≤ 100 := by
 obtain ⟨e, he, h, rfl⟩ := h
 have := hl e he
 omega
theorem fr_mono (n : Nat) (l : List S67) (a : Int) (hl : okE n l) (ha : 0 ≤ a) (ha1 : a < n) (k : Nat) (v : Int) (hv : 0 ≤ v) : rd (fr n l a (k + 1)) v ≤ rd (fr n l a k) v := by
 rw [fr_at n l a hl k (fr_sane n l a hl ha ha1 k) v hv]
 exact offers_le ..
theorem fr_mono2 (n : Nat) (l : List S67) (a : Int) (hl : okE n l) (ha : 0 ≤ a) (ha1 : a < n) (v : Int) (hv : 0 ≤ v) (j : Nat) : ∀ d, rd (fr n l a (j + d)) v ≤ rd (fr n l a j) v
 | 0 => Int.le_refl _
 | d + 1 => Int.le_trans (fr_mono n l a hl ha ha1 (j + d) v hv) (fr_mono2 n l a hl ha ha1 v hv j d)
theorem fr_min (n : Nat) (l : List S67) (a : Int) (hl : okE n l) (ha : 0 ≤ a) (ha1 : a < n) (k : Nat) {v u c : Int} (h : adj l v u c) : rd (fr n l a (k + 1)) v ≤ rd (fr n l a k) u + c := by
 have hin := adj_in hl h
 rw [fr_at n l a hl k (fr_sane n l a hl ha ha1 k) v hin.1]
 obtain ⟨e, he, h, rfl⟩ := h
 have := offers_min (fr n l a k) v l (rd (fr n l a k) v) (fun x hx => (hl x hx).2.1) e he
 rcases h with ⟨h0, rfl⟩ | ⟨h0, rfl⟩
 ·exact this.1 h0
 ·exact this.2 h0
theorem fr_is (n : Nat) (l : List S67) (a : Int) (hl : okE n l) (ha : 0 ≤ a) (ha1 : a < n) (k : Nat) (v : Int) (hv : 0 ≤ v) : rd (fr n l a (k + 1)) v = rd (fr n l a k) v ∨ ∃ u c, adj l v u c ∧ rd (fr n l a (k + 1)) v = rd (fr n l a k) u + c := by
 rw [fr_at n l a hl k (fr_sane n l a hl ha ha1 k) v hv]
 rcases offers_is (fr n l a k) v l (rd (fr n l a k) v) with h | ⟨e, he, h | h⟩
 ·exact .inl h
 ·exact .inr ⟨e.f1, e.f2, ⟨e, he, .inl ⟨h.1, rfl⟩, rfl⟩, h.2⟩
 ·exact .inr ⟨e.f0, e.f2, ⟨e, he, .inr ⟨h.1, rfl⟩, rfl⟩, h.2⟩
/-- a label that still falls has a chain of falling labels behind it -/
theorem chain (n : Nat) (l : List S67) (a : Int) (hl : okE n l) (ha : 0 ≤ a) (ha1 : a < n) : ∀ (k : Nat) (v : Int), 0 ≤ v → v < n → rd (fr n l a (k + 1)) v < rd (fr n l a k) v →
  ∃ L : List Int, (v :: L).Nodup ∧ L.length = k + 1 ∧ (∀ w ∈ L, 0 ≤ w ∧ w < n) ∧ ∀ w ∈ L, ∃ j, j ≤ k ∧ rd (fr n l a j) w < rd (fr n l a (k + 1)) v := by
 intro k
 have key : ∀ (k : Nat) (v u c : Int), adj l v u c → rd (fr n l a (k + 1)) v = rd (fr n l a k) u + c → rd (fr n l a (k + 1)) v < rd (fr n l a k) v → ∀ (L : List Int), (u :: L).Nodup → L.length = k → (∀ w ∈ L, 0 ≤ w ∧ w < n) → (∀ w ∈ L, ∃ j, j ≤ k ∧ rd (fr n l a j) w < rd (fr n l a k) u) →
   ∃ L : List Int, (v :: L).Nodup ∧ L.length = k + 1 ∧ (∀ w ∈ L, 0 ≤ w ∧ w < n) ∧ ∀ w ∈ L, ∃ j, j ≤ k ∧ rd (fr n l a j) w < rd (fr n l a (k + 1)) v := by
  intro k v u c hadj he hlt L hn hlen hin hw
  have ha' := adj_in hl hadj
  have all : ∀ w ∈ u :: L, ∃ j, j ≤ k ∧ rd (fr n l a j) w < rd (fr n l a (k + 1)) v := by
   intro w hm
   rcases List.mem_cons.1 hm with rfl | hm
   ·exact ⟨k, Nat.le_refl k, by omega⟩
   ·obtain ⟨j, hj, h⟩ := hw w hm
    exact ⟨j, hj, by omega⟩
  refine ⟨u :: L, List.nodup_cons.2 ⟨fun hv => ?_, hn⟩, by rw [List.length_cons, hlen], fun w hm => ?_, all⟩
  ·obtain ⟨j, hj, h⟩ := all v hv
   have := fr_mono2 n l a hl ha ha1 v ha'.1 j (k + 1 - j)
   rw [show j + (k + 1 - j) = k + 1 by omega] at this
   omega
  ·rcases List.mem_cons.1 hm with rfl | hm
   ·exact ⟨ha'.2.2.1, ha'.2.2.2.1⟩
   ·exact hin w hm
 induction k with
 | zero =>
  intro v hv hv1 hlt
  rcases fr_is n l a hl ha ha1 0 v hv with h | ⟨u, c, hadj, he⟩
  ·omega
  ·exact key 0 v u c hadj he hlt [] (by simp) rfl (fun w hw => by simp at hw) (fun w hw => by simp at hw)
 | succ k ih =>
  intro v hv hv1 hlt
  rcases fr_is n l a hl ha ha1 (k + 1) v hv with h | ⟨u, c, hadj, he⟩
  ·omega
  ·have ha' := adj_in hl hadj
   have hu : rd (fr n l a (k + 1)) u < rd (fr n l a k) u := by
    have := fr_min n l a hl ha ha1 k hadj
    omega
   obtain ⟨L, h1, h2, h3, h4⟩ := ih u ha'.2.2.1 ha'.2.2.2.1 hu
   exact key (k + 1) v u c hadj he hlt L h1 h2 h3 (fun w hm => by obtain ⟨j, hj, h⟩ := h4 w hm; exact ⟨j, by omega, h⟩)
theorem fr_still (n : Nat) (l : List S67) (a : Int) (hl : okE n l) (ha : 0 ≤ a) (ha1 : a < n) (k : Nat) (hk : n ≤ k + 1) (v : Int) (hv : 0 ≤ v) (hv1 : v < n) : rd (fr n l a (k + 1)) v = rd (fr n l a k) v := by
 have h1 := fr_mono n l a hl ha ha1 k v hv
 by_cases h : rd (fr n l a (k + 1)) v < rd (fr n l a k) v
 ·obtain ⟨L, hn, hlen, hin, _⟩ := chain n l a hl ha ha1 k v hv hv1 h
  have := nodup_le (v :: L) (own0 n) hn (fun x hx => by
   rw [own0_mem]
   rcases List.mem_cons.1 hx with rfl | hx
   ·exact ⟨hv, hv1⟩
   ·exact hin x hx)
  rw [own0_len, List.length_cons, hlen] at this
  omega
 ·omega
theorem farsM_fr (n : Nat) (l : List S67) (a : Int) : farsM n l a = fr n l a n := rfl
/-- no edge shortens what is settled -/
theorem fars_min {n : Nat} {l : List S67} {a : Int} (hl : okE n l) (ha : 0 ≤ a) (ha1 : a < n) {v u c : Int} (h : adj l v u c) : rd (farsM n l a) v ≤ rd (farsM n l a) u + c := by
 have hin := adj_in hl h
 rw [farsM_fr, ← fr_still n l a hl ha ha1 n (by omega) v hin.1 hin.2.1]
 exact fr_min n l a hl ha ha1 n h
theorem fars_self {n : Nat} {l : List S67} {a : Int} (hl : okE n l) (ha : 0 ≤ a) (ha1 : a < n) : rd (farsM n l a) a = 0 := by
 have h := fr_mono2 n l a hl ha ha1 a ha 0 n
 rw [Nat.zero_add] at h
 have h0 : rd (fr n l a 0) a = 0 := by
  show rd (fars0 n a) a = 0
  rw [fars0_at n a a ha ha1 ha ha1, if_pos rfl]
 have := (fr_sane n l a hl ha ha1 n a).1
 rw [farsM_fr]
 omega
/-- a node that is reached has a next hop -/
theorem fars_hop {n : Nat} {l : List S67} {a : Int} (hl : okE n l) (ha : 0 ≤ a) (ha1 : a < n) {v : Int} (hv : 0 ≤ v) (hv1 : v < n) (hne : v ≠ a) (hlt : rd (farsM n l a) v < 100000) : ∃ u c, adj l v u c ∧ rd (farsM n l a) v = rd (farsM n l a) u + c := by
 have gen : ∀ k, k ≤ n → rd (fr n l a k) v = rd (farsM n l a) v → ∃ u c, adj l v u c ∧ rd (farsM n l a) v = rd (farsM n l a) u + c := by
  intro k
  induction k with
  | zero =>
   intro _ he
   have : rd (fr n l a 0) v = 100000 := by
    show rd (fars0 n a) v = 100000
    rw [fars0_at n a v ha ha1 hv hv1, if_neg hne]
   omega
  | succ k ih =>
   intro hk he
   rcases fr_is n l a hl ha ha1 k v hv with h | ⟨u, c, hadj, h⟩
   ·exact ih (by omega) (by rw [← h]; exact he)
   ·refine ⟨u, c, hadj, ?_⟩
    have h1 := fars_min hl ha ha1 hadj
    have h2 := fr_mono2 n l a hl ha ha1 u (adj_in hl hadj).2.2.1 k (n - k)
    rw [show k + (n - k) = n by omega, ← farsM_fr] at h2
    omega
 exact gen n (Nat.le_refl n) rfl
end Go.Proofs.Ytklecgkjoofipaa.P

namespace Go.Proofs.Ytklecgkjoofipaa.P
open Go.RowKit Go.Proofs.YtklecgkjoofipaaW.PrintWords Go.Proofs.YtklecgkjoofipaaW.PrintLast
set_option linter.unusedVariables false
set_option linter.unusedSimpArgs false
-- the ways of least cost: what the settled labels say of them
theorem okE_of {n : Int} {l : List S67} (h : goodE n l = true) : okE n.toNat l := fun e he => by
 have := goodE_edge h e he
 have := goodE_n h
 omega
theorem pair_uniq {α β : Type} {R : α → α → Prop} (k : α → β) (hk : ∀ x y, R x y → k x ≠ k y) : ∀ (l : List α), l.Pairwise R → ∀ x ∈ l, ∀ y ∈ l, k x = k y → x = y
 | [], _, x, hx, _, _, _ => by simp at hx
 | a :: l, h, x, hx, y, hy, e => by
  obtain ⟨h1, h2⟩ := List.pairwise_cons.1 h
  rcases List.mem_cons.1 hx with e1 | hx2
  ·rcases List.mem_cons.1 hy with e2 | hy2
   ·rw [e1, e2]
   ·subst e1
    exact absurd e (hk _ _ (h1 y hy2))
  ·rcases List.mem_cons.1 hy with e2 | hy2
   ·subst e2
    exact absurd e.symm (hk _ _ (h1 x hx2))
   ·exact pair_uniq k hk l h2 x hx2 y hy2 e
theorem adj_cost {n : Int} {l : List S67} (h : goodE n l = true) {v u c : Int} (ha : adj l v u c) : costM l v u = c := by
 obtain ⟨e, he, hv, rfl⟩ := ha
 have h1 := goodE_edge h e he
 have hat : isAt v u e = true := by
  unfold isAt
  rw [decide_eq_true_eq]
  omega
 unfold costM
 cases hf : l.find? (isAt v u) with
 | none =>
  have := List.find?_eq_none.1 hf e he
  exact absurd hat this
 | some x =>
  have hx := List.mem_of_find?_eq_some hf
  have h2 := List.find?_some hf
  unfold isAt at h2 hat
  rw [decide_eq_true_eq] at h2 hat
  have := pair_uniq (fun x : S67 => (x.f0, x.f1)) (fun x y hR he => by
   simp only [Prod.mk.injEq] at he
   omega) l (goodE_pair h) x hx e he (by simp only [Prod.mk.injEq]; omega)
  rw [this]
theorem cost_adj {n : Int} {l : List S67} (h : goodE n l = true) {v u : Int} (hc : costM l v u > 0) : adj l v u (costM l v u) := by
 unfold costM at hc ⊢
 cases hf : l.find? (isAt v u) with
 | none => rw [hf] at hc; exact absurd hc (by simp)
 | some x =>
  have hx := List.mem_of_find?_eq_some hf
  have h2 := List.find?_some hf
  unfold isAt at h2
  rw [decide_eq_true_eq] at h2
  exact ⟨x, hx, by omega, rfl⟩
theorem hops_mem {n : Int} {l : List S67} (h : goodE n l = true) {a : Int} (ha : 0 ≤ a) (ha1 : a < n) {v u : Int} (hm : u ∈ hopsGo l v (farsM n.toNat l a) (nearM n.toNat l v)) :
  0 ≤ u ∧ u < n ∧ adj l v u (costM l v u) ∧ rd (farsM n.toNat l a) v < 100000 ∧ rd (farsM n.toNat l a) v = rd (farsM n.toNat l a) u + costM l v u := by
 unfold hopsGo at hm
 obtain ⟨h1, h2⟩ := List.mem_filter.1 hm
 rw [decide_eq_true_eq] at h2
 have hin := nearM_in _ _ _ _ h1
 unfold nearM at h1
 have hc := (List.mem_filter.1 h1).2
 rw [decide_eq_true_eq] at hc
 have had := cost_adj h hc
 have h3 := adj_in (okE_of h) had
 have hs := fr_sane n.toNat l a (okE_of h) ha (by omega) n.toNat u
 rw [← farsM_fr] at hs
 rw [wrap_id (by omega) (by omega)] at h2
 exact ⟨hin.1, by omega, had, h2.1, h2.2.symm⟩
theorem hops_some {n : Int} {l : List S67} (h : goodE n l = true) {a : Int} (ha : 0 ≤ a) (ha1 : a < n) {v : Int} (hv : 0 ≤ v) (hv1 : v < n) (hne : v ≠ a) (hlt : rd (farsM n.toNat l a) v < 100000) :
  ∃ u t, hopsGo l v (farsM n.toNat l a) (nearM n.toNat l v) = u :: t := by
 obtain ⟨u, c, had, he⟩ := fars_hop (okE_of h) ha (by omega) hv (by omega) hne hlt
 have h3 := adj_in (okE_of h) had
 have hc := adj_cost h had
 have hs := fr_sane n.toNat l a (okE_of h) ha (by omega) n.toNat u
 rw [← farsM_fr] at hs
 have hm : u ∈ hopsGo l v (farsM n.toNat l a) (nearM n.toNat l v) := by
  unfold hopsGo
  refine List.mem_filter.2 ⟨?_, ?_⟩
  ·unfold nearM
   refine List.mem_filter.2 ⟨(own0_mem _ _).2 ⟨h3.2.2.1, h3.2.2.2.1⟩, ?_⟩
   rw [decide_eq_true_eq, hc]
   omega
  ·rw [decide_eq_true_eq, hc, wrap_id (by omega) (by omega)]
   exact ⟨hlt, he.symm⟩
 cases hl : hopsGo l v (farsM n.toNat l a) (nearM n.toNat l v) with
 | nil => rw [hl] at hm; simp at hm
 | cons u t => exact ⟨u, t, rfl⟩
/-- the way on from a node, with a bound on its steps -/
def wayGo (n : Nat) (l : List S67) (F : List Int) (b : Int) : Nat → Int → List Int
 | 0, _ => []
 | d + 1, v => if v = b then [] else rd (hopsGo l v F (nearM n l v)) 0 :: wayGo n l F b d (rd (hopsGo l v F (nearM n l v)) 0)
theorem way_step {n : Int} {l : List S67} (h : goodE n l = true) {b : Int} (hb : 0 ≤ b) (hb1 : b < n) {v : Int} (hv : 0 ≤ v) (hv1 : v < n) (hne : v ≠ b) (hlt : rd (farsM n.toNat l b) v < 100000) :
  ∃ u t, hopsGo l v (farsM n.toNat l b) (nearM n.toNat l v) = u :: t ∧ 0 ≤ u ∧ u < n ∧ rd (farsM n.toNat l b) u < rd (farsM n.toNat l b) v ∧ adj l v u (costM l v u) ∧ rd (farsM n.toNat l b) v = rd (farsM n.toNat l b) u + costM l v u ∧ 0 ≤ rd (farsM n.toNat l b) u := by
 obtain ⟨u, t, e⟩ := hops_some h hb hb1 hv hv1 hne hlt
 have hm : u ∈ hopsGo l v (farsM n.toNat l b) (nearM n.toNat l v) := by rw [e]; exact List.mem_cons_self ..
 obtain ⟨h0, h1, h2, h3, h4⟩ := hops_mem h hb hb1 hm
 have h5 := adj_in (okE_of h) h2
 have hs := fr_sane n.toNat l b (okE_of h) hb (by omega) n.toNat u
 rw [← farsM_fr] at hs
 exact ⟨u, t, e, h0, h1, by omega, h2, h4, hs.1⟩
/-- a walk over edges, with its cost -/
inductive Walk (l : List S67) : Int → Int → Int → Prop
 | nil (v : Int) : Walk l v v 0
 | cons {v u b c d : Int} : adj l v u c → Walk l u b d → Walk l v b (c + d)
theorem adj_symm {l : List S67} {v u c : Int} (h : adj l v u c) : adj l u v c := by
 obtain ⟨e, he, h, rfl⟩ := h
 exact ⟨e, he, h.elim (fun x => .inr ⟨x.2, x.1⟩) (fun x => .inl ⟨x.2, x.1⟩), rfl⟩
theorem Walk.trans {l : List S67} {v u b c d : Int} (h : Walk l v u c) (k : Walk l u b d) : Walk l v b (c + d) := by
 induction h with
 | nil v => rw [Int.zero_add]; exact k
 | cons ha _ ih => rw [Int.add_assoc]; exact .cons ha (ih k)
theorem Walk.symm {l : List S67} {v b d : Int} (h : Walk l v b d) : Walk l b v d := by
 induction h with
 | nil v => exact .nil v
 | @cons v u b c d ha _ ih =>
  have := ih.trans (.cons (adj_symm ha) (.nil v))
  rw [show c + d = d + (c + 0) by omega]
  exact this
theorem Walk.far {n : Nat} {l : List S67} (hl : okE n l) {a : Int} (ha : 0 ≤ a) (ha1 : a < n) {v b d : Int} (h : Walk l v b d) : rd (farsM n l a) v ≤ rd (farsM n l a) b + d := by
 induction h with
 | nil v => omega
 | cons hadj _ ih =>
  have := fars_min hl ha ha1 hadj
  omega
theorem walk_of {n : Int} {l : List S67} (h : goodE n l = true) {b : Int} (hb : 0 ≤ b) (hb1 : b < n) : ∀ (d : Nat) (v : Int), 0 ≤ v → v < n → rd (farsM n.toNat l b) v < 100000 → rd (farsM n.toNat l b) v ≤ d → Walk l v b (rd (farsM n.toNat l b) v)
 | 0, v, hv, hv1, hlt, hd => by
  by_cases hne : v = b
  ·subst hne
   rw [fars_self (okE_of h) hv (by omega)]
   exact .nil v
  ·obtain ⟨u, t, _, _, _, h5, _, _, h6⟩ := way_step h hb hb1 hv hv1 hne hlt
   omega
 | d + 1, v, hv, hv1, hlt, hd => by
  by_cases hne : v = b
  ·subst hne
   rw [fars_self (okE_of h) hv (by omega)]
   exact .nil v
  ·obtain ⟨u, t, _, h0, h1, h5, h6, h7, _⟩ := way_step h hb hb1 hv hv1 hne hlt
   rw [show rd (farsM n.toNat l b) v = costM l v u + rd (farsM n.toNat l b) u by omega]
   exact .cons h6 (walk_of h hb hb1 d u h0 h1 (by omega) (by omega))
theorem fars_sane {n : Int} {l : List S67} (h : goodE n l = true) {b : Int} (hb : 0 ≤ b) (hb1 : b < n) (v : Int) : 0 ≤ rd (farsM n.toNat l b) v ∧ rd (farsM n.toNat l b) v ≤ 100000 := by
 have hs := fr_sane n.toNat l b (okE_of h) hb (by omega) n.toNat v
 rw [← farsM_fr] at hs
 exact hs
theorem fars_symm_le {n : Int} {l : List S67} (h : goodE n l = true) {a b : Int} (ha : 0 ≤ a) (ha1 : a < n) (hb : 0 ≤ b) (hb1 : b < n) : rd (farsM n.toNat l a) b ≤ rd (farsM n.toNat l b) a := by
 have h1 := fars_sane h hb hb1 a
 have h2 := fars_sane h ha ha1 b
 by_cases hlt : rd (farsM n.toNat l b) a < 100000
 ·have hw := walk_of h hb hb1 (rd (farsM n.toNat l b) a).toNat a ha ha1 hlt (by omega)
  have := hw.symm.far (okE_of h) ha (by omega)
  rw [fars_self (okE_of h) ha (by omega)] at this
  omega
 ·omega
theorem fars_symm {n : Int} {l : List S67} (h : goodE n l = true) {a b : Int} (ha : 0 ≤ a) (ha1 : a < n) (hb : 0 ≤ b) (hb1 : b < n) : rd (farsM n.toNat l a) b = rd (farsM n.toNat l b) a :=
 Int.le_antisymm (fars_symm_le h ha ha1 hb hb1) (fars_symm_le h hb hb1 ha ha1)
theorem fars_tri {n : Int} {l : List S67} (h : goodE n l = true) {a k j : Int} (ha : 0 ≤ a) (ha1 : a < n) (hk : 0 ≤ k) (hk1 : k < n) (hj : 0 ≤ j) (hj1 : j < n) : rd (farsM n.toNat l a) j ≤ rd (farsM n.toNat l a) k + rd (farsM n.toNat l k) j := by
 have h1 := fars_sane h ha ha1 j
 have h2 := fars_sane h ha ha1 k
 have h3 := fars_sane h hk hk1 j
 by_cases hlt : rd (farsM n.toNat l k) j < 100000
 ·have hw := walk_of h hk hk1 (rd (farsM n.toNat l k) j).toNat j hj hj1 hlt (by omega)
  exact hw.far (okE_of h) ha (by omega)
 ·omega
end Go.Proofs.Ytklecgkjoofipaa.P

namespace Go.Proofs.Ytklecgkjoofipaa.P
open Go.RowKit Go.Proofs.YtklecgkjoofipaaW.PrintWords Go.Proofs.YtklecgkjoofipaaW.PrintLast
set_option linter.unusedVariables false
set_option linter.unusedSimpArgs false
-- the way that the first hops make
def wayCost (l : List S67) : Int → List Int → Int
 | _, [] => 0
 | v, u :: r => costM l v u + wayCost l u r
def wayPos (l : List S67) : Int → List Int → Prop
 | _, [] => True
 | v, u :: r => costM l v u > 0 ∧ wayPos l u r
theorem rd_head (u : Int) (t : List Int) : rd (u :: t) 0 = u := rfl
theorem wayGo_at {n : Nat} {l : List S67} {F : List Int} {b : Int} (d : Nat) : wayGo n l F b (d + 1) b = [] := by rw [wayGo, if_pos rfl]
theorem wayGo_cons {n : Nat} {l : List S67} {F : List Int} {b v u : Int} {t : List Int} (d : Nat) (hne : v ≠ b) (e : hopsGo l v F (nearM n l v) = u :: t) : wayGo n l F b (d + 1) v = u :: wayGo n l F b d u := by
 rw [wayGo, if_neg hne, e, rd_head]
structure WayOk (n : Int) (l : List S67) (F : List Int) (b v : Int) (W : List Int) : Prop where
 low : ∀ w ∈ W, 0 ≤ w ∧ w < n ∧ rd F w < rd F v
 nodup : (v :: W).Nodup
 last : (v :: W).getLast? = some b
 cost : wayCost l v W = rd F v
 pos : wayPos l v W
theorem wayGo_ok {n : Int} {l : List S67} (h : goodE n l = true) {b : Int} (hb : 0 ≤ b) (hb1 : b < n) : ∀ (d : Nat) (v : Int), 0 ≤ v → v < n → rd (farsM n.toNat l b) v < 100000 → rd (farsM n.toNat l b) v ≤ d → WayOk n l (farsM n.toNat l b) b v (wayGo n.toNat l (farsM n.toNat l b) b (d + 1) v) := by
 intro d
 induction d with
 | zero =>
  intro v hv hv1 hlt hd
  by_cases hne : v = b
  ·subst hne
   rw [wayGo_at]
   exact ⟨fun w hw => by simp at hw, by simp, rfl, (fars_self (okE_of h) hv (by omega)).symm, trivial⟩
  ·obtain ⟨u, t, _, _, _, h5, _, _, h6⟩ := way_step h hb hb1 hv hv1 hne hlt
   omega
 | succ d ih =>
  intro v hv hv1 hlt hd
  by_cases hne : v = b
  ·subst hne
   rw [wayGo_at]
   exact ⟨fun w hw => by simp at hw, by simp, rfl, (fars_self (okE_of h) hv (by omega)).symm, trivial⟩
  ·obtain ⟨u, t, e, h0, h1, h5, h6, h7, _⟩ := way_step h hb hb1 hv hv1 hne hlt
   rw [wayGo_cons (d + 1) hne e]
   have r := ih u h0 h1 (by omega) (by omega)
   generalize wayGo n.toNat l (farsM n.toNat l b) b (d + 1) u = W at r
   have hlow : ∀ w ∈ u :: W, 0 ≤ w ∧ w < n ∧ rd (farsM n.toNat l b) w < rd (farsM n.toNat l b) v := by
    intro w hw
    rcases List.mem_cons.1 hw with rfl | hw
    ·exact ⟨h0, h1, h5⟩
    ·have := r.low w hw
     exact ⟨this.1, this.2.1, by omega⟩
   refine ⟨hlow, List.nodup_cons.2 ⟨fun hm => ?_, r.nodup⟩, ?_, ?_, ?_, r.pos⟩
   ·have := hlow v hm
    omega
   ·rw [List.getLast?_cons_cons]
    exact r.last
   ·rw [wayCost, r.cost, h7, Int.add_comm]
   ·have := adj_in (okE_of h) h6
    show costM l v u > 0
    omega
theorem way_len {n : Int} {l : List S67} {F : List Int} {b v : Int} {W : List Int} (hv : 0 ≤ v) (hv1 : v < n) (h : WayOk n l F b v W) : W.length + 1 ≤ n.toNat := by
 have := nodup_le (v :: W) (own0 n.toNat) h.nodup (fun x hx => by
  rw [own0_mem]
  rcases List.mem_cons.1 hx with rfl | hx
  ·omega
  ·have := h.low x hx
   omega)
 rw [own0_len, List.length_cons] at this
 exact this
theorem wayCost_le {n : Int} {l : List S67} (h : goodE n l = true) : ∀ (W : List Int) (v : Int), wayCost l v W ≤ 100 * W.length
 | [], _ => by simp [wayCost]
 | u :: W, v => by
  have := wayCost_le h W u
  have hc : costM l v u ≤ 100 := by
   by_cases hp : costM l v u > 0
   ·have := adj_in (okE_of h) (cost_adj h hp)
    omega
   ·omega
  rw [wayCost, List.length_cons]
  omega
theorem fars_small {n : Int} {l : List S67} (h : goodE n l = true) {b : Int} (hb : 0 ≤ b) (hb1 : b < n) {v : Int} (hv : 0 ≤ v) (hv1 : v < n) (hlt : rd (farsM n.toNat l b) v < 100000) : rd (farsM n.toNat l b) v ≤ 1200 := by
 have hs := fars_sane h hb hb1 v
 have r := wayGo_ok h hb hb1 (rd (farsM n.toNat l b) v).toNat v hv hv1 hlt (by omega)
 have h1 := way_len hv hv1 r
 have h2 := wayCost_le h (wayGo n.toNat l (farsM n.toNat l b) b ((rd (farsM n.toNat l b) v).toNat + 1) v) v
 rw [r.cost] at h2
 have := goodE_n h
 omega
/-- far is what cannot be reached -/
theorem fars_adj {n : Int} {l : List S67} (h : goodE n l = true) {b : Int} (hb : 0 ≤ b) (hb1 : b < n) {v u c : Int} (ha : adj l v u c) (hlt : rd (farsM n.toNat l b) u < 100000) : rd (farsM n.toNat l b) v < 100000 := by
 have h1 := adj_in (okE_of h) ha
 have := fars_small h hb hb1 h1.2.2.1 (by omega) hlt
 have := fars_min (okE_of h) hb (by omega) ha
 omega
end Go.Proofs.Ytklecgkjoofipaa.P

namespace Go.Proofs.Ytklecgkjoofipaa.P
open Go.RowKit Go.Proofs.YtklecgkjoofipaaW.PrintWords Go.Proofs.YtklecgkjoofipaaW.PrintLast
set_option linter.unusedVariables false
set_option linter.unusedSimpArgs false
-- the groups of the program
def prs (l : List S67) : List (Nat × Nat) := l.map fun e => (e.f0.toNat, e.f1.toNat)
theorem prs_in {n : Int} {l : List S67} (h : ∀ x ∈ l, 0 ≤ x.f0 ∧ x.f0 < x.f1 ∧ x.f1 < n) : InG n.toNat (prs l) := by
 intro e he
 unfold prs at he
 obtain ⟨x, hx, rfl⟩ := List.mem_map.1 he
 have := h x hx
 constructor
 ·show x.f0.toNat < n.toNat
  omega
 ·show x.f1.toNat < n.toNat
  omega
def groupsM (n : Int) (l : List S67) : List Int := grp n.toNat (prs l)
theorem stepG_ne {out : List Int} {e : Nat × Nat} (h1 : e.1 < out.length) (h2 : e.2 < out.length) : stepG out e = out ↔ (at_ out e.1 = min (at_ out e.1) (at_ out e.2) ∧ at_ out e.2 = min (at_ out e.1) (at_ out e.2)) := by
 constructor
 ·intro h
  have a1 := stepG_at out e h1 h2 e.1
  have a2 := stepG_at out e h1 h2 e.2
  rw [h] at a1 a2
  simp only [true_or, or_true, if_true] at a1 a2
  exact ⟨a1, a2⟩
 ·intro h
  apply List.ext_getElem?
  intro v
  by_cases hv : v < out.length
  ·have l1 : v < (stepG out e).length := by rw [stepG_len]; exact hv
   have a := stepG_at out e h1 h2 v
   have : at_ (stepG out e) v = at_ out v := by
    rw [a]
    split
    ·rename_i hve
     rcases hve with rfl | rfl
     ·exact h.1.symm
     ·exact h.2.symm
    ·rfl
   unfold at_ at this
   rw [List.getD_eq_getElem?_getD, List.getD_eq_getElem?_getD, List.getElem?_eq_getElem l1, List.getElem?_eq_getElem hv] at this
   rw [List.getElem?_eq_getElem l1, List.getElem?_eq_getElem hv]
   exact congrArg some this
  ·rw [List.getElem?_eq_none (by rw [stepG_len]; omega), List.getElem?_eq_none (by omega)]
theorem round_moved {out : List Int} {e : Nat × Nat} {E : List (Nat × Nat)} (h1 : e.1 < out.length) (h2 : e.2 < out.length) (hE : InG out.length E) (h : stepG out e ≠ out) : roundG E (stepG out e) ≠ out := by
 intro hc
 refine h ((stepG_ne h1 h2).2 ?_)
 have key : ∀ v, at_ out v ≤ at_ (stepG out e) v := fun v => by
  have := roundG_le E (stepG out e) (by rw [stepG_len]; exact hE) v
  rw [hc] at this
  exact this
 have a1 := stepG_at out e h1 h2 e.1
 have a2 := stepG_at out e h1 h2 e.2
 simp only [true_or, or_true, if_true] at a1 a2
 have k1 := key e.1
 have k2 := key e.2
 omega
def pairs (l : List S67) : List (List Int) := l.map fun e => [e.f0, e.f1]
theorem rdLL_mid (pre : List (List Int)) (x : List Int) (suf : List (List Int)) : rd_L4 (pre ++ x :: suf) (pre.length : Int) = x := getD_mid _ pre x suf
theorem implGroups_l2 (P : List (List Int)) (R : List Int) (suf : List S67) : ∀ (pre : List S67) (out : List Int) (b : Bool), pairs (pre ++ suf) = P → (P.length : Int) ≤ 1099511627776 → (∀ x ∈ suf, 0 ≤ x.f0 ∧ x.f0 < x.f1 ∧ x.f1 < out.length) →
  Ev (fun k => impl_groups.l1 k P (roundG (prs suf) out) (b || !decide (roundG (prs suf) out = out))) R →
  Ev (fun k => impl_groups.l2 k P out b P (P.length : Int) (pre.length : Int)) R := by
 induction suf with
 | nil =>
  intro pre out b he hb hx h
  refine Ev.succ ?_
  simp only [impl_groups.l2]
  have c1 : ¬ (pre.length : Int) < (P.length : Int) := by rw [← he]; simp [pairs]
  simp only [if_neg c1]
  have e : roundG (prs []) out = out := rfl
  rw [e] at h
  simpa using h
 | cons x suf ih =>
  intro pre out b he hb hx h
  have hl : P.length = pre.length + suf.length + 1 := by rw [← he]; simp [pairs] <;> omega
  have c1 : (pre.length : Int) < (P.length : Int) := by omega
  have c0 : (0 : Int) ≤ (pre.length : Int) := by omega
  have hr : rd_L4 P (pre.length : Int) = [x.f0, x.f1] := by
   rw [← he]
   have := rdLL_mid (pairs pre) [x.f0, x.f1] (pairs suf)
   unfold pairs at this ⊢
   rw [List.length_map] at this
   simpa using this
  have hxx := hx x (by simp)
  have i1 : x.f0.toNat < out.length := by omega
  have i2 : x.f1.toNat < out.length := by omega
  have hE : InG out.length (prs suf) := by
   have := prs_in (n := (out.length : Int)) (l := suf) (fun y hy => hx y (by simp [hy]))
   simpa using this
  refine Ev.succ ?_
  simp only [impl_groups.l2]
  have r0 : rd [x.f0, x.f1] 0 = x.f0 := rfl
  have r1 : rd [x.f0, x.f1] 1 = x.f1 := rfl
  have q1 : (0 : Int) < (([x.f0, x.f1] : List Int).length : Int) := by simp
  have q2 : (1 : Int) < (([x.f0, x.f1] : List Int).length : Int) := by simp
  simp only [if_pos c1, if_pos c0, hr, if_pos q1, if_pos q2, r0, r1, if_pos (show 0 ≤ x.f0 by omega), if_pos (show x.f0 < (out.length : Int) by omega), if_pos (show 0 ≤ x.f1 by omega), if_pos (show x.f1 < (out.length : Int) by omega), mn_is, wrap_id (x := (pre.length : Int) + 1) (by omega) (by omega)]
  have go : ∀ b2 : Bool, b2 = (b || !decide (stepG out (x.f0.toNat, x.f1.toNat) = out)) →
    Ev (fun k => impl_groups.l2 k P (stepG out (x.f0.toNat, x.f1.toNat)) b2 P (P.length : Int) ((pre.length : Int) + 1)) R := by
   intro b2 hb2
   have h2 := ih (pre ++ [x]) (stepG out (x.f0.toNat, x.f1.toNat)) b2 (by rw [← he]; simp) hb (by rw [stepG_len]; exact fun y hy => hx y (by simp [hy])) (by
    have e : (b2 || !decide (roundG (prs suf) (stepG out (x.f0.toNat, x.f1.toNat)) = stepG out (x.f0.toNat, x.f1.toNat))) = (b || !decide (roundG (prs (x :: suf)) out = out)) := by
     rw [hb2]
     have er : roundG (prs (x :: suf)) out = roundG (prs suf) (stepG out (x.f0.toNat, x.f1.toNat)) := rfl
     rw [er]
     by_cases hs : stepG out (x.f0.toNat, x.f1.toNat) = out
     ·simp only [hs, decide_true, Bool.not_true, Bool.or_false]
     ·have hm := round_moved i1 i2 hE hs
      simp [hs, hm]
    rw [e]
    exact h)
   rw [len_one] at h2
   exact h2
  have hs := stepG_ne (out := out) (e := (x.f0.toNat, x.f1.toNat)) i1 i2
  have es : (out.set x.f0.toNat (min (rd out x.f0) (rd out x.f1))).set x.f1.toNat (min (rd out x.f0) (rd out x.f1)) = stepG out (x.f0.toNat, x.f1.toNat) := rfl
  have e1 : rd out x.f0 = at_ out x.f0.toNat := rfl
  have e2 : rd out x.f1 = at_ out x.f1.toNat := rfl
  rw [es]
  cases b with
  | true =>
   simp only [if_true]
   exact go true (by simp)
  | false =>
   simp only [Bool.false_eq_true, if_false]
   by_cases g1 : rd out x.f0 = min (rd out x.f0) (rd out x.f1)
   ·simp only [if_pos g1]
    refine go _ ?_
    rw [Bool.false_or]
    by_cases g2 : rd out x.f1 = min (rd out x.f0) (rd out x.f1)
    ·have : stepG out (x.f0.toNat, x.f1.toNat) = out := hs.2 ⟨g1, g2⟩
     rw [← g2]
     simp [this]
    ·have : stepG out (x.f0.toNat, x.f1.toNat) ≠ out := fun h => g2 (hs.1 h).2
     simp only [this, decide_false, Bool.not_false]
     rw [bne_iff_ne]
     exact g2
   ·simp only [if_neg g1]
    refine go true ?_
    have : stepG out (x.f0.toNat, x.f1.toNat) ≠ out := fun h => g1 (hs.1 h).1
    simp [this]
theorem implGroups_l1 (l : List S67) (n : Nat) (hb : (l.length : Int) ≤ 1048576) (hx : ∀ x ∈ l, 0 ≤ x.f0 ∧ x.f0 < x.f1 ∧ x.f1 < n) (d : Nat) : ∀ (c : Nat), c + d = n + 1 →
  Ev (fun k => impl_groups.l1 k (pairs l) (iterG (prs l) (own0 n) c) true) (grp n (prs l)) := by
 have hE : InG n (prs l) := by
  have := prs_in (n := (n : Int)) (l := l) hx
  simpa using this
 have stay : ∀ j, iterG (prs l) (own0 n) (n + j) = grp n (prs l) := by
  intro j
  induction j with
  | zero => rfl
  | succ j ihj =>
   show roundG (prs l) (iterG (prs l) (own0 n) (n + j)) = _
   rw [ihj]
   exact iterG_fix hE
 have fixed : ∀ c, c ≤ n → roundG (prs l) (iterG (prs l) (own0 n) c) = iterG (prs l) (own0 n) c → iterG (prs l) (own0 n) c = grp n (prs l) := by
  intro c hc hf
  have : ∀ j, iterG (prs l) (own0 n) (c + j) = iterG (prs l) (own0 n) c := by
   intro j
   induction j with
   | zero => rfl
   | succ j ihj =>
    show roundG (prs l) (iterG (prs l) (own0 n) (c + j)) = _
    rw [ihj]
    exact hf
  have h := this (n - c)
  rw [show c + (n - c) = n by omega] at h
  exact h.symm
 induction d with
 | zero =>
  intro c hc
  have hc : c = n + 1 := by omega
  subst hc
  refine Ev.succ ?_
  simp only [impl_groups.l1, if_true]
  refine implGroups_l2 (pairs l) _ l [] _ false rfl (by simp [pairs]; omega) (by rw [iterG_len, own0_len]; exact hx) ?_
  have e1 : iterG (prs l) (own0 n) (n + 1) = grp n (prs l) := stay 1
  rw [e1, iterG_fix hE]
  simp only [decide_true, Bool.not_true, Bool.or_false]
  refine Ev.succ ?_
  simp only [impl_groups.l1, Bool.false_eq_true, if_false]
  exact Ev.now _
 | succ d ih =>
  intro c hc
  refine Ev.succ ?_
  simp only [impl_groups.l1, if_true]
  refine implGroups_l2 (pairs l) _ l [] _ false rfl (by simp [pairs]; omega) (by rw [iterG_len, own0_len]; exact hx) ?_
  by_cases hf : roundG (prs l) (iterG (prs l) (own0 n) c) = iterG (prs l) (own0 n) c
  ·rw [hf]
   simp only [decide_true, Bool.not_true, Bool.or_false]
   refine Ev.succ ?_
   simp only [impl_groups.l1, Bool.false_eq_true, if_false]
   exact Ev.some_ (fixed c (by omega) hf)
  ·simp only [hf, decide_false, Bool.not_false, Bool.or_true]
   exact ih (c + 1) (by omega)
theorem implGroups_l0 (n : Nat) (hn : n ≤ 1000) (l : List S67) (hb : (l.length : Int) ≤ 1048576) (hx : ∀ x ∈ l, 0 ≤ x.f0 ∧ x.f0 < x.f1 ∧ x.f1 < n) (d : Nat) : ∀ (c : Nat), c + d = n →
  Ev (fun k => impl_groups.l0 k (pairs l) (own0 c ++ List.replicate d 0) (n : Int) (c : Int)) (grp n (prs l)) := by
 induction d with
 | zero =>
  intro c hc
  have hc : c = n := by omega
  subst hc
  refine Ev.succ ?_
  simp only [impl_groups.l0]
  simp only [if_neg (show ¬ (c : Int) < (c : Int) by omega), List.replicate_zero, List.append_nil]
  exact implGroups_l1 l c hb hx (c + 1) 0 (by omega)
 | succ d ih =>
  intro c hc
  refine Ev.succ ?_
  simp only [impl_groups.l0]
  have hl : (own0 c ++ List.replicate (d + 1) (0 : Int)).length = n := by simp [own0_len]; omega
  simp only [if_pos (show (c : Int) < (n : Int) by omega), if_pos (show (0 : Int) ≤ (c : Int) by omega), if_pos (show (c : Int) < ((own0 c ++ List.replicate (d + 1) (0 : Int)).length : Int) by omega), wrap_id (x := (c : Int) + 1) (by omega) (by omega)]
  have h := ih (c + 1) (by omega)
  have e : (own0 c ++ List.replicate (d + 1) (0 : Int)).set ((c : Int)).toNat (c : Int) = own0 (c + 1) ++ List.replicate d 0 := by
   rw [own0_succ, List.replicate_succ]
   have := set_mid (own0 c) (0 : Int) (c : Int) (List.replicate d 0)
   rw [own0_len] at this
   rw [this]
   simp
  rw [e, show ((c : Int)) + 1 = ((c + 1 : Nat) : Int) by omega]
  exact h
theorem implGroups_ev (n : Int) (l : List S67) (h0 : 0 ≤ n) (hn : n ≤ 1000) (hb : (l.length : Int) ≤ 1048576) (hx : ∀ x ∈ l, 0 ≤ x.f0 ∧ x.f0 < x.f1 ∧ x.f1 < n) : Ev (fun k => impl_groups.f k n (pairs l)) (groupsM n l) := by
 obtain ⟨m, rfl⟩ := Int.eq_ofNat_of_zero_le h0
 unfold impl_groups.f groupsM
 simp only [if_pos h0, Int.toNat_natCast, if_pos (show m ≤ 35184372088832 by omega), Option.bind_some, List.length_replicate]
 have h := implGroups_l0 m (by omega) l hb hx m 0 (by omega)
 exact h
theorem implGroupsOf_l0 (n : Int) (R : List Int) (suf : List S67) : ∀ (pre : List S67), ((pre ++ suf).length : Int) ≤ 1048576 → Ev (fun k => impl_groups.f k n (pairs (pre ++ suf))) R →
  Ev (fun k => impl_groupsOf.l0 k n (pairs pre) (pre ++ suf) ((pre ++ suf).length : Int) (pre.length : Int)) R := by
 induction suf with
 | nil =>
  intro pre hb h
  refine Ev.succ ?_
  simp only [impl_groupsOf.l0]
  simp only [if_neg (show ¬ (pre.length : Int) < ((pre ++ ([] : List S67)).length : Int) by simp)]
  rw [List.append_nil] at h
  exact Ev.bind h (Ev.now _)
 | cons x suf ih =>
  intro pre hb h
  have c1 : (pre.length : Int) < ((pre ++ x :: suf).length : Int) := by simp <;> omega
  have c0 : (0 : Int) ≤ (pre.length : Int) := by omega
  have hp : (pairs pre).length < 5864062014805 := by simp [pairs]; omega
  refine Ev.succ ?_
  simp only [impl_groupsOf.l0]
  simp only [if_pos c1, if_pos c0, rdEdge_mid, if_pos hp, wrap_id (x := (pre.length : Int) + 1) (by omega) (by omega)]
  have h2 := ih (pre ++ [x]) (by rw [← app_one]; exact hb) (by rw [← app_one]; exact h)
  rw [← app_one, len_one] at h2
  have e : pairs (pre ++ [x]) = pairs pre ++ [[x.f0, x.f1]] := by simp [pairs]
  rw [e] at h2
  exact h2
theorem implGroupsOf_ev (n : Int) (l : List S67) (h0 : 0 ≤ n) (hn : n ≤ 1000) (hb : (l.length : Int) ≤ 1048576) (hx : ∀ x ∈ l, 0 ≤ x.f0 ∧ x.f0 < x.f1 ∧ x.f1 < n) : Ev (fun k => impl_groupsOf.f k n l) (groupsM n l) := by
 unfold impl_groupsOf.f
 exact implGroupsOf_l0 n _ l [] (by simpa using hb) (implGroups_ev n l h0 hn hb hx)
def groupsOf (n : Int) (l : List S67) : List Int × Bool := if goodE n l = true then (groupsM n l, true) else ([], false)
theorem implGroupsOfTop_ev (n : Int) (l : List S67) (hl : l.length ≤ 1048576) : Ev (fun k => impl_GroupsOf.f k n l) (groupsOf n l) := by
 unfold impl_GroupsOf.f
 refine Ev.bind (implGoodE_ev n l hl) ?_
 unfold groupsOf
 cases hg : goodE n l with
 | false => simp only [Bool.false_eq_true, if_false]; exact Ev.now _
 | true =>
  have hn := goodE_n hg
  simp only [if_true]
  exact Ev.bind (implGroupsOf_ev n l (by omega) (by omega) (by omega) (fun x hx => by have := goodE_edge hg x hx; omega)) (Ev.now _)
theorem groupsM_len (n : Int) (l : List S67) : (groupsM n l).length = n.toNat := grp_len _ _
end Go.Proofs.Ytklecgkjoofipaa.P

namespace Go.Proofs.Ytklecgkjoofipaa.P
open Go.RowKit Go.Proofs.YtklecgkjoofipaaW.PrintWords Go.Proofs.YtklecgkjoofipaaW.PrintLast
set_option linter.unusedVariables false
set_option linter.unusedSimpArgs false
-- each edge that joins two groups takes one group away
def lab (n : Nat) (E : List (Nat × Nat)) (v : Nat) : Nat := (at_ (grp n E) v).toNat
theorem lab_ok {n : Nat} {E : List (Nat × Nat)} (hE : InG n E) {v : Nat} (hv : v < n) : at_ (grp n E) v = (lab n E v : Int) ∧ Conn E v (lab n E v) ∧ lab n E v < n ∧ ∀ m, Conn E v m → lab n E v ≤ m := by
 obtain ⟨u, e, c, h, hm⟩ := grp_ok hE hv
 have : lab n E v = u := by unfold lab; rw [e]; rfl
 rw [this]
 exact ⟨e, c, h, hm⟩
theorem lab_same {n : Nat} {E : List (Nat × Nat)} (hE : InG n E) {v w : Nat} (hv : v < n) (h : Conn E v w) : lab n E v = lab n E w := by
 have hw := h.lt hE hv
 have a := lab_ok hE hv
 have b := lab_ok hE hw
 have h1 := a.2.2.2 _ (h.trans b.2.1)
 have h2 := b.2.2.2 _ (h.symm.trans a.2.1)
 omega
theorem conn_iff {n : Nat} {E : List (Nat × Nat)} (hE : InG n E) {v w : Nat} (hv : v < n) (hw : w < n) : Conn E v w ↔ lab n E v = lab n E w := by
 refine ⟨lab_same hE hv, fun h => ?_⟩
 have a := (lab_ok hE hv).2.1
 have b := (lab_ok hE hw).2.1
 rw [← h] at b
 exact a.trans b.symm
end Go.Proofs.Ytklecgkjoofipaa.P

namespace Go.Proofs.Ytklecgkjoofipaa.P
open Go.RowKit Go.Proofs.YtklecgkjoofipaaW.PrintWords Go.Proofs.YtklecgkjoofipaaW.PrintLast
set_option linter.unusedVariables false
set_option linter.unusedSimpArgs false
-- the labels of good edges
theorem groupsM_at {n : Int} {l : List S67} (h : goodE n l = true) (v : Int) (h0 : 0 ≤ v) (h1 : v < n) : rd (groupsM n l) v = (lab n.toNat (prs l) v.toNat : Int) := by
 have hi := prs_in (fun x hm => ⟨(goodE_edge h x hm).1, (goodE_edge h x hm).2.1, (goodE_edge h x hm).2.2.1⟩)
 exact (lab_ok hi (show v.toNat < n.toNat by omega)).1
end Go.Proofs.Ytklecgkjoofipaa.P

namespace Go.Proofs.Ytklecgkjoofipaa.P
open Go.RowKit Go.Proofs.YtklecgkjoofipaaW.PrintWords Go.Proofs.YtklecgkjoofipaaW.PrintLast
set_option linter.unusedVariables false
set_option linter.unusedSimpArgs false
-- the given sweep over a list of numbers
theorem specAll_l (a b : Int) (suf : List Int) : ∀ (pre : List Int), ((pre ++ suf).length : Int) ≤ 1099511627776 → Ev (fun k => spec_l1All.l0 k a b (pre ++ suf) ((pre ++ suf).length : Int) pre.length) (allIn a b suf) := by
 induction suf with
 | nil =>
  intro pre h
  refine Ev.succ ?_
  simp only [spec_l1All.l0, List.append_nil, Int.lt_irrefl, if_false]
  exact Ev.now _
 | cons x suf ih =>
  intro pre h
  refine Ev.succ ?_
  rw [len_mid] at h ⊢
  simp only [spec_l1All.l0]
  simp only [if_pos (show ((pre.length : Int) < pre.length + suf.length + 1) by omega), if_pos (show (0 : Int) ≤ pre.length by omega), len_mid, rd_mid, specIn, Option.bind_some, wrap_id (show (-9223372036854775808 : Int) ≤ pre.length + 1 by omega) (show ((pre.length : Int) + 1 ≤ 9223372036854775807) by omega)]
  by_cases hx : a ≤ x ∧ x ≤ b
  ·have := ih (pre ++ [x]) (by rw [← app_one, len_mid]; exact h)
   rw [← app_one, len_mid, len_one] at this
   simp only [hx, and_self, decide_true, if_true]
   rw [show allIn a b (x :: suf) = allIn a b suf by simp [allIn, hx]]
   exact this
  ·simp only [decide_eq_true_eq, if_neg hx]
   rw [show allIn a b (x :: suf) = false by simp [allIn]; intro h1 h2; exact absurd ⟨h1, h2⟩ hx]
   exact Ev.now _
theorem specAll_ev (a b : Int) (l : List Int) (h : (l.length : Int) ≤ 1099511627776) : Ev (fun k => spec_l1All.f k l a b) (allIn a b l) := by
 have := specAll_l a b l [] h
 exact this
end Go.Proofs.Ytklecgkjoofipaa.P

namespace Go.Proofs.Ytklecgkjoofipaa.P
open Go.RowKit Go.Proofs.YtklecgkjoofipaaW.PrintWords Go.Proofs.YtklecgkjoofipaaW.PrintLast
set_option linter.unusedVariables false
set_option linter.unusedSimpArgs false
-- RelaxAll, both sides
def relaxAll (n : Int) (l : List S67) (q : List Int) : List Int × Bool := if goodE n l = true then (if (q.length : Int) = n then (if allIn 0 100000 q = true then (relaxM l q, true) else ([], false)) else ([], false)) else ([], false)
theorem relaxAll_len (n : Int) (l : List S67) (q : List Int) : (relaxAll n l q).1.length ≤ 12 := by
 unfold relaxAll
 split
 ·rename_i h
  have := goodE_n h
  split
  ·split
   ·show (relaxM l q).length ≤ 12
    rw [relaxM_len]; omega
   ·simp
  ·simp
 ·simp
theorem specRelaxAll_ev (n : Int) (l : List S67) (q : List Int) (hl : l.length ≤ 1048576) (hq : q.length ≤ 1048576) : Ev (fun k => spec_RelaxAll.f k n l q) (relaxAll n l q) := by
 unfold spec_RelaxAll.f relaxAll
 refine Ev.bind (specGoodE_ev n l hl) ?_
 by_cases h : goodE n l = true
 ·have hx := goodE_edge h
  simp only [if_pos h]
  by_cases h1 : (q.length : Int) = n
  ·simp only [if_pos h1]
   refine Ev.bind (specAll_ev _ _ q (by omega)) ?_
   by_cases h2 : allIn 0 100000 q = true
   ·simp only [if_pos h2]
    refine Ev.bind (specRelax_ev l q (by omega) hq fun x hm => ⟨(hx x hm).1, (hx x hm).2.1, by have := (hx x hm).2.2.1; omega⟩) ?_
    exact Ev.now _
   ·simp only [if_neg h2]
    exact Ev.now _
  ·simp only [if_neg h1]
   exact Ev.now _
 ·simp only [if_neg h]
  exact Ev.now _
theorem implRelaxAll_ev (n : Int) (l : List S67) (q : List Int) (hl : l.length ≤ 1048576) (hq : q.length ≤ 1048576) : Ev (fun k => impl_RelaxAll.f k n l q) (relaxAll n l q) := by
 unfold impl_RelaxAll.f relaxAll
 refine Ev.bind (implGoodE_ev n l hl) ?_
 by_cases h : goodE n l = true
 ·have hx := goodE_edge h
  simp only [if_pos h]
  by_cases h1 : (q.length : Int) = n
  ·simp only [if_pos h1]
   refine Ev.bind (implAll_ev _ _ q (by omega)) ?_
   by_cases h2 : allIn 0 100000 q = true
   ·simp only [if_pos h2]
    refine Ev.bind (implRelax_ev l q (by omega) hq fun x hm => ⟨(hx x hm).1, (hx x hm).2.1, by have := (hx x hm).2.2.1; omega⟩) ?_
    exact Ev.now _
   ·simp only [if_neg h2]
    exact Ev.now _
  ·simp only [if_neg h1]
   exact Ev.now _
 ·simp only [if_neg h]
  exact Ev.now _
end Go.Proofs.Ytklecgkjoofipaa.P

namespace Go.Proofs.Ytklecgkjoofipaa.P
open Go.RowKit Go.Proofs.YtklecgkjoofipaaW.PrintWords Go.Proofs.YtklecgkjoofipaaW.PrintLast
set_option linter.unusedVariables false
set_option linter.unusedSimpArgs false
-- FarsFrom, both sides
def farsFrom (n : Int) (l : List S67) (v : Int) : List Int × Bool := if goodE n l = true then (if 0 ≤ v ∧ v ≤ wrap64 (n - 1) then (farsM n.toNat l v, true) else ([], false)) else ([], false)
theorem farsFrom_len (n : Int) (l : List S67) (v : Int) : (farsFrom n l v).1.length ≤ 12 := by
 unfold farsFrom
 split
 ·rename_i h
  have := goodE_n h
  have := farsM_len n.toNat l v
  split
  ·show (farsM n.toNat l v).length ≤ 12
   omega
  ·simp
 ·simp
theorem specFarsFrom_ev (n : Int) (l : List S67) (v : Int) (hl : l.length ≤ 1048576) : Ev (fun k => spec_FarsFrom.f k n l v) (farsFrom n l v) := by
 unfold spec_FarsFrom.f farsFrom
 refine Ev.bind (specGoodE_ev n l hl) ?_
 by_cases h : goodE n l = true
 ·have hn := goodE_n h
  simp only [if_pos h, specIn, Option.bind_some]
  by_cases hv : 0 ≤ v ∧ v ≤ wrap64 (n - 1)
  ·simp only [if_pos hv, decide_eq_true_eq]
   rw [top_is hn.1 hn.2.1] at hv
   refine Ev.bind (specFars_ev n l v (by omega) (by omega) (edge3 h) hv.1 (by omega)) ?_
   exact Ev.now _
  ·simp only [if_neg hv, decide_eq_true_eq]
   exact Ev.now _
 ·simp only [if_neg h]
  exact Ev.now _
theorem implFarsFrom_ev (n : Int) (l : List S67) (v : Int) (hl : l.length ≤ 1048576) : Ev (fun k => impl_FarsFrom.f k n l v) (farsFrom n l v) := by
 unfold impl_FarsFrom.f farsFrom
 have hga := goodAt_ev n l [v] hl (by simp)
 rw [allIn1] at hga
 by_cases h : goodE n l = true
 ·have hn := goodE_n h
  by_cases hv : 0 ≤ v ∧ v ≤ wrap64 (n - 1)
  ·rw [h, decide_eq_true hv, Bool.true_and] at hga
   refine Ev.bind hga ?_
   simp only [if_true]
   rw [if_pos h, if_pos hv]
   rw [top_is hn.1 hn.2.1] at hv
   refine Ev.bind (implFars_ev n l v (by omega) (by omega) (edge3 h) hv.1 (by omega)) ?_
   exact Ev.now _
  ·rw [h, decide_eq_false hv, Bool.true_and] at hga
   refine Ev.bind hga ?_
   simp only [Bool.false_eq_true, if_false]
   rw [if_pos h, if_neg hv]
   exact Ev.now _
 ·rw [Bool.eq_false_iff.2 h, Bool.false_and] at hga
  refine Ev.bind hga ?_
  simp only [Bool.false_eq_true, if_false]
  rw [if_neg h]
  exact Ev.now _
end Go.Proofs.Ytklecgkjoofipaa.P

namespace Go.Proofs.Ytklecgkjoofipaa.P
open Go.RowKit Go.Proofs.YtklecgkjoofipaaW.PrintWords Go.Proofs.YtklecgkjoofipaaW.PrintLast
set_option linter.unusedVariables false
set_option linter.unusedSimpArgs false
-- what the law of distances asks of good edges
theorem conn_far {n : Int} {l : List S67} (h : goodE n l = true) {b : Int} (hb : 0 ≤ b) (hb1 : b < n) {x y : Nat} (hc : Conn (prs l) x y) (hx : rd (farsM n.toNat l b) (x : Int) < 100000) : rd (farsM n.toNat l b) (y : Int) < 100000 := by
 have key : ∀ {p q : Nat}, (p, q) ∈ prs l → ∃ c, adj l (p : Int) (q : Int) c := by
  intro p q hm
  unfold prs at hm
  obtain ⟨e, he, e2⟩ := List.mem_map.1 hm
  simp only [Prod.mk.injEq] at e2
  have := goodE_edge h e he
  exact ⟨e.f2, e, he, .inl ⟨by omega, by omega⟩, rfl⟩
 induction hc with
 | refl => exact hx
 | fwd _ he ih =>
  obtain ⟨c, ha⟩ := key he
  exact fars_adj h hb hb1 (adj_symm ha) ih
 | bwd _ he ih =>
  obtain ⟨c, ha⟩ := key he
  exact fars_adj h hb hb1 ha ih
theorem walk_conn {n : Int} {l : List S67} (h : goodE n l = true) {v b d : Int} (hw : Walk l v b d) : Conn (prs l) v.toNat b.toNat := by
 induction hw with
 | nil v => exact .refl _
 | cons ha _ ih =>
  obtain ⟨e, he, hc, rfl⟩ := ha
  have hm : (e.f0.toNat, e.f1.toNat) ∈ prs l := List.mem_map.2 ⟨e, he, rfl⟩
  refine Conn.trans ?_ ih
  rcases hc with ⟨rfl, rfl⟩ | ⟨rfl, rfl⟩
  ·exact .fwd (.refl _) hm
  ·exact .bwd (.refl _) hm
theorem far_iff {n : Int} {l : List S67} (h : goodE n l = true) {v b : Int} (hv : 0 ≤ v) (hv1 : v < n) (hb : 0 ≤ b) (hb1 : b < n) : rd (farsM n.toNat l b) v = 100000 ↔ rd (groupsM n l) v ≠ rd (groupsM n l) b := by
 have hs := fars_sane h hb hb1 v
 rw [groupsM_at h v hv hv1, groupsM_at h b hb hb1]
 have hin := prs_in (edge3 h)
 have hci := conn_iff hin (show v.toNat < n.toNat by omega) (show b.toNat < n.toNat by omega)
 constructor
 ·intro e hl
  have hl' : lab n.toNat (prs l) v.toNat = lab n.toNat (prs l) b.toNat := by omega
  have hc := hci.2 hl'
  have := conn_far h hb hb1 (hc.symm) (by rw [show ((b.toNat : Nat) : Int) = b by omega, fars_self (okE_of h) hb (by omega)]; omega)
  rw [show ((v.toNat : Nat) : Int) = v by omega] at this
  omega
 ·intro hl
  by_cases hlt : rd (farsM n.toNat l b) v < 100000
  ·have hw := walk_of h hb hb1 (rd (farsM n.toNat l b) v).toNat v hv hv1 hlt (by omega)
   have := hci.1 (walk_conn h hw)
   exact absurd (by omega) hl
  ·omega
theorem ext_rd {x y : List Int} (hl : x.length = y.length) (h : ∀ v : Int, 0 ≤ v → v < x.length → rd x v = rd y v) : x = y := by
 apply List.ext_getElem hl
 intro i h1 h2
 have := h (i : Int) (by omega) (by omega)
 unfold rd at this
 rwa [Int.toNat_natCast, List.getD_eq_getElem?_getD, List.getElem?_eq_getElem h1, List.getD_eq_getElem?_getD, List.getElem?_eq_getElem h2] at this
theorem relax_fix {n : Int} {l : List S67} (h : goodE n l = true) {b : Int} (hb : 0 ≤ b) (hb1 : b < n) : relaxM l (farsM n.toNat l b) = farsM n.toNat l b := by
 refine ext_rd (relaxM_len _ _) fun v hv hv1 => ?_
 rw [relaxM_len, farsM_len] at hv1
 rw [farsM_fr, ← fr_succ]
 exact fr_still n.toNat l b (okE_of h) hb (by omega) n.toNat (by omega) v hv (by omega)
theorem relaxAll_fix {n : Int} {l : List S67} (h : goodE n l = true) {b : Int} (hb : 0 ≤ b) (hb1 : b < n) : relaxAll n l (farsM n.toNat l b) = (farsM n.toNat l b, true) := by
 have hn := goodE_n h
 unfold relaxAll
 rw [if_pos h, if_pos (by rw [farsM_len]; omega), if_pos, relax_fix h hb hb1]
 unfold allIn
 rw [List.all_eq_true]
 intro x hx
 obtain ⟨i, hi, rfl⟩ := List.getElem_of_mem hx
 have := fars_sane h hb hb1 (i : Int)
 unfold rd at this
 rw [Int.toNat_natCast, List.getD_eq_getElem?_getD, List.getElem?_eq_getElem hi] at this
 rw [decide_eq_true_eq]
 exact this
theorem farLaw_l1 (x1 : List Int) {n : Int} {l : List S67} (hg : goodE n l = true) {a c : Int} (ha : 0 ≤ a) (ha1 : a < n) (hc : 0 ≤ c) (hc1 : c < n) (G : List Int) (R : Bool)
  (hR : Ev (fun k => laws_FnFars.l0 k x1 n l a (farsM n.toNat l a) G n (wrap64 (c + 1))) R) (d : Nat) : ∀ (j : Nat), (j + d : Int) = n →
  Ev (fun k => laws_FnFars.l1 k x1 n l a (farsM n.toNat l a) G c (farsM n.toNat l c) n c n j) R := by
 have hn := goodE_n hg
 have hf := farsM_len n.toNat l a
 have hf2 := farsM_len n.toNat l c
 induction d with
 | zero =>
  intro j hj
  refine Ev.succ ?_
  simp only [laws_FnFars.l1, if_neg (show ¬ (j : Int) < n by omega)]
  exact hR
 | succ d ih =>
  intro j hj
  refine Ev.succ ?_
  have h' := ih (j + 1) (by omega)
  have ht := fars_tri hg ha ha1 hc hc1 (show (0 : Int) ≤ j by omega) (show (j : Int) < n by omega)
  have s1 := fars_sane hg ha ha1 c
  have s2 := fars_sane hg hc hc1 j
  simp only [laws_FnFars.l1, if_pos (show (j : Int) < n by omega), if_pos hc, hf, hf2, if_pos (show c < ((n.toNat : Nat) : Int) by omega), if_pos (show (0 : Int) ≤ j by omega), if_pos (show (j : Int) < ((n.toNat : Nat) : Int) by omega), wrap_id (show (-9223372036854775808 : Int) ≤ j + 1 by omega) (show ((j : Int) + 1 ≤ 9223372036854775807) by omega)]
  rw [wrap_id (x := rd (farsM n.toNat l a) c + rd (farsM n.toNat l c) j) (by omega) (by omega)]
  simp only [if_neg (show ¬ rd (farsM n.toNat l a) c + rd (farsM n.toNat l c) j < rd (farsM n.toNat l a) j by omega)]
  exact h'
theorem farLaw_l0 (x1 : List Int) {n : Int} {l : List S67} (hg : goodE n l = true) (hl : l.length ≤ 1048576) {a : Int} (ha : 0 ≤ a) (ha1 : a < n) (R : Bool)
  (hR : Ev (fun k => laws_FnFars.j5 k x1) R) (d : Nat) : ∀ (c : Nat), (c + d : Int) = n →
  Ev (fun k => laws_FnFars.l0 k x1 n l a (farsM n.toNat l a) (groupsM n l) n c) R := by
 have hn := goodE_n hg
 have hf := farsM_len n.toNat l a
 have hgl := groupsM_len n l
 induction d with
 | zero =>
  intro c hc
  refine Ev.succ ?_
  simp only [laws_FnFars.l0, if_neg (show ¬ (c : Int) < n by omega)]
  exact hR
 | succ d ih =>
  intro c hc
  refine Ev.succ ?_
  have h' := ih (c + 1) (by omega)
  have hf2 := farsM_len n.toNat l c
  have hc0 : (0 : Int) ≤ c := by omega
  have hc1 : (c : Int) < n := by omega
  simp only [laws_FnFars.l0, if_pos hc1]
  refine Ev.bind (implFarsFrom_ev n l c hl) ?_
  rw [show farsFrom n l c = (farsM n.toNat l c, true) by unfold farsFrom; rw [if_pos hg, if_pos ⟨hc0, by rw [top_is hn.1 hn.2.1]; omega⟩]]
  simp only [if_true, hf, hf2, hgl, if_pos ha, if_pos (show a < ((n.toNat : Nat) : Int) by omega), if_pos hc0, if_pos (show (c : Int) < ((n.toNat : Nat) : Int) by omega), if_pos (fars_symm hg hc0 hc1 ha ha1)]
  have hb : ((rd (farsM n.toNat l a) c == 100000) != (rd (groupsM n l) c != rd (groupsM n l) a)) = false := by
   have := far_iff hg hc0 hc1 ha ha1
   by_cases e : rd (farsM n.toNat l a) c = 100000
   ·rw [beq_iff_eq.2 e, bne_iff_ne.2 (this.1 e)]
    rfl
   ·rw [beq_eq_false_iff_ne.2 e]
    have h2 : rd (groupsM n l) c = rd (groupsM n l) a := by
     by_cases h3 : rd (groupsM n l) c = rd (groupsM n l) a
     ·exact h3
     ·exact absurd (this.2 h3) e
    rw [h2]
    simp
  rw [hb]
  refine Ev.succ ?_
  simp only [laws_FnFars.j3, Bool.false_eq_true, if_false, hf, show ((n.toNat : Nat) : Int) = n by omega]
  have := farLaw_l1 x1 hg ha ha1 hc0 hc1 (groupsM n l) R (by rw [wrap_id (show (-9223372036854775808 : Int) ≤ c + 1 by omega) (show ((c : Int) + 1 ≤ 9223372036854775807) by omega)]; exact h') n.toNat 0 (by omega)
  exact this
theorem farLaw_l2 (q r : List Int) (hlen : r.length ≤ q.length) (hb : r.length ≤ 1000) (h : ∀ v : Int, 0 ≤ v → v < r.length → rd r v ≤ rd q v) (d : Nat) : ∀ (j : Nat), j + d = r.length →
  Ev (fun k => laws_FnFars.l2 k q r (r.length : Int) j) true := by
 induction d with
 | zero =>
  intro j hj
  refine Ev.succ ?_
  simp only [laws_FnFars.l2, if_neg (show ¬ (j : Int) < (r.length : Int) by omega)]
  exact Ev.now _
 | succ d ih =>
  intro j hj
  refine Ev.succ ?_
  have h' := ih (j + 1) (by omega)
  have h2 := h j (by omega) (by omega)
  simp only [laws_FnFars.l2, if_pos (show (j : Int) < (r.length : Int) by omega), if_pos (show (0 : Int) ≤ j by omega), if_pos (show (j : Int) < (q.length : Int) by omega), if_neg (show ¬ rd r j > rd q j by omega), wrap_id (show (-9223372036854775808 : Int) ≤ j + 1 by omega) (show ((j : Int) + 1 ≤ 9223372036854775807) by omega)]
  exact h'
theorem relaxAll_le (n : Int) (l : List S67) (q : List Int) : (relaxAll n l q).1.length ≤ q.length ∧ ∀ v : Int, 0 ≤ v → v < (relaxAll n l q).1.length → rd (relaxAll n l q).1 v ≤ rd q v := by
 unfold relaxAll
 by_cases h : goodE n l = true
 ·rw [if_pos h]
  by_cases h1 : (q.length : Int) = n
  ·rw [if_pos h1]
   by_cases h2 : allIn 0 100000 q = true
   ·rw [if_pos h2]
    refine ⟨by show (relaxM l q).length ≤ _; rw [relaxM_len]; exact Nat.le_refl _, fun v hv _ => ?_⟩
    show rd (relaxM l q) v ≤ rd q v
    have hs : sane q := sane_of fun v hv hv1 => by
     have hm : rd q v ∈ q := by
      unfold rd
      rw [List.getD_eq_getElem?_getD, List.getElem?_eq_getElem (show v.toNat < q.length by omega)]
      exact List.getElem_mem _
     unfold allIn at h2
     have := List.all_eq_true.1 h2 _ hm
     rwa [decide_eq_true_eq] at this
    have he := okE_of h
    rw [relaxM, relFold_at hs v hv l q (fun e hm => by have := he e hm; omega)]
    exact offers_le ..
   ·rw [if_neg h2]
    exact ⟨Nat.zero_le _, fun v hv hv1 => by simp at hv1; omega⟩
  ·rw [if_neg h1]
   exact ⟨Nat.zero_le _, fun v hv hv1 => by simp at hv1; omega⟩
 ·rw [if_neg h]
  exact ⟨Nat.zero_le _, fun v hv hv1 => by simp at hv1; omega⟩
end Go.Proofs.Ytklecgkjoofipaa.P

namespace Go.Proofs.Ytklecgkjoofipaa.P
open Go.RowKit Go.Proofs.YtklecgkjoofipaaW.PrintWords Go.Proofs.YtklecgkjoofipaaW.PrintLast
set_option linter.unusedVariables false
set_option linter.unusedSimpArgs false
theorem and255 (x : Int) : 0 ≤ wrap64 (Go.bits .and .u64 x 255) ∧ wrap64 (Go.bits .and .u64 x 255) ≤ 255 := by
 have e : ∃ n : Nat, n ≤ 255 ∧ Go.bits .and .u64 x 255 = IntKind.u64.wrap (n : Int) := by
  refine ⟨(BitVec.ofInt 64 x &&& BitVec.ofInt 64 255).toNat, ?_, rfl⟩
  rw [BitVec.toNat_and]
  exact Nat.le_trans Nat.and_le_right (by decide)
 obtain ⟨n, hn, e⟩ := e
 rw [e]
 have e2 : IntKind.u64.wrap (n : Int) = (n : Int) := by
  simp only [IntKind.wrap, IntKind.bits, IntKind.signed, Bool.false_and, Bool.false_eq_true, if_false]
  omega
 rw [e2, wrap_id (by omega) (by omega)]
 omega
theorem next_ok (c : List Int) (hc : ∀ x ∈ c, 0 ≤ x ∧ x ≤ 255) (hl : c.length ≤ 1048576) (a s : Int) (h0 : 0 ≤ a) (h1 : a ≤ 1152921504606846976) :
  ∃ r s', spec_l1Cur_next.f c a s = some (r, a + 1, s') ∧ 0 ≤ r ∧ r ≤ 255 := by
 unfold spec_l1Cur_next.f
 rw [wrap_id (x := a + 1) (by omega) (by omega)]
 by_cases h : a < (c.length : Int)
 ·have hm : rd c a ∈ c := by
   unfold rd
   rw [List.getD_eq_getElem?_getD, List.getElem?_eq_getElem (by omega)]
   exact List.getElem_mem _
  have hb := hc _ hm
  rw [if_pos h, if_pos h0]
  by_cases h2 : a + 1 ≤ (c.length : Int)
  ·rw [if_pos h2, wrap_id (x := rd c a) (by omega) (by omega)]
   exact ⟨_, _, rfl, hb.1, hb.2⟩
  ·omega
 ·rw [if_neg h, if_neg (by omega)]
  exact ⟨_, _, rfl, (and255 _).1, (and255 _).2⟩
theorem pick_ok (c : List Int) (hc : ∀ x ∈ c, 0 ≤ x ∧ x ≤ 255) (hl : c.length ≤ 1048576) (a s n : Int) (h0 : 0 ≤ a) (h1 : a ≤ 1125899906842624) :
  ∃ r a' s', spec_l1Cur_pick.f c a s n = some (r, a', s') ∧ 0 ≤ r ∧ (n ≤ 1 → r = 0) ∧ (2 ≤ n → r < n) ∧ a ≤ a' ∧ a' ≤ a + 2 := by
 unfold spec_l1Cur_pick.f
 by_cases hn : n ≤ 1
 ·rw [if_pos hn]
  exact ⟨0, a, s, rfl, by omega, fun _ => rfl, by omega, by omega, by omega⟩
 ·rw [if_neg hn]
  obtain ⟨r, s', e, r0, r1⟩ := next_ok c hc hl a s h0 (by omega)
  rw [e]
  simp only [Option.bind_some]
  by_cases h2 : n > 200
  ·rw [if_pos h2]
   obtain ⟨q, s2, e2, q0, q1⟩ := next_ok c hc hl (a + 1) s' (by omega) (by omega)
   rw [e2]
   simp only [Option.bind_some]
   rw [if_neg (by omega), wrap_id (x := r * 256) (by omega) (by omega), wrap_id (x := r * 256 + q) (by omega) (by omega), Int.tmod_eq_emod_of_nonneg (by omega)]
   exact ⟨_, _, _, rfl, Int.emod_nonneg _ (by omega), fun h => absurd h hn, fun _ => Int.emod_lt_of_pos _ (by omega), by omega, by omega⟩
  ·rw [if_neg h2, if_neg (by omega), Int.tmod_eq_emod_of_nonneg r0]
   exact ⟨_, _, _, rfl, Int.emod_nonneg _ (by omega), fun h => absurd h hn, fun _ => Int.emod_lt_of_pos _ (by omega), by omega, by omega⟩
theorem one_ok (c : List Int) (hc : ∀ x ∈ c, 0 ≤ x ∧ x ≤ 255) (hl : c.length ≤ 1048576) (a s n : Int) (h0 : 0 ≤ a) (h1 : a ≤ 1125899906842624) :
  ∃ b a' s', spec_l1Cur_one.f c a s n = some (b, a', s') ∧ a ≤ a' ∧ a' ≤ a + 2 := by
 unfold spec_l1Cur_one.f
 obtain ⟨r, a', s', e, _, _, _, g1, g2⟩ := pick_ok c hc hl a s n h0 h1
 rw [e]
 exact ⟨_, _, _, rfl, g1, g2⟩
theorem among_ok (c : List Int) (hc : ∀ x ∈ c, 0 ≤ x ∧ x ≤ 255) (hl : c.length ≤ 1048576) (a s : Int) (l : List Int) (hn : 0 < l.length) (h0 : 0 ≤ a) (h1 : a ≤ 1125899906842624) :
  ∃ r a' s', spec_l1Cur_among.f c a s l = some (r, a', s') ∧ r ∈ l ∧ a ≤ a' ∧ a' ≤ a + 2 := by
 unfold spec_l1Cur_among.f
 obtain ⟨r, a', s', e, r0, r1, r2, g1, g2⟩ := pick_ok c hc hl a s (l.length : Int) h0 h1
 rw [e]
 simp only [Option.bind_some]
 have hlt : r < (l.length : Int) := by
  by_cases h : 2 ≤ (l.length : Int)
  ·exact r2 h
  ·have := r1 (by omega); omega
 rw [if_pos r0, if_pos hlt]
 refine ⟨_, _, _, rfl, ?_, g1, g2⟩
 unfold rd
 rw [List.getD_eq_getElem?_getD, List.getElem?_eq_getElem (by omega)]
 exact List.getElem_mem _
theorem bytes_ok {q : List Int} (hq : ∀ x ∈ q, (Lit.int .u8 x).wf = true) : ∀ x ∈ q, 0 ≤ x ∧ x ≤ 255 := fun x hx => by
 have := hq x hx
 simp only [Lit.wf, IntKind.has, IntKind.min, IntKind.max, IntKind.signed, IntKind.bits, Bool.and_eq_true, decide_eq_true_eq, Bool.false_eq_true, if_false] at this
 omega
end Go.Proofs.Ytklecgkjoofipaa.P

namespace Go.Proofs.Ytklecgkjoofipaa.P
open Go.RowKit Go.Proofs.YtklecgkjoofipaaW.PrintWords Go.Proofs.YtklecgkjoofipaaW.PrintLast
set_option linter.unusedVariables false
set_option linter.unusedSimpArgs false
-- The drawn lists of edges are short, whatever bytes they are drawn from.
theorem up1 (v : Nat) (h : v ≤ 1000) : wrap64 ((v : Int) + 1) = ((v + 1 : Nat) : Int) := by rw [wrap_id (by omega) (by omega)]; omega
theorem edges_l0 (c : List Int) (hc : ∀ x ∈ c, 0 ≤ x ∧ x ≤ 255) (hl : c.length ≤ 1048576) (n : Nat) (hn : n ≤ 13) (p : Int) (d : Nat) :
  ∀ (u : Nat) (l : List S67) (a s : Int), u + d = n → l.length ≤ 40 → 0 ≤ a → a ≤ 100000 - 60 * d → ∃ r a' s', Ev (fun k => spec_l1Cur_edges.l0 k n l p u c a s) ((n : Int), r, a', s') ∧ r.length ≤ 40 ∧ a ≤ a' ∧ a' ≤ a + 60 * d + 10 := by
 induction d with
 | zero =>
  intro u l a s hu hl2 h0 h1
  by_cases hp : (l.length : Int) > 0
  ·obtain ⟨b, a1, s1, e1, g1, g1'⟩ := one_ok c hc hl a s 30 h0 (by omega)
   cases b with
   | true =>
    obtain ⟨r2, a2, s2, e2, _, g2, g2'⟩ := among_ok c hc hl a1 s1 [0, 100, 101] (by decide) (by omega) (by omega)
    refine ⟨l.set (0 : Int).toNat ⟨(rd_T67 l 0).f0, (rd_T67 l 0).f1, r2⟩, a2, s2, Ev.succ ?_, by simpa using hl2, by omega, by omega⟩
    simp only [spec_l1Cur_edges.l0, if_neg (show ¬ (u : Int) < n by omega), if_pos hp, e1, Option.bind_some, if_true]
    rw [e2]
    simp only [Option.bind_some, if_pos (show (0 : Int) < (l.length : Int) from hp)]
    exact Ev.now _
   | false =>
    refine ⟨l, a1, s1, Ev.succ ?_, hl2, by omega, by omega⟩
    simp only [spec_l1Cur_edges.l0, if_neg (show ¬ (u : Int) < n by omega), if_pos hp, e1, Option.bind_some, Bool.false_eq_true, if_false]
    exact Ev.now _
  ·refine ⟨l, a, s, Ev.succ ?_, hl2, by omega, by omega⟩
   simp only [spec_l1Cur_edges.l0, if_neg (show ¬ (u : Int) < n by omega), if_neg hp]
   exact Ev.now _
 | succ d ih =>
  intro u l a s hu hl2 h0 h1
  have hd : d ≤ 12 := by omega
  have key : ∀ (d2 : Nat) (v : Nat) (l : List S67) (a s : Int), v + d2 = n → l.length ≤ 40 → 0 ≤ a → a + 4 * d2 ≤ 100000 - 60 * d → d2 ≤ 12 → ∃ r a' s', Ev (fun k => spec_l1Cur_edges.l1 k n l p u v c a s) ((n : Int), r, a', s') ∧ r.length ≤ 40 ∧ a ≤ a' ∧ a' ≤ a + 4 * d2 + (60 * d + 10) := by
   intro d2
   induction d2 with
   | zero =>
    intro v l a s hv hl2 h0 h1 _
    obtain ⟨r, a', s', e, hr, g, g'⟩ := ih (u + 1) l a s (by omega) hl2 h0 (by omega)
    refine ⟨r, a', s', Ev.succ ?_, hr, g, by omega⟩
    simp only [spec_l1Cur_edges.l1, if_neg (show ¬ (v : Int) < n by omega)]
    rw [up1 u (by omega)]
    exact e
   | succ d2 ih2 =>
    intro v l a s hv hl2 h0 h1 h12
    obtain ⟨b, a1, s1, e1, g1, g1'⟩ := one_ok c hc hl a s (wrap64 (1 + p)) h0 (by omega)
    have skip : ∃ r a' s', Ev (fun k => spec_l1Cur_edges.l1 k n l p u (wrap64 ((v : Int) + 1)) c a1 s1) ((n : Int), r, a', s') ∧ r.length ≤ 40 ∧ a ≤ a' ∧ a' ≤ a + 4 * ((d2 + 1 : Nat) : Int) + (60 * d + 10) := by
     obtain ⟨r, a', s', e, hr, g, g'⟩ := ih2 (v + 1) l a1 s1 (by omega) hl2 (by omega) (by omega) (by omega)
     rw [up1 v (by omega)]
     exact ⟨r, a', s', e, hr, by omega, by omega⟩
    cases b with
    | false =>
     obtain ⟨r, a', s', e, hr, g, g'⟩ := skip
     refine ⟨r, a', s', Ev.succ ?_, hr, g, g'⟩
     simp only [spec_l1Cur_edges.l1, if_pos (show (v : Int) < n by omega), e1, Option.bind_some, Bool.false_eq_true, if_false]
     exact e
    | true =>
     by_cases h40 : (l.length : Int) < 40
     ·obtain ⟨q, a2, s2, e2, _, _, _, g2, g2'⟩ := pick_ok c hc hl a1 s1 5 (by omega) (by omega)
      obtain ⟨r, a', s', e, hr, g, g'⟩ := ih2 (v + 1) (l ++ [⟨(u : Int), (v : Int), wrap64 (1 + q)⟩]) a2 s2 (by omega) (by simp <;> omega) (by omega) (by omega) (by omega)
      refine ⟨r, a', s', Ev.succ ?_, hr, by omega, by omega⟩
      simp only [spec_l1Cur_edges.l1, if_pos (show (v : Int) < n by omega), e1, Option.bind_some, if_true, if_pos h40]
      rw [e2]
      simp only [Option.bind_some, if_pos (show l.length < 5864062014805 by omega)]
      rw [up1 v (by omega)]
      exact e
     ·obtain ⟨r, a', s', e, hr, g, g'⟩ := skip
      refine ⟨r, a', s', Ev.succ ?_, hr, g, g'⟩
      simp only [spec_l1Cur_edges.l1, if_pos (show (v : Int) < n by omega), e1, Option.bind_some, if_true, if_neg h40]
      exact e
  obtain ⟨r, a', s', e, hr, g, g'⟩ := key d (u + 1) l a s (by omega) hl2 h0 (by omega) hd
  refine ⟨r, a', s', Ev.succ ?_, hr, g, by omega⟩
  simp only [spec_l1Cur_edges.l0, if_pos (show (u : Int) < n by omega)]
  rw [up1 u (by omega)]
  exact e
theorem edges_ok (c : List Int) (hc : ∀ x ∈ c, 0 ≤ x ∧ x ≤ 255) (hl : c.length ≤ 1048576) :
  ∃ (n : Int) (r : List S67) (a' s' : Int), Ev (fun k => spec_l1Cur_edges.f k c 0 0) (n, r, a', s') ∧ 0 ≤ n ∧ n ≤ 13 ∧ r.length ≤ 40 ∧ 0 ≤ a' ∧ a' ≤ 10000 := by
 obtain ⟨r1, a1, s1, e1, r10, _, r12, g1, g1'⟩ := pick_ok c hc hl 0 0 8 (by omega) (by omega)
 obtain ⟨b, a2, s2, e2, g2, g2'⟩ := one_ok c hc hl a1 s1 30 (by omega) (by omega)
 have := r12 (by omega)
 have fin : ∀ (n : Int) (a s : Int), 0 ≤ n → n ≤ 13 → 0 ≤ a → a ≤ 100 → ∃ (r : List S67) (a' s' : Int), Ev (fun k => spec_l1Cur_edges.j0 k n c a s) (n, r, a', s') ∧ r.length ≤ 40 ∧ 0 ≤ a' ∧ a' ≤ 10000 := by
  intro n a s h0 h1 ha ha1
  obtain ⟨m, rfl⟩ := Int.eq_ofNat_of_zero_le h0
  obtain ⟨q, a3, s3, e3, _, _, _, g3, g3'⟩ := pick_ok c hc hl a s 3 ha (by omega)
  obtain ⟨r, a4, s4, e4, hr, g4, g4'⟩ := edges_l0 c hc hl m (by omega) (wrap64 (1 + q)) m 0 [] a3 s3 (by omega) (by simp) (by omega) (by omega)
  refine ⟨r, a4, s4, Ev.succ ?_, hr, by omega, by omega⟩
  simp only [spec_l1Cur_edges.j0, e3, Option.bind_some]
  exact e4
 cases b with
 | true =>
  obtain ⟨r3, a3, s3, e3, m3, g3, g3'⟩ := among_ok c hc hl a2 s2 [0, 12, 13] (by decide) (by omega) (by omega)
  have hr3 : 0 ≤ r3 ∧ r3 ≤ 13 := by
   simp only [List.mem_cons, List.not_mem_nil, or_false] at m3
   omega
  obtain ⟨r, a4, s4, e4, hr, g4, g4'⟩ := fin r3 a3 s3 hr3.1 hr3.2 (by omega) (by omega)
  refine ⟨r3, r, a4, s4, ?_, hr3.1, hr3.2, hr, g4, g4'⟩
  unfold spec_l1Cur_edges.f
  simp only [e1, Option.bind_some]
  rw [e2]
  simp only [Option.bind_some, if_true]
  rw [e3]
  simp only [Option.bind_some]
  exact e4
 | false =>
  obtain ⟨r, a4, s4, e4, hr, g4, g4'⟩ := fin (1 + r1) a2 s2 (by omega) (by omega) (by omega) (by omega)
  refine ⟨1 + r1, r, a4, s4, ?_, by omega, by omega, hr, g4, g4'⟩
  unfold spec_l1Cur_edges.f
  simp only [e1, Option.bind_some]
  rw [e2]
  simp only [Option.bind_some, Bool.false_eq_true, if_false]
  rw [wrap_id (x := 1 + r1) (by omega) (by omega)]
  exact e4
end Go.Proofs.Ytklecgkjoofipaa.P

namespace Go.Proofs.Ytklecgkjoofipaa.P
open Go.RowKit Go.Proofs.YtklecgkjoofipaaW.PrintWords Go.Proofs.YtklecgkjoofipaaW.PrintLast
set_option linter.unusedVariables false
set_option linter.unusedSimpArgs false
-- the drawn numbers for shortening are few
theorem drawRelax_l (c : List Int) (hc : ∀ x ∈ c, 0 ≤ x ∧ x ≤ 255) (hl : c.length ≤ 1048576) (n : Int) (hn : n ≤ 100) (l : List S67) (d : Nat) : ∀ (q : List Int) (j : Nat) (a s : Int), (j + d : Int) = n ∨ (d = 0 ∧ n ≤ j) → q.length ≤ j → j ≤ 100 → 0 ≤ a → a + 6 * d ≤ 1000000 →
  ∃ r, Ev (fun k => spec_DrawRelaxAll.l0 k n l q j c a s) (n, l, r) ∧ r.length ≤ 200 := by
 induction d with
 | zero =>
  intro q j a s hj hq hj2 h0 h1
  have hnj : ¬ (j : Int) < n := by omega
  by_cases hp : (q.length : Int) > 0
  ·obtain ⟨b, a1, s1, e1, g1, g1'⟩ := one_ok c hc hl a s 20 h0 (by omega)
   cases b with
   | false =>
    refine ⟨q, Ev.succ ?_, by omega⟩
    simp only [spec_DrawRelaxAll.l0, if_neg hnj, if_pos hp, e1, Option.bind_some, Bool.false_eq_true, if_false]
    exact Ev.now _
   | true =>
    obtain ⟨r2, a2, s2, e2, _, g2, g2'⟩ := among_ok c hc hl a1 s1 [-1, 100001] (by decide) (by omega) (by omega)
    refine ⟨q.set (0 : Int).toNat r2, Ev.succ ?_, by rw [List.length_set]; omega⟩
    simp only [spec_DrawRelaxAll.l0, if_neg hnj, if_pos hp, e1, Option.bind_some, if_true]
    rw [e2]
    simp only [Option.bind_some, if_pos (show (0 : Int) < (q.length : Int) by omega)]
    exact Ev.now _
  ·refine ⟨q, Ev.succ ?_, by omega⟩
   simp only [spec_DrawRelaxAll.l0, if_neg hnj, if_neg hp]
   exact Ev.now _
 | succ d ih =>
  intro q j a s hj hq hj2 h0 h1
  obtain ⟨r1, a1, s1, e1, _, _, _, g1, g1'⟩ := pick_ok c hc hl a s 30 h0 (by omega)
  obtain ⟨r2, a2, s2, e2, _, g2, g2'⟩ := among_ok c hc hl a1 s1 [0, 3, 9, 100000, r1] (by simp) (by omega) (by omega)
  obtain ⟨r, e, hr⟩ := ih (q ++ [r2]) (j + 1) a2 s2 (by omega) (by simp; omega) (by omega) (by omega) (by omega)
  refine ⟨r, Ev.succ ?_, hr⟩
  simp only [spec_DrawRelaxAll.l0, if_pos (show (j : Int) < n by omega), e1, Option.bind_some]
  rw [e2]
  simp only [Option.bind_some, if_pos (show q.length < 17592186044416 by omega), wrap_id (show (-9223372036854775808 : Int) ≤ j + 1 by omega) (show ((j : Int) + 1 ≤ 9223372036854775807) by omega)]
  exact e
theorem drawRelax_ok (c : List Int) (hc : ∀ x ∈ c, 0 ≤ x ∧ x ≤ 255) (hl : c.length ≤ 1048576) : ∃ n l r, Ev (fun k => spec_DrawRelaxAll.f k c) (n, l, r) ∧ l.length ≤ 40 ∧ r.length ≤ 200 := by
 obtain ⟨n, l, a, s, e, hn0, hn1, hl2, h0, h1⟩ := edges_ok c hc hl
 obtain ⟨r, e2, hr⟩ := drawRelax_l c hc hl n (by omega) l n.toNat [] 0 a s (by omega) (by simp) (by omega) (by omega) (by omega)
 refine ⟨n, l, r, ?_, hl2, hr⟩
 unfold spec_DrawRelaxAll.f
 exact Ev.bind e e2
theorem drawNear_ok (c : List Int) (hc : ∀ x ∈ c, 0 ≤ x ∧ x ≤ 255) (hl : c.length ≤ 1048576) : ∃ n l v, Ev (fun k => spec_DrawNearOf.f k c) (n, l, v) ∧ 0 ≤ n ∧ n ≤ 13 ∧ l.length ≤ 40 ∧ -1 ≤ v ∧ v ≤ 20 := by
 obtain ⟨n, l, a, s, e, hn0, hn1, hl2, h0, h1⟩ := edges_ok c hc hl
 obtain ⟨r1, a1, s1, e1, g0, g1, g2, _, _⟩ := pick_ok c hc hl a s (wrap64 (n + 2)) h0 (by omega)
 rw [wrap_id (by omega) (by omega)] at g1 g2
 refine ⟨n, l, wrap64 (r1 - 1), ?_, hn0, hn1, hl2, ?_⟩
 ·unfold spec_DrawNearOf.f
  refine Ev.bind e ?_
  simp only [e1, Option.bind_some]
  exact Ev.now _
 ·by_cases h : 2 ≤ n + 2
  ·have := g2 h
   rw [wrap_id (by omega) (by omega)]
   omega
  ·omega
end Go.Proofs.Ytklecgkjoofipaa.P

namespace Go.Proofs.Ytklecgkjoofipaa.P
open Go.RowKit Go.Proofs.YtklecgkjoofipaaW.PrintWords Go.Proofs.YtklecgkjoofipaaW.PrintLast
set_option linter.unusedVariables false
set_option linter.unusedSimpArgs false
-- the law's own comparison of two lists of numbers
theorem sameInts_l (s : List Int) : ∀ (t pre qre : List Int), pre.length = qre.length → s.length = t.length → (pre.length : Int) + s.length ≤ 1099511627776 →
  Ev (fun k => laws_sameInts.l0 k (pre ++ s) (qre ++ t) ((pre ++ s).length : Int) pre.length) (decide (s = t)) := by
 induction s with
 | nil =>
  intro t pre qre hq hl hb
  obtain rfl : t = [] := List.eq_nil_of_length_eq_zero (by simpa using hl.symm)
  refine Ev.succ ?_
  simp only [laws_sameInts.l0, List.append_nil, Int.lt_irrefl, if_false, decide_true]
  exact Ev.now _
 | cons x s ih =>
  intro t pre qre hq hl hb
  cases t with
  | nil => simp at hl
  | cons y t =>
   simp only [List.length_cons] at hl hb
   have h := ih t (pre ++ [x]) (qre ++ [y]) (by simp; omega) (by omega) (by simp; omega)
   rw [← app_one, ← app_one, len_mid, len_one] at h
   have hy : rd (qre ++ y :: t) (pre.length : Int) = y := by rw [hq]; exact rd_mid qre y t
   refine Ev.succ ?_
   simp only [laws_sameInts.l0]
   simp only [len_mid, if_pos (show ((pre.length : Int) < pre.length + s.length + 1) by omega), if_pos (show (0 : Int) ≤ pre.length by omega), if_pos (show ((pre.length : Int) < qre.length + t.length + 1) by omega), rd_mid, hy, wrap_id (show (-9223372036854775808 : Int) ≤ pre.length + 1 by omega) (show ((pre.length : Int) + 1 ≤ 9223372036854775807) by omega)]
   by_cases e : x = y
   ·simp only [if_pos e]
    rw [show decide (x :: s = y :: t) = decide (s = t) by simp [e]]
    exact h
   ·simp only [if_neg e]
    rw [show decide (x :: s = y :: t) = false by simp [e]]
    exact Ev.now _
theorem sameInts_ev (s t : List Int) (hs : s.length ≤ 1099511627776) : Ev (fun k => laws_sameInts.f k s t) (decide (s = t)) := by
 unfold laws_sameInts.f
 by_cases hl : s.length = t.length
 ·simp only [if_pos (show (s.length : Int) = t.length by omega)]
  have := sameInts_l s t [] [] rfl hl (by simp; omega)
  exact this
 ·simp only [if_neg (show ¬ (s.length : Int) = t.length by omega)]
  rw [decide_eq_false (fun e => hl (by rw [e]))]
  exact Ev.now _
end Go.Proofs.Ytklecgkjoofipaa.P

namespace Go.Proofs.Ytklecgkjoofipaa.P
open Go.RowKit Go.Proofs.YtklecgkjoofipaaW.PrintWords Go.Proofs.YtklecgkjoofipaaW.PrintLast
set_option linter.unusedVariables false
set_option linter.unusedSimpArgs false
-- CentreOf, both sides
def eccM (x : List Int) (s : Int) : Int := x.foldl max s
def centreGo (n : Nat) (l : List S67) : Nat → Int → Int → Int → Int × Int × Bool
 | 0, _, b, f => (b, f, true)
 | d + 1, v, b, f => if eccM (farsM n l v) 0 < f then centreGo n l d (v + 1) v (eccM (farsM n l v) 0) else centreGo n l d (v + 1) b f
theorem specCentre_l1 (n : Int) (l : List S67) (b f v : Int) (R : Int × Int × Bool) (suf : List Int) : ∀ (pre : List Int) (s : Int), ((pre ++ suf).length : Int) ≤ 1099511627776 →
  Ev (fun k => if b < 0 then spec_CentreOf.l0 k n l v (eccM suf s) (wrap64 (v + 1)) else if eccM suf s < f then spec_CentreOf.l0 k n l v (eccM suf s) (wrap64 (v + 1)) else spec_CentreOf.l0 k n l b f (wrap64 (v + 1))) R →
  Ev (fun k => spec_CentreOf.l1 k n l b f v s (pre ++ suf) ((pre ++ suf).length : Int) pre.length) R := by
 induction suf with
 | nil =>
  intro pre s h hR
  refine Ev.succ ?_
  simp only [spec_CentreOf.l1, List.append_nil, Int.lt_irrefl, if_false]
  exact hR
 | cons x suf ih =>
  intro pre s h hR
  refine Ev.succ ?_
  rw [len_mid] at h ⊢
  have := ih (pre ++ [x]) (max s x) (by rw [← app_one, len_mid]; exact h) hR
  rw [← app_one, len_mid, len_one] at this
  simp only [spec_CentreOf.l1]
  simp only [if_pos (show ((pre.length : Int) < pre.length + suf.length + 1) by omega), if_pos (show (0 : Int) ≤ pre.length by omega), len_mid, rd_mid, wrap_id (show (-9223372036854775808 : Int) ≤ pre.length + 1 by omega) (show ((pre.length : Int) + 1 ≤ 9223372036854775807) by omega)]
  by_cases h1 : x > s
  ·simp only [if_pos h1]
   rw [show max s x = x by omega] at this
   exact this
  ·simp only [if_neg h1]
   rw [show max s x = s by omega] at this
   exact this
theorem implCentre_l1 (n : Int) (l : List S67) (b f v m v' : Int) (R : Int × Int × Bool) (suf : List Int) : ∀ (pre : List Int) (s : Int), ((pre ++ suf).length : Int) ≤ 1099511627776 →
  Ev (fun k => if eccM suf s < f then impl_CentreOf.l0 k n l v (eccM suf s) m (wrap64 (v' + 1)) else impl_CentreOf.l0 k n l b f m (wrap64 (v' + 1))) R →
  Ev (fun k => impl_CentreOf.l1 k n l b f v s m v' (pre ++ suf) ((pre ++ suf).length : Int) pre.length) R := by
 induction suf with
 | nil =>
  intro pre s h hR
  refine Ev.succ ?_
  simp only [impl_CentreOf.l1, List.append_nil, Int.lt_irrefl, if_false]
  exact hR
 | cons x suf ih =>
  intro pre s h hR
  refine Ev.succ ?_
  rw [len_mid] at h ⊢
  have := ih (pre ++ [x]) (max s x) (by rw [← app_one, len_mid]; exact h) hR
  rw [← app_one, len_mid, len_one] at this
  simp only [impl_CentreOf.l1]
  simp only [if_pos (show ((pre.length : Int) < pre.length + suf.length + 1) by omega), if_pos (show (0 : Int) ≤ pre.length by omega), len_mid, rd_mid, wrap_id (show (-9223372036854775808 : Int) ≤ pre.length + 1 by omega) (show ((pre.length : Int) + 1 ≤ 9223372036854775807) by omega), mx_is]
  exact this
theorem specCentre_l0 (n : Nat) (hn : n ≤ 1000) (l : List S67) (hb : (l.length : Int) ≤ 1099511627776) (hx : ∀ x ∈ l, 0 ≤ x.f0 ∧ x.f0 < x.f1 ∧ x.f1 < n) (d : Nat) : ∀ (c : Nat) (b f : Int), c + d = n → 0 ≤ b →
  Ev (fun k => spec_CentreOf.l0 k n l b f c) (centreGo n l d c b f) := by
 induction d with
 | zero =>
  intro c b f h hb0
  refine Ev.succ ?_
  simp only [spec_CentreOf.l0, if_neg (show ¬ (c : Int) < n by omega), centreGo]
  exact Ev.now _
 | succ d ih =>
  intro c b f h hb0
  refine Ev.succ ?_
  simp only [spec_CentreOf.l0, if_pos (show (c : Int) < n by omega)]
  refine Ev.bind (specFars_ev n l c (by omega) hb hx (by omega) (by omega)) ?_
  rw [Int.toNat_natCast]
  have hl := farsM_len n l c
  refine specCentre_l1 n l b f c _ (farsM n l c) [] 0 (by rw [List.nil_append, hl]; omega) ?_
  simp only [if_neg (show ¬ b < 0 by omega), wrap_id (show (-9223372036854775808 : Int) ≤ c + 1 by omega) (show ((c : Int) + 1 ≤ 9223372036854775807) by omega), centreGo]
  by_cases h1 : eccM (farsM n l c) 0 < f
  ·simp only [if_pos h1]
   exact ih (c + 1) _ _ (by omega) (by omega)
  ·simp only [if_neg h1]
   exact ih (c + 1) _ _ (by omega) hb0
theorem implCentre_l0 (n : Nat) (hn : n ≤ 1000) (l : List S67) (hb : (l.length : Int) ≤ 1099511627776) (hx : ∀ x ∈ l, 0 ≤ x.f0 ∧ x.f0 < x.f1 ∧ x.f1 < n) (d : Nat) : ∀ (c : Nat) (b f : Int), c + d = n →
  Ev (fun k => impl_CentreOf.l0 k n l b f n c) (centreGo n l d c b f) := by
 induction d with
 | zero =>
  intro c b f h
  refine Ev.succ ?_
  simp only [impl_CentreOf.l0, if_neg (show ¬ (c : Int) < n by omega), centreGo]
  exact Ev.now _
 | succ d ih =>
  intro c b f h
  refine Ev.succ ?_
  simp only [impl_CentreOf.l0, if_pos (show (c : Int) < n by omega)]
  refine Ev.bind (implFars_ev n l c (by omega) hb hx (by omega) (by omega)) ?_
  rw [Int.toNat_natCast]
  have hl := farsM_len n l c
  refine implCentre_l1 n l b f c n c _ (farsM n l c) [] 0 (by rw [List.nil_append, hl]; omega) ?_
  simp only [wrap_id (show (-9223372036854775808 : Int) ≤ c + 1 by omega) (show ((c : Int) + 1 ≤ 9223372036854775807) by omega), centreGo]
  by_cases h1 : eccM (farsM n l c) 0 < f
  ·simp only [if_pos h1]
   exact ih (c + 1) _ _ (by omega)
  ·simp only [if_neg h1]
   exact ih (c + 1) _ _ (by omega)
def capped (x : List Int) : Prop := ∀ y ∈ x, y ≤ 100000
theorem capped_set {x : List Int} (h : capped x) (i : Nat) (y z : Int) (hz : z ≤ 100000) : capped (x.set i (min z y)) := by
 intro w hw
 rcases List.mem_or_eq_of_mem_set hw with h1 | h1
 ·exact h w h1
 ·omega
theorem rd_capped {x : List Int} (h : capped x) (i : Int) : rd x i ≤ 100000 := by
 unfold rd
 rw [List.getD_eq_getElem?_getD]
 cases hx : x[i.toNat]? with
 | none => simp
 | some y => exact h y (List.mem_of_getElem? hx)
theorem relStep_capped {old out : List Int} (e : S67) (h : capped out) : capped (relStep old out e) := by
 have h1 := capped_set h e.f0.toNat (wrap64 (rd old e.f1 + e.f2)) (rd out e.f0) (rd_capped h e.f0)
 exact capped_set h1 _ _ _ (rd_capped h1 _)
theorem relFold_capped {old : List Int} : ∀ (l : List S67) (out : List Int), capped out → capped (l.foldl (relStep old) out)
 | [], _, h => h
 | e :: l, out, h => relFold_capped l _ (relStep_capped e h)
theorem farsIt_capped (l : List S67) : ∀ (d : Nat) (x : List Int), capped x → capped (farsIt l d x)
 | 0, _, h => h
 | d + 1, x, h => farsIt_capped l d _ (relFold_capped l x h)
theorem farsM_capped (n : Nat) (l : List S67) (a : Int) : capped (farsM n l a) := by
 refine farsIt_capped l n _ fun y hy => ?_
 rcases List.mem_or_eq_of_mem_set hy with h1 | h1
 ·rw [List.eq_of_mem_replicate h1]
  omega
 ·omega
theorem ecc_le : ∀ (x : List Int) (s : Int), capped x → s ≤ 100000 → eccM x s ≤ 100000
 | [], _, _, h => h
 | y :: x, s, h, hs => ecc_le x (max s y) (fun z hz => h z (List.mem_cons_of_mem _ hz)) (by have := h y (List.mem_cons_self ..); omega)
def centreOf (n : Int) (l : List S67) : Int × Int × Bool := if goodE n l = true then centreGo n.toNat l n.toNat 0 0 100001 else (0, 0, false)
theorem implCentreOf_ev (n : Int) (l : List S67) (hl : l.length ≤ 1048576) : Ev (fun k => impl_CentreOf.f k n l) (centreOf n l) := by
 unfold impl_CentreOf.f centreOf
 refine Ev.bind (implGoodE_ev n l hl) ?_
 by_cases h : goodE n l = true
 ·have hn := goodE_n h
  simp only [if_pos h]
  obtain ⟨m, rfl⟩ := Int.eq_ofNat_of_zero_le (show 0 ≤ n by omega)
  rw [Int.toNat_natCast]
  exact implCentre_l0 m (by omega) l (by omega) (edge3 h) m 0 0 100001 (by omega)
 ·simp only [if_neg h]
  exact Ev.now _
theorem specCentreOf_ev (n : Int) (l : List S67) (hl : l.length ≤ 1048576) : Ev (fun k => spec_CentreOf.f k n l) (centreOf n l) := by
 unfold spec_CentreOf.f centreOf
 refine Ev.bind (specGoodE_ev n l hl) ?_
 by_cases h : goodE n l = true
 ·have hn := goodE_n h
  have he := edge3 h
  simp only [if_pos h]
  obtain ⟨m, rfl⟩ := Int.eq_ofNat_of_zero_le (show 0 ≤ n by omega)
  rw [Int.toNat_natCast]
  obtain ⟨d, rfl⟩ : ∃ d, m = d + 1 := ⟨m - 1, by omega⟩
  refine Ev.succ ?_
  simp only [spec_CentreOf.l0, if_pos (show (0 : Int) < ((d + 1 : Nat) : Int) by omega)]
  refine Ev.bind (specFars_ev ((d + 1 : Nat) : Int) l 0 (by omega) (by omega) he (by omega) (by omega)) ?_
  rw [Int.toNat_natCast]
  have hlen := farsM_len (d + 1) l 0
  refine specCentre_l1 _ l (-1) 0 0 _ (farsM (d + 1) l 0) [] 0 (by rw [List.nil_append, hlen]; omega) ?_
  have hc := ecc_le _ 0 (farsM_capped (d + 1) l 0) (by omega)
  simp only [if_pos (show (-1 : Int) < 0 by omega), centreGo, if_pos (show eccM (farsM (d + 1) l 0) 0 < 100001 by omega)]
  rw [wrap_id (show (-9223372036854775808 : Int) ≤ 0 + 1 by omega) (show ((0 : Int) + 1 ≤ 9223372036854775807) by omega)]
  exact specCentre_l0 (d + 1) (by omega) l (by omega) he d 1 0 (eccM (farsM (d + 1) l 0) 0) (by omega) (by omega)
 ·simp only [if_neg h]
  exact Ev.now _
end Go.Proofs.Ytklecgkjoofipaa.P

namespace Go.Proofs.Ytklecgkjoofipaa.Pure
open Go.RowKit Go.Proofs.Ytklecgkjoofipaa.P Go.Proofs.YtklecgkjoofipaaW.PrintWords Go.Proofs.YtklecgkjoofipaaW.PrintLast
set_option linter.unusedVariables false
set_option linter.unusedSimpArgs false
theorem FnFars : laws_FnFars.Pure := by
 intro c d hc1 hc2 hc3 hd1 hd2 hd3
 refine Ev.rounds ?_
 unfold laws_FnFars.f
 by_cases h : (wrap64 ((c.length : Int) + (d.length : Int))) > 1048576
 ·simp only [if_pos h]
  exact Ev.now _
 simp only [if_neg h]
 rw [wrap_id (by omega) (by omega)] at h
 have hcb := bytes_ok hc3
 have hdb := bytes_ok hd3
 have hj5 : Ev (fun k => laws_FnFars.j5 k d) true := by
  obtain ⟨n, l, q, e, hl, hq⟩ := drawRelax_ok d hdb (by omega)
  obtain ⟨m, e2, a2, s2, he2, _, _, hl2, _, _⟩ := edges_ok d hdb (by omega)
  have hdr : Ev (fun k => spec_DrawCentreOf.f k d) (m, e2) := by
   unfold spec_DrawCentreOf.f spec_DrawGoodEdges.f
   exact Ev.bind (Ev.bind he2 (Ev.now _)) (Ev.now _)
  have hr := relaxAll_len n l q
  have hle := relaxAll_le n l q
  refine Ev.succ ?_
  simp only [laws_FnFars.j5]
  refine Ev.bind e ?_
  refine Ev.bind (implRelaxAll_ev n l q (by omega) (by omega)) ?_
  refine Ev.bind (specRelaxAll_ev n l q (by omega) (by omega)) ?_
  refine Ev.bind hdr ?_
  refine Ev.bind (implCentreOf_ev m e2 (by omega)) ?_
  refine Ev.bind (specCentreOf_ev m e2 (by omega)) ?_
  generalize relaxAll n l q = r at hr hle
  simp only [bne_self_eq_false, Bool.false_eq_true, if_false]
  refine Ev.bind (sameInts_ev _ _ (by omega)) ?_
  simp only [decide_true, if_true]
  refine Ev.succ ?_
  simp only [laws_FnFars.j6, Bool.false_eq_true, if_false]
  have := farLaw_l2 q r.1 hle.1 (by omega) hle.2 r.1.length 0 (by omega)
  exact this
 obtain ⟨n, l, a, e, hn0, hn1, hl, _, _⟩ := drawNear_ok c hcb (by omega)
 have hdraw : Ev (fun k => spec_DrawFarsFrom.f k c) (n, l, a) := by
  unfold spec_DrawFarsFrom.f
  exact Ev.bind e (Ev.now _)
 have hfl := farsFrom_len n l a
 refine Ev.bind hdraw ?_
 refine Ev.bind (implFarsFrom_ev n l a (by omega)) ?_
 refine Ev.bind (specFarsFrom_ev n l a (by omega)) ?_
 simp only [bne_self_eq_false, Bool.false_eq_true, if_false]
 refine Ev.bind (sameInts_ev _ _ (by omega)) ?_
 simp only [decide_true, Bool.not_true]
 refine Ev.succ ?_
 simp only [laws_FnFars.j0, Bool.false_eq_true, if_false]
 have bad : Ev (fun k => laws_FnFars.j5 k d) true := hj5
 by_cases hg : goodE n l = true
 ·have hn := goodE_n hg
  by_cases ha : 0 ≤ a ∧ a ≤ wrap64 (n - 1)
  ·rw [show farsFrom n l a = (farsM n.toNat l a, true) by unfold farsFrom; rw [if_pos hg, if_pos ha]]
   rw [top_is hn.1 hn.2.1] at ha
   have ha1 : a < n := by omega
   have hf := farsM_len n.toNat l a
   simp only [if_true]
   refine Ev.bind (implRelaxAll_ev n l (farsM n.toNat l a) (by omega) (by omega)) ?_
   refine Ev.bind (implGroupsOfTop_ev n l (by omega)) ?_
   rw [relaxAll_fix hg ha.1 ha1, show groupsOf n l = (groupsM n l, true) by unfold groupsOf; rw [if_pos hg]]
   simp only [if_true]
   refine Ev.bind (sameInts_ev _ _ (by omega)) ?_
   simp only [decide_true, if_true, if_pos ha.1, hf, if_pos (show a < ((n.toNat : Nat) : Int) by omega), if_pos (fars_self (okE_of hg) ha.1 (by omega)), Bool.not_true]
   refine Ev.succ ?_
   simp only [laws_FnFars.j1, Bool.false_eq_true, if_false, hf, show ((n.toNat : Nat) : Int) = n by omega]
   have := farLaw_l0 d hg (by omega) ha.1 ha1 true hj5 n.toNat 0 (by omega)
   exact this
  ·rw [show farsFrom n l a = ([], false) by unfold farsFrom; rw [if_pos hg, if_neg ha]]
   simp only [Bool.false_eq_true, if_false]
   exact bad
 ·rw [show farsFrom n l a = ([], false) by unfold farsFrom; rw [if_neg hg]]
  simp only [Bool.false_eq_true, if_false]
  exact bad
end Go.Proofs.Ytklecgkjoofipaa.Pure
