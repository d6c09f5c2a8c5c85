/- Functions, walks and plain lemmas that the law FnOwners reaches, part 5. -/
import Derived.Test.YtljdenmmlkjapaaCFnOwners4
import Derived.Below
import Derived.Deep.Draws
import Derived.Deep.AppendLies
import Derived.Maps.AppendAt
import Derived.OwnWalk
import Derived.Laws.BytesArg
import Derived.Laws.MakeOwn
import Derived.Laws.OwnMore
import Derived.Deep.OwnRows
import Derived.Tactics
import Derived.Lib.ConvBytes
import Derived.Laws.Slices
import Derived.WalkKit
import Derived.KernelRfl
import Derived.RowKit3
import Derived.Deep.LoopGhost
import Derived.Deep.QuietTactic
import Derived.BigQuiet
import Derived.WideLaws
import Derived.Deep.DeepCutAuto
import Derived.Deep.CutBlock
import Derived.Deep.RegionHeld3
import Derived.Laws.Rows
import Derived.Lib.AppendStr
import Derived.ArgAppend
import Derived.Laws.IdiomCopy
import Derived.OrdersHeld
import Derived.Laws.BitsLemmas
import Derived.RowKit
import Derived.WalkSpells
import Derived.Lib.SliceRun
import Derived.Shelf.Abstract
import Derived.ProofKit
import Derived.OpenShut
import Derived.ShutString
import Derived.ChangeOld
import Derived.SizedLaws
namespace Go.Proofs.Ytljdenmmlkjapaa.P
open Go.RowKit Go.Proofs.YtljdenmmlkjapaaW.PrintWords Go.Proofs.YtljdenmmlkjapaaW.PrintLast
set_option linter.unusedVariables false
set_option linter.unusedSimpArgs false
def betterOf (a b : S26) : Bool := decide (a.f2 > b.f2) || (decide (a.f2 = b.f2) && decide (a.f0 > b.f0))
theorem specBetter (a b : S26) : spec_l11Better.f a.f0 a.f1 a.f2 b.f0 b.f1 b.f2 = some (betterOf a b) := by
 unfold spec_l11Better.f betterOf
 by_cases h : a.f2 > b.f2
 ·rw [if_pos h]; simp [h]
 ·rw [if_neg h]
  by_cases h2 : a.f2 = b.f2
  ·rw [if_pos h2]; simp [h2]
  ·rw [if_neg h2]; simp [h, h2]
theorem implBetter (a b : S26) : impl_hasBetter.f a.f0 a.f1 a.f2 b.f0 b.f1 b.f2 = some (betterOf a b) := specBetter a b
def bestF (nm : Int) : Option S26 → List S26 → Option S26
 | b, [] => b
 | none, x :: r => if x.f1 = nm then bestF nm (some x) r else bestF nm none r
 | some y, x :: r => if x.f1 = nm then (if betterOf x y = true then bestF nm (some x) r else bestF nm (some y) r) else bestF nm (some y) r
def whoOf : Option S26 → Int × Bool
 | none => (0, false)
 | some y => (y.f0, true)
def whoHas (l : List S26) (nm : Int) : Int × Bool := if goodOwn l = true ∧ 1 ≤ nm ∧ nm ≤ 50 then whoOf (bestF nm none l) else (0, false)
theorem specWho_l (nm : Int) (suf : List S26) : ∀ (pre : List S26) (b : Option S26) (i : Int), (pre.length : Int) + suf.length ≤ 1099511627776 →
  (match b with | none => i = -1 | some y => 0 ≤ i ∧ i < ((pre ++ suf).length : Int) ∧ rd_T26 (pre ++ suf) i = y) →
  Ev (fun k => spec_WhoHas.l0 k (pre ++ suf) nm i (pre ++ suf) ((pre ++ suf).length : Int) (pre.length : Int)) (whoOf (bestF nm b suf)) := by
 induction suf with
 | nil =>
  intro pre b i hb h
  refine Ev.succ ?_
  simp only [spec_WhoHas.l0]
  simp only [if_neg (show ¬ (pre.length : Int) < ((pre ++ ([] : List S26)).length : Int) by simp)]
  cases b with
  | none =>
   have h : i = -1 := h
   subst h
   simp only [if_pos (show (-1 : Int) < 0 by decide)]
   exact Ev.now _
  | some y =>
   obtain ⟨h1, h2, h3⟩ := h
   simp only [if_neg (show ¬ i < 0 by omega), if_pos h1, if_pos h2, h3]
   exact Ev.now _
 | cons x suf ih =>
  intro pre b i hb h
  simp only [List.length_cons] at hb
  refine Ev.succ ?_
  simp only [spec_WhoHas.l0]
  have c1 : (pre.length : Int) < ((pre ++ x :: suf).length : Int) := by simp <;> omega
  have c0 : (0 : Int) ≤ (pre.length : Int) := by omega
  simp only [if_pos c1, if_pos c0, rdOwner_mid, wrap_id (x := (pre.length : Int) + 1) (by omega) (by omega)]
  have h2 := ih (pre ++ [x])
  rw [← app_one, len_one] at h2
  by_cases hx : x.f1 = nm
  ·simp only [if_pos hx]
   cases b with
   | none =>
    have h : i = -1 := h
    subst h
    simp only [if_pos (show (-1 : Int) < 0 by decide)]
    rw [show bestF nm none (x :: suf) = bestF nm (some x) suf by simp [bestF, hx]]
    exact h2 (some x) _ (by omega) ⟨c0, c1, rdOwner_mid _ _ _⟩
   | some y =>
    obtain ⟨g1, g2, g3⟩ := h
    simp only [if_neg (show ¬ i < 0 by omega), if_pos g1, if_pos g2, g3, specBetter, Option.bind_some]
    cases hbt : betterOf x y with
    | true =>
     simp only [if_true]
     rw [show bestF nm (some y) (x :: suf) = bestF nm (some x) suf by simp [bestF, hx, hbt]]
     exact h2 (some x) _ (by omega) ⟨c0, c1, rdOwner_mid _ _ _⟩
    | false =>
     simp only [Bool.false_eq_true, if_false]
     rw [show bestF nm (some y) (x :: suf) = bestF nm (some y) suf by simp [bestF, hx, hbt]]
     exact h2 (some y) _ (by omega) ⟨g1, g2, g3⟩
  ·simp only [if_neg hx]
   rw [show bestF nm b (x :: suf) = bestF nm b suf by cases b <;> simp [bestF, hx]]
   exact h2 b _ (by omega) h
theorem specWho_ev (l : List S26) (nm : Int) (hl : l.length ≤ 1048576) : Ev (fun k => spec_WhoHas.f k l nm) (whoHas l nm) := by
 unfold spec_WhoHas.f
 refine Ev.bind (specGoodOwners_ev l hl) ?_
 simp only [specIn, Option.bind_some]
 unfold whoHas
 cases hg : goodOwn l with
 | false =>
  simp only [Bool.false_eq_true, if_false, false_and]
  refine Ev.succ ?_
  simp only [spec_WhoHas.j0, if_true]
  exact Ev.now _
 | true =>
  simp only [if_true, true_and]
  refine Ev.succ ?_
  simp only [spec_WhoHas.j0]
  by_cases hn : 1 ≤ nm ∧ nm ≤ 50
  ·simp only [hn, and_self, decide_true, Bool.not_true, Bool.false_eq_true, if_false, if_true]
   exact specWho_l nm l [] none (-1) (by simp <;> omega) rfl
  ·simp only [hn, decide_false, Bool.not_false, if_true, if_false]
   exact Ev.now _
theorem implWho_l (nm : Int) (suf : List S26) : ∀ (pre : List S26) (b : Option S26) (c : S26), (pre.length : Int) + suf.length ≤ 1099511627776 → (∀ x ∈ suf, 1 ≤ x.f0) →
  (match b with | none => c = ⟨0, 0, 0⟩ | some y => c = y ∧ 1 ≤ y.f0) →
  Ev (fun k => impl_WhoHas.l0 k nm (pre ++ suf) ((pre ++ suf).length : Int) (pre.length : Int) c.f0 c.f1 c.f2) (whoOf (bestF nm b suf)) := by
 induction suf with
 | nil =>
  intro pre b c hb hpos h
  refine Ev.succ ?_
  simp only [impl_WhoHas.l0]
  simp only [if_neg (show ¬ (pre.length : Int) < ((pre ++ ([] : List S26)).length : Int) by simp)]
  cases b with
  | none =>
   have h : c = ⟨0, 0, 0⟩ := h
   subst h
   exact Ev.now _
  | some y =>
   obtain ⟨rfl, h2⟩ := h
   refine Ev.some_ ?_
   simp only [bestF, whoOf, Prod.mk.injEq, true_and, decide_eq_true_eq]
   omega
 | cons x suf ih =>
  intro pre b c hb hpos h
  simp only [List.length_cons] at hb
  refine Ev.succ ?_
  simp only [impl_WhoHas.l0]
  have c1 : (pre.length : Int) < ((pre ++ x :: suf).length : Int) := by simp <;> omega
  have c0 : (0 : Int) ≤ (pre.length : Int) := by omega
  simp only [if_pos c1, if_pos c0, rdOwner_mid, wrap_id (x := (pre.length : Int) + 1) (by omega) (by omega)]
  have h2 := ih (pre ++ [x])
  rw [← app_one, len_one] at h2
  have hp2 : ∀ z ∈ suf, 1 ≤ z.f0 := fun z hz => hpos z (by simp [hz])
  by_cases hx : x.f1 = nm
  ·simp only [if_pos hx]
   cases b with
   | none =>
    have h : c = ⟨0, 0, 0⟩ := h
    subst h
    simp only [if_true]
    rw [show bestF nm none (x :: suf) = bestF nm (some x) suf by simp [bestF, hx]]
    exact h2 (some x) x (by omega) hp2 ⟨rfl, hpos x (by simp)⟩
   | some y =>
    obtain ⟨rfl, g2⟩ := h
    simp only [if_neg (show ¬ c.f0 = 0 by omega), implBetter, Option.bind_some]
    cases hbt : betterOf x c with
    | true =>
     simp only [if_true]
     rw [show bestF nm (some c) (x :: suf) = bestF nm (some x) suf by simp [bestF, hx, hbt]]
     exact h2 (some x) x (by omega) hp2 ⟨rfl, hpos x (by simp)⟩
    | false =>
     simp only [Bool.false_eq_true, if_false]
     rw [show bestF nm (some c) (x :: suf) = bestF nm (some c) suf by simp [bestF, hx, hbt]]
     exact h2 (some c) c (by omega) hp2 ⟨rfl, g2⟩
  ·simp only [if_neg hx]
   rw [show bestF nm b (x :: suf) = bestF nm b suf by cases b <;> simp [bestF, hx]]
   exact h2 b c (by omega) hp2 h
theorem implWho_ev (l : List S26) (nm : Int) (hl : l.length ≤ 1048576) : Ev (fun k => impl_WhoHas.f k l nm) (whoHas l nm) := by
 unfold impl_WhoHas.f
 refine Ev.bind (implGoodOwners_ev l hl) ?_
 simp only [implIn, Option.bind_some]
 unfold whoHas
 cases hg : goodOwn l with
 | false =>
  simp only [Bool.false_eq_true, if_false, false_and]
  refine Ev.succ ?_
  simp only [impl_WhoHas.j0, if_true]
  exact Ev.now _
 | true =>
  simp only [if_true, true_and]
  refine Ev.succ ?_
  simp only [impl_WhoHas.j0]
  by_cases hn : 1 ≤ nm ∧ nm ≤ 50
  ·simp only [hn, and_self, decide_true, Bool.not_true, Bool.false_eq_true, if_false, if_true]
   exact implWho_l nm l [] none ⟨0, 0, 0⟩ (by simp <;> omega) (fun x hx => ((isOwn_iff x).1 (goodOwn_all hg x hx)).1) rfl
  ·simp only [hn, decide_false, Bool.not_false, if_true, if_false]
   exact Ev.now _
end Go.Proofs.Ytljdenmmlkjapaa.P

namespace Go.Proofs.Ytljdenmmlkjapaa.P
open Go.RowKit Go.Proofs.YtljdenmmlkjapaaW.PrintWords Go.Proofs.YtljdenmmlkjapaaW.PrintLast
set_option linter.unusedVariables false
set_option linter.unusedSimpArgs false
theorem erase_len_le {α : Type} [DecidableEq α] {x : α} : ∀ {M : List α}, x ∈ M → (M.erase x).length + 1 = M.length := by
 intro M h
 have := List.length_erase_of_mem h
 have h2 : 0 < M.length := List.length_pos_of_mem h
 omega
theorem nodup_le {α : Type} [DecidableEq α] : ∀ (L M : List α), L.Nodup → (∀ x ∈ L, x ∈ M) → L.length ≤ M.length
 | [], _, _, _ => Nat.zero_le _
 | x :: L, M, hn, hs => by
  have hx : x ∈ M := hs x (by simp)
  rw [List.nodup_cons] at hn
  have h := nodup_le L (M.erase x) hn.2 (fun y hy => by
   have : y ≠ x := fun e => hn.1 (e ▸ hy)
   exact (List.mem_erase_of_ne this).2 (hs y (by simp [hy])))
  have := erase_len_le hx
  simp only [List.length_cons]
  omega
end Go.Proofs.Ytljdenmmlkjapaa.P

namespace Go.Proofs.Ytljdenmmlkjapaa.P
open Go.RowKit Go.Proofs.YtljdenmmlkjapaaW.PrintWords Go.Proofs.YtljdenmmlkjapaaW.PrintLast
set_option linter.unusedVariables false
set_option linter.unusedSimpArgs false
def nx (a : Int) : Int := a % 50 + 1
def nxi : Nat → Int → Int
 | 0, a => a
 | n + 1, a => nxi n (nx a)
def hasName (l : List S26) (m : Int) : Bool := l.any (fun x => x.f1 == m)
def nfM : Nat → List S26 → Int → Int
 | 0, _, a => a
 | n + 1, l, a => if hasName l (nx a) = true then nfM n l (nx a) else nx a
def nextFreeM (l : List S26) (a : Int) : Int := nfM 50 l a
theorem nx_tmod {a : Int} (h0 : 0 ≤ a) (h1 : a ≤ 4294967296) : wrap64 (Int.tmod a 50 + 1) = nx a := by
 rw [Int.tmod_eq_emod_of_nonneg h0, wrap_id (by omega) (by omega)]
 rfl
theorem nx_range {a : Int} (h0 : 0 ≤ a) : 1 ≤ nx a ∧ nx a ≤ 50 := by unfold nx; omega
theorem nxi_is : ∀ (n : Nat) (a : Int), 1 ≤ a → a ≤ 50 → nxi n a = (a - 1 + n) % 50 + 1
 | 0, a, h0, h1 => by simp only [nxi]; omega
 | n + 1, a, h0, h1 => by
  simp only [nxi]
  rw [nxi_is n (nx a) (nx_range (by omega)).1 (nx_range (by omega)).2]
  unfold nx
  omega
def names (a : Int) (n : Nat) : List Int := (List.range n).map fun j => nxi (j + 1) a
theorem names_nodup {a : Int} (h0 : 1 ≤ a) (h1 : a ≤ 50) {n : Nat} (hn : n ≤ 50) : (names a n).Nodup := by
 unfold names
 rw [List.Nodup, List.pairwise_map]
 refine List.Pairwise.imp_of_mem ?_ List.nodup_range
 intro i j hi hj hne he
 rw [List.mem_range] at hi hj
 rw [nxi_is _ _ h0 h1, nxi_is _ _ h0 h1] at he
 omega
/-- Of eleven names that stand one behind the other one is free. -/
theorem some_free (l : List S26) (hl : l.length ≤ 10) {a : Int} (h0 : 1 ≤ a) (h1 : a ≤ 50) : ∃ n, n < 11 ∧ hasName l (nxi (n + 1) a) = false := by
 refine Classical.byContradiction fun hc => ?_
 have hall : ∀ n, n < 11 → hasName l (nxi (n + 1) a) = true := fun n hn => by
  cases h : hasName l (nxi (n + 1) a) with
  | true => rfl
  | false => exact absurd ⟨n, hn, h⟩ hc
 have h := nodup_le (names a 11) (l.map (fun x => x.f1)) (names_nodup h0 h1 (by omega)) (fun m hm => by
  unfold names at hm
  obtain ⟨j, hj, rfl⟩ := List.mem_map.1 hm
  rw [List.mem_range] at hj
  have := hall j hj
  unfold hasName at this
  obtain ⟨x, hx, he⟩ := List.any_eq_true.1 this
  exact List.mem_map.2 ⟨x, hx, by simpa using he⟩)
 unfold names at h
 simp only [List.length_map, List.length_range] at h
 omega
theorem nfM_ok (l : List S26) : ∀ (n : Nat) (a : Int), 1 ≤ a → a ≤ 50 → (∃ j, j < n ∧ hasName l (nxi (j + 1) a) = false) → hasName l (nfM n l a) = false ∧ 1 ≤ nfM n l a ∧ nfM n l a ≤ 50
 | 0, a, _, _, ⟨j, hj, _⟩ => absurd hj (Nat.not_lt_zero _)
 | n + 1, a, h0, h1, ⟨j, hj, hf⟩ => by
  have hr := nx_range (a := a) (by omega)
  cases hh : hasName l (nx a) with
  | false =>
   simp only [nfM, hh, Bool.false_eq_true, if_false]
   exact ⟨trivial, hr.1, hr.2⟩
  | true =>
   simp only [nfM, hh, if_true]
   cases j with
   | zero =>
    have hf : hasName l (nx a) = false := hf
    rw [hh] at hf; cases hf
   | succ j => exact nfM_ok l n (nx a) hr.1 hr.2 ⟨j, by omega, hf⟩
theorem specFree_l1 (m : Int) (r : Int) (suf : List S26) : ∀ (pre : List S26) (b : Bool), (pre.length : Int) + suf.length ≤ 1099511627776 →
  (if (b || suf.any (fun x => x.f1 == m)) = true then Ev (fun k => spec_l11Free.l0 k (pre ++ suf) m) r else r = m) →
  Ev (fun k => spec_l11Free.l1 k (pre ++ suf) m b (pre ++ suf) ((pre ++ suf).length : Int) (pre.length : Int)) r := by
 induction suf with
 | nil =>
  intro pre b hb h
  refine Ev.succ ?_
  simp only [spec_l11Free.l1]
  simp only [if_neg (show ¬ (pre.length : Int) < ((pre ++ ([] : List S26)).length : Int) by simp)]
  cases b with
  | true =>
   simp only [if_true]
   simpa using h
  | false =>
   simp only [Bool.false_eq_true, if_false]
   have h : r = m := by simpa using h
   exact Ev.some_ h.symm
 | cons x suf ih =>
  intro pre b hb h
  simp only [List.length_cons] at hb
  refine Ev.succ ?_
  simp only [spec_l11Free.l1]
  have c1 : (pre.length : Int) < ((pre ++ x :: suf).length : Int) := by simp <;> omega
  have c0 : (0 : Int) ≤ (pre.length : Int) := by omega
  simp only [if_pos c1, if_pos c0, rdOwner_mid, wrap_id (x := (pre.length : Int) + 1) (by omega) (by omega)]
  have h2 := ih (pre ++ [x])
  rw [← app_one, len_one] at h2
  cases b with
  | true =>
   simp only [if_true]
   exact h2 true (by omega) (by simpa using h)
  | false =>
   simp only [Bool.false_eq_true, if_false]
   refine h2 (x.f1 == m) (by omega) ?_
   simpa only [List.any_cons, Bool.false_or] using h
theorem specFree_l0 (l : List S26) (hl : l.length ≤ 1048576) : ∀ (n : Nat) (a : Int), 1 ≤ a → a ≤ 50 → (∃ j, j < n ∧ hasName l (nxi (j + 1) a) = false) → Ev (fun k => spec_l11Free.l0 k l a) (nfM n l a)
 | 0, a, _, _, ⟨j, hj, _⟩ => absurd hj (Nat.not_lt_zero _)
 | n + 1, a, h0, h1, ⟨j, hj, hf⟩ => by
  have hr := nx_range (a := a) (by omega)
  refine Ev.succ ?_
  simp only [spec_l11Free.l0]
  rw [nx_tmod (by omega) (by omega)]
  refine specFree_l1 (nx a) _ l [] false (by simp <;> omega) ?_
  cases hh : hasName l (nx a) with
  | false =>
   have hh2 : l.any (fun x => x.f1 == nx a) = false := hh
   simp only [hh2, Bool.or_false, Bool.false_eq_true, if_false]
   simp only [nfM, hh, Bool.false_eq_true, if_false]
  | true =>
   have hh2 : l.any (fun x => x.f1 == nx a) = true := hh
   simp only [hh2, Bool.false_or, if_true, nfM, hh, List.nil_append]
   cases j with
   | zero =>
    have hf : hasName l (nx a) = false := hf
    rw [hh] at hf; cases hf
   | succ j => exact specFree_l0 l hl n (nx a) hr.1 hr.2 ⟨j, by omega, hf⟩
theorem implFree_l0 (l : List S26) : ∀ (n : Nat) (a : Int), 1 ≤ a → a ≤ 50 → (∃ j, j < n ∧ hasName l (nxi (j + 1) a) = false) → Ev (fun k => impl_nextFree.l0 k l a) (nfM n l a)
 | 0, a, _, _, ⟨j, hj, _⟩ => absurd hj (Nat.not_lt_zero _)
 | n + 1, a, h0, h1, ⟨j, hj, hf⟩ => by
  have hr := nx_range (a := a) (by omega)
  refine Ev.succ ?_
  simp only [impl_nextFree.l0]
  rw [nx_tmod (by omega) (by omega)]
  cases hh : hasName l (nx a) with
  | false =>
   have hh2 : l.any (fun x => x.f1 == nx a) = false := hh
   simp only [hh2, Bool.false_eq_true, if_false, nfM, hh]
   exact Ev.now _
  | true =>
   have hh2 : l.any (fun x => x.f1 == nx a) = true := hh
   simp only [hh2, if_true, nfM, hh]
   cases j with
   | zero =>
    have hf : hasName l (nx a) = false := hf
    rw [hh] at hf; cases hf
   | succ j => exact implFree_l0 l n (nx a) hr.1 hr.2 ⟨j, by omega, hf⟩
theorem free_within (l : List S26) (hl : l.length ≤ 10) {a : Int} (h0 : 1 ≤ a) (h1 : a ≤ 50) : ∃ j, j < 50 ∧ hasName l (nxi (j + 1) a) = false := by
 obtain ⟨n, hn, h⟩ := some_free l hl h0 h1
 exact ⟨n, by omega, h⟩
theorem specFree_ev (l : List S26) (hl : l.length ≤ 10) (a : Int) (h0 : 1 ≤ a) (h1 : a ≤ 50) : Ev (fun k => spec_l11Free.f k l a) (nextFreeM l a) := by
 unfold spec_l11Free.f
 exact specFree_l0 l (by omega) 50 a h0 h1 (free_within l hl h0 h1)
theorem implFree_ev (l : List S26) (hl : l.length ≤ 10) (a : Int) (h0 : 1 ≤ a) (h1 : a ≤ 50) : Ev (fun k => impl_nextFree.f k l a) (nextFreeM l a) := by
 unfold impl_nextFree.f
 exact implFree_l0 l 50 a h0 h1 (free_within l hl h0 h1)
theorem nextFreeM_ok (l : List S26) (hl : l.length ≤ 10) {a : Int} (h0 : 1 ≤ a) (h1 : a ≤ 50) : hasName l (nextFreeM l a) = false ∧ 1 ≤ nextFreeM l a ∧ nextFreeM l a ≤ 50 :=
 nfM_ok l 50 a h0 h1 (free_within l hl h0 h1)
def nextFree (l : List S26) (a : Int) : Int × Bool := if goodOwn l = true ∧ 1 ≤ a ∧ a ≤ 50 then (nextFreeM l a, true) else (0, false)
theorem specNextFree_ev (l : List S26) (a : Int) (hl : l.length ≤ 1048576) : Ev (fun k => spec_NextFree.f k l a) (nextFree l a) := by
 unfold spec_NextFree.f
 refine Ev.bind (specGoodOwners_ev l hl) ?_
 simp only [specIn, Option.bind_some]
 unfold nextFree
 cases hg : goodOwn l with
 | false =>
  simp only [Bool.false_eq_true, if_false, false_and]
  exact Ev.now _
 | true =>
  simp only [if_true, true_and]
  by_cases hn : 1 ≤ a ∧ a ≤ 50
  ·simp only [hn, and_self, decide_true, if_true]
   exact Ev.bind (specFree_ev l (goodOwn_len hg).2 a hn.1 hn.2) (Ev.now _)
  ·simp only [hn, decide_false, Bool.false_eq_true, if_false]
   exact Ev.now _
theorem implNextFree_ev (l : List S26) (a : Int) (hl : l.length ≤ 1048576) : Ev (fun k => impl_NextFree.f k l a) (nextFree l a) := by
 unfold impl_NextFree.f
 refine Ev.bind (implGoodOwners_ev l hl) ?_
 simp only [implIn, Option.bind_some]
 unfold nextFree
 cases hg : goodOwn l with
 | false =>
  simp only [Bool.false_eq_true, if_false, false_and]
  exact Ev.now _
 | true =>
  simp only [if_true, true_and]
  by_cases hn : 1 ≤ a ∧ a ≤ 50
  ·simp only [hn, and_self, decide_true, if_true]
   exact Ev.bind (implFree_ev l (goodOwn_len hg).2 a hn.1 hn.2) (Ev.now _)
  ·simp only [hn, decide_false, Bool.false_eq_true, if_false]
   exact Ev.now _
end Go.Proofs.Ytljdenmmlkjapaa.P

namespace Go.Proofs.Ytljdenmmlkjapaa.P
open Go.RowKit Go.Proofs.YtljdenmmlkjapaaW.PrintWords Go.Proofs.YtljdenmmlkjapaaW.PrintLast
set_option linter.unusedVariables false
set_option linter.unusedSimpArgs false
def loserOf (l : List S26) (p : Int × Int) : Int := if betterOf (rd_T26 l p.1) (rd_T26 l p.2) = true then p.2 else p.1
def renamed (l : List S26) (w : Int) : List S26 := l.set w.toNat ⟨(rd_T26 l w).f0, nextFreeM l (rd_T26 l w).f1, (rd_T26 l w).f2⟩
def giveM (l : List S26) : Option (List S26 × Int) :=
 match clashM l 0 with
 | none => none
 | some p => some (renamed l (loserOf l p), (rd_T26 l (loserOf l p)).f0)
theorem rd_mem (l : List S26) (w : Int) (h0 : 0 ≤ w) (h1 : w < (l.length : Int)) : rd_T26 l w ∈ l := by
 unfold rd_T26
 rw [List.getD_eq_getElem?_getD, List.getElem?_eq_getElem (by omega)]
 exact List.getElem_mem _
theorem rd_set (l : List S26) (w : Int) (x : S26) (h0 : 0 ≤ w) (h1 : w < (l.length : Int)) : rd_T26 (l.set w.toNat x) w = x := by
 unfold rd_T26
 rw [List.getD_eq_getElem?_getD, List.getElem?_set_self (by omega)]
 rfl
theorem specGive_ev (l : List S26) (hg : goodOwn l = true) : Ev (fun k => spec_l11Give.f k l) (match giveM l with | none => (0, l) | some p => (p.2, p.1)) := by
 have hl := (goodOwn_len hg).2
 unfold spec_l11Give.f giveM
 refine Ev.bind (specClash_ev l (by omega)) ?_
 cases hc : clashM l 0 with
 | none =>
  rw [show clash2 none = (-1, -1) from rfl]
  simp only [if_pos (show (-1 : Int) < 0 by decide)]
  exact Ev.now _
 | some p =>
  obtain ⟨i, j⟩ := p
  obtain ⟨n, m, h1, h2, h3, h4, _⟩ := clashM_some l 0 i j hc
  have hi : isOwn (rd_T26 l i) = true := goodOwn_all hg _ (rd_mem l i (by omega) (by omega))
  have hj : isOwn (rd_T26 l j) = true := goodOwn_all hg _ (rd_mem l j (by omega) (by omega))
  rw [isOwn_iff] at hi hj
  rw [show clash2 (some (i, j)) = (i, j) from rfl]
  simp only [if_neg (show ¬ i < 0 by omega), if_pos (show 0 ≤ i by omega), if_pos (show i < (l.length : Int) by omega), if_pos (show 0 ≤ j by omega), if_pos (show j < (l.length : Int) by omega), specBetter, Option.bind_some]
  cases hb : betterOf (rd_T26 l i) (rd_T26 l j) with
  | true =>
   simp only [if_true]
   refine Ev.bind (specFree_ev l hl _ hj.2.2.1 hj.2.2.2.1) ?_
   refine Ev.some_ ?_
   rw [rd_set l j _ (by omega) (by omega)]
   simp only [loserOf, hb, if_true, renamed]
  | false =>
   simp only [Bool.false_eq_true, if_false]
   refine Ev.bind (specFree_ev l hl _ hi.2.2.1 hi.2.2.2.1) ?_
   refine Ev.some_ ?_
   rw [rd_set l i _ (by omega) (by omega)]
   simp only [loserOf, hb, Bool.false_eq_true, if_false, renamed]
def giveWay (l : List S26) : List S26 × Int × Bool :=
 if goodOwn l = true then (match giveM l with | none => ([], 0, false) | some p => (p.1, p.2, true)) else ([], 0, false)
theorem giveM_id {l y : List S26} {id : Int} (hg : goodOwn l = true) (h : giveM l = some (y, id)) : 1 ≤ id := by
 unfold giveM at h
 cases hc : clashM l 0 with
 | none => rw [hc] at h; cases h
 | some p =>
  obtain ⟨i, j⟩ := p
  rw [hc] at h
  simp only [Option.some.injEq, Prod.mk.injEq] at h
  obtain ⟨n, m, h1, h2, h3, h4, _⟩ := clashM_some l 0 i j hc
  have hi : isOwn (rd_T26 l i) = true := goodOwn_all hg _ (rd_mem l i (by omega) (by omega))
  have hj : isOwn (rd_T26 l j) = true := goodOwn_all hg _ (rd_mem l j (by omega) (by omega))
  rw [isOwn_iff] at hi hj
  rw [← h.2]
  unfold loserOf
  split
  ·exact hj.1
  ·exact hi.1
theorem specGiveWay_ev (l : List S26) (hl : l.length ≤ 1048576) : Ev (fun k => spec_GiveWay.f k l) (giveWay l) := by
 unfold spec_GiveWay.f
 refine Ev.bind (specGoodOwners_ev l hl) ?_
 unfold giveWay
 cases hg : goodOwn l with
 | false =>
  simp only [Bool.false_eq_true, if_false]
  exact Ev.now _
 | true =>
  simp only [if_true, Option.bind_some, List.nil_append, List.length_nil, Nat.zero_add]
  simp only [if_pos (show l.length < 5864062014805 by omega)]
  refine Ev.bind (specGive_ev l hg) ?_
  cases hm : giveM l with
  | none =>
   simp only [if_true]
   exact Ev.now _
  | some p =>
   obtain ⟨y, id⟩ := p
   have := giveM_id hg hm
   simp only [if_neg (show ¬ id = 0 by omega)]
   exact Ev.now _
theorem implGiveWay_ev (l : List S26) (hl : l.length ≤ 1048576) : Ev (fun k => impl_GiveWay.f k l) (giveWay l) := by
 unfold impl_GiveWay.f
 refine Ev.bind (implGoodOwners_ev l hl) ?_
 unfold giveWay
 cases hg : goodOwn l with
 | false =>
  simp only [Bool.false_eq_true, if_false]
  exact Ev.now _
 | true =>
  simp only [if_true]
  refine Ev.bind (implClash_ev l hl) ?_
  unfold giveM
  cases hc : clashM l 0 with
  | none =>
   rw [show clash3 none = (0, 0, false) from rfl]
   simp only [Bool.false_eq_true, if_false]
   exact Ev.now _
  | some p =>
   obtain ⟨i, j⟩ := p
   obtain ⟨n, m, h1, h2, h3, h4, _⟩ := clashM_some l 0 i j hc
   have hl10 := (goodOwn_len hg).2
   have hi : isOwn (rd_T26 l i) = true := goodOwn_all hg _ (rd_mem l i (by omega) (by omega))
   have hj : isOwn (rd_T26 l j) = true := goodOwn_all hg _ (rd_mem l j (by omega) (by omega))
   rw [isOwn_iff] at hi hj
   rw [show clash3 (some (i, j)) = (i, j, true) from rfl]
   have hcl : slices_Clone_Owner.f l = some l := by unfold slices_Clone_Owner.f; rw [if_pos (by omega)]
   simp only [if_true, if_pos (show 0 ≤ i by omega), if_pos (show i < (l.length : Int) by omega), if_pos (show 0 ≤ j by omega), if_pos (show j < (l.length : Int) by omega), implBetter, Option.bind_some, hcl]
   cases hb : betterOf (rd_T26 l i) (rd_T26 l j) with
   | true =>
    simp only [if_true]
    refine Ev.bind (implFree_ev l hl10 _ hj.2.2.1 hj.2.2.2.1) ?_
    refine Ev.some_ ?_
    simp only [loserOf, hb, if_true, renamed]
   | false =>
    simp only [Bool.false_eq_true, if_false]
    refine Ev.bind (implFree_ev l hl10 _ hi.2.2.1 hi.2.2.2.1) ?_
    refine Ev.some_ ?_
    simp only [loserOf, hb, Bool.false_eq_true, if_false, renamed]
theorem renamed_len (l : List S26) (w : Int) : (renamed l w).length = l.length := by unfold renamed; simp
theorem giveWay_len (l : List S26) : (giveWay l).1.length ≤ l.length := by
 unfold giveWay
 split
 ·unfold giveM
  cases clashM l 0 with
  | none => simp
  | some p => simp [renamed_len]
 ·simp
end Go.Proofs.Ytljdenmmlkjapaa.P

namespace Go.Proofs.Ytljdenmmlkjapaa.P
open Go.RowKit Go.Proofs.YtljdenmmlkjapaaW.PrintWords Go.Proofs.YtljdenmmlkjapaaW.PrintLast
set_option linter.unusedVariables false
set_option linter.unusedSimpArgs false
/-- How many have a name that one behind them has. -/
def dups : List S26 → Nat
 | [] => 0
 | x :: r => (if hasName r x.f1 = true then 1 else 0) + dups r
theorem hasName_set (x : S26) (q : Int) : ∀ (l : List S26) (n : Nat), n < l.length → hasName (l.set n x) q = (x.f1 == q || hasName (l.eraseIdx n) q)
 | [], n, h => absurd h (Nat.not_lt_zero _)
 | y :: r, 0, _ => by simp [hasName]
 | y :: r, n + 1, h => by
  have := hasName_set x q r n (by simpa using h)
  unfold hasName at this ⊢
  simp only [List.set_cons_succ, List.any_cons, List.eraseIdx_cons_succ]
  rw [this]
  cases (y.f1 == q) <;> cases (x.f1 == q) <;> rfl
theorem hasName_at (q : Int) : ∀ (l : List S26) (n : Nat), n < l.length → hasName l q = ((l.getD n z26).f1 == q || hasName (l.eraseIdx n) q)
 | [], n, h => absurd h (Nat.not_lt_zero _)
 | y :: r, 0, _ => by simp [hasName]
 | y :: r, n + 1, h => by
  have := hasName_at q r n (by simpa using h)
  unfold hasName at this ⊢
  simp only [List.getD_cons_succ, List.any_cons, List.eraseIdx_cons_succ]
  rw [this]
  cases (y.f1 == q) <;> cases ((r.getD n z26).f1 == q) <;> rfl
theorem dups_set (x : S26) : ∀ (l : List S26) (n : Nat), n < l.length → hasName l x.f1 = false →
  dups (l.set n x) + (if hasName (l.eraseIdx n) (l.getD n z26).f1 = true then 1 else 0) = dups l
 | [], n, h, _ => absurd h (Nat.not_lt_zero _)
 | y :: r, 0, _, hf => by
  have hr : hasName r x.f1 = false := by
   unfold hasName at hf ⊢
   simp only [List.any_cons, Bool.or_eq_false_iff] at hf
   exact hf.2
  simp only [List.set_cons_zero, dups, hr, Bool.false_eq_true, if_false, List.eraseIdx_cons_zero, List.getD_cons_zero]
  omega
 | y :: r, n + 1, h, hf => by
  have hlt : n < r.length := by simpa using h
  have hy : (y.f1 == x.f1) = false ∧ hasName r x.f1 = false := by
   unfold hasName at hf ⊢
   simpa only [List.any_cons, Bool.or_eq_false_iff] using hf
  have ih := dups_set x r n hlt hy.2
  have hxy : (x.f1 == y.f1) = false := by
   have := hy.1
   simp only [beq_eq_false_iff_ne, ne_eq] at this ⊢
   exact fun e => this e.symm
  have e1 := hasName_set x y.f1 r n hlt
  have e2 := hasName_at y.f1 r n hlt
  rw [hxy, Bool.false_or] at e1
  simp only [List.set_cons_succ, dups, List.eraseIdx_cons_succ, List.getD_cons_succ]
  rw [e1, e2]
  have e3 : hasName (y :: r.eraseIdx n) (r.getD n z26).f1 = (y.f1 == (r.getD n z26).f1 || hasName (r.eraseIdx n) (r.getD n z26).f1) := by simp [hasName]
  rw [e3]
  by_cases he : y.f1 = (r.getD n z26).f1
  ·have h1 : (y.f1 == (r.getD n z26).f1) = true := by simpa using he
   have h2 : ((r.getD n z26).f1 == y.f1) = true := by simpa using he.symm
   simp only [h1, h2, Bool.true_or, if_true]
   rw [he]
   omega
  ·have h1 : (y.f1 == (r.getD n z26).f1) = false := by simpa using he
   have h2 : ((r.getD n z26).f1 == y.f1) = false := by simpa using fun e => he (Eq.symm e)
   simp only [h1, h2, Bool.false_or]
   omega
theorem hasName_erase (q : Int) : ∀ (l : List S26) (n m : Nat), n ≠ m → m < l.length → (l.getD m z26).f1 = q → hasName (l.eraseIdx n) q = true
 | [], n, m, _, h, _ => absurd h (Nat.not_lt_zero _)
 | y :: r, 0, 0, hne, _, _ => absurd rfl hne
 | y :: r, 0, m + 1, _, h, he => by
  unfold hasName
  rw [List.eraseIdx_cons_zero, List.any_eq_true]
  have hlt : m < r.length := by simpa using h
  refine ⟨r.getD m z26, ?_, by simpa using he⟩
  rw [List.getD_eq_getElem?_getD, List.getElem?_eq_getElem hlt]
  exact List.getElem_mem _
 | y :: r, n + 1, 0, _, _, he => by
  have he : y.f1 = q := by simpa using he
  simp [hasName, he]
 | y :: r, n + 1, m + 1, hne, h, he => by
  have := hasName_erase q r n m (by omega) (by simpa using h) (by simpa using he)
  unfold hasName at this ⊢
  simp only [List.eraseIdx_cons_succ, List.any_cons, this, Bool.or_true]
theorem goodOwnF_set (x : S26) (hx : isOwn x = true) : ∀ (l : List S26) (n : Nat) (o : Option S26), n < l.length → x.f0 = (l.getD n z26).f0 → goodOwnF o l = true → goodOwnF o (l.set n x) = true
 | [], n, _, h, _, _ => absurd h (Nat.not_lt_zero _)
 | y :: r, 0, o, _, he, hg => by
  have he : x.f0 = y.f0 := by simpa using he
  have key : ∀ (s : List S26), goodOwnF (some x) s = goodOwnF (some y) s := fun s => by
   cases s with
   | nil => rfl
   | cons a s => simp only [goodOwnF, he]
  cases o with
  | none =>
   simp only [goodOwnF, Bool.and_eq_true, List.set_cons_zero] at hg ⊢
   exact ⟨hx, by rw [key]; exact hg.2⟩
  | some a =>
   simp only [goodOwnF, Bool.and_eq_true, List.set_cons_zero] at hg ⊢
   exact ⟨hx, by rw [he]; exact hg.2.1, by rw [key]; exact hg.2.2⟩
 | y :: r, n + 1, o, h, he, hg => by
  have ih := goodOwnF_set x hx r n (some y) (by simpa using h) (by simpa using he)
  cases o with
  | none =>
   simp only [goodOwnF, Bool.and_eq_true, List.set_cons_succ] at hg ⊢
   exact ⟨hg.1, ih hg.2⟩
  | some a =>
   simp only [goodOwnF, Bool.and_eq_true, List.set_cons_succ] at hg ⊢
   exact ⟨hg.1, hg.2.1, ih hg.2.2⟩
/-- Who gives way: a place in the list, of a pair with one name, without the better right. -/
theorem giveM_some {l y : List S26} {id : Int} (hg : goodOwn l = true) (h : giveM l = some (y, id)) :
  ∃ (w o : Nat), w < l.length ∧ o < l.length ∧ w ≠ o ∧ (l.getD w z26).f1 = (l.getD o z26).f1 ∧ betterOf (l.getD w z26) (l.getD o z26) = false ∧
   id = (l.getD w z26).f0 ∧ y = l.set w ⟨(l.getD w z26).f0, nextFreeM l (l.getD w z26).f1, (l.getD w z26).f2⟩ ∧
   (∃ i j : Nat, clashM l 0 = some ((i : Int), (j : Int)) ∧ i < j ∧ j < l.length ∧ (w = i ∧ o = j ∨ w = j ∧ o = i)) := by
 unfold giveM at h
 cases hc : clashM l 0 with
 | none => rw [hc] at h; cases h
 | some p =>
  obtain ⟨i, j⟩ := p
  rw [hc] at h
  simp only [Option.some.injEq, Prod.mk.injEq] at h
  obtain ⟨n, m, h1, h2, h3, h4, h5⟩ := clashM_some l 0 i j hc
  have en : i = (n : Int) := by omega
  have em : j = (m : Int) := by omega
  subst en em
  have rn : rd_T26 l (n : Int) = l.getD n z26 := by unfold rd_T26; rw [Int.toNat_natCast]
  have rm : rd_T26 l (m : Int) = l.getD m z26 := by unfold rd_T26; rw [Int.toNat_natCast]
  unfold loserOf renamed at h
  cases hb : betterOf (l.getD n z26) (l.getD m z26) with
  | true =>
   simp only [rn, rm, hb, if_true, Int.toNat_natCast] at h
   refine ⟨m, n, h4, by omega, by omega, h5.symm, ?_, h.2.symm, h.1.symm, n, m, rfl, h3, h4, .inr ⟨rfl, rfl⟩⟩
   unfold betterOf at hb ⊢
   simp only [Bool.or_eq_true, Bool.and_eq_true, decide_eq_true_eq, Bool.or_eq_false_iff, Bool.and_eq_false_iff, decide_eq_false_iff_not] at hb ⊢
   omega
  | false =>
   simp only [rn, hb, rm, Bool.false_eq_true, if_false, Int.toNat_natCast] at h
   exact ⟨n, m, by omega, h4, by omega, h5, hb, h.2.symm, h.1.symm, n, m, rfl, h3, h4, .inl ⟨rfl, rfl⟩⟩
theorem giveM_good {l y : List S26} {id : Int} (hg : goodOwn l = true) (h : giveM l = some (y, id)) : goodOwn y = true ∧ dups y + 1 = dups l ∧ y.length = l.length := by
 obtain ⟨w, o, hw, ho, hne, hnm, hb, hid, rfl, _⟩ := giveM_some hg h
 have hl := (goodOwn_len hg).2
 have hmem : l.getD w z26 ∈ l := by
  rw [List.getD_eq_getElem?_getD, List.getElem?_eq_getElem hw]
  exact List.getElem_mem _
 have hown := (isOwn_iff _).1 (goodOwn_all hg _ hmem)
 have hfree := nextFreeM_ok l hl hown.2.2.1 hown.2.2.2.1
 refine ⟨?_, ?_, by simp⟩
 ·unfold goodOwn at hg ⊢
  simp only [Bool.and_eq_true, decide_eq_true_eq, List.length_set] at hg ⊢
  refine ⟨goodOwnF_set _ ?_ l w none hw rfl hg.1, hg.2⟩
  rw [isOwn_iff]
  exact ⟨hown.1, hown.2.1, hfree.2.1, hfree.2.2, hown.2.2.2.2⟩
 ·have h1 := dups_set ⟨(l.getD w z26).f0, nextFreeM l (l.getD w z26).f1, (l.getD w z26).f2⟩ l w hw hfree.1
  rw [if_pos (hasName_erase _ l w o hne ho hnm.symm)] at h1
  exact h1
end Go.Proofs.Ytljdenmmlkjapaa.P

namespace Go.Proofs.Ytljdenmmlkjapaa.P
open Go.RowKit Go.Proofs.YtljdenmmlkjapaaW.PrintWords Go.Proofs.YtljdenmmlkjapaaW.PrintLast
set_option linter.unusedVariables false
set_option linter.unusedSimpArgs false
def nameOfF (id : Int) : List S26 → Int × Bool
 | [] => (0, false)
 | x :: r => if x.f0 = id then (x.f1, true) else nameOfF id r
def nameOf (l : List S26) (id : Int) : Int × Bool := if goodOwn l = true then nameOfF id l else (0, false)
theorem specNameOf_l (id : Int) (suf : List S26) : ∀ (pre : List S26) (k : Nat), suf.length < k → (pre.length : Int) + suf.length ≤ 1099511627776 →
  spec_NameOf.l0 k id (pre ++ suf) ((pre ++ suf).length : Int) (pre.length : Int) = some (nameOfF id suf) := by
 induction suf with
 | nil =>
  intro pre k hk hb
  obtain ⟨k, rfl⟩ : ∃ m, k = m + 1 := ⟨k - 1, by omega⟩
  simp only [spec_NameOf.l0]
  rw [if_neg (by simp)]
  rfl
 | cons x suf ih =>
  intro pre k hk hb
  simp only [List.length_cons] at hk hb
  obtain ⟨k, rfl⟩ : ∃ m, k = m + 1 := ⟨k - 1, by omega⟩
  have h := ih (pre ++ [x]) k (by omega) (by simp <;> omega)
  rw [← app_one, len_one] at h
  simp only [spec_NameOf.l0]
  rw [if_pos (by simp <;> omega), if_pos (by omega), if_pos (by simp <;> omega), rdOwner_mid, wrap_id (x := (pre.length : Int) + 1) (by omega) (by omega), h]
  by_cases hx : x.f0 = id
  ·rw [if_pos hx]; simp [nameOfF, hx]
  ·rw [if_neg hx]; simp [nameOfF, hx]
theorem specNameOf_ev (l : List S26) (id : Int) (hl : l.length ≤ 1048576) : Ev (fun k => spec_NameOf.f k l id) (nameOf l id) := by
 unfold spec_NameOf.f
 refine Ev.bind (specGoodOwners_ev l hl) ?_
 unfold nameOf
 cases h : goodOwn l with
 | true =>
  simp only [if_true]
  exact ⟨l.length + 1, fun k hk => specNameOf_l id l [] k (by omega) (by simp <;> omega)⟩
 | false =>
  simp only [Bool.false_eq_true, if_false]
  exact Ev.now _
theorem nameOf_same : ∀ k a b c d, impl_NameOf.l0 k a b c d = spec_NameOf.l0 k a b c d
 | 0, _, _, _, _ => rfl
 | k + 1, a, b, c, d => by simp only [impl_NameOf.l0, spec_NameOf.l0, nameOf_same k]
theorem implNameOf_ev (l : List S26) (id : Int) (hl : l.length ≤ 1048576) : Ev (fun k => impl_NameOf.f k l id) (nameOf l id) := by
 refine Ev.congr (fun k => ?_) (specNameOf_ev l id hl)
 unfold impl_NameOf.f spec_NameOf.f
 simp only [nameOf_same]
 have e : impl_GoodOwners.f k l = spec_GoodOwners.f k l := goodOwners_same k _ _ _ _
 rw [e]
end Go.Proofs.Ytljdenmmlkjapaa.P

namespace Go.Proofs.Ytljdenmmlkjapaa.P
open Go.RowKit Go.Proofs.YtljdenmmlkjapaaW.PrintWords Go.Proofs.YtljdenmmlkjapaaW.PrintLast
set_option linter.unusedVariables false
set_option linter.unusedSimpArgs false
def clashIn (l : List S26) : Int × Int × Bool :=
 if goodOwn l = true then (match clashM l 0 with | none => (0, 0, false) | some p => ((rd_T26 l p.1).f0, (rd_T26 l p.2).f0, true)) else (0, 0, false)
theorem specClashIn_ev (l : List S26) (hl : l.length ≤ 1048576) : Ev (fun k => spec_ClashIn.f k l) (clashIn l) := by
 unfold spec_ClashIn.f
 refine Ev.bind (specClash_ev l hl) ?_
 refine Ev.bind (specGoodOwners_ev l hl) ?_
 unfold clashIn
 cases hg : goodOwn l with
 | false => simp only [Bool.false_eq_true, if_false]; exact Ev.now _
 | true =>
  simp only [if_true]
  cases hc : clashM l 0 with
  | none => simp only [clash2]; exact Ev.now _
  | some p =>
   obtain ⟨i, j⟩ := p
   obtain ⟨n, m, h1, h2, h3, h4, _⟩ := clashM_some l 0 i j hc
   rw [show clash2 (some (i, j)) = (i, j) from rfl]
   simp only [if_neg (show ¬ i < 0 by omega), if_pos (show 0 ≤ i by omega), if_pos (show i < (l.length : Int) by omega), if_pos (show 0 ≤ j by omega), if_pos (show j < (l.length : Int) by omega)]
   exact Ev.now _
theorem implClashIn_ev (l : List S26) (hl : l.length ≤ 1048576) : Ev (fun k => impl_ClashIn.f k l) (clashIn l) := by
 unfold impl_ClashIn.f
 refine Ev.bind (implGoodOwners_ev l hl) ?_
 unfold clashIn
 cases hg : goodOwn l with
 | false => simp only [Bool.false_eq_true, if_false]; exact Ev.now _
 | true =>
  simp only [if_true]
  refine Ev.bind (implClash_ev l hl) ?_
  cases hc : clashM l 0 with
  | none => simp only [clash3, Bool.false_eq_true, if_false]; exact Ev.now _
  | some p =>
   obtain ⟨i, j⟩ := p
   obtain ⟨n, m, h1, h2, h3, h4, _⟩ := clashM_some l 0 i j hc
   rw [show clash3 (some (i, j)) = (i, j, true) from rfl]
   simp only [if_true]
   simp only [if_pos (show 0 ≤ i by omega), if_pos (show i < (l.length : Int) by omega), if_pos (show 0 ≤ j by omega), if_pos (show j < (l.length : Int) by omega)]
   exact Ev.now _
end Go.Proofs.Ytljdenmmlkjapaa.P

namespace Go.Proofs.Ytljdenmmlkjapaa.P
open Go.RowKit Go.Proofs.YtljdenmmlkjapaaW.PrintWords Go.Proofs.YtljdenmmlkjapaaW.PrintLast
set_option linter.unusedVariables false
set_option linter.unusedSimpArgs false
theorem better_iff (a b : S26) : betterOf a b = true ↔ (a.f2 > b.f2 ∨ a.f2 = b.f2 ∧ a.f0 > b.f0) := by
 unfold betterOf; simp only [Bool.or_eq_true, Bool.and_eq_true, decide_eq_true_eq]
theorem better_not (a b : S26) : betterOf a b = false ↔ ¬ (a.f2 > b.f2 ∨ a.f2 = b.f2 ∧ a.f0 > b.f0) := by
 rw [← better_iff]; cases betterOf a b <;> simp
theorem bestF_ok (nm : Int) : ∀ (l : List S26) (y0 : S26), y0.f1 = nm → ∃ y, bestF nm (some y0) l = some y ∧ (y = y0 ∨ y ∈ l) ∧ y.f1 = nm ∧ betterOf y0 y = false ∧ ∀ z ∈ l, z.f1 = nm → betterOf z y = false
 | [], y0, h => ⟨y0, rfl, .inl rfl, h, (by rw [better_not]; omega), fun z hz => by simp at hz⟩
 | x :: r, y0, h => by
  by_cases hx : x.f1 = nm
  ·cases hb : betterOf x y0 with
   | true =>
    obtain ⟨y, e, hy, hn, h1, h2⟩ := bestF_ok nm r x hx
    refine ⟨y, by simp only [bestF, hx, hb, if_true]; exact e, ?_, hn, ?_, ?_⟩
    ·rcases hy with rfl | hy
     ·exact .inr (by simp)
     ·exact .inr (by simp [hy])
    ·rw [better_iff] at hb
     rw [better_not] at h1 ⊢
     omega
    ·intro z hz hzn
     rcases List.mem_cons.1 hz with rfl | hz
     ·exact h1
     ·exact h2 z hz hzn
   | false =>
    obtain ⟨y, e, hy, hn, h1, h2⟩ := bestF_ok nm r y0 h
    refine ⟨y, by simp only [bestF, hx, hb, if_true, Bool.false_eq_true, if_false]; exact e, ?_, hn, h1, ?_⟩
    ·rcases hy with rfl | hy
     ·exact .inl rfl
     ·exact .inr (by simp [hy])
    ·intro z hz hzn
     rcases List.mem_cons.1 hz with rfl | hz
     ·rw [better_not] at hb h1 ⊢
      omega
     ·exact h2 z hz hzn
  ·obtain ⟨y, e, hy, hn, h1, h2⟩ := bestF_ok nm r y0 h
   refine ⟨y, by simp only [bestF, hx, if_false]; exact e, ?_, hn, h1, ?_⟩
   ·rcases hy with rfl | hy
    ·exact .inl rfl
    ·exact .inr (by simp [hy])
   ·intro z hz hzn
    rcases List.mem_cons.1 hz with rfl | hz
    ·exact absurd hzn hx
    ·exact h2 z hz hzn
theorem bestF_none (nm : Int) : ∀ (l : List S26), (∃ x ∈ l, x.f1 = nm) → ∃ y, bestF nm none l = some y ∧ y ∈ l ∧ y.f1 = nm ∧ ∀ z ∈ l, z.f1 = nm → betterOf z y = false
 | [], ⟨x, hx, _⟩ => by simp at hx
 | x :: r, ⟨q, hq, hqn⟩ => by
  by_cases hx : x.f1 = nm
  ·obtain ⟨y, e, hy, hn, h1, h2⟩ := bestF_ok nm r x hx
   refine ⟨y, by simp only [bestF, hx, if_true]; exact e, ?_, hn, ?_⟩
   ·rcases hy with rfl | hy
    ·simp
    ·simp [hy]
   ·intro z hz hzn
    rcases List.mem_cons.1 hz with rfl | hz
    ·exact h1
    ·exact h2 z hz hzn
  ·rcases List.mem_cons.1 hq with rfl | hq
   ·exact absurd hqn hx
   ·obtain ⟨y, e, hy, hn, h2⟩ := bestF_none nm r ⟨q, hq, hqn⟩
    refine ⟨y, by simp only [bestF, hx, if_false]; exact e, by simp [hy], hn, ?_⟩
    intro z hz hzn
    rcases List.mem_cons.1 hz with rfl | hz
    ·exact absurd hzn hx
    ·exact h2 z hz hzn
/-- ids rise -/
theorem goodOwnF_rise : ∀ (l : List S26) (y : S26), goodOwnF (some y) l = true → ∀ x ∈ l, y.f0 < x.f0
 | [], _, _, x, hx => by simp at hx
 | a :: r, y, h, x, hx => by
  simp only [goodOwnF, Bool.and_eq_true, decide_eq_true_eq] at h
  rcases List.mem_cons.1 hx with rfl | hx
  ·exact h.2.1
  ·have := goodOwnF_rise r a h.2.2 x hx
   omega
theorem nameOfF_mem : ∀ (l : List S26) (o : Option S26), goodOwnF o l = true → ∀ y ∈ l, nameOfF y.f0 l = (y.f1, true)
 | [], _, _, y, hy => by simp at hy
 | a :: r, o, h, y, hy => by
  have h2 : goodOwnF (some a) r = true := by
   cases o with
   | none => simp only [goodOwnF, Bool.and_eq_true] at h; exact h.2
   | some z => simp only [goodOwnF, Bool.and_eq_true] at h; exact h.2.2
  rcases List.mem_cons.1 hy with rfl | hy
  ·simp [nameOfF]
  ·have := goodOwnF_rise r a h2 y hy
   simp only [nameOfF, if_neg (show ¬ a.f0 = y.f0 by omega)]
   exact nameOfF_mem r _ h2 y hy
theorem goodOwn_F {l : List S26} (h : goodOwn l = true) : goodOwnF none l = true := by
 unfold goodOwn at h; simp only [Bool.and_eq_true] at h; exact h.1
theorem nameOf_mem {l : List S26} (h : goodOwn l = true) {y : S26} (hy : y ∈ l) : nameOf l y.f0 = (y.f1, true) := by
 unfold nameOf
 rw [if_pos h]
 exact nameOfF_mem l none (goodOwn_F h) y hy
theorem ids_ne : ∀ (l : List S26) (o : Option S26), goodOwnF o l = true → ∀ (i j : Nat), i < l.length → j < l.length → i ≠ j → (l.getD i z26).f0 ≠ (l.getD j z26).f0
 | [], _, _, i, j, hi, _, _ => absurd hi (Nat.not_lt_zero _)
 | a :: r, o, h, i, j, hi, hj, hne => by
  have h2 : goodOwnF (some a) r = true := by
   cases o with
   | none => simp only [goodOwnF, Bool.and_eq_true] at h; exact h.2
   | some z => simp only [goodOwnF, Bool.and_eq_true] at h; exact h.2.2
  have hr := goodOwnF_rise r a h2
  have hm : ∀ n, n < r.length → r.getD n z26 ∈ r := fun n hn => by
   rw [List.getD_eq_getElem?_getD, List.getElem?_eq_getElem hn]
   exact List.getElem_mem _
  simp only [List.length_cons] at hi hj
  cases i with
  | zero =>
   cases j with
   | zero => exact absurd rfl hne
   | succ j =>
    have := hr _ (hm j (by omega))
    simp only [List.getD_cons_zero, List.getD_cons_succ]
    omega
  | succ i =>
   cases j with
   | zero =>
    have := hr _ (hm i (by omega))
    simp only [List.getD_cons_zero, List.getD_cons_succ]
    omega
   | succ j =>
    simp only [List.getD_cons_succ]
    exact ids_ne r _ h2 i j (by omega) (by omega) (by omega)
theorem getD_mem {l : List S26} {n : Nat} (h : n < l.length) : l.getD n z26 ∈ l := by
 rw [List.getD_eq_getElem?_getD, List.getElem?_eq_getElem h]
 exact List.getElem_mem _
theorem mem_set_of_ne {l : List S26} {w : Nat} {x y : S26} (hy : y ∈ l) (hne : l.getD w z26 ≠ y) : y ∈ l.set w x := by
 obtain ⟨i, hi⟩ := List.getElem?_of_mem hy
 by_cases e : w = i
 ·subst e
  rw [List.getD_eq_getElem?_getD, hi] at hne
  exact absurd rfl hne
 ·exact List.mem_of_getElem? (i := i) (by rw [List.getElem?_set_ne e]; exact hi)
theorem sameOwners_l (s : List S26) : ∀ (t pre qre : List S26) (k : Nat), s.length < k → pre.length = qre.length → s.length = t.length → (pre.length : Int) + s.length ≤ 1099511627776 →
  laws_sameOwners.l0 k (pre ++ s) (qre ++ t) ((pre ++ s).length : Int) (pre.length : Int) = some (decide (s = t)) := by
 induction s with
 | nil =>
  intro t pre qre k hk hq hl hb
  obtain ⟨k, rfl⟩ : ∃ m, k = m + 1 := ⟨k - 1, by omega⟩
  obtain rfl : t = [] := List.eq_nil_of_length_eq_zero (by simpa using hl.symm)
  simp only [laws_sameOwners.l0]
  rw [if_neg (by simp)]
  simp
 | cons x s ih =>
  intro t pre qre k hk hq hl hb
  cases t with
  | nil => simp at hl
  | cons y t =>
   simp only [List.length_cons] at hk hl hb
   obtain ⟨k, rfl⟩ : ∃ m, k = m + 1 := ⟨k - 1, by omega⟩
   have h := ih t (pre ++ [x]) (qre ++ [y]) k (by omega) (by simp; omega) (by omega) (by simp; omega)
   rw [← app_one, ← app_one, len_one] at h
   have hy : rd_T26 (qre ++ y :: t) (pre.length : Int) = y := by rw [hq]; exact rdOwner_mid qre y t
   simp only [laws_sameOwners.l0]
   rw [if_pos (by simp <;> omega), if_pos (by omega), if_pos (by simp <;> omega), if_pos (by simp <;> omega), rdOwner_mid, hy, wrap_id (by omega) (by omega), h]
   by_cases e : x = y
   ·subst e
    rw [if_neg (by simp)]
    simp
   ·rw [if_pos]
    ·simp [e]
    ·cases x; cases y
     simp only [S26.mk.injEq] at e
     simp only [Bool.or_eq_true, Bool.not_eq_true', beq_eq_false_iff_ne, ne_eq]
     omega
theorem sameOwners_ev (s t : List S26) (hs : s.length ≤ 1099511627776) : Ev (fun k => laws_sameOwners.f k s t) (decide (s = t)) := by
 refine ⟨s.length + 1, fun k hk => ?_⟩
 show laws_sameOwners.f k s t = _
 unfold laws_sameOwners.f
 by_cases hl : s.length = t.length
 ·rw [if_pos (by omega)]
  exact sameOwners_l s t [] [] k (by omega) rfl hl (by simp; omega)
 ·rw [if_neg (by omega)]
  have : s ≠ t := fun e => hl (by rw [e])
  simp [this]
end Go.Proofs.Ytljdenmmlkjapaa.P

namespace Go.Proofs.Ytljdenmmlkjapaa.P
open Go.RowKit Go.Proofs.YtljdenmmlkjapaaW.PrintWords Go.Proofs.YtljdenmmlkjapaaW.PrintLast
set_option linter.unusedVariables false
set_option linter.unusedSimpArgs false
theorem and255 (x : Int) : 0 ≤ wrap64 (Go.bits .and .u64 x 255) ∧ wrap64 (Go.bits .and .u64 x 255) ≤ 255 := by
 have e : ∃ n : Nat, n ≤ 255 ∧ Go.bits .and .u64 x 255 = IntKind.u64.wrap (n : Int) := by
  refine ⟨(BitVec.ofInt 64 x &&& BitVec.ofInt 64 255).toNat, ?_, rfl⟩
  rw [BitVec.toNat_and]
  exact Nat.le_trans Nat.and_le_right (by decide)
 obtain ⟨n, hn, e⟩ := e
 rw [e]
 have e2 : IntKind.u64.wrap (n : Int) = (n : Int) := by
  simp only [IntKind.wrap, IntKind.bits, IntKind.signed, Bool.false_and, Bool.false_eq_true, if_false]
  omega
 rw [e2, wrap_id (by omega) (by omega)]
 omega
theorem next_ok (c : List Int) (hc : ∀ x ∈ c, 0 ≤ x ∧ x ≤ 255) (hl : c.length ≤ 1048576) (a s : Int) (h0 : 0 ≤ a) (h1 : a ≤ 1152921504606846976) :
  ∃ r s', spec_l1Cur_next.f c a s = some (r, a + 1, s') ∧ 0 ≤ r ∧ r ≤ 255 := by
 unfold spec_l1Cur_next.f
 rw [wrap_id (x := a + 1) (by omega) (by omega)]
 by_cases h : a < (c.length : Int)
 ·have hm : rd c a ∈ c := by
   unfold rd
   rw [List.getD_eq_getElem?_getD, List.getElem?_eq_getElem (by omega)]
   exact List.getElem_mem _
  have hb := hc _ hm
  rw [if_pos h, if_pos h0]
  by_cases h2 : a + 1 ≤ (c.length : Int)
  ·rw [if_pos h2, wrap_id (x := rd c a) (by omega) (by omega)]
   exact ⟨_, _, rfl, hb.1, hb.2⟩
  ·omega
 ·rw [if_neg h, if_neg (by omega)]
  exact ⟨_, _, rfl, (and255 _).1, (and255 _).2⟩
theorem pick_ok (c : List Int) (hc : ∀ x ∈ c, 0 ≤ x ∧ x ≤ 255) (hl : c.length ≤ 1048576) (a s n : Int) (h0 : 0 ≤ a) (h1 : a ≤ 1125899906842624) :
  ∃ r a' s', spec_l1Cur_pick.f c a s n = some (r, a', s') ∧ 0 ≤ r ∧ (n ≤ 1 → r = 0) ∧ (2 ≤ n → r < n) ∧ a ≤ a' ∧ a' ≤ a + 2 := by
 unfold spec_l1Cur_pick.f
 by_cases hn : n ≤ 1
 ·rw [if_pos hn]
  exact ⟨0, a, s, rfl, by omega, fun _ => rfl, by omega, by omega, by omega⟩
 ·rw [if_neg hn]
  obtain ⟨r, s', e, r0, r1⟩ := next_ok c hc hl a s h0 (by omega)
  rw [e]
  simp only [Option.bind_some]
  by_cases h2 : n > 200
  ·rw [if_pos h2]
   obtain ⟨q, s2, e2, q0, q1⟩ := next_ok c hc hl (a + 1) s' (by omega) (by omega)
   rw [e2]
   simp only [Option.bind_some]
   rw [if_neg (by omega), wrap_id (x := r * 256) (by omega) (by omega), wrap_id (x := r * 256 + q) (by omega) (by omega), Int.tmod_eq_emod_of_nonneg (by omega)]
   exact ⟨_, _, _, rfl, Int.emod_nonneg _ (by omega), fun h => absurd h hn, fun _ => Int.emod_lt_of_pos _ (by omega), by omega, by omega⟩
  ·rw [if_neg h2, if_neg (by omega), Int.tmod_eq_emod_of_nonneg r0]
   exact ⟨_, _, _, rfl, Int.emod_nonneg _ (by omega), fun h => absurd h hn, fun _ => Int.emod_lt_of_pos _ (by omega), by omega, by omega⟩
theorem one_ok (c : List Int) (hc : ∀ x ∈ c, 0 ≤ x ∧ x ≤ 255) (hl : c.length ≤ 1048576) (a s n : Int) (h0 : 0 ≤ a) (h1 : a ≤ 1125899906842624) :
  ∃ b a' s', spec_l1Cur_one.f c a s n = some (b, a', s') ∧ a ≤ a' ∧ a' ≤ a + 2 := by
 unfold spec_l1Cur_one.f
 obtain ⟨r, a', s', e, _, _, _, g1, g2⟩ := pick_ok c hc hl a s n h0 h1
 rw [e]
 exact ⟨_, _, _, rfl, g1, g2⟩
theorem among_ok (c : List Int) (hc : ∀ x ∈ c, 0 ≤ x ∧ x ≤ 255) (hl : c.length ≤ 1048576) (a s : Int) (l : List Int) (hn : 0 < l.length) (h0 : 0 ≤ a) (h1 : a ≤ 1125899906842624) :
  ∃ r a' s', spec_l1Cur_among.f c a s l = some (r, a', s') ∧ r ∈ l ∧ a ≤ a' ∧ a' ≤ a + 2 := by
 unfold spec_l1Cur_among.f
 obtain ⟨r, a', s', e, r0, r1, r2, g1, g2⟩ := pick_ok c hc hl a s (l.length : Int) h0 h1
 rw [e]
 simp only [Option.bind_some]
 have hlt : r < (l.length : Int) := by
  by_cases h : 2 ≤ (l.length : Int)
  ·exact r2 h
  ·have := r1 (by omega); omega
 rw [if_pos r0, if_pos hlt]
 refine ⟨_, _, _, rfl, ?_, g1, g2⟩
 unfold rd
 rw [List.getD_eq_getElem?_getD, List.getElem?_eq_getElem (by omega)]
 exact List.getElem_mem _
theorem bytes_ok {q : List Int} (hq : ∀ x ∈ q, (Lit.int .u8 x).wf = true) : ∀ x ∈ q, 0 ≤ x ∧ x ≤ 255 := fun x hx => by
 have := hq x hx
 simp only [Lit.wf, IntKind.has, IntKind.min, IntKind.max, IntKind.signed, IntKind.bits, Bool.and_eq_true, decide_eq_true_eq, Bool.false_eq_true, if_false] at this
 omega
end Go.Proofs.Ytljdenmmlkjapaa.P

namespace Go.Proofs.Ytljdenmmlkjapaa.P
open Go.RowKit Go.Proofs.YtljdenmmlkjapaaW.PrintWords Go.Proofs.YtljdenmmlkjapaaW.PrintLast
set_option linter.unusedVariables false
set_option linter.unusedSimpArgs false
theorem owners_j2 (c : List Int) (hc : ∀ x ∈ c, 0 ≤ x ∧ x ≤ 255) (hl : c.length ≤ 1048576) (l : List S26) (b : Bool) (hb : b = true → 0 < l.length) (a s : Int) (h0 : 0 ≤ a) (h1 : a ≤ 1000000000) :
  ∃ r a' s', Ev (fun k => spec_l1Cur_owners.j2 k l b c a s) (r, a', s') ∧ r.length = l.length ∧ a ≤ a' ∧ a' ≤ a + 6 := by
 cases b with
 | false =>
  refine ⟨l, a, s, Ev.succ ?_, rfl, by omega, by omega⟩
  simp only [spec_l1Cur_owners.j2, Bool.false_eq_true, if_false]
  exact Ev.now _
 | true =>
  have hp := hb rfl
  obtain ⟨r1, a1, s1, e1, _, g1, g1'⟩ := among_ok c hc hl a s [0, 1, 1001] (by decide) h0 (by omega)
  obtain ⟨r2, a2, s2, e2, _, g2, g2'⟩ := among_ok c hc hl a1 s1 [0, 50, 51] (by decide) (by omega) (by omega)
  obtain ⟨r3, a3, s3, e3, _, g3, g3'⟩ := among_ok c hc hl a2 s2 [-1, 255, 256] (by decide) (by omega) (by omega)
  refine ⟨l.set (0 : Int).toNat ⟨r1, r2, r3⟩, a3, s3, Ev.succ ?_, by simp, by omega, by omega⟩
  simp only [spec_l1Cur_owners.j2, if_true, e1, Option.bind_some]
  rw [e2]
  simp only [Option.bind_some]
  rw [e3]
  simp only [Option.bind_some, if_pos (show (0 : Int) < (l.length : Int) by omega)]
  exact Ev.now _
theorem owners_l0 (c : List Int) (hc : ∀ x ∈ c, 0 ≤ x ∧ x ≤ 255) (hl : c.length ≤ 1048576) (n : Nat) : ∀ (l : List S26) (id a s : Int), l.length + n ≤ 1000 → 0 ≤ a → a + 6 * n ≤ 100000000 →
  ∃ r a' s', Ev (fun k => spec_l1Cur_owners.l0 k l id (n : Int) c a s) (r, a', s') ∧ r.length = l.length + n ∧ a ≤ a' ∧ a' ≤ a + 6 * n + 10 := by
 induction n with
 | zero =>
  intro l id a s hn h0 h1
  by_cases hp : (l.length : Int) > 0
  ·obtain ⟨b, a1, s1, e1, g1, g1'⟩ := one_ok c hc hl a s 20 h0 (by omega)
   obtain ⟨r, a2, s2, e2, hr, g2, g2'⟩ := owners_j2 c hc hl l b (fun _ => by omega) a1 s1 (by omega) (by omega)
   refine ⟨r, a2, s2, Ev.succ ?_, by omega, by omega, by omega⟩
   simp only [spec_l1Cur_owners.l0]
   simp only [if_neg (show ¬ ((0 : Nat) : Int) > 0 by omega), if_pos hp, e1, Option.bind_some]
   exact e2
  ·obtain ⟨r, a2, s2, e2, hr, g2, g2'⟩ := owners_j2 c hc hl l false (fun h => by cases h) a s (by omega) (by omega)
   refine ⟨r, a2, s2, Ev.succ ?_, by omega, by omega, by omega⟩
   simp only [spec_l1Cur_owners.l0]
   simp only [if_neg (show ¬ ((0 : Nat) : Int) > 0 by omega), if_neg hp]
   exact e2
 | succ n ih =>
  intro l id a s hn h0 h1
  obtain ⟨r1, a1, s1, e1, _, _, _, g1, g1'⟩ := pick_ok c hc hl a s 9 h0 (by omega)
  obtain ⟨r2, a2, s2, e2, _, g2, g2'⟩ := among_ok c hc hl a1 s1 [1, 2, 3, 49, 50] (by decide) (by omega) (by omega)
  obtain ⟨r3, a3, s3, e3, _, _, _, g3, g3'⟩ := pick_ok c hc hl a2 s2 3 (by omega) (by omega)
  obtain ⟨r, a4, s4, e4, hr, g4, g4'⟩ := ih (l ++ [⟨wrap64 (id + wrap64 (1 + r1)), r2, r3⟩]) (wrap64 (id + wrap64 (1 + r1))) a3 s3 (by simp <;> omega) (by omega) (by omega)
  refine ⟨r, a4, s4, Ev.succ ?_, by simp at hr; omega, by omega, by omega⟩
  simp only [spec_l1Cur_owners.l0]
  simp only [if_pos (show ((n + 1 : Nat) : Int) > 0 by omega), e1, Option.bind_some]
  rw [e2]
  simp only [Option.bind_some]
  rw [e3]
  simp only [Option.bind_some, if_pos (show l.length < 5864062014805 by omega)]
  rw [wrap_id (x := ((n + 1 : Nat) : Int) - 1) (by omega) (by omega), show ((n + 1 : Nat) : Int) - 1 = (n : Int) by omega]
  exact e4
theorem owners_ok (c : List Int) (hc : ∀ x ∈ c, 0 ≤ x ∧ x ≤ 255) (hl : c.length ≤ 1048576) :
  ∃ r a' s', Ev (fun k => spec_l1Cur_owners.f k c 0 0) (r, a', s') ∧ r.length ≤ 1000 ∧ 0 ≤ a' ∧ a' ≤ 10000 := by
 obtain ⟨r1, a1, s1, e1, r10, _, r12, g1, g1'⟩ := pick_ok c hc hl 0 0 8 (by omega) (by omega)
 obtain ⟨b, a2, s2, e2, g2, g2'⟩ := one_ok c hc hl a1 s1 20 (by omega) (by omega)
 have := r12 (by omega)
 cases b with
 | true =>
  obtain ⟨r3, a3, s3, e3, m3, g3, g3'⟩ := among_ok c hc hl a2 s2 [0, 10, 11] (by decide) (by omega) (by omega)
  have hr3 : 0 ≤ r3 ∧ r3 ≤ 11 := by
   simp only [List.mem_cons, List.not_mem_nil, or_false] at m3
   omega
  obtain ⟨r, a4, s4, e4, hr, g4, g4'⟩ := owners_l0 c hc hl r3.toNat [] 0 a3 s3 (by simp <;> omega) (by omega) (by omega)
  refine ⟨r, a4, s4, ?_, by simp at hr; omega, by omega, by omega⟩
  unfold spec_l1Cur_owners.f
  simp only [e1, Option.bind_some]
  rw [e2]
  simp only [Option.bind_some, if_true]
  rw [e3]
  simp only [Option.bind_some]
  refine Ev.succ ?_
  simp only [spec_l1Cur_owners.j0]
  rw [show ((r3.toNat : Nat) : Int) = r3 by omega] at e4
  exact e4
 | false =>
  obtain ⟨r, a4, s4, e4, hr, g4, g4'⟩ := owners_l0 c hc hl (1 + r1).toNat [] 0 a2 s2 (by simp <;> omega) (by omega) (by omega)
  refine ⟨r, a4, s4, ?_, by simp at hr; omega, by omega, by omega⟩
  unfold spec_l1Cur_owners.f
  simp only [e1, Option.bind_some]
  rw [e2]
  simp only [Option.bind_some, Bool.false_eq_true, if_false]
  refine Ev.succ ?_
  simp only [spec_l1Cur_owners.j0]
  rw [wrap_id (x := 1 + r1) (by omega) (by omega)]
  rw [show (((1 + r1).toNat : Nat) : Int) = 1 + r1 by omega] at e4
  exact e4
theorem drawGoodOwners_ok (c : List Int) (hc : ∀ x ∈ c, 0 ≤ x ∧ x ≤ 255) (hl : c.length ≤ 1048576) : ∃ r, Ev (fun k => spec_DrawGoodOwners.f k c) r ∧ r.length ≤ 1000 := by
 obtain ⟨r, a, s, e, hr, _, _⟩ := owners_ok c hc hl
 refine ⟨r, ?_, hr⟩
 unfold spec_DrawGoodOwners.f
 exact Ev.bind e (Ev.now _)
end Go.Proofs.Ytljdenmmlkjapaa.P

namespace Go.Proofs.Ytljdenmmlkjapaa.Pure
open Go.RowKit Go.Proofs.Ytljdenmmlkjapaa.P Go.Proofs.YtljdenmmlkjapaaW.PrintWords Go.Proofs.YtljdenmmlkjapaaW.PrintLast
set_option linter.unusedVariables false
set_option linter.unusedSimpArgs false
theorem best_no (nm : Int) : ∀ (l : List S26), hasName l nm = false → bestF nm none l = none
 | [], _ => rfl
 | x :: r, h => by
  unfold hasName at h
  simp only [List.any_cons, Bool.or_eq_false_iff, beq_eq_false_iff_ne, ne_eq] at h
  simp only [bestF, if_neg h.1]
  exact best_no nm r h.2
theorem hasName_mem {l : List S26} {x : S26} (h : x ∈ l) : hasName l x.f1 = true := by
 unfold hasName
 rw [List.any_eq_true]
 exact ⟨x, h, by simp⟩
/-- What the law asks of one who gives way. -/
theorem give_facts {l y : List S26} {id : Int} (hg : goodOwn l = true) (h : giveM l = some (y, id)) :
  ∃ was now a b keeper, clashIn l = (a, b, true) ∧ (id = a ∨ id = b) ∧ nameOf l id = (was, true) ∧ nameOf y id = (now, true) ∧ was ≠ now ∧ whoHas l now = (0, false) ∧ nextFree l was = (now, true) ∧ whoHas y was = (keeper, true) ∧ keeper ≠ id := by
 have hgood := giveM_good hg h
 obtain ⟨w, o, hw, ho, hne, hnm, hb, hid, hy, i, j, hc, hij, hj, hwo⟩ := giveM_some hg h
 have hl := (goodOwn_len hg).2
 have mw := getD_mem hw
 have mo := getD_mem ho
 have hown := (isOwn_iff _).1 (goodOwn_all hg _ mw)
 have hfree := nextFreeM_ok l hl hown.2.2.1 hown.2.2.2.1
 have hwasnow : (l.getD w z26).f1 ≠ nextFreeM l (l.getD w z26).f1 := fun e => by
  have h1 := hfree.1
  rw [← e, hasName_mem mw] at h1
  cases h1
 have my : (⟨(l.getD w z26).f0, nextFreeM l (l.getD w z26).f1, (l.getD w z26).f2⟩ : S26) ∈ y := by
  rw [hy]; exact List.mem_set hw _
 have hids := ids_ne l none (goodOwn_F hg) w o hw ho hne
 have moy : l.getD o z26 ∈ y := by
  rw [hy]
  exact mem_set_of_ne mo (fun e => hids (by rw [e]))
 have n1 := nameOf_mem hg mw
 have n2 := nameOf_mem hgood.1 my
 have rdi : ∀ n : Nat, rd_T26 l (n : Int) = l.getD n z26 := fun n => by unfold rd_T26; rw [Int.toNat_natCast]
 obtain ⟨z, ez, mz, nz, _⟩ := bestF_none (l.getD w z26).f1 y ⟨_, moy, hnm.symm⟩
 have hz := nameOf_mem hgood.1 mz
 refine ⟨(l.getD w z26).f1, nextFreeM l (l.getD w z26).f1, (l.getD i z26).f0, (l.getD j z26).f0, z.f0, ?_, ?_, ?_, ?_, hwasnow, ?_, ?_, ?_, ?_⟩
 ·unfold clashIn
  rw [if_pos hg, hc]
  simp only [rdi]
 ·rw [hid]
  rcases hwo with ⟨rfl, rfl⟩ | ⟨rfl, rfl⟩
  ·exact .inl rfl
  ·exact .inr rfl
 ·rw [hid]; exact n1
 ·rw [hid]; exact n2
 ·unfold whoHas
  rw [if_pos ⟨hg, hfree.2.1, hfree.2.2⟩, best_no _ _ hfree.1]
  rfl
 ·unfold nextFree
  rw [if_pos ⟨hg, hown.2.2.1, hown.2.2.2.1⟩]
 ·unfold whoHas
  rw [if_pos ⟨hgood.1, hown.2.2.1, hown.2.2.2.1⟩, ez]
  rfl
 ·intro e
  rw [e, hid, n2] at hz
  simp only [Prod.mk.injEq, and_true] at hz
  rw [nz] at hz
  exact hwasnow hz.symm
theorem FnOwners : laws_FnOwners.Pure := by
 intro c d hc1 hc2 hc3 hd1 hd2 hd3
 refine Ev.rounds ?_
 unfold laws_FnOwners.f
 by_cases h : (wrap64 ((c.length : Int) + (d.length : Int))) > 1048576
 ·simp only [if_pos h]
  exact Ev.now _
 ·simp only [if_neg h]
  rw [wrap_id (by omega) (by omega)] at h
  have hcb := bytes_ok hc3
  have hdb := bytes_ok hd3
  obtain ⟨l, el, hl⟩ := drawGoodOwners_ok c hcb (by omega)
  unfold spec_DrawGiveWay.f
  refine Ev.bind (Ev.bind el (Ev.now _)) ?_
  have h4 : Ev (fun k => laws_FnOwners.j1 k d) true := by
   obtain ⟨q, a, s, eq_, hq, ha0, ha1⟩ := owners_ok d hdb (by omega)
   obtain ⟨r1, a1, s1, e1, _, g1, g1'⟩ := among_ok d hdb (by omega) a s [0, 1, 2, 48, 49, 50, 51] (by decide) ha0 (by omega)
   have hdraw : ∃ (x : List S26) (n : Int), Ev (fun k => spec_DrawNameOf.f k d) (x, n) ∧ x.length ≤ 1000 := by
    unfold spec_DrawNameOf.f
    have fin : ∀ (b : Bool) (a s : Int), 0 ≤ a → a ≤ 20000 → (b = true → 0 < q.length) → ∃ n, Ev (fun k => spec_DrawNameOf.j0 k q b d a s) (q, n) := by
     intro b a s h0 h1 hb
     cases b with
     | true =>
      have := hb rfl
      obtain ⟨r2, a2, s2, e2, r20, r21, r22, g2, g2'⟩ := pick_ok d hdb (by omega) a s (q.length : Int) h0 (by omega)
      have hlt : r2 < (q.length : Int) := by
       by_cases h2 : 2 ≤ (q.length : Int)
       ·exact r22 h2
       ·have := r21 (by omega); omega
      refine ⟨(rd_T26 q r2).f0, Ev.succ ?_⟩
      simp only [spec_DrawNameOf.j0, if_true, e2, Option.bind_some]
      simp only [if_pos r20, if_pos hlt]
      exact Ev.now _
     | false =>
      obtain ⟨r2, a2, s2, e2, _⟩ := pick_ok d hdb (by omega) a s 40 h0 (by omega)
      refine ⟨r2, Ev.succ ?_⟩
      simp only [spec_DrawNameOf.j0, Bool.false_eq_true, if_false, e2, Option.bind_some]
      exact Ev.now _
    by_cases h2 : (q.length : Int) > 0
    ·obtain ⟨b, a2, s2, e2, g2, g2'⟩ := one_ok d hdb (by omega) a s 6 ha0 (by omega)
     obtain ⟨n, en⟩ := fin (!b) a2 s2 (by omega) (by omega) (fun _ => by omega)
     refine ⟨q, n, Ev.bind eq_ ?_, hq⟩
     simp only [if_pos h2, e2, Option.bind_some]
     exact en
    ·obtain ⟨n, en⟩ := fin false a s (by omega) (by omega) (fun h => by cases h)
     refine ⟨q, n, Ev.bind eq_ ?_, hq⟩
     simp only [if_neg h2]
     exact en
   obtain ⟨x, n, ex, hx⟩ := hdraw
   refine Ev.succ ?_
   simp only [laws_FnOwners.j1]
   have hnf : Ev (fun k => spec_DrawNextFree.f k d) (q, r1) := by
    unfold spec_DrawNextFree.f
    refine Ev.bind eq_ ?_
    simp only [e1, Option.bind_some]
    exact Ev.now _
   refine Ev.bind hnf ?_
   refine Ev.bind (implNextFree_ev q r1 (by omega)) ?_
   refine Ev.bind (specNextFree_ev q r1 (by omega)) ?_
   refine Ev.bind (implWho_ev q r1 (by omega)) ?_
   refine Ev.bind (specWho_ev q r1 (by omega)) ?_
   refine Ev.bind ex ?_
   refine Ev.bind (implNameOf_ev x n (by omega)) ?_
   refine Ev.bind (specNameOf_ev x n (by omega)) ?_
   simp only [beq_self_eq_true, if_true]
   exact Ev.now _
  refine Ev.bind (implGiveWay_ev l (by omega)) ?_
  refine Ev.bind (specGiveWay_ev l (by omega)) ?_
  refine Ev.bind (implClashIn_ev l (by omega)) ?_
  refine Ev.bind (specClashIn_ev l (by omega)) ?_
  have hsl := giveWay_len l
  simp only [bne_self_eq_false, Bool.false_eq_true, if_false, if_true]
  refine Ev.bind (sameOwners_ev _ _ (by omega)) ?_
  simp only [decide_true, if_true]
  refine Ev.succ ?_
  simp only [laws_FnOwners.j0]
  have hno : giveM l = none ∨ goodOwn l = false → giveWay l = ([], 0, false) ∧ (clashIn l).2.2 = false := by
   intro h
   unfold giveWay clashIn
   cases hg : goodOwn l with
   | false => exact ⟨rfl, rfl⟩
   | true =>
    rcases h with h | h
    ·rw [h]
     unfold giveM at h
     cases hc : clashM l 0 with
     | none => exact ⟨rfl, rfl⟩
     | some p => rw [hc] at h; cases h
    ·rw [hg] at h; cases h
  cases hg : goodOwn l with
  | false =>
   obtain ⟨e1, e2⟩ := hno (.inr hg)
   rw [e1, e2]
   simp only [bne_self_eq_false, Bool.false_eq_true, if_false]
   exact h4
  | true =>
   cases hm : giveM l with
   | none =>
    obtain ⟨e1, e2⟩ := hno (.inl hm)
    rw [e1, e2]
    simp only [bne_self_eq_false, Bool.false_eq_true, if_false]
    exact h4
   | some p =>
    obtain ⟨y, id⟩ := p
    obtain ⟨was, now, a, b, keeper, ec, hid, n1, n2, hne, w1, f1, w2, hk⟩ := give_facts hg hm
    have hgood := giveM_good hg hm
    have eg : giveWay l = (y, id, true) := by unfold giveWay; rw [if_pos hg, hm]
    rw [eg, ec]
    simp only [bne_self_eq_false, Bool.false_eq_true, if_false, if_true]
    refine Ev.bind (implNameOf_ev l id (by omega)) ?_
    refine Ev.bind (implNameOf_ev y id (by omega)) ?_
    rw [n1, n2]
    refine Ev.bind (implWho_ev l now (by omega)) ?_
    refine Ev.bind (implNextFree_ev l was (by omega)) ?_
    refine Ev.bind (implWho_ev y was (by omega)) ?_
    rw [w1, f1, w2]
    simp only [if_true, if_neg hne, Bool.false_eq_true, if_false, if_neg hk]
    by_cases ha : id = a
    ·simp only [if_pos ha]
     exact h4
    ·have hb : id = b := by rcases hid with h | h; exact absurd h ha; exact h
     simp only [if_neg ha, if_pos hb]
     exact h4
end Go.Proofs.Ytljdenmmlkjapaa.Pure
