/- Functions, walks and plain lemmas that the law FnNames reaches, part 5. -/
import Derived.Test.YtljdenmmlkjapaaCFnNames4
import Derived.Below
import Derived.Deep.Draws
import Derived.Deep.AppendLies
import Derived.Maps.AppendAt
import Derived.OwnWalk
import Derived.Laws.BytesArg
import Derived.Laws.MakeOwn
import Derived.Laws.OwnMore
import Derived.Deep.OwnRows
import Derived.Tactics
import Derived.Lib.ConvBytes
import Derived.Laws.Slices
import Derived.WalkKit
import Derived.KernelRfl
import Derived.RowKit3
import Derived.Deep.LoopGhost
import Derived.Deep.QuietTactic
import Derived.BigQuiet
import Derived.WideLaws
import Derived.Deep.DeepCutAuto
import Derived.Deep.CutBlock
import Derived.Deep.RegionHeld3
import Derived.Laws.Rows
import Derived.Lib.AppendStr
import Derived.ArgAppend
import Derived.Laws.IdiomCopy
import Derived.OrdersHeld
import Derived.Laws.BitsLemmas
import Derived.RowKit
import Derived.WalkSpells
import Derived.Lib.SliceRun
import Derived.Shelf.Abstract
import Derived.ProofKit
import Derived.OpenShut
import Derived.ShutString
import Derived.ChangeOld
import Derived.SizedLaws
namespace Go.Proofs.Ytljdenmmlkjapaa.P
open Go.RowKit Go.Proofs.YtljdenmmlkjapaaW.PrintWords Go.Proofs.YtljdenmmlkjapaaW.PrintLast
set_option linter.unusedVariables false
set_option linter.unusedSimpArgs false
/-- How many have a name that one behind them has. -/
def dups : List S26 → Nat
 | [] => 0
 | x :: r => (if hasName r x.f1 = true then 1 else 0) + dups r
theorem dups_le : ∀ (l : List S26), dups l ≤ l.length - 1
 | [] => Nat.le_refl _
 | [x] => by simp [dups, hasName]
 | x :: y :: r => by
  have := dups_le (y :: r)
  simp only [List.length_cons] at this ⊢
  simp only [dups] at this ⊢
  split <;> omega
theorem hasName_set (x : S26) (q : Int) : ∀ (l : List S26) (n : Nat), n < l.length → hasName (l.set n x) q = (x.f1 == q || hasName (l.eraseIdx n) q)
 | [], n, h => absurd h (Nat.not_lt_zero _)
 | y :: r, 0, _ => by simp [hasName]
 | y :: r, n + 1, h => by
  have := hasName_set x q r n (by simpa using h)
  unfold hasName at this ⊢
  simp only [List.set_cons_succ, List.any_cons, List.eraseIdx_cons_succ]
  rw [this]
  cases (y.f1 == q) <;> cases (x.f1 == q) <;> rfl
theorem hasName_at (q : Int) : ∀ (l : List S26) (n : Nat), n < l.length → hasName l q = ((l.getD n z26).f1 == q || hasName (l.eraseIdx n) q)
 | [], n, h => absurd h (Nat.not_lt_zero _)
 | y :: r, 0, _ => by simp [hasName]
 | y :: r, n + 1, h => by
  have := hasName_at q r n (by simpa using h)
  unfold hasName at this ⊢
  simp only [List.getD_cons_succ, List.any_cons, List.eraseIdx_cons_succ]
  rw [this]
  cases (y.f1 == q) <;> cases ((r.getD n z26).f1 == q) <;> rfl
theorem dups_set (x : S26) : ∀ (l : List S26) (n : Nat), n < l.length → hasName l x.f1 = false →
  dups (l.set n x) + (if hasName (l.eraseIdx n) (l.getD n z26).f1 = true then 1 else 0) = dups l
 | [], n, h, _ => absurd h (Nat.not_lt_zero _)
 | y :: r, 0, _, hf => by
  have hr : hasName r x.f1 = false := by
   unfold hasName at hf ⊢
   simp only [List.any_cons, Bool.or_eq_false_iff] at hf
   exact hf.2
  simp only [List.set_cons_zero, dups, hr, Bool.false_eq_true, if_false, List.eraseIdx_cons_zero, List.getD_cons_zero]
  omega
 | y :: r, n + 1, h, hf => by
  have hlt : n < r.length := by simpa using h
  have hy : (y.f1 == x.f1) = false ∧ hasName r x.f1 = false := by
   unfold hasName at hf ⊢
   simpa only [List.any_cons, Bool.or_eq_false_iff] using hf
  have ih := dups_set x r n hlt hy.2
  have hxy : (x.f1 == y.f1) = false := by
   have := hy.1
   simp only [beq_eq_false_iff_ne, ne_eq] at this ⊢
   exact fun e => this e.symm
  have e1 := hasName_set x y.f1 r n hlt
  have e2 := hasName_at y.f1 r n hlt
  rw [hxy, Bool.false_or] at e1
  simp only [List.set_cons_succ, dups, List.eraseIdx_cons_succ, List.getD_cons_succ]
  rw [e1, e2]
  have e3 : hasName (y :: r.eraseIdx n) (r.getD n z26).f1 = (y.f1 == (r.getD n z26).f1 || hasName (r.eraseIdx n) (r.getD n z26).f1) := by simp [hasName]
  rw [e3]
  by_cases he : y.f1 = (r.getD n z26).f1
  ·have h1 : (y.f1 == (r.getD n z26).f1) = true := by simpa using he
   have h2 : ((r.getD n z26).f1 == y.f1) = true := by simpa using he.symm
   simp only [h1, h2, Bool.true_or, if_true]
   rw [he]
   omega
  ·have h1 : (y.f1 == (r.getD n z26).f1) = false := by simpa using he
   have h2 : ((r.getD n z26).f1 == y.f1) = false := by simpa using fun e => he (Eq.symm e)
   simp only [h1, h2, Bool.false_or]
   omega
theorem hasName_erase (q : Int) : ∀ (l : List S26) (n m : Nat), n ≠ m → m < l.length → (l.getD m z26).f1 = q → hasName (l.eraseIdx n) q = true
 | [], n, m, _, h, _ => absurd h (Nat.not_lt_zero _)
 | y :: r, 0, 0, hne, _, _ => absurd rfl hne
 | y :: r, 0, m + 1, _, h, he => by
  unfold hasName
  rw [List.eraseIdx_cons_zero, List.any_eq_true]
  have hlt : m < r.length := by simpa using h
  refine ⟨r.getD m z26, ?_, by simpa using he⟩
  rw [List.getD_eq_getElem?_getD, List.getElem?_eq_getElem hlt]
  exact List.getElem_mem _
 | y :: r, n + 1, 0, _, _, he => by
  have he : y.f1 = q := by simpa using he
  simp [hasName, he]
 | y :: r, n + 1, m + 1, hne, h, he => by
  have := hasName_erase q r n m (by omega) (by simpa using h) (by simpa using he)
  unfold hasName at this ⊢
  simp only [List.eraseIdx_cons_succ, List.any_cons, this, Bool.or_true]
theorem goodOwnF_set (x : S26) (hx : isOwn x = true) : ∀ (l : List S26) (n : Nat) (o : Option S26), n < l.length → x.f0 = (l.getD n z26).f0 → goodOwnF o l = true → goodOwnF o (l.set n x) = true
 | [], n, _, h, _, _ => absurd h (Nat.not_lt_zero _)
 | y :: r, 0, o, _, he, hg => by
  have he : x.f0 = y.f0 := by simpa using he
  have key : ∀ (s : List S26), goodOwnF (some x) s = goodOwnF (some y) s := fun s => by
   cases s with
   | nil => rfl
   | cons a s => simp only [goodOwnF, he]
  cases o with
  | none =>
   simp only [goodOwnF, Bool.and_eq_true, List.set_cons_zero] at hg ⊢
   exact ⟨hx, by rw [key]; exact hg.2⟩
  | some a =>
   simp only [goodOwnF, Bool.and_eq_true, List.set_cons_zero] at hg ⊢
   exact ⟨hx, by rw [he]; exact hg.2.1, by rw [key]; exact hg.2.2⟩
 | y :: r, n + 1, o, h, he, hg => by
  have ih := goodOwnF_set x hx r n (some y) (by simpa using h) (by simpa using he)
  cases o with
  | none =>
   simp only [goodOwnF, Bool.and_eq_true, List.set_cons_succ] at hg ⊢
   exact ⟨hg.1, ih hg.2⟩
  | some a =>
   simp only [goodOwnF, Bool.and_eq_true, List.set_cons_succ] at hg ⊢
   exact ⟨hg.1, hg.2.1, ih hg.2.2⟩
/-- Who gives way: a place in the list, of a pair with one name, without the better right. -/
theorem giveM_some {l y : List S26} {id : Int} (hg : goodOwn l = true) (h : giveM l = some (y, id)) :
  ∃ (w o : Nat), w < l.length ∧ o < l.length ∧ w ≠ o ∧ (l.getD w z26).f1 = (l.getD o z26).f1 ∧ betterOf (l.getD w z26) (l.getD o z26) = false ∧
   id = (l.getD w z26).f0 ∧ y = l.set w ⟨(l.getD w z26).f0, nextFreeM l (l.getD w z26).f1, (l.getD w z26).f2⟩ ∧
   (∃ i j : Nat, clashM l 0 = some ((i : Int), (j : Int)) ∧ i < j ∧ j < l.length ∧ (w = i ∧ o = j ∨ w = j ∧ o = i)) := by
 unfold giveM at h
 cases hc : clashM l 0 with
 | none => rw [hc] at h; cases h
 | some p =>
  obtain ⟨i, j⟩ := p
  rw [hc] at h
  simp only [Option.some.injEq, Prod.mk.injEq] at h
  obtain ⟨n, m, h1, h2, h3, h4, h5⟩ := clashM_some l 0 i j hc
  have en : i = (n : Int) := by omega
  have em : j = (m : Int) := by omega
  subst en em
  have rn : rd_T26 l (n : Int) = l.getD n z26 := by unfold rd_T26; rw [Int.toNat_natCast]
  have rm : rd_T26 l (m : Int) = l.getD m z26 := by unfold rd_T26; rw [Int.toNat_natCast]
  unfold loserOf renamed at h
  cases hb : betterOf (l.getD n z26) (l.getD m z26) with
  | true =>
   simp only [rn, rm, hb, if_true, Int.toNat_natCast] at h
   refine ⟨m, n, h4, by omega, by omega, h5.symm, ?_, h.2.symm, h.1.symm, n, m, rfl, h3, h4, .inr ⟨rfl, rfl⟩⟩
   unfold betterOf at hb ⊢
   simp only [Bool.or_eq_true, Bool.and_eq_true, decide_eq_true_eq, Bool.or_eq_false_iff, Bool.and_eq_false_iff, decide_eq_false_iff_not] at hb ⊢
   omega
  | false =>
   simp only [rn, hb, rm, Bool.false_eq_true, if_false, Int.toNat_natCast] at h
   exact ⟨n, m, by omega, h4, by omega, h5, hb, h.2.symm, h.1.symm, n, m, rfl, h3, h4, .inl ⟨rfl, rfl⟩⟩
theorem giveM_good {l y : List S26} {id : Int} (hg : goodOwn l = true) (h : giveM l = some (y, id)) : goodOwn y = true ∧ dups y + 1 = dups l ∧ y.length = l.length := by
 obtain ⟨w, o, hw, ho, hne, hnm, hb, hid, rfl, _⟩ := giveM_some hg h
 have hl := (goodOwn_len hg).2
 have hmem : l.getD w z26 ∈ l := by
  rw [List.getD_eq_getElem?_getD, List.getElem?_eq_getElem hw]
  exact List.getElem_mem _
 have hown := (isOwn_iff _).1 (goodOwn_all hg _ hmem)
 have hfree := nextFreeM_ok l hl hown.2.2.1 hown.2.2.2.1
 refine ⟨?_, ?_, by simp⟩
 ·unfold goodOwn at hg ⊢
  simp only [Bool.and_eq_true, decide_eq_true_eq, List.length_set] at hg ⊢
  refine ⟨goodOwnF_set _ ?_ l w none hw rfl hg.1, hg.2⟩
  rw [isOwn_iff]
  exact ⟨hown.1, hown.2.1, hfree.2.1, hfree.2.2, hown.2.2.2.2⟩
 ·have h1 := dups_set ⟨(l.getD w z26).f0, nextFreeM l (l.getD w z26).f1, (l.getD w z26).f2⟩ l w hw hfree.1
  rw [if_pos (hasName_erase _ l w o hne ho hnm.symm)] at h1
  exact h1
def settleF : Nat → List S26 → Int → List S26 × Int × Bool
 | 0, l, n => (l, n, true)
 | f + 1, l, n => match giveM l with
  | none => (l, n, true)
  | some p => settleF f p.1 (n + 1)
def settleNm (l : List S26) : List S26 × Int × Bool := if goodOwn l = true then settleF 10 l 0 else ([], 0, false)
theorem specSettle_l : ∀ (f : Nat) (l : List S26) (n : Int), goodOwn l = true → dups l < f → 0 ≤ n → n + f ≤ 1099511627776 → Ev (fun k => spec_SettleNames.l0 k l n) (settleF f l n)
 | 0, l, n, _, hd, _, _ => absurd hd (Nat.not_lt_zero _)
 | f + 1, l, n, hg, hd, h0, h1 => by
  refine Ev.succ ?_
  simp only [spec_SettleNames.l0, settleF]
  refine Ev.bind (specGive_ev l hg) ?_
  cases hm : giveM l with
  | none =>
   simp only [if_neg (show ¬ (0 : Int) > 0 by omega)]
   exact Ev.now _
  | some p =>
   obtain ⟨y, id⟩ := p
   have hid := giveM_id hg hm
   obtain ⟨hgy, hdy, _⟩ := giveM_good hg hm
   simp only [if_pos (show id > 0 by omega), wrap_id (x := n + 1) (by omega) (by omega)]
   exact specSettle_l f y (n + 1) hgy (by omega) (by omega) (by omega)
theorem implSettle_l : ∀ (f : Nat) (l : List S26) (n : Int), goodOwn l = true → dups l < f → 0 ≤ n → n + f ≤ 1099511627776 → Ev (fun k => impl_SettleNames.l0 k l n) (settleF f l n)
 | 0, l, n, _, hd, _, _ => absurd hd (Nat.not_lt_zero _)
 | f + 1, l, n, hg, hd, h0, h1 => by
  have hl := (goodOwn_len hg).2
  refine Ev.succ ?_
  simp only [impl_SettleNames.l0, settleF]
  refine Ev.bind (implGiveWay_ev l (by omega)) ?_
  unfold giveWay
  simp only [hg, if_true]
  cases hm : giveM l with
  | none =>
   simp only [Bool.false_eq_true, if_false]
   exact Ev.now _
  | some p =>
   obtain ⟨y, id⟩ := p
   obtain ⟨hgy, hdy, _⟩ := giveM_good hg hm
   simp only [if_true, wrap_id (x := n + 1) (by omega) (by omega)]
   exact implSettle_l f y (n + 1) hgy (by omega) (by omega) (by omega)
theorem specSettleNames_ev (l : List S26) (hl : l.length ≤ 1048576) : Ev (fun k => spec_SettleNames.f k l) (settleNm l) := by
 unfold spec_SettleNames.f
 refine Ev.bind (specGoodOwners_ev l hl) ?_
 unfold settleNm
 cases hg : goodOwn l with
 | false =>
  simp only [Bool.false_eq_true, if_false]
  exact Ev.now _
 | true =>
  have := dups_le l
  have := (goodOwn_len hg).2
  simp only [if_true, Option.bind_some, List.nil_append, List.length_nil, Nat.zero_add]
  simp only [if_pos (show l.length < 5864062014805 by omega)]
  exact specSettle_l 10 l 0 hg (by omega) (by omega) (by omega)
theorem implSettleNames_ev (l : List S26) (hl : l.length ≤ 1048576) : Ev (fun k => impl_SettleNames.f k l) (settleNm l) := by
 unfold impl_SettleNames.f
 refine Ev.bind (implGoodOwners_ev l hl) ?_
 unfold settleNm
 cases hg : goodOwn l with
 | false =>
  simp only [Bool.false_eq_true, if_false]
  exact Ev.now _
 | true =>
  have := dups_le l
  have := (goodOwn_len hg).2
  have hcl : slices_Clone_Owner.f l = some l := by unfold slices_Clone_Owner.f; rw [if_pos (by omega)]
  simp only [if_true, hcl, Option.bind_some]
  exact implSettle_l 10 l 0 hg (by omega) (by omega) (by omega)
theorem settleF_len : ∀ (f : Nat) (l : List S26) (n : Int), (settleF f l n).1.length = l.length
 | 0, _, _ => rfl
 | f + 1, l, n => by
  simp only [settleF, giveM]
  cases clashM l 0 with
  | none => rfl
  | some p =>
   simp only
   rw [settleF_len f, renamed_len]
theorem settleNm_len (l : List S26) : (settleNm l).1.length ≤ l.length := by
 unfold settleNm
 split
 ·rw [settleF_len]; exact Nat.le_refl _
 ·simp
end Go.Proofs.Ytljdenmmlkjapaa.P

namespace Go.Proofs.Ytljdenmmlkjapaa.P
open Go.RowKit Go.Proofs.YtljdenmmlkjapaaW.PrintWords Go.Proofs.YtljdenmmlkjapaaW.PrintLast
set_option linter.unusedVariables false
set_option linter.unusedSimpArgs false
def nameOfF (id : Int) : List S26 → Int × Bool
 | [] => (0, false)
 | x :: r => if x.f0 = id then (x.f1, true) else nameOfF id r
def nameOf (l : List S26) (id : Int) : Int × Bool := if goodOwn l = true then nameOfF id l else (0, false)
theorem specNameOf_l (id : Int) (suf : List S26) : ∀ (pre : List S26) (k : Nat), suf.length < k → (pre.length : Int) + suf.length ≤ 1099511627776 →
  spec_NameOf.l0 k id (pre ++ suf) ((pre ++ suf).length : Int) (pre.length : Int) = some (nameOfF id suf) := by
 induction suf with
 | nil =>
  intro pre k hk hb
  obtain ⟨k, rfl⟩ : ∃ m, k = m + 1 := ⟨k - 1, by omega⟩
  simp only [spec_NameOf.l0]
  rw [if_neg (by simp)]
  rfl
 | cons x suf ih =>
  intro pre k hk hb
  simp only [List.length_cons] at hk hb
  obtain ⟨k, rfl⟩ : ∃ m, k = m + 1 := ⟨k - 1, by omega⟩
  have h := ih (pre ++ [x]) k (by omega) (by simp <;> omega)
  rw [← app_one, len_one] at h
  simp only [spec_NameOf.l0]
  rw [if_pos (by simp <;> omega), if_pos (by omega), if_pos (by simp <;> omega), rdOwner_mid, wrap_id (x := (pre.length : Int) + 1) (by omega) (by omega), h]
  by_cases hx : x.f0 = id
  ·rw [if_pos hx]; simp [nameOfF, hx]
  ·rw [if_neg hx]; simp [nameOfF, hx]
theorem specNameOf_ev (l : List S26) (id : Int) (hl : l.length ≤ 1048576) : Ev (fun k => spec_NameOf.f k l id) (nameOf l id) := by
 unfold spec_NameOf.f
 refine Ev.bind (specGoodOwners_ev l hl) ?_
 unfold nameOf
 cases h : goodOwn l with
 | true =>
  simp only [if_true]
  exact ⟨l.length + 1, fun k hk => specNameOf_l id l [] k (by omega) (by simp <;> omega)⟩
 | false =>
  simp only [Bool.false_eq_true, if_false]
  exact Ev.now _
theorem nameOf_same : ∀ k a b c d, impl_NameOf.l0 k a b c d = spec_NameOf.l0 k a b c d
 | 0, _, _, _, _ => rfl
 | k + 1, a, b, c, d => by simp only [impl_NameOf.l0, spec_NameOf.l0, nameOf_same k]
theorem implNameOf_ev (l : List S26) (id : Int) (hl : l.length ≤ 1048576) : Ev (fun k => impl_NameOf.f k l id) (nameOf l id) := by
 refine Ev.congr (fun k => ?_) (specNameOf_ev l id hl)
 unfold impl_NameOf.f spec_NameOf.f
 simp only [nameOf_same]
 have e : impl_GoodOwners.f k l = spec_GoodOwners.f k l := goodOwners_same k _ _ _ _
 rw [e]
end Go.Proofs.Ytljdenmmlkjapaa.P

namespace Go.Proofs.Ytljdenmmlkjapaa.P
open Go.RowKit Go.Proofs.YtljdenmmlkjapaaW.PrintWords Go.Proofs.YtljdenmmlkjapaaW.PrintLast
set_option linter.unusedVariables false
set_option linter.unusedSimpArgs false
def clashIn (l : List S26) : Int × Int × Bool :=
 if goodOwn l = true then (match clashM l 0 with | none => (0, 0, false) | some p => ((rd_T26 l p.1).f0, (rd_T26 l p.2).f0, true)) else (0, 0, false)
theorem implClashIn_ev (l : List S26) (hl : l.length ≤ 1048576) : Ev (fun k => impl_ClashIn.f k l) (clashIn l) := by
 unfold impl_ClashIn.f
 refine Ev.bind (implGoodOwners_ev l hl) ?_
 unfold clashIn
 cases hg : goodOwn l with
 | false => simp only [Bool.false_eq_true, if_false]; exact Ev.now _
 | true =>
  simp only [if_true]
  refine Ev.bind (implClash_ev l hl) ?_
  cases hc : clashM l 0 with
  | none => simp only [clash3, Bool.false_eq_true, if_false]; exact Ev.now _
  | some p =>
   obtain ⟨i, j⟩ := p
   obtain ⟨n, m, h1, h2, h3, h4, _⟩ := clashM_some l 0 i j hc
   rw [show clash3 (some (i, j)) = (i, j, true) from rfl]
   simp only [if_true]
   simp only [if_pos (show 0 ≤ i by omega), if_pos (show i < (l.length : Int) by omega), if_pos (show 0 ≤ j by omega), if_pos (show j < (l.length : Int) by omega)]
   exact Ev.now _
end Go.Proofs.Ytljdenmmlkjapaa.P

namespace Go.Proofs.Ytljdenmmlkjapaa.P
open Go.RowKit Go.Proofs.YtljdenmmlkjapaaW.PrintWords Go.Proofs.YtljdenmmlkjapaaW.PrintLast
set_option linter.unusedVariables false
set_option linter.unusedSimpArgs false
theorem better_iff (a b : S26) : betterOf a b = true ↔ (a.f2 > b.f2 ∨ a.f2 = b.f2 ∧ a.f0 > b.f0) := by
 unfold betterOf; simp only [Bool.or_eq_true, Bool.and_eq_true, decide_eq_true_eq]
theorem better_not (a b : S26) : betterOf a b = false ↔ ¬ (a.f2 > b.f2 ∨ a.f2 = b.f2 ∧ a.f0 > b.f0) := by
 rw [← better_iff]; cases betterOf a b <;> simp
theorem bestF_ok (nm : Int) : ∀ (l : List S26) (y0 : S26), y0.f1 = nm → ∃ y, bestF nm (some y0) l = some y ∧ (y = y0 ∨ y ∈ l) ∧ y.f1 = nm ∧ betterOf y0 y = false ∧ ∀ z ∈ l, z.f1 = nm → betterOf z y = false
 | [], y0, h => ⟨y0, rfl, .inl rfl, h, (by rw [better_not]; omega), fun z hz => by simp at hz⟩
 | x :: r, y0, h => by
  by_cases hx : x.f1 = nm
  ·cases hb : betterOf x y0 with
   | true =>
    obtain ⟨y, e, hy, hn, h1, h2⟩ := bestF_ok nm r x hx
    refine ⟨y, by simp only [bestF, hx, hb, if_true]; exact e, ?_, hn, ?_, ?_⟩
    ·rcases hy with rfl | hy
     ·exact .inr (by simp)
     ·exact .inr (by simp [hy])
    ·rw [better_iff] at hb
     rw [better_not] at h1 ⊢
     omega
    ·intro z hz hzn
     rcases List.mem_cons.1 hz with rfl | hz
     ·exact h1
     ·exact h2 z hz hzn
   | false =>
    obtain ⟨y, e, hy, hn, h1, h2⟩ := bestF_ok nm r y0 h
    refine ⟨y, by simp only [bestF, hx, hb, if_true, Bool.false_eq_true, if_false]; exact e, ?_, hn, h1, ?_⟩
    ·rcases hy with rfl | hy
     ·exact .inl rfl
     ·exact .inr (by simp [hy])
    ·intro z hz hzn
     rcases List.mem_cons.1 hz with rfl | hz
     ·rw [better_not] at hb h1 ⊢
      omega
     ·exact h2 z hz hzn
  ·obtain ⟨y, e, hy, hn, h1, h2⟩ := bestF_ok nm r y0 h
   refine ⟨y, by simp only [bestF, hx, if_false]; exact e, ?_, hn, h1, ?_⟩
   ·rcases hy with rfl | hy
    ·exact .inl rfl
    ·exact .inr (by simp [hy])
   ·intro z hz hzn
    rcases List.mem_cons.1 hz with rfl | hz
    ·exact absurd hzn hx
    ·exact h2 z hz hzn
theorem bestF_none (nm : Int) : ∀ (l : List S26), (∃ x ∈ l, x.f1 = nm) → ∃ y, bestF nm none l = some y ∧ y ∈ l ∧ y.f1 = nm ∧ ∀ z ∈ l, z.f1 = nm → betterOf z y = false
 | [], ⟨x, hx, _⟩ => by simp at hx
 | x :: r, ⟨q, hq, hqn⟩ => by
  by_cases hx : x.f1 = nm
  ·obtain ⟨y, e, hy, hn, h1, h2⟩ := bestF_ok nm r x hx
   refine ⟨y, by simp only [bestF, hx, if_true]; exact e, ?_, hn, ?_⟩
   ·rcases hy with rfl | hy
    ·simp
    ·simp [hy]
   ·intro z hz hzn
    rcases List.mem_cons.1 hz with rfl | hz
    ·exact h1
    ·exact h2 z hz hzn
  ·rcases List.mem_cons.1 hq with rfl | hq
   ·exact absurd hqn hx
   ·obtain ⟨y, e, hy, hn, h2⟩ := bestF_none nm r ⟨q, hq, hqn⟩
    refine ⟨y, by simp only [bestF, hx, if_false]; exact e, by simp [hy], hn, ?_⟩
    intro z hz hzn
    rcases List.mem_cons.1 hz with rfl | hz
    ·exact absurd hzn hx
    ·exact h2 z hz hzn
/-- ids rise -/
theorem goodOwnF_rise : ∀ (l : List S26) (y : S26), goodOwnF (some y) l = true → ∀ x ∈ l, y.f0 < x.f0
 | [], _, _, x, hx => by simp at hx
 | a :: r, y, h, x, hx => by
  simp only [goodOwnF, Bool.and_eq_true, decide_eq_true_eq] at h
  rcases List.mem_cons.1 hx with rfl | hx
  ·exact h.2.1
  ·have := goodOwnF_rise r a h.2.2 x hx
   omega
theorem nameOfF_mem : ∀ (l : List S26) (o : Option S26), goodOwnF o l = true → ∀ y ∈ l, nameOfF y.f0 l = (y.f1, true)
 | [], _, _, y, hy => by simp at hy
 | a :: r, o, h, y, hy => by
  have h2 : goodOwnF (some a) r = true := by
   cases o with
   | none => simp only [goodOwnF, Bool.and_eq_true] at h; exact h.2
   | some z => simp only [goodOwnF, Bool.and_eq_true] at h; exact h.2.2
  rcases List.mem_cons.1 hy with rfl | hy
  ·simp [nameOfF]
  ·have := goodOwnF_rise r a h2 y hy
   simp only [nameOfF, if_neg (show ¬ a.f0 = y.f0 by omega)]
   exact nameOfF_mem r _ h2 y hy
theorem goodOwn_F {l : List S26} (h : goodOwn l = true) : goodOwnF none l = true := by
 unfold goodOwn at h; simp only [Bool.and_eq_true] at h; exact h.1
theorem nameOf_mem {l : List S26} (h : goodOwn l = true) {y : S26} (hy : y ∈ l) : nameOf l y.f0 = (y.f1, true) := by
 unfold nameOf
 rw [if_pos h]
 exact nameOfF_mem l none (goodOwn_F h) y hy
theorem ids_ne : ∀ (l : List S26) (o : Option S26), goodOwnF o l = true → ∀ (i j : Nat), i < l.length → j < l.length → i ≠ j → (l.getD i z26).f0 ≠ (l.getD j z26).f0
 | [], _, _, i, j, hi, _, _ => absurd hi (Nat.not_lt_zero _)
 | a :: r, o, h, i, j, hi, hj, hne => by
  have h2 : goodOwnF (some a) r = true := by
   cases o with
   | none => simp only [goodOwnF, Bool.and_eq_true] at h; exact h.2
   | some z => simp only [goodOwnF, Bool.and_eq_true] at h; exact h.2.2
  have hr := goodOwnF_rise r a h2
  have hm : ∀ n, n < r.length → r.getD n z26 ∈ r := fun n hn => by
   rw [List.getD_eq_getElem?_getD, List.getElem?_eq_getElem hn]
   exact List.getElem_mem _
  simp only [List.length_cons] at hi hj
  cases i with
  | zero =>
   cases j with
   | zero => exact absurd rfl hne
   | succ j =>
    have := hr _ (hm j (by omega))
    simp only [List.getD_cons_zero, List.getD_cons_succ]
    omega
  | succ i =>
   cases j with
   | zero =>
    have := hr _ (hm i (by omega))
    simp only [List.getD_cons_zero, List.getD_cons_succ]
    omega
   | succ j =>
    simp only [List.getD_cons_succ]
    exact ids_ne r _ h2 i j (by omega) (by omega) (by omega)
/-- Who keeps a name: nobody who has it has a better right. -/
def Keeps (l : List S26) (y : S26) : Prop := y ∈ l ∧ ∀ z ∈ l, z.f1 = y.f1 → betterOf z y = false
theorem getD_mem {l : List S26} {n : Nat} (h : n < l.length) : l.getD n z26 ∈ l := by
 rw [List.getD_eq_getElem?_getD, List.getElem?_eq_getElem h]
 exact List.getElem_mem _
theorem mem_set_of_ne {l : List S26} {w : Nat} {x y : S26} (hy : y ∈ l) (hne : l.getD w z26 ≠ y) : y ∈ l.set w x := by
 obtain ⟨i, hi⟩ := List.getElem?_of_mem hy
 by_cases e : w = i
 ·subst e
  rw [List.getD_eq_getElem?_getD, hi] at hne
  exact absurd rfl hne
 ·exact List.mem_of_getElem? (i := i) (by rw [List.getElem?_set_ne e]; exact hi)
theorem keeps_give {l y : List S26} {id : Int} (hg : goodOwn l = true) (h : giveM l = some (y, id)) {x : S26} (hk : Keeps l x) : Keeps y x := by
 obtain ⟨w, o, hw, ho, hne, hnm, hb, hid, rfl, _⟩ := giveM_some hg h
 have hl := (goodOwn_len hg).2
 have hown := (isOwn_iff _).1 (goodOwn_all hg _ (getD_mem hw))
 have hfree := nextFreeM_ok l hl hown.2.2.1 hown.2.2.2.1
 have hids := ids_ne l none (goodOwn_F hg) w o hw ho hne
 have hx : l.getD w z26 ≠ x := fun e => by
  have := hk.2 _ (getD_mem ho) (by rw [← e]; exact hnm.symm)
  rw [← e, better_not] at this
  rw [better_not] at hb
  omega
 refine ⟨mem_set_of_ne hk.1 hx, fun z hz hzn => ?_⟩
 rcases List.mem_or_eq_of_mem_set hz with hz | rfl
 ·exact hk.2 z hz hzn
 ·exfalso
  have hf := hfree.1
  have : hasName l x.f1 = true := by
   unfold hasName
   rw [List.any_eq_true]
   exact ⟨x, hk.1, by simp⟩
  rw [← hzn] at this
  rw [hf] at this
  cases this
theorem giveM_maps {l y : List S26} {id : Int} (hg : goodOwn l = true) (h : giveM l = some (y, id)) : y.map (fun x => (x.f0, x.f2)) = l.map (fun x => (x.f0, x.f2)) := by
 obtain ⟨w, o, hw, ho, hne, hnm, hb, hid, rfl, _⟩ := giveM_some hg h
 rw [List.map_set]
 apply List.ext_getElem?
 intro i
 by_cases e : w = i
 ·subst e
  rw [List.getElem?_set_self (by simpa using hw), List.getElem?_map]
  rw [List.getD_eq_getElem?_getD, List.getElem?_eq_getElem hw]
  rfl
 ·rw [List.getElem?_set_ne e]
theorem settleF_ok : ∀ (f : Nat) (l : List S26) (n : Int), goodOwn l = true → dups l < f →
  ∃ s m, settleF f l n = (s, m, true) ∧ goodOwn s = true ∧ clashM s 0 = none ∧ s.map (fun x => (x.f0, x.f2)) = l.map (fun x => (x.f0, x.f2)) ∧ m = n + dups l ∧ ∀ x, Keeps l x → Keeps s x
 | 0, l, n, _, hd => absurd hd (Nat.not_lt_zero _)
 | f + 1, l, n, hg, hd => by
  cases hm : giveM l with
  | none =>
   have hc : clashM l 0 = none := by
    unfold giveM at hm
    cases hc : clashM l 0 with
    | none => rfl
    | some p => rw [hc] at hm; cases hm
   have hd0 : dups l = 0 := by
    have key : ∀ (l : List S26) (b : Int), clashM l b = none → dups l = 0 := by
     intro l
     induction l with
     | nil => intro b _; rfl
     | cons x r ih =>
      intro b h
      cases hf : fstSame x.f1 r (b + 1) with
      | some j => simp [clashM, hf] at h
      | none =>
       have hr : clashM r (b + 1) = none := by simpa [clashM, hf] using h
       have hn : hasName r x.f1 = false := by
        have key2 : ∀ (r : List S26) (b : Int), fstSame x.f1 r b = none → hasName r x.f1 = false := by
         intro r
         induction r with
         | nil => intro b _; rfl
         | cons y r ih2 =>
          intro b h
          by_cases hy : y.f1 = x.f1
          ·simp [fstSame, hy] at h
          ·have := ih2 (b + 1) (by simpa [fstSame, hy] using h)
           unfold hasName at this ⊢
           simp [hy, this]
        exact key2 r (b + 1) hf
       simp only [dups, hn, Bool.false_eq_true, if_false, ih (b + 1) hr]
    exact key l 0 hc
   exact ⟨l, n, by simp only [settleF, hm], hg, hc, rfl, by omega, fun x hx => hx⟩
  | some p =>
   obtain ⟨y, id⟩ := p
   obtain ⟨hgy, hdy, hly⟩ := giveM_good hg hm
   obtain ⟨s, m, e, h1, h2, h3, h4, h5⟩ := settleF_ok f y (n + 1) hgy (by omega)
   refine ⟨s, m, by simp only [settleF, hm]; exact e, h1, h2, by rw [h3]; exact giveM_maps hg hm, by omega, fun x hx => h5 x (keeps_give hg hm hx)⟩
theorem settle_ok {l : List S26} (hg : goodOwn l = true) : ∃ s m, settleNm l = (s, m, true) ∧ goodOwn s = true ∧ clashM s 0 = none ∧ s.map (fun x => (x.f0, x.f2)) = l.map (fun x => (x.f0, x.f2)) ∧ m < s.length ∧ ∀ x ∈ l, ∃ id, whoHas l x.f1 = (id, true) ∧ nameOf s id = (x.f1, true) := by
 have hd := dups_le l
 have hl := goodOwn_len hg
 obtain ⟨s, m, e, h1, h2, h3, h4, h5⟩ := settleF_ok 10 l 0 hg (by omega)
 have hlen : s.length = l.length := by have := congrArg List.length h3; simpa using this
 refine ⟨s, m, by unfold settleNm; rw [if_pos hg]; exact e, h1, h2, h3, by omega, fun x hx => ?_⟩
 obtain ⟨y, e2, hy, hn, hb⟩ := bestF_none x.f1 l ⟨x, hx, rfl⟩
 have hk : Keeps l y := ⟨hy, fun z hz hzn => hb z hz (by rw [hzn, hn])⟩
 have hks := h5 y hk
 have hown := (isOwn_iff _).1 (goodOwn_all hg x hx)
 refine ⟨y.f0, ?_, ?_⟩
 ·unfold whoHas
  rw [if_pos ⟨hg, hown.2.2.1, hown.2.2.2.1⟩, e2]
  rfl
 ·rw [nameOf_mem h1 hks.1, hn]
def hasBetterM (a b : S26) : Bool × Bool := if isOwn a = true ∧ isOwn b = true ∧ a.f0 ≠ b.f0 then (betterOf a b, true) else (false, false)
theorem specHasBetter (a b : S26) : spec_HasBetter.f a.f0 a.f1 a.f2 b.f0 b.f1 b.f2 = some (hasBetterM a b) := by
 unfold spec_HasBetter.f hasBetterM
 simp only [specOwner, specBetter, Option.bind_some]
 cases isOwn a <;> cases isOwn b <;> simp
 by_cases h : a.f0 = b.f0 <;> simp [h]
theorem implHasBetter (a b : S26) : impl_HasBetter.f a.f0 a.f1 a.f2 b.f0 b.f1 b.f2 = some (hasBetterM a b) := specHasBetter a b
theorem sameOwners_l (s : List S26) : ∀ (t pre qre : List S26) (k : Nat), s.length < k → pre.length = qre.length → s.length = t.length → (pre.length : Int) + s.length ≤ 1099511627776 →
  laws_sameOwners.l0 k (pre ++ s) (qre ++ t) ((pre ++ s).length : Int) (pre.length : Int) = some (decide (s = t)) := by
 induction s with
 | nil =>
  intro t pre qre k hk hq hl hb
  obtain ⟨k, rfl⟩ : ∃ m, k = m + 1 := ⟨k - 1, by omega⟩
  obtain rfl : t = [] := List.eq_nil_of_length_eq_zero (by simpa using hl.symm)
  simp only [laws_sameOwners.l0]
  rw [if_neg (by simp)]
  simp
 | cons x s ih =>
  intro t pre qre k hk hq hl hb
  cases t with
  | nil => simp at hl
  | cons y t =>
   simp only [List.length_cons] at hk hl hb
   obtain ⟨k, rfl⟩ : ∃ m, k = m + 1 := ⟨k - 1, by omega⟩
   have h := ih t (pre ++ [x]) (qre ++ [y]) k (by omega) (by simp; omega) (by omega) (by simp; omega)
   rw [← app_one, ← app_one, len_one] at h
   have hy : rd_T26 (qre ++ y :: t) (pre.length : Int) = y := by rw [hq]; exact rdOwner_mid qre y t
   simp only [laws_sameOwners.l0]
   rw [if_pos (by simp <;> omega), if_pos (by omega), if_pos (by simp <;> omega), if_pos (by simp <;> omega), rdOwner_mid, hy, wrap_id (by omega) (by omega), h]
   by_cases e : x = y
   ·subst e
    rw [if_neg (by simp)]
    simp
   ·rw [if_pos]
    ·simp [e]
    ·cases x; cases y
     simp only [S26.mk.injEq] at e
     simp only [Bool.or_eq_true, Bool.not_eq_true', beq_eq_false_iff_ne, ne_eq]
     omega
theorem sameOwners_ev (s t : List S26) (hs : s.length ≤ 1099511627776) : Ev (fun k => laws_sameOwners.f k s t) (decide (s = t)) := by
 refine ⟨s.length + 1, fun k hk => ?_⟩
 show laws_sameOwners.f k s t = _
 unfold laws_sameOwners.f
 by_cases hl : s.length = t.length
 ·rw [if_pos (by omega)]
  exact sameOwners_l s t [] [] k (by omega) rfl hl (by simp; omega)
 ·rw [if_neg (by omega)]
  have : s ≠ t := fun e => hl (by rw [e])
  simp [this]
end Go.Proofs.Ytljdenmmlkjapaa.P

namespace Go.Proofs.Ytljdenmmlkjapaa.P
open Go.RowKit Go.Proofs.YtljdenmmlkjapaaW.PrintWords Go.Proofs.YtljdenmmlkjapaaW.PrintLast
set_option linter.unusedVariables false
set_option linter.unusedSimpArgs false
theorem and255 (x : Int) : 0 ≤ wrap64 (Go.bits .and .u64 x 255) ∧ wrap64 (Go.bits .and .u64 x 255) ≤ 255 := by
 have e : ∃ n : Nat, n ≤ 255 ∧ Go.bits .and .u64 x 255 = IntKind.u64.wrap (n : Int) := by
  refine ⟨(BitVec.ofInt 64 x &&& BitVec.ofInt 64 255).toNat, ?_, rfl⟩
  rw [BitVec.toNat_and]
  exact Nat.le_trans Nat.and_le_right (by decide)
 obtain ⟨n, hn, e⟩ := e
 rw [e]
 have e2 : IntKind.u64.wrap (n : Int) = (n : Int) := by
  simp only [IntKind.wrap, IntKind.bits, IntKind.signed, Bool.false_and, Bool.false_eq_true, if_false]
  omega
 rw [e2, wrap_id (by omega) (by omega)]
 omega
theorem next_ok (c : List Int) (hc : ∀ x ∈ c, 0 ≤ x ∧ x ≤ 255) (hl : c.length ≤ 1048576) (a s : Int) (h0 : 0 ≤ a) (h1 : a ≤ 1152921504606846976) :
  ∃ r s', spec_l1Cur_next.f c a s = some (r, a + 1, s') ∧ 0 ≤ r ∧ r ≤ 255 := by
 unfold spec_l1Cur_next.f
 rw [wrap_id (x := a + 1) (by omega) (by omega)]
 by_cases h : a < (c.length : Int)
 ·have hm : rd c a ∈ c := by
   unfold rd
   rw [List.getD_eq_getElem?_getD, List.getElem?_eq_getElem (by omega)]
   exact List.getElem_mem _
  have hb := hc _ hm
  rw [if_pos h, if_pos h0]
  by_cases h2 : a + 1 ≤ (c.length : Int)
  ·rw [if_pos h2, wrap_id (x := rd c a) (by omega) (by omega)]
   exact ⟨_, _, rfl, hb.1, hb.2⟩
  ·omega
 ·rw [if_neg h, if_neg (by omega)]
  exact ⟨_, _, rfl, (and255 _).1, (and255 _).2⟩
theorem pick_ok (c : List Int) (hc : ∀ x ∈ c, 0 ≤ x ∧ x ≤ 255) (hl : c.length ≤ 1048576) (a s n : Int) (h0 : 0 ≤ a) (h1 : a ≤ 1125899906842624) :
  ∃ r a' s', spec_l1Cur_pick.f c a s n = some (r, a', s') ∧ 0 ≤ r ∧ (n ≤ 1 → r = 0) ∧ (2 ≤ n → r < n) ∧ a ≤ a' ∧ a' ≤ a + 2 := by
 unfold spec_l1Cur_pick.f
 by_cases hn : n ≤ 1
 ·rw [if_pos hn]
  exact ⟨0, a, s, rfl, by omega, fun _ => rfl, by omega, by omega, by omega⟩
 ·rw [if_neg hn]
  obtain ⟨r, s', e, r0, r1⟩ := next_ok c hc hl a s h0 (by omega)
  rw [e]
  simp only [Option.bind_some]
  by_cases h2 : n > 200
  ·rw [if_pos h2]
   obtain ⟨q, s2, e2, q0, q1⟩ := next_ok c hc hl (a + 1) s' (by omega) (by omega)
   rw [e2]
   simp only [Option.bind_some]
   rw [if_neg (by omega), wrap_id (x := r * 256) (by omega) (by omega), wrap_id (x := r * 256 + q) (by omega) (by omega), Int.tmod_eq_emod_of_nonneg (by omega)]
   exact ⟨_, _, _, rfl, Int.emod_nonneg _ (by omega), fun h => absurd h hn, fun _ => Int.emod_lt_of_pos _ (by omega), by omega, by omega⟩
  ·rw [if_neg h2, if_neg (by omega), Int.tmod_eq_emod_of_nonneg r0]
   exact ⟨_, _, _, rfl, Int.emod_nonneg _ (by omega), fun h => absurd h hn, fun _ => Int.emod_lt_of_pos _ (by omega), by omega, by omega⟩
theorem one_ok (c : List Int) (hc : ∀ x ∈ c, 0 ≤ x ∧ x ≤ 255) (hl : c.length ≤ 1048576) (a s n : Int) (h0 : 0 ≤ a) (h1 : a ≤ 1125899906842624) :
  ∃ b a' s', spec_l1Cur_one.f c a s n = some (b, a', s') ∧ a ≤ a' ∧ a' ≤ a + 2 := by
 unfold spec_l1Cur_one.f
 obtain ⟨r, a', s', e, _, _, _, g1, g2⟩ := pick_ok c hc hl a s n h0 h1
 rw [e]
 exact ⟨_, _, _, rfl, g1, g2⟩
theorem among_ok (c : List Int) (hc : ∀ x ∈ c, 0 ≤ x ∧ x ≤ 255) (hl : c.length ≤ 1048576) (a s : Int) (l : List Int) (hn : 0 < l.length) (h0 : 0 ≤ a) (h1 : a ≤ 1125899906842624) :
  ∃ r a' s', spec_l1Cur_among.f c a s l = some (r, a', s') ∧ r ∈ l ∧ a ≤ a' ∧ a' ≤ a + 2 := by
 unfold spec_l1Cur_among.f
 obtain ⟨r, a', s', e, r0, r1, r2, g1, g2⟩ := pick_ok c hc hl a s (l.length : Int) h0 h1
 rw [e]
 simp only [Option.bind_some]
 have hlt : r < (l.length : Int) := by
  by_cases h : 2 ≤ (l.length : Int)
  ·exact r2 h
  ·have := r1 (by omega); omega
 rw [if_pos r0, if_pos hlt]
 refine ⟨_, _, _, rfl, ?_, g1, g2⟩
 unfold rd
 rw [List.getD_eq_getElem?_getD, List.getElem?_eq_getElem (by omega)]
 exact List.getElem_mem _
theorem bytes_ok {q : List Int} (hq : ∀ x ∈ q, (Lit.int .u8 x).wf = true) : ∀ x ∈ q, 0 ≤ x ∧ x ≤ 255 := fun x hx => by
 have := hq x hx
 simp only [Lit.wf, IntKind.has, IntKind.min, IntKind.max, IntKind.signed, IntKind.bits, Bool.and_eq_true, decide_eq_true_eq, Bool.false_eq_true, if_false] at this
 omega
end Go.Proofs.Ytljdenmmlkjapaa.P

namespace Go.Proofs.Ytljdenmmlkjapaa.P
open Go.RowKit Go.Proofs.YtljdenmmlkjapaaW.PrintWords Go.Proofs.YtljdenmmlkjapaaW.PrintLast
set_option linter.unusedVariables false
set_option linter.unusedSimpArgs false
theorem owners_j2 (c : List Int) (hc : ∀ x ∈ c, 0 ≤ x ∧ x ≤ 255) (hl : c.length ≤ 1048576) (l : List S26) (b : Bool) (hb : b = true → 0 < l.length) (a s : Int) (h0 : 0 ≤ a) (h1 : a ≤ 1000000000) :
  ∃ r a' s', Ev (fun k => spec_l1Cur_owners.j2 k l b c a s) (r, a', s') ∧ r.length = l.length ∧ a ≤ a' ∧ a' ≤ a + 6 := by
 cases b with
 | false =>
  refine ⟨l, a, s, Ev.succ ?_, rfl, by omega, by omega⟩
  simp only [spec_l1Cur_owners.j2, Bool.false_eq_true, if_false]
  exact Ev.now _
 | true =>
  have hp := hb rfl
  obtain ⟨r1, a1, s1, e1, _, g1, g1'⟩ := among_ok c hc hl a s [0, 1, 1001] (by decide) h0 (by omega)
  obtain ⟨r2, a2, s2, e2, _, g2, g2'⟩ := among_ok c hc hl a1 s1 [0, 50, 51] (by decide) (by omega) (by omega)
  obtain ⟨r3, a3, s3, e3, _, g3, g3'⟩ := among_ok c hc hl a2 s2 [-1, 255, 256] (by decide) (by omega) (by omega)
  refine ⟨l.set (0 : Int).toNat ⟨r1, r2, r3⟩, a3, s3, Ev.succ ?_, by simp, by omega, by omega⟩
  simp only [spec_l1Cur_owners.j2, if_true, e1, Option.bind_some]
  rw [e2]
  simp only [Option.bind_some]
  rw [e3]
  simp only [Option.bind_some, if_pos (show (0 : Int) < (l.length : Int) by omega)]
  exact Ev.now _
theorem owners_l0 (c : List Int) (hc : ∀ x ∈ c, 0 ≤ x ∧ x ≤ 255) (hl : c.length ≤ 1048576) (n : Nat) : ∀ (l : List S26) (id a s : Int), l.length + n ≤ 1000 → 0 ≤ a → a + 6 * n ≤ 100000000 →
  ∃ r a' s', Ev (fun k => spec_l1Cur_owners.l0 k l id (n : Int) c a s) (r, a', s') ∧ r.length = l.length + n ∧ a ≤ a' ∧ a' ≤ a + 6 * n + 10 := by
 induction n with
 | zero =>
  intro l id a s hn h0 h1
  by_cases hp : (l.length : Int) > 0
  ·obtain ⟨b, a1, s1, e1, g1, g1'⟩ := one_ok c hc hl a s 20 h0 (by omega)
   obtain ⟨r, a2, s2, e2, hr, g2, g2'⟩ := owners_j2 c hc hl l b (fun _ => by omega) a1 s1 (by omega) (by omega)
   refine ⟨r, a2, s2, Ev.succ ?_, by omega, by omega, by omega⟩
   simp only [spec_l1Cur_owners.l0]
   simp only [if_neg (show ¬ ((0 : Nat) : Int) > 0 by omega), if_pos hp, e1, Option.bind_some]
   exact e2
  ·obtain ⟨r, a2, s2, e2, hr, g2, g2'⟩ := owners_j2 c hc hl l false (fun h => by cases h) a s (by omega) (by omega)
   refine ⟨r, a2, s2, Ev.succ ?_, by omega, by omega, by omega⟩
   simp only [spec_l1Cur_owners.l0]
   simp only [if_neg (show ¬ ((0 : Nat) : Int) > 0 by omega), if_neg hp]
   exact e2
 | succ n ih =>
  intro l id a s hn h0 h1
  obtain ⟨r1, a1, s1, e1, _, _, _, g1, g1'⟩ := pick_ok c hc hl a s 9 h0 (by omega)
  obtain ⟨r2, a2, s2, e2, _, g2, g2'⟩ := among_ok c hc hl a1 s1 [1, 2, 3, 49, 50] (by decide) (by omega) (by omega)
  obtain ⟨r3, a3, s3, e3, _, _, _, g3, g3'⟩ := pick_ok c hc hl a2 s2 3 (by omega) (by omega)
  obtain ⟨r, a4, s4, e4, hr, g4, g4'⟩ := ih (l ++ [⟨wrap64 (id + wrap64 (1 + r1)), r2, r3⟩]) (wrap64 (id + wrap64 (1 + r1))) a3 s3 (by simp <;> omega) (by omega) (by omega)
  refine ⟨r, a4, s4, Ev.succ ?_, by simp at hr; omega, by omega, by omega⟩
  simp only [spec_l1Cur_owners.l0]
  simp only [if_pos (show ((n + 1 : Nat) : Int) > 0 by omega), e1, Option.bind_some]
  rw [e2]
  simp only [Option.bind_some]
  rw [e3]
  simp only [Option.bind_some, if_pos (show l.length < 5864062014805 by omega)]
  rw [wrap_id (x := ((n + 1 : Nat) : Int) - 1) (by omega) (by omega), show ((n + 1 : Nat) : Int) - 1 = (n : Int) by omega]
  exact e4
theorem owners_ok (c : List Int) (hc : ∀ x ∈ c, 0 ≤ x ∧ x ≤ 255) (hl : c.length ≤ 1048576) :
  ∃ r a' s', Ev (fun k => spec_l1Cur_owners.f k c 0 0) (r, a', s') ∧ r.length ≤ 1000 ∧ 0 ≤ a' ∧ a' ≤ 10000 := by
 obtain ⟨r1, a1, s1, e1, r10, _, r12, g1, g1'⟩ := pick_ok c hc hl 0 0 8 (by omega) (by omega)
 obtain ⟨b, a2, s2, e2, g2, g2'⟩ := one_ok c hc hl a1 s1 20 (by omega) (by omega)
 have := r12 (by omega)
 cases b with
 | true =>
  obtain ⟨r3, a3, s3, e3, m3, g3, g3'⟩ := among_ok c hc hl a2 s2 [0, 10, 11] (by decide) (by omega) (by omega)
  have hr3 : 0 ≤ r3 ∧ r3 ≤ 11 := by
   simp only [List.mem_cons, List.not_mem_nil, or_false] at m3
   omega
  obtain ⟨r, a4, s4, e4, hr, g4, g4'⟩ := owners_l0 c hc hl r3.toNat [] 0 a3 s3 (by simp <;> omega) (by omega) (by omega)
  refine ⟨r, a4, s4, ?_, by simp at hr; omega, by omega, by omega⟩
  unfold spec_l1Cur_owners.f
  simp only [e1, Option.bind_some]
  rw [e2]
  simp only [Option.bind_some, if_true]
  rw [e3]
  simp only [Option.bind_some]
  refine Ev.succ ?_
  simp only [spec_l1Cur_owners.j0]
  rw [show ((r3.toNat : Nat) : Int) = r3 by omega] at e4
  exact e4
 | false =>
  obtain ⟨r, a4, s4, e4, hr, g4, g4'⟩ := owners_l0 c hc hl (1 + r1).toNat [] 0 a2 s2 (by simp <;> omega) (by omega) (by omega)
  refine ⟨r, a4, s4, ?_, by simp at hr; omega, by omega, by omega⟩
  unfold spec_l1Cur_owners.f
  simp only [e1, Option.bind_some]
  rw [e2]
  simp only [Option.bind_some, Bool.false_eq_true, if_false]
  refine Ev.succ ?_
  simp only [spec_l1Cur_owners.j0]
  rw [wrap_id (x := 1 + r1) (by omega) (by omega)]
  rw [show (((1 + r1).toNat : Nat) : Int) = 1 + r1 by omega] at e4
  exact e4
theorem drawGoodOwners_ok (c : List Int) (hc : ∀ x ∈ c, 0 ≤ x ∧ x ≤ 255) (hl : c.length ≤ 1048576) : ∃ r, Ev (fun k => spec_DrawGoodOwners.f k c) r ∧ r.length ≤ 1000 := by
 obtain ⟨r, a, s, e, hr, _, _⟩ := owners_ok c hc hl
 refine ⟨r, ?_, hr⟩
 unfold spec_DrawGoodOwners.f
 exact Ev.bind e (Ev.now _)
end Go.Proofs.Ytljdenmmlkjapaa.P

namespace Go.Proofs.Ytljdenmmlkjapaa.Pure
open Go.RowKit Go.Proofs.Ytljdenmmlkjapaa.P Go.Proofs.YtljdenmmlkjapaaW.PrintWords Go.Proofs.YtljdenmmlkjapaaW.PrintLast
set_option linter.unusedVariables false
set_option linter.unusedSimpArgs false
theorem names_loop (more : List Int) (l s : List S26) (hls : s.length = l.length) (hl : l.length ≤ 1000) (hm : s.map (fun x => (x.f0, x.f2)) = l.map (fun x => (x.f0, x.f2)))
  (hk : ∀ x ∈ l, ∃ id, whoHas l x.f1 = (id, true) ∧ nameOf s id = (x.f1, true)) (h4 : Ev (fun k => laws_FnNames.j4 k more) true) (suf : List S26) :
  ∀ (pre : List S26), pre ++ suf = l → Ev (fun k => laws_FnNames.l0 k more l s (pre ++ suf) ((pre ++ suf).length : Int) (pre.length : Int)) true := by
 induction suf with
 | nil =>
  intro pre he
  refine Ev.succ ?_
  simp only [laws_FnNames.l0]
  simp only [if_neg (show ¬ (pre.length : Int) < ((pre ++ ([] : List S26)).length : Int) by simp)]
  exact h4
 | cons x suf ih =>
  intro pre he
  have hlen : l.length = pre.length + suf.length + 1 := by rw [← he]; simp <;> omega
  have c1 : (pre.length : Int) < ((pre ++ x :: suf).length : Int) := by simp <;> omega
  have c0 : (0 : Int) ≤ (pre.length : Int) := by omega
  obtain ⟨id, hw, hn⟩ := hk x (by rw [← he]; simp)
  refine Ev.succ ?_
  simp only [laws_FnNames.l0]
  simp only [if_pos c1, if_pos c0, rdOwner_mid]
  refine Ev.bind (implWho_ev l x.f1 (by omega)) ?_
  rw [hw]
  refine Ev.bind (implNameOf_ev s id (by omega)) ?_
  rw [hn]
  simp only [if_true, bne_self_eq_false]
  refine Ev.succ ?_
  simp only [laws_FnNames.j3, Bool.false_eq_true, if_false]
  have hs : (s.getD pre.length z26).f0 = x.f0 ∧ (s.getD pre.length z26).f2 = x.f2 := by
   have h1 := congrArg (fun q => q[pre.length]?) hm
   have h2 : l[pre.length]? = some x := by rw [← he]; simp
   simp only [List.getElem?_map, h2, Option.map_some] at h1
   have h3 : pre.length < s.length := by omega
   rw [List.getElem?_eq_getElem h3] at h1
   simp only [Option.map_some, Option.some.injEq, Prod.mk.injEq] at h1
   rw [List.getD_eq_getElem?_getD, List.getElem?_eq_getElem h3]
   exact h1
  have hr : rd_T26 s (pre.length : Int) = s.getD pre.length z26 := by unfold rd_T26; rw [Int.toNat_natCast]
  rw [hr]
  simp only [if_pos c0, if_pos (show (pre.length : Int) < (s.length : Int) by omega), hs.1, hs.2, if_true, wrap_id (x := (pre.length : Int) + 1) (by omega) (by omega)]
  have h := ih (pre ++ [x]) (by rw [← he]; simp)
  rw [← app_one, len_one] at h
  exact h
theorem FnNames : laws_FnNames.Pure := by
 intro c d hc1 hc2 hc3 hd1 hd2 hd3
 refine Ev.rounds ?_
 unfold laws_FnNames.f
 by_cases h : (wrap64 ((c.length : Int) + (d.length : Int))) > 1048576
 ·simp only [if_pos h]
  exact Ev.now _
 ·simp only [if_neg h]
  rw [wrap_id (by omega) (by omega)] at h
  have hcb := bytes_ok hc3
  have hdb := bytes_ok hd3
  obtain ⟨l, el, hl⟩ := drawGoodOwners_ok c hcb (by omega)
  unfold spec_DrawSettleNames.f
  refine Ev.bind (Ev.bind el (Ev.now _)) ?_
  have h4 : Ev (fun k => laws_FnNames.j4 k d) true := by
   obtain ⟨q, a, s, eq_, hq, ha0, ha1⟩ := owners_ok d hdb (by omega)
   have hdraw : ∃ x y : S26, Ev (fun k => spec_DrawHasBetter.f k d) (x.f0, x.f1, x.f2, y.f0, y.f1, y.f2) := by
    unfold spec_DrawHasBetter.f
    by_cases h2 : (q.length : Int) < 2
    ·refine ⟨⟨1, 1, 0⟩, ⟨2, 1, 0⟩, Ev.bind eq_ ?_⟩
     simp only [if_pos h2]
     exact Ev.now _
    ·obtain ⟨r1, a1, s1, e1, r10, _, r12, g1, g1'⟩ := pick_ok d hdb (by omega) a s (q.length : Int) ha0 (by omega)
     obtain ⟨r2, a2, s2, e2, r20, _, r22, g2, g2'⟩ := pick_ok d hdb (by omega) a1 s1 (q.length : Int) (by omega) (by omega)
     have := r12 (by omega)
     have := r22 (by omega)
     refine ⟨rd_T26 q r1, rd_T26 q r2, Ev.bind eq_ ?_⟩
     simp only [if_neg h2, e1, Option.bind_some]
     simp only [if_pos r10, if_pos (show r1 < (q.length : Int) by omega), e2, Option.bind_some, if_pos r20, if_pos (show r2 < (q.length : Int) by omega)]
     exact Ev.now _
   obtain ⟨x, y, exy⟩ := hdraw
   refine Ev.succ ?_
   simp only [laws_FnNames.j4]
   refine Ev.bind exy ?_
   simp only [implHasBetter, specHasBetter, Option.bind_some, bne_self_eq_false, Bool.false_eq_true, if_false]
   refine Ev.succ ?_
   simp only [laws_FnNames.j5, Bool.false_eq_true, if_false, implHasBetter, Option.bind_some]
   unfold hasBetterM
   by_cases h2 : isOwn x = true ∧ isOwn y = true ∧ x.f0 ≠ y.f0
   ·simp only [if_pos h2, if_true, if_pos (show isOwn y = true ∧ isOwn x = true ∧ y.f0 ≠ x.f0 from ⟨h2.2.1, h2.1, fun e => h2.2.2 e.symm⟩)]
    refine Ev.some_ ?_
    rw [bne_iff_ne]
    intro e
    have hne := h2.2.2
    cases hb : betterOf x y with
    | true =>
     rw [hb] at e
     rw [better_iff] at hb e
     omega
    | false =>
     rw [hb] at e
     rw [better_not] at hb e
     omega
   ·simp only [if_neg h2, Bool.false_eq_true, if_false]
    exact Ev.now _
  refine Ev.bind (implSettleNames_ev l (by omega)) ?_
  refine Ev.bind (specSettleNames_ev l (by omega)) ?_
  have hsl := settleNm_len l
  simp only [bne_self_eq_false, Bool.false_eq_true, if_false, if_true]
  refine Ev.bind (sameOwners_ev _ _ (by omega)) ?_
  simp only [decide_true, if_true]
  refine Ev.bind (implGoodOwners_ev l (by omega)) ?_
  refine Ev.succ ?_
  simp only [laws_FnNames.j0]
  cases hg : goodOwn l with
  | false =>
   have e : settleNm l = ([], 0, false) := by unfold settleNm; rw [hg]; rfl
   rw [e]
   simp only [bne_self_eq_false, Bool.false_eq_true, if_false]
   exact h4
  | true =>
   obtain ⟨s, m, e, h1, h2, h3, hm, hk⟩ := settle_ok hg
   have hlen : s.length = l.length := by have := congrArg List.length h3; simpa using this
   rw [e]
   simp only [bne_self_eq_false, Bool.false_eq_true, if_false, if_true]
   refine Ev.bind (implClashIn_ev s (by omega)) ?_
   have ec : clashIn s = (0, 0, false) := by unfold clashIn; rw [h1, h2]; rfl
   rw [ec]
   simp only [Bool.false_eq_true, if_false]
   refine Ev.bind (implGoodOwners_ev s (by omega)) ?_
   rw [h1]
   simp only [if_true, if_neg (show ¬ m ≥ (s.length : Int) by omega), decide_false]
   simp only [show (decide (m ≥ (s.length : Int))) = false by simp <;> omega]
   refine Ev.succ ?_
   simp only [laws_FnNames.j1, Bool.false_eq_true, if_false]
   exact names_loop d l s hlen hl h3 hk h4 l [] rfl
end Go.Proofs.Ytljdenmmlkjapaa.Pure
