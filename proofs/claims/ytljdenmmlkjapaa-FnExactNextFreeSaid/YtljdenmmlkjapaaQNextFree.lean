/- The next name that nobody has, as the program and the reference find it. -/
import Derived.Test.YtljdenmmlkjapaaQGoodOwners
import Derived.Test.YtljdenmmlkjapaaQPigeon
import Derived.Test.YtljdenmmlkjapaaPx0
import Derived.Test.YtljdenmmlkjapaaPx15
import Derived.Test.YtljdenmmlkjapaaPx16
namespace Go.Proofs.Ytljdenmmlkjapaa.P
open Go.RowKit Go.Proofs.YtljdenmmlkjapaaW.PrintWords Go.Proofs.YtljdenmmlkjapaaW.PrintLast
set_option linter.unusedVariables false
set_option linter.unusedSimpArgs false
def nx (a : Int) : Int := a % 50 + 1
def nxi : Nat → Int → Int
  | 0, a => a
  | n + 1, a => nxi n (nx a)
def hasName (l : List S26) (m : Int) : Bool := l.any (fun x => x.f1 == m)
def nfM : Nat → List S26 → Int → Int
  | 0, _, a => a
  | n + 1, l, a => if hasName l (nx a) = true then nfM n l (nx a) else nx a
def nextFreeM (l : List S26) (a : Int) : Int := nfM 50 l a
theorem nx_tmod {a : Int} (h0 : 0 ≤ a) (h1 : a ≤ 4294967296) : wrap64 (Int.tmod a 50 + 1) = nx a := by
  rw [Int.tmod_eq_emod_of_nonneg h0, wrap_id (by omega) (by omega)]
  rfl
theorem nx_range {a : Int} (h0 : 0 ≤ a) : 1 ≤ nx a ∧ nx a ≤ 50 := by unfold nx; omega
theorem nxi_range : ∀ (n : Nat) (a : Int), 1 ≤ a → a ≤ 50 → 1 ≤ nxi n a ∧ nxi n a ≤ 50
  | 0, a, h0, h1 => ⟨h0, h1⟩
  | n + 1, a, h0, h1 => nxi_range n (nx a) (nx_range (by omega)).1 (nx_range (by omega)).2
theorem nxi_is : ∀ (n : Nat) (a : Int), 1 ≤ a → a ≤ 50 → nxi n a = (a - 1 + n) % 50 + 1
  | 0, a, h0, h1 => by simp only [nxi]; omega
  | n + 1, a, h0, h1 => by
    simp only [nxi]
    rw [nxi_is n (nx a) (nx_range (by omega)).1 (nx_range (by omega)).2]
    unfold nx
    omega
theorem nxi_succ : ∀ (n : Nat) (a : Int), nxi (n + 1) a = nx (nxi n a)
  | 0, a => rfl
  | n + 1, a => nxi_succ n (nx a)
def names (a : Int) (n : Nat) : List Int := (List.range n).map fun j => nxi (j + 1) a
theorem names_nodup {a : Int} (h0 : 1 ≤ a) (h1 : a ≤ 50) {n : Nat} (hn : n ≤ 50) : (names a n).Nodup := by
  unfold names
  rw [List.Nodup, List.pairwise_map]
  refine List.Pairwise.imp_of_mem ?_ List.nodup_range
  intro i j hi hj hne he
  rw [List.mem_range] at hi hj
  rw [nxi_is _ _ h0 h1, nxi_is _ _ h0 h1] at he
  omega
/-- Of eleven names that stand one behind the other one is free. -/
theorem some_free (l : List S26) (hl : l.length ≤ 10) {a : Int} (h0 : 1 ≤ a) (h1 : a ≤ 50) : ∃ n, n < 11 ∧ hasName l (nxi (n + 1) a) = false := by
  refine Classical.byContradiction fun hc => ?_
  have hall : ∀ n, n < 11 → hasName l (nxi (n + 1) a) = true := fun n hn => by
    cases h : hasName l (nxi (n + 1) a) with
    | true => rfl
    | false => exact absurd ⟨n, hn, h⟩ hc
  have h := nodup_le (names a 11) (l.map (fun x => x.f1)) (names_nodup h0 h1 (by omega)) (fun m hm => by
    unfold names at hm
    obtain ⟨j, hj, rfl⟩ := List.mem_map.1 hm
    rw [List.mem_range] at hj
    have := hall j hj
    unfold hasName at this
    obtain ⟨x, hx, he⟩ := List.any_eq_true.1 this
    exact List.mem_map.2 ⟨x, hx, by simpa using he⟩)
  unfold names at h
  simp only [List.length_map, List.length_range] at h
  omega
theorem nfM_ok (l : List S26) : ∀ (n : Nat) (a : Int), 1 ≤ a → a ≤ 50 → (∃ j, j < n ∧ hasName l (nxi (j + 1) a) = false) → hasName l (nfM n l a) = false ∧ 1 ≤ nfM n l a ∧ nfM n l a ≤ 50
  | 0, a, _, _, ⟨j, hj, _⟩ => absurd hj (Nat.not_lt_zero _)
  | n + 1, a, h0, h1, ⟨j, hj, hf⟩ => by
    have hr := nx_range (a := a) (by omega)
    cases hh : hasName l (nx a) with
    | false =>
      simp only [nfM, hh, Bool.false_eq_true, if_false]
      exact ⟨trivial, hr.1, hr.2⟩
    | true =>
      simp only [nfM, hh, if_true]
      cases j with
      | zero =>
        have hf : hasName l (nx a) = false := hf
        rw [hh] at hf; cases hf
      | succ j => exact nfM_ok l n (nx a) hr.1 hr.2 ⟨j, by omega, hf⟩
theorem specFree_l1 (m : Int) (r : Int) (suf : List S26) : ∀ (pre : List S26) (b : Bool), (pre.length : Int) + suf.length ≤ 1099511627776 →
    (if (b || suf.any (fun x => x.f1 == m)) = true then Ev (fun k => spec_l11Free.l0 k (pre ++ suf) m) r else r = m) →
    Ev (fun k => spec_l11Free.l1 k (pre ++ suf) m b (pre ++ suf) ((pre ++ suf).length : Int) (pre.length : Int)) r := by
  induction suf with
  | nil =>
    intro pre b hb h
    refine Ev.succ ?_
    simp only [spec_l11Free.l1]
    simp only [if_neg (show ¬ (pre.length : Int) < ((pre ++ ([] : List S26)).length : Int) by simp)]
    cases b with
    | true =>
      simp only [if_true]
      simpa using h
    | false =>
      simp only [Bool.false_eq_true, if_false]
      have h : r = m := by simpa using h
      exact Ev.some_ h.symm
  | cons x suf ih =>
    intro pre b hb h
    simp only [List.length_cons] at hb
    refine Ev.succ ?_
    simp only [spec_l11Free.l1]
    have c1 : (pre.length : Int) < ((pre ++ x :: suf).length : Int) := by simp <;> omega
    have c0 : (0 : Int) ≤ (pre.length : Int) := by omega
    simp only [if_pos c1, if_pos c0, rdOwner_mid, wrap_id (x := (pre.length : Int) + 1) (by omega) (by omega)]
    have h2 := ih (pre ++ [x])
    rw [← app_one, len_one] at h2
    cases b with
    | true =>
      simp only [if_true]
      exact h2 true (by omega) (by simpa using h)
    | false =>
      simp only [Bool.false_eq_true, if_false]
      refine h2 (x.f1 == m) (by omega) ?_
      simpa only [List.any_cons, Bool.false_or] using h
theorem specFree_l0 (l : List S26) (hl : l.length ≤ 1048576) : ∀ (n : Nat) (a : Int), 1 ≤ a → a ≤ 50 → (∃ j, j < n ∧ hasName l (nxi (j + 1) a) = false) → Ev (fun k => spec_l11Free.l0 k l a) (nfM n l a)
  | 0, a, _, _, ⟨j, hj, _⟩ => absurd hj (Nat.not_lt_zero _)
  | n + 1, a, h0, h1, ⟨j, hj, hf⟩ => by
    have hr := nx_range (a := a) (by omega)
    refine Ev.succ ?_
    simp only [spec_l11Free.l0]
    rw [nx_tmod (by omega) (by omega)]
    refine specFree_l1 (nx a) _ l [] false (by simp <;> omega) ?_
    cases hh : hasName l (nx a) with
    | false =>
      have hh2 : l.any (fun x => x.f1 == nx a) = false := hh
      simp only [hh2, Bool.or_false, Bool.false_eq_true, if_false]
      simp only [nfM, hh, Bool.false_eq_true, if_false]
    | true =>
      have hh2 : l.any (fun x => x.f1 == nx a) = true := hh
      simp only [hh2, Bool.false_or, if_true, nfM, hh, List.nil_append]
      cases j with
      | zero =>
        have hf : hasName l (nx a) = false := hf
        rw [hh] at hf; cases hf
      | succ j => exact specFree_l0 l hl n (nx a) hr.1 hr.2 ⟨j, by omega, hf⟩
theorem implFree_l0 (l : List S26) : ∀ (n : Nat) (a : Int), 1 ≤ a → a ≤ 50 → (∃ j, j < n ∧ hasName l (nxi (j + 1) a) = false) → Ev (fun k => impl_nextFree.l0 k l a) (nfM n l a)
  | 0, a, _, _, ⟨j, hj, _⟩ => absurd hj (Nat.not_lt_zero _)
  | n + 1, a, h0, h1, ⟨j, hj, hf⟩ => by
    have hr := nx_range (a := a) (by omega)
    refine Ev.succ ?_
    simp only [impl_nextFree.l0]
    rw [nx_tmod (by omega) (by omega)]
    cases hh : hasName l (nx a) with
    | false =>
      have hh2 : l.any (fun x => x.f1 == nx a) = false := hh
      simp only [hh2, Bool.false_eq_true, if_false, nfM, hh]
      exact Ev.now _
    | true =>
      have hh2 : l.any (fun x => x.f1 == nx a) = true := hh
      simp only [hh2, if_true, nfM, hh]
      cases j with
      | zero =>
        have hf : hasName l (nx a) = false := hf
        rw [hh] at hf; cases hf
      | succ j => exact implFree_l0 l n (nx a) hr.1 hr.2 ⟨j, by omega, hf⟩
theorem free_within (l : List S26) (hl : l.length ≤ 10) {a : Int} (h0 : 1 ≤ a) (h1 : a ≤ 50) : ∃ j, j < 50 ∧ hasName l (nxi (j + 1) a) = false := by
  obtain ⟨n, hn, h⟩ := some_free l hl h0 h1
  exact ⟨n, by omega, h⟩
theorem specFree_ev (l : List S26) (hl : l.length ≤ 10) (a : Int) (h0 : 1 ≤ a) (h1 : a ≤ 50) : Ev (fun k => spec_l11Free.f k l a) (nextFreeM l a) := by
  unfold spec_l11Free.f
  exact specFree_l0 l (by omega) 50 a h0 h1 (free_within l hl h0 h1)
theorem implFree_ev (l : List S26) (hl : l.length ≤ 10) (a : Int) (h0 : 1 ≤ a) (h1 : a ≤ 50) : Ev (fun k => impl_nextFree.f k l a) (nextFreeM l a) := by
  unfold impl_nextFree.f
  exact implFree_l0 l 50 a h0 h1 (free_within l hl h0 h1)
theorem nextFreeM_ok (l : List S26) (hl : l.length ≤ 10) {a : Int} (h0 : 1 ≤ a) (h1 : a ≤ 50) : hasName l (nextFreeM l a) = false ∧ 1 ≤ nextFreeM l a ∧ nextFreeM l a ≤ 50 :=
  nfM_ok l 50 a h0 h1 (free_within l hl h0 h1)
def nextFree (l : List S26) (a : Int) : Int × Bool := if goodOwn l = true ∧ 1 ≤ a ∧ a ≤ 50 then (nextFreeM l a, true) else (0, false)
theorem specNextFree_ev (l : List S26) (a : Int) (hl : l.length ≤ 1048576) : Ev (fun k => spec_NextFree.f k l a) (nextFree l a) := by
  unfold spec_NextFree.f
  refine Ev.bind (specGoodOwners_ev l hl) ?_
  simp only [specIn, Option.bind_some]
  unfold nextFree
  cases hg : goodOwn l with
  | false =>
    simp only [Bool.false_eq_true, if_false, false_and]
    exact Ev.now _
  | true =>
    simp only [if_true, true_and]
    by_cases hn : 1 ≤ a ∧ a ≤ 50
    · simp only [hn, and_self, decide_true, if_true]
      exact Ev.bind (specFree_ev l (goodOwn_len hg).2 a hn.1 hn.2) (Ev.now _)
    · simp only [hn, decide_false, Bool.false_eq_true, if_false]
      exact Ev.now _
theorem implNextFree_ev (l : List S26) (a : Int) (hl : l.length ≤ 1048576) : Ev (fun k => impl_NextFree.f k l a) (nextFree l a) := by
  unfold impl_NextFree.f
  refine Ev.bind (implGoodOwners_ev l hl) ?_
  simp only [implIn, Option.bind_some]
  unfold nextFree
  cases hg : goodOwn l with
  | false =>
    simp only [Bool.false_eq_true, if_false, false_and]
    exact Ev.now _
  | true =>
    simp only [if_true, true_and]
    by_cases hn : 1 ≤ a ∧ a ≤ 50
    · simp only [hn, and_self, decide_true, if_true]
      exact Ev.bind (implFree_ev l (goodOwn_len hg).2 a hn.1 hn.2) (Ev.now _)
    · simp only [hn, decide_false, Bool.false_eq_true, if_false]
      exact Ev.now _

end Go.Proofs.Ytljdenmmlkjapaa.P
