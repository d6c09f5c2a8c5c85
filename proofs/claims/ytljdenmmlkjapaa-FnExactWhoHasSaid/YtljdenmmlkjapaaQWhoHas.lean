/- WhoHas of the program and of the reference. -/
import Derived.Test.YtljdenmmlkjapaaQGoodOwners
import Derived.Test.YtljdenmmlkjapaaPx0
import Derived.Test.YtljdenmmlkjapaaPx2
import Derived.Test.YtljdenmmlkjapaaPx11
import Derived.Test.YtljdenmmlkjapaaPx12
namespace Go.Proofs.Ytljdenmmlkjapaa.P
open Go.RowKit Go.Proofs.YtljdenmmlkjapaaW.PrintWords Go.Proofs.YtljdenmmlkjapaaW.PrintLast
set_option linter.unusedVariables false
set_option linter.unusedSimpArgs false
def betterOf (a b : S26) : Bool := decide (a.f2 > b.f2) || (decide (a.f2 = b.f2) && decide (a.f0 > b.f0))
theorem specBetter (a b : S26) : spec_l11Better.f a.f0 a.f1 a.f2 b.f0 b.f1 b.f2 = some (betterOf a b) := by
  unfold spec_l11Better.f betterOf
  by_cases h : a.f2 > b.f2
  · rw [if_pos h]; simp [h]
  · rw [if_neg h]
    by_cases h2 : a.f2 = b.f2
    · rw [if_pos h2]; simp [h2]
    · rw [if_neg h2]; simp [h, h2]
theorem implBetter (a b : S26) : impl_hasBetter.f a.f0 a.f1 a.f2 b.f0 b.f1 b.f2 = some (betterOf a b) := specBetter a b
def bestF (nm : Int) : Option S26 → List S26 → Option S26
  | b, [] => b
  | none, x :: r => if x.f1 = nm then bestF nm (some x) r else bestF nm none r
  | some y, x :: r => if x.f1 = nm then (if betterOf x y = true then bestF nm (some x) r else bestF nm (some y) r) else bestF nm (some y) r
def whoOf : Option S26 → Int × Bool
  | none => (0, false)
  | some y => (y.f0, true)
def whoHas (l : List S26) (nm : Int) : Int × Bool := if goodOwn l = true ∧ 1 ≤ nm ∧ nm ≤ 50 then whoOf (bestF nm none l) else (0, false)
theorem specWho_l (nm : Int) (suf : List S26) : ∀ (pre : List S26) (b : Option S26) (i : Int), (pre.length : Int) + suf.length ≤ 1099511627776 →
    (match b with | none => i = -1 | some y => 0 ≤ i ∧ i < ((pre ++ suf).length : Int) ∧ rd_T26 (pre ++ suf) i = y) →
    Ev (fun k => spec_WhoHas.l0 k (pre ++ suf) nm i (pre ++ suf) ((pre ++ suf).length : Int) (pre.length : Int)) (whoOf (bestF nm b suf)) := by
  induction suf with
  | nil =>
    intro pre b i hb h
    refine Ev.succ ?_
    simp only [spec_WhoHas.l0]
    simp only [if_neg (show ¬ (pre.length : Int) < ((pre ++ ([] : List S26)).length : Int) by simp)]
    cases b with
    | none =>
      have h : i = -1 := h
      subst h
      simp only [if_pos (show (-1 : Int) < 0 by decide)]
      exact Ev.now _
    | some y =>
      obtain ⟨h1, h2, h3⟩ := h
      simp only [if_neg (show ¬ i < 0 by omega), if_pos h1, if_pos h2, h3]
      exact Ev.now _
  | cons x suf ih =>
    intro pre b i hb h
    simp only [List.length_cons] at hb
    refine Ev.succ ?_
    simp only [spec_WhoHas.l0]
    have c1 : (pre.length : Int) < ((pre ++ x :: suf).length : Int) := by simp <;> omega
    have c0 : (0 : Int) ≤ (pre.length : Int) := by omega
    simp only [if_pos c1, if_pos c0, rdOwner_mid, wrap_id (x := (pre.length : Int) + 1) (by omega) (by omega)]
    have h2 := ih (pre ++ [x])
    rw [← app_one, len_one] at h2
    by_cases hx : x.f1 = nm
    · simp only [if_pos hx]
      cases b with
      | none =>
        have h : i = -1 := h
        subst h
        simp only [if_pos (show (-1 : Int) < 0 by decide)]
        rw [show bestF nm none (x :: suf) = bestF nm (some x) suf by simp [bestF, hx]]
        exact h2 (some x) _ (by omega) ⟨c0, c1, rdOwner_mid _ _ _⟩
      | some y =>
        obtain ⟨g1, g2, g3⟩ := h
        simp only [if_neg (show ¬ i < 0 by omega), if_pos g1, if_pos g2, g3, specBetter, Option.bind_some]
        cases hbt : betterOf x y with
        | true =>
          simp only [if_true]
          rw [show bestF nm (some y) (x :: suf) = bestF nm (some x) suf by simp [bestF, hx, hbt]]
          exact h2 (some x) _ (by omega) ⟨c0, c1, rdOwner_mid _ _ _⟩
        | false =>
          simp only [Bool.false_eq_true, if_false]
          rw [show bestF nm (some y) (x :: suf) = bestF nm (some y) suf by simp [bestF, hx, hbt]]
          exact h2 (some y) _ (by omega) ⟨g1, g2, g3⟩
    · simp only [if_neg hx]
      rw [show bestF nm b (x :: suf) = bestF nm b suf by cases b <;> simp [bestF, hx]]
      exact h2 b _ (by omega) h
theorem specWho_ev (l : List S26) (nm : Int) (hl : l.length ≤ 1048576) : Ev (fun k => spec_WhoHas.f k l nm) (whoHas l nm) := by
  unfold spec_WhoHas.f
  refine Ev.bind (specGoodOwners_ev l hl) ?_
  simp only [specIn, Option.bind_some]
  unfold whoHas
  cases hg : goodOwn l with
  | false =>
    simp only [Bool.false_eq_true, if_false, false_and]
    refine Ev.succ ?_
    simp only [spec_WhoHas.j0, if_true]
    exact Ev.now _
  | true =>
    simp only [if_true, true_and]
    refine Ev.succ ?_
    simp only [spec_WhoHas.j0]
    by_cases hn : 1 ≤ nm ∧ nm ≤ 50
    · simp only [hn, and_self, decide_true, Bool.not_true, Bool.false_eq_true, if_false, if_true]
      exact specWho_l nm l [] none (-1) (by simp <;> omega) rfl
    · simp only [hn, decide_false, Bool.not_false, if_true, if_false]
      exact Ev.now _
theorem implWho_l (nm : Int) (suf : List S26) : ∀ (pre : List S26) (b : Option S26) (c : S26), (pre.length : Int) + suf.length ≤ 1099511627776 → (∀ x ∈ suf, 1 ≤ x.f0) →
    (match b with | none => c = ⟨0, 0, 0⟩ | some y => c = y ∧ 1 ≤ y.f0) →
    Ev (fun k => impl_WhoHas.l0 k nm (pre ++ suf) ((pre ++ suf).length : Int) (pre.length : Int) c.f0 c.f1 c.f2) (whoOf (bestF nm b suf)) := by
  induction suf with
  | nil =>
    intro pre b c hb hpos h
    refine Ev.succ ?_
    simp only [impl_WhoHas.l0]
    simp only [if_neg (show ¬ (pre.length : Int) < ((pre ++ ([] : List S26)).length : Int) by simp)]
    cases b with
    | none =>
      have h : c = ⟨0, 0, 0⟩ := h
      subst h
      exact Ev.now _
    | some y =>
      obtain ⟨rfl, h2⟩ := h
      refine Ev.some_ ?_
      simp only [bestF, whoOf, Prod.mk.injEq, true_and, decide_eq_true_eq]
      omega
  | cons x suf ih =>
    intro pre b c hb hpos h
    simp only [List.length_cons] at hb
    refine Ev.succ ?_
    simp only [impl_WhoHas.l0]
    have c1 : (pre.length : Int) < ((pre ++ x :: suf).length : Int) := by simp <;> omega
    have c0 : (0 : Int) ≤ (pre.length : Int) := by omega
    simp only [if_pos c1, if_pos c0, rdOwner_mid, wrap_id (x := (pre.length : Int) + 1) (by omega) (by omega)]
    have h2 := ih (pre ++ [x])
    rw [← app_one, len_one] at h2
    have hp2 : ∀ z ∈ suf, 1 ≤ z.f0 := fun z hz => hpos z (by simp [hz])
    by_cases hx : x.f1 = nm
    · simp only [if_pos hx]
      cases b with
      | none =>
        have h : c = ⟨0, 0, 0⟩ := h
        subst h
        simp only [if_true]
        rw [show bestF nm none (x :: suf) = bestF nm (some x) suf by simp [bestF, hx]]
        exact h2 (some x) x (by omega) hp2 ⟨rfl, hpos x (by simp)⟩
      | some y =>
        obtain ⟨rfl, g2⟩ := h
        simp only [if_neg (show ¬ c.f0 = 0 by omega), implBetter, Option.bind_some]
        cases hbt : betterOf x c with
        | true =>
          simp only [if_true]
          rw [show bestF nm (some c) (x :: suf) = bestF nm (some x) suf by simp [bestF, hx, hbt]]
          exact h2 (some x) x (by omega) hp2 ⟨rfl, hpos x (by simp)⟩
        | false =>
          simp only [Bool.false_eq_true, if_false]
          rw [show bestF nm (some c) (x :: suf) = bestF nm (some c) suf by simp [bestF, hx, hbt]]
          exact h2 (some c) c (by omega) hp2 ⟨rfl, g2⟩
    · simp only [if_neg hx]
      rw [show bestF nm b (x :: suf) = bestF nm b suf by cases b <;> simp [bestF, hx]]
      exact h2 b c (by omega) hp2 h
theorem implWho_ev (l : List S26) (nm : Int) (hl : l.length ≤ 1048576) : Ev (fun k => impl_WhoHas.f k l nm) (whoHas l nm) := by
  unfold impl_WhoHas.f
  refine Ev.bind (implGoodOwners_ev l hl) ?_
  simp only [implIn, Option.bind_some]
  unfold whoHas
  cases hg : goodOwn l with
  | false =>
    simp only [Bool.false_eq_true, if_false, false_and]
    refine Ev.succ ?_
    simp only [impl_WhoHas.j0, if_true]
    exact Ev.now _
  | true =>
    simp only [if_true, true_and]
    refine Ev.succ ?_
    simp only [impl_WhoHas.j0]
    by_cases hn : 1 ≤ nm ∧ nm ≤ 50
    · simp only [hn, and_self, decide_true, Bool.not_true, Bool.false_eq_true, if_false, if_true]
      exact implWho_l nm l [] none ⟨0, 0, 0⟩ (by simp <;> omega) (fun x hx => ((isOwn_iff x).1 (goodOwn_all hg x hx)).1) rfl
    · simp only [hn, decide_false, Bool.not_false, if_true, if_false]
      exact Ev.now _

end Go.Proofs.Ytljdenmmlkjapaa.P
