/- Plain lemmas. -/
import Derived.Test.YtpbnpepikkocmaaQGroupsOf
import Derived.Test.YtpbnpepikkocmaaPx0
import Derived.Test.YtpbnpepikkocmaaPx4
import Derived.Test.YtpbnpepikkocmaaPx5
import Derived.Test.YtpbnpepikkocmaaPx8
namespace Go.Proofs.Ytpbnpepikkocmaa.P
open Go.RowKit Go.Proofs.YtpbnpepikkocmaaW.PrintWords Go.Proofs.YtpbnpepikkocmaaW.PrintLast
set_option linter.unusedVariables false
set_option linter.unusedSimpArgs false
-- G(n, edges) is one group
def allIn (a b : Int) (l : List Int) : Bool := l.all fun x => decide (a ≤ x ∧ x ≤ b)
theorem specAll_l (a b : Int) (suf : List Int) : ∀ (pre : List Int), ((pre ++ suf).length : Int) ≤ 1099511627776 → Ev (fun k => spec_l1All.l0 k a b (pre ++ suf) ((pre ++ suf).length : Int) pre.length) (allIn a b suf) := by
  induction suf with
  | nil =>
    intro pre h
    refine Ev.succ ?_
    simp only [spec_l1All.l0, List.append_nil, Int.lt_irrefl, if_false]
    exact Ev.now _
  | cons x suf ih =>
    intro pre h
    refine Ev.succ ?_
    rw [len_mid] at h ⊢
    simp only [spec_l1All.l0]
    simp only [if_pos (show ((pre.length : Int) < pre.length + suf.length + 1) by omega), if_pos (show (0 : Int) ≤ pre.length by omega), len_mid, rd_mid, specIn, Option.bind_some, wrap_id (show (-9223372036854775808 : Int) ≤ pre.length + 1 by omega) (show ((pre.length : Int) + 1 ≤ 9223372036854775807) by omega)]
    by_cases hx : a ≤ x ∧ x ≤ b
    · have := ih (pre ++ [x]) (by rw [← app_one, len_mid]; exact h)
      rw [← app_one, len_mid, len_one] at this
      simp only [hx, and_self, decide_true, if_true]
      rw [show allIn a b (x :: suf) = allIn a b suf by simp [allIn, hx]]
      exact this
    · simp only [decide_eq_true_eq, if_neg hx]
      rw [show allIn a b (x :: suf) = false by simp [allIn]; intro h1 h2; exact absurd ⟨h1, h2⟩ hx]
      exact Ev.now _
theorem implAll_l (a b : Int) (suf : List Int) : ∀ (pre : List Int), ((pre ++ suf).length : Int) ≤ 1099511627776 → Ev (fun k => impl_allIn.l0 k a b (pre ++ suf) ((pre ++ suf).length : Int) pre.length) (allIn a b suf) := by
  induction suf with
  | nil =>
    intro pre h
    refine Ev.succ ?_
    simp only [impl_allIn.l0, List.append_nil, Int.lt_irrefl, if_false]
    exact Ev.now _
  | cons x suf ih =>
    intro pre h
    refine Ev.succ ?_
    rw [len_mid] at h ⊢
    simp only [impl_allIn.l0]
    simp only [if_pos (show ((pre.length : Int) < pre.length + suf.length + 1) by omega), if_pos (show (0 : Int) ≤ pre.length by omega), len_mid, rd_mid, implIn, Option.bind_some, wrap_id (show (-9223372036854775808 : Int) ≤ pre.length + 1 by omega) (show ((pre.length : Int) + 1 ≤ 9223372036854775807) by omega)]
    by_cases hx : a ≤ x ∧ x ≤ b
    · have := ih (pre ++ [x]) (by rw [← app_one, len_mid]; exact h)
      rw [← app_one, len_mid, len_one] at this
      simp only [hx, and_self, decide_true, if_true]
      rw [show allIn a b (x :: suf) = allIn a b suf by simp [allIn, hx]]
      exact this
    · simp only [decide_eq_true_eq, if_neg hx]
      rw [show allIn a b (x :: suf) = false by simp [allIn]; intro h1 h2; exact absurd ⟨h1, h2⟩ hx]
      exact Ev.now _
def oneGroup (n : Int) (l : List S52) : Bool × Bool := if goodE n l = true then (allIn 0 0 (groupsM n l), true) else (false, false)
theorem groupsM_len (n : Int) (l : List S52) : (groupsM n l).length = n.toNat := grp_len _ _
theorem specOneGroup_ev (n : Int) (l : List S52) (hl : l.length ≤ 1048576) : Ev (fun k => spec_IsOneGroup.f k n l) (oneGroup n l) := by
  unfold spec_IsOneGroup.f oneGroup
  refine Ev.bind (specGoodE_ev n l hl) ?_
  by_cases h : goodE n l = true
  · simp only [if_pos h]
    have hn := goodE_n h
    have hx := goodE_edge h
    refine Ev.bind (specGroups_ev n l (by omega) (by omega) (by omega) fun x hm => ⟨(hx x hm).1, (hx x hm).2.1, (hx x hm).2.2.1⟩) ?_
    have := specAll_l 0 0 (groupsM n l) [] (by simp only [List.nil_append, groupsM_len]; omega)
    refine Ev.bind (show Ev (fun k => spec_l1All.f k (groupsM n l) 0 0) _ from this) ?_
    exact Ev.now _
  · simp only [if_neg h]
    exact Ev.now _
theorem implOneGroup_ev (n : Int) (l : List S52) (hl : l.length ≤ 1048576) : Ev (fun k => impl_IsOneGroup.f k n l) (oneGroup n l) := by
  unfold impl_IsOneGroup.f oneGroup
  refine Ev.bind (implGoodE_ev n l hl) ?_
  by_cases h : goodE n l = true
  · simp only [if_pos h]
    have hn := goodE_n h
    have hx := goodE_edge h
    have h1 : Ev (fun k => impl_isOneGroup.f k n l) (allIn 0 0 (groupsM n l)) := by
      unfold impl_isOneGroup.f
      refine Ev.bind (implGroupsOf_ev n l (by omega) (by omega) (by omega) fun x hm => ⟨(hx x hm).1, (hx x hm).2.1, (hx x hm).2.2.1⟩) ?_
      have := implAll_l 0 0 (groupsM n l) [] (by simp only [List.nil_append, groupsM_len]; omega)
      exact Ev.bind (show Ev (fun k => impl_allIn.f k (groupsM n l) 0 0) _ from this) (Ev.now _)
    refine Ev.bind h1 ?_
    exact Ev.now _
  · simp only [if_neg h]
    exact Ev.now _

end Go.Proofs.Ytpbnpepikkocmaa.P
