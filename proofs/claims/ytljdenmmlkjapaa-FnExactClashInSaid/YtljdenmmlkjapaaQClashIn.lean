/- ClashIn of the program and of the reference. -/
import Derived.Test.YtljdenmmlkjapaaQClash
import Derived.Test.YtljdenmmlkjapaaPx0
import Derived.Test.YtljdenmmlkjapaaPx13
import Derived.Test.YtljdenmmlkjapaaPx14
namespace Go.Proofs.Ytljdenmmlkjapaa.P
open Go.RowKit Go.Proofs.YtljdenmmlkjapaaW.PrintWords Go.Proofs.YtljdenmmlkjapaaW.PrintLast
set_option linter.unusedVariables false
set_option linter.unusedSimpArgs false
def clashIn (l : List S26) : Int × Int × Bool :=
  if goodOwn l = true then (match clashM l 0 with | none => (0, 0, false) | some p => ((rd_T26 l p.1).f0, (rd_T26 l p.2).f0, true)) else (0, 0, false)
theorem specClashIn_ev (l : List S26) (hl : l.length ≤ 1048576) : Ev (fun k => spec_ClashIn.f k l) (clashIn l) := by
  unfold spec_ClashIn.f
  refine Ev.bind (specClash_ev l hl) ?_
  refine Ev.bind (specGoodOwners_ev l hl) ?_
  unfold clashIn
  cases hg : goodOwn l with
  | false => simp only [Bool.false_eq_true, if_false]; exact Ev.now _
  | true =>
    simp only [if_true]
    cases hc : clashM l 0 with
    | none => simp only [clash2]; exact Ev.now _
    | some p =>
      obtain ⟨i, j⟩ := p
      obtain ⟨n, m, h1, h2, h3, h4, _⟩ := clashM_some l 0 i j hc
      rw [show clash2 (some (i, j)) = (i, j) from rfl]
      simp only [if_neg (show ¬ i < 0 by omega), if_pos (show 0 ≤ i by omega), if_pos (show i < (l.length : Int) by omega), if_pos (show 0 ≤ j by omega), if_pos (show j < (l.length : Int) by omega)]
      exact Ev.now _
theorem implClashIn_ev (l : List S26) (hl : l.length ≤ 1048576) : Ev (fun k => impl_ClashIn.f k l) (clashIn l) := by
  unfold impl_ClashIn.f
  refine Ev.bind (implGoodOwners_ev l hl) ?_
  unfold clashIn
  cases hg : goodOwn l with
  | false => simp only [Bool.false_eq_true, if_false]; exact Ev.now _
  | true =>
    simp only [if_true]
    refine Ev.bind (implClash_ev l hl) ?_
    cases hc : clashM l 0 with
    | none => simp only [clash3, Bool.false_eq_true, if_false]; exact Ev.now _
    | some p =>
      obtain ⟨i, j⟩ := p
      obtain ⟨n, m, h1, h2, h3, h4, _⟩ := clashM_some l 0 i j hc
      rw [show clash3 (some (i, j)) = (i, j, true) from rfl]
      simp only [if_true]
      simp only [if_pos (show 0 ≤ i by omega), if_pos (show i < (l.length : Int) by omega), if_pos (show 0 ≤ j by omega), if_pos (show j < (l.length : Int) by omega)]
      exact Ev.now _

end Go.Proofs.Ytljdenmmlkjapaa.P
