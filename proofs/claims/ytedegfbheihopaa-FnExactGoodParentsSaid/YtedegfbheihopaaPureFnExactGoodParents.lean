/- The plain half of the law FnExactGoodParents: what its functions compute answers as it says. -/
import Derived.Test.YtedegfbheihopaaQParents
import Derived.Test.YtedegfbheihopaaPx5
namespace Go.Proofs.Ytedegfbheihopaa.Pure
open Go.RowKit Go.Proofs.Ytedegfbheihopaa.P Go.Proofs.YtedegfbheihopaaW.PrintWords Go.Proofs.YtedegfbheihopaaW.PrintLast
set_option linter.unusedVariables false
set_option linter.unusedSimpArgs false
theorem FnExactGoodParents : laws_FnExactGoodParents.Pure := by
  intro l _ _ _
  refine Ev.rounds ?_
  unfold laws_FnExactGoodParents.f
  by_cases hq : (l.length : Int) > 1048576
  · simp only [if_pos hq]
    exact Ev.now _
  simp only [if_neg hq]
  have hl : l.length ≤ 1048576 := by omega
  refine Ev.bind (toIntS_ev l hl) ?_
  refine Ev.bind (specGoodP_ev l hl) ?_
  refine Ev.bind (toIntS_ev l hl) ?_
  refine Ev.bind (implGoodP_ev l hl) ?_
  simp only [bne_self_eq_false, Bool.false_eq_true, if_false]
  refine Ev.bind (toIntS_ev l hl) ?_
  refine Ev.bind (eqIntS_ev _ _ (by omega)) ?_
  simp only [decide_true, if_true]
  exact Ev.now _

end Go.Proofs.Ytedegfbheihopaa.Pure
