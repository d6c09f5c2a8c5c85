/- The plain half of the law FnExactIsOneGroup: what its functions compute answers as it says. -/
import Derived.Test.YtpbnpepikkocmaaSaidFnExactIsOneGroup
import Derived.Test.YtpbnpepikkocmaaQOneGroup
import Derived.Test.YtpbnpepikkocmaaPx10
namespace Go.Proofs.Ytpbnpepikkocmaa.Pure
open Go.RowKit Go.Proofs.Ytpbnpepikkocmaa.P Go.Proofs.YtpbnpepikkocmaaW.PrintWords Go.Proofs.YtpbnpepikkocmaaW.PrintLast
set_option linter.unusedVariables false
set_option linter.unusedSimpArgs false
theorem FnExactIsOneGroup : laws_FnExactIsOneGroup.Pure := by
  intro a0 l _ ⟨hm, _⟩
  refine Ev.rounds ?_
  unfold laws_FnExactIsOneGroup.f
  rw [szEdgeS_is l hm 1048576 (by omega) (by omega)]
  simp only [Option.bind_some]
  by_cases h : (1048576 : Int) - l.length < 0
  · simp only [if_pos h]
    exact Ev.now _
  · have hl : l.length ≤ 1048576 := by omega
    have hl2 : (l.map cvEdge).length ≤ 1048576 := by simpa using hl
    simp only [if_neg h]
    refine Ev.bind (toEdgeS_ev l hl) ?_
    refine Ev.bind (specOneGroup_ev a0 _ hl2) ?_
    refine Ev.bind (toEdgeS_ev l hl) ?_
    refine Ev.bind (implOneGroup_ev a0 _ hl2) ?_
    simp only [bne_self_eq_false, Bool.false_eq_true, if_false]
    refine Ev.succ ?_
    simp only [laws_FnExactIsOneGroup.j0, Bool.false_eq_true, if_false]
    refine Ev.bind (toEdgeS_ev l hl) ?_
    refine Ev.bind (eqEdgeS_ev _ _ (by omega)) ?_
    simp only [decide_true, if_true]
    exact Ev.now _

end Go.Proofs.Ytpbnpepikkocmaa.Pure
