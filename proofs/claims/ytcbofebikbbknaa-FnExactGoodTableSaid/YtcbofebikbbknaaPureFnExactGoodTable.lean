/- The plain half of the law FnExactGoodTable: what its functions compute answers as it says. -/
import Derived.Test.YtcbofebikbbknaaSaidFnExactGoodTable
import Derived.Test.YtcbofebikbbknaaQTable
import Derived.Test.YtcbofebikbbknaaPx10
namespace Go.Proofs.Ytcbofebikbbknaa.Pure
open Go.RowKit Go.Proofs.Ytcbofebikbbknaa.P Go.Proofs.YtcbofebikbbknaaW.PrintWords Go.Proofs.YtcbofebikbbknaaW.PrintLast
set_option linter.unusedVariables false
set_option linter.unusedSimpArgs false
theorem FnExactGoodTable : laws_FnExactGoodTable.Pure := by
  intro s ⟨_, hm, _⟩
  refine Ev.rounds ?_
  unfold laws_FnExactGoodTable.f
  rw [szTable_is s.f0 s.f1 hm 1048576 (by omega) (by omega)]
  simp only [Option.bind_some]
  by_cases h : (1048576 : Int) - s.f1.length < 0
  · simp only [if_pos h]
    exact Ev.now _
  · have hl : s.f1.length ≤ 1048576 := by omega
    have hl2 : (s.f1.map cvSeen).length ≤ 1048576 := by simpa using hl
    simp only [if_neg h]
    refine Ev.bind (toTable_ev s.f0 s.f1 hl) ?_
    refine Ev.bind (specGoodT_ev s.f0 _ hl2) ?_
    refine Ev.bind (toTable_ev s.f0 s.f1 hl) ?_
    refine Ev.bind (implGoodT_ev s.f0 _ hl2) ?_
    simp only [bne_self_eq_false, Bool.false_eq_true, if_false]
    refine Ev.bind (toTable_ev s.f0 s.f1 hl) ?_
    refine Ev.bind (eqTable_ev _ _ (by omega)) ?_
    simp only [if_true]
    exact Ev.now _

end Go.Proofs.Ytcbofebikbbknaa.Pure
