/- The plain half of the law FnExactNextFree: what its functions compute answers as it says. -/
import Derived.Test.YtljdenmmlkjapaaSaidFnExactNextFree
import Derived.Test.YtljdenmmlkjapaaQNextFree
import Derived.Test.YtljdenmmlkjapaaPx16
namespace Go.Proofs.Ytljdenmmlkjapaa.Pure
open Go.RowKit Go.Proofs.Ytljdenmmlkjapaa.P Go.Proofs.YtljdenmmlkjapaaW.PrintWords Go.Proofs.YtljdenmmlkjapaaW.PrintLast
set_option linter.unusedVariables false
set_option linter.unusedSimpArgs false
theorem FnExactNextFree : laws_FnExactNextFree.Pure := by
  intro l a ⟨hm, _⟩ _
  refine Ev.rounds ?_
  unfold laws_FnExactNextFree.f
  rw [szOwnerS_is l hm 1048576 (by omega) (by omega)]
  simp only [Option.bind_some]
  by_cases h : (1048576 : Int) - l.length < 0
  · simp only [if_pos h]
    exact Ev.now _
  · have hl : l.length ≤ 1048576 := by omega
    simp only [if_neg h]
    refine Ev.bind (toOwnerS_ev l hl) ?_
    refine Ev.bind (specNextFree_ev _ a (by simpa using hl)) ?_
    refine Ev.bind (toOwnerS_ev l hl) ?_
    refine Ev.bind (implNextFree_ev _ a (by simpa using hl)) ?_
    simp only [bne_self_eq_false, if_true]
    refine Ev.succ ?_
    simp only [laws_FnExactNextFree.j0, Bool.false_eq_true, if_false]
    refine Ev.bind (toOwnerS_ev l hl) ?_
    refine Ev.bind (eqOwnerS_ev _ _ (by simp <;> omega)) ?_
    simp only [decide_true, if_true]
    exact Ev.now _

end Go.Proofs.Ytljdenmmlkjapaa.Pure
