/- The plain half of the law FnExactPlaceOf: what its functions compute answers as it says. -/
import Derived.Test.YtoipbblhmcpneaaQPlaceOf
import Derived.Test.YtoipbblhmcpneaaPx3
namespace Go.Proofs.Ytoipbblhmcpneaa.Pure
open Go.RowKit Go.Proofs.Ytoipbblhmcpneaa.P Go.Proofs.YtoipbblhmcpneaaW.PrintWords Go.Proofs.YtoipbblhmcpneaaW.PrintLast
set_option linter.unusedVariables false
set_option linter.unusedSimpArgs false
theorem FnExactPlaceOf : laws_FnExactPlaceOf.Pure := by
  intro l x _ _ _ _
  refine Ev.rounds ?_
  unfold laws_FnExactPlaceOf.f
  by_cases hq : (l.length : Int) > 1048576
  · simp only [if_pos hq]
    exact Ev.now _
  simp only [if_neg hq]
  have hl : l.length ≤ 1048576 := by omega
  refine Ev.bind (toIntS_ev l hl) ?_
  refine Ev.bind (specPlaceOf_ev l x hl) ?_
  refine Ev.bind (toIntS_ev l hl) ?_
  refine Ev.bind (implPlaceOf_ev l x hl) ?_
  simp only [bne_self_eq_false, if_true]
  refine Ev.succ ?_
  simp only [laws_FnExactPlaceOf.j0, Bool.false_eq_true, if_false]
  refine Ev.bind (toIntS_ev l hl) ?_
  refine Ev.bind (eqIntS_ev _ _ (by omega)) ?_
  simp only [decide_true, if_true]
  exact Ev.now _

end Go.Proofs.Ytoipbblhmcpneaa.Pure
