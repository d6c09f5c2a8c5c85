/- The plain half of the law FnExactGoodMatch: what its functions compute answers as it says. -/
import Derived.Test.YtoipbblhmcpneaaSaidFnExactGoodMatch
import Derived.Test.YtoipbblhmcpneaaQMatch
import Derived.Test.YtoipbblhmcpneaaPx13
namespace Go.Proofs.Ytoipbblhmcpneaa.Pure
open Go.RowKit Go.Proofs.Ytoipbblhmcpneaa.P Go.Proofs.YtoipbblhmcpneaaW.PrintWords Go.Proofs.YtoipbblhmcpneaaW.PrintLast
set_option linter.unusedVariables false
set_option linter.unusedSimpArgs false
theorem FnExactGoodMatch : laws_FnExactGoodMatch.Pure := by
  intro s l hs _
  obtain ⟨⟨h0, h0'⟩, ⟨h1, h1'⟩, h2, h2'⟩ := hs
  refine Ev.rounds ?_
  unfold laws_FnExactGoodMatch.f
  by_cases hq : (l.length : Int) > 1048576
  · simp only [if_pos hq]
    exact Ev.now _
  simp only [if_neg hq]
  have hl : l.length ≤ 1048576 := by omega
  obtain ⟨r, er, hr⟩ := szWishes_ev s.f0 s.f1 s.f2 h0 (fun x hx => (h0' x hx).1) h1 (fun x hx => (h1' x hx).1) h2
  refine Ev.bind er ?_
  by_cases h : r < 0
  · simp only [if_pos h]
    exact Ev.now _
  · simp only [if_neg h]
    have ok := hr h
    refine Ev.bind (toWishes_ev ok) ?_
    refine Ev.bind (toIntS_ev l hl) ?_
    refine Ev.bind (specGoodM_ev ok l hl) ?_
    refine Ev.bind (toWishes_ev ok) ?_
    refine Ev.bind (toIntS_ev l hl) ?_
    refine Ev.bind (implGoodM_ev ok l hl) ?_
    simp only [bne_self_eq_false, Bool.false_eq_true, if_false]
    refine Ev.bind (toWishes_ev ok) ?_
    refine Ev.bind (eqWishes_ev ok) ?_
    simp only [if_true]
    refine Ev.bind (toIntS_ev l hl) ?_
    refine Ev.bind (eqIntS_ev _ _ (by omega)) ?_
    simp only [decide_true, if_true]
    exact Ev.now _

end Go.Proofs.Ytoipbblhmcpneaa.Pure
