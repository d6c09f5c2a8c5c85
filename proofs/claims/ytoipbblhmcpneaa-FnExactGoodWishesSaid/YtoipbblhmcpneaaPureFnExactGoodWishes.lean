/- The plain half of the law FnExactGoodWishes: what its functions compute answers as it says. -/
import Derived.Test.YtoipbblhmcpneaaSaidFnExactGoodWishes
import Derived.Test.YtoipbblhmcpneaaQWishes
import Derived.Test.YtoipbblhmcpneaaPx9
namespace Go.Proofs.Ytoipbblhmcpneaa.Pure
open Go.RowKit Go.Proofs.Ytoipbblhmcpneaa.P Go.Proofs.YtoipbblhmcpneaaW.PrintWords Go.Proofs.YtoipbblhmcpneaaW.PrintLast
set_option linter.unusedVariables false
set_option linter.unusedSimpArgs false
theorem FnExactGoodWishes : laws_FnExactGoodWishes.Pure := by
  intro s hs
  obtain ⟨⟨h0, h0'⟩, ⟨h1, h1'⟩, h2, h2'⟩ := hs
  refine Ev.rounds ?_
  unfold laws_FnExactGoodWishes.f
  obtain ⟨r, er, hr⟩ := szWishes_ev s.f0 s.f1 s.f2 h0 (fun x hx => (h0' x hx).1) h1 (fun x hx => (h1' x hx).1) h2
  refine Ev.bind er ?_
  by_cases h : r < 0
  · simp only [if_pos h]
    exact Ev.now _
  · simp only [if_neg h]
    have ok := hr h
    refine Ev.bind (toWishes_ev ok) ?_
    refine Ev.bind (specGoodW_ev ok) ?_
    refine Ev.bind (toWishes_ev ok) ?_
    refine Ev.bind (implGoodW_ev ok) ?_
    simp only [bne_self_eq_false, Bool.false_eq_true, if_false]
    refine Ev.bind (toWishes_ev ok) ?_
    refine Ev.bind (eqWishes_ev ok) ?_
    simp only [if_true]
    exact Ev.now _

end Go.Proofs.Ytoipbblhmcpneaa.Pure
