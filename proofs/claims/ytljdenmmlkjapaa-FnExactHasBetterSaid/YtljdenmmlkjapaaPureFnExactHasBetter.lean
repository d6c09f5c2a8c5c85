/- The plain half of the law FnExactHasBetter: what its functions compute answers as it says. -/
import Derived.Test.YtljdenmmlkjapaaSaidFnExactHasBetter
import Derived.Test.YtljdenmmlkjapaaPx2
import Derived.Test.YtljdenmmlkjapaaPx3
namespace Go.Proofs.Ytljdenmmlkjapaa.Pure
open Go.RowKit Go.Proofs.Ytljdenmmlkjapaa.P Go.Proofs.YtljdenmmlkjapaaW.PrintWords Go.Proofs.YtljdenmmlkjapaaW.PrintLast
set_option linter.unusedVariables false
set_option linter.unusedSimpArgs false
theorem FnExactHasBetter : laws_FnExactHasBetter.Pure := by
  intro s0 s1 _ _
  have h : impl_HasBetter.f s0.f0 s0.f1 s0.f2 s1.f0 s1.f1 s1.f2 = spec_HasBetter.f s0.f0 s0.f1 s0.f2 s1.f0 s1.f1 s1.f2 := rfl
  have h2 : ∃ r, spec_HasBetter.f s0.f0 s0.f1 s0.f2 s1.f0 s1.f1 s1.f2 = some r := by
    unfold spec_HasBetter.f spec_l11Owner.f spec_l1In.f spec_l11Better.f
    repeat' (first | exact ⟨_, rfl⟩ | (simp only [Option.bind_some]) | split)
  obtain ⟨⟨a, b⟩, h2⟩ := h2
  unfold laws_FnExactHasBetter.f laws_toOwner.f
  simp only [Option.bind_some, h, h2, bne_self_eq_false, Bool.false_eq_true, if_false]

end Go.Proofs.Ytljdenmmlkjapaa.Pure
