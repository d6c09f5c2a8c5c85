/- The plain half of the law FnExactNewTable: what its functions compute answers as it says. -/
import Derived.Test.YtcbofebikbbknaaQNewTable
import Derived.Test.YtcbofebikbbknaaPx3
import Derived.Test.YtcbofebikbbknaaPx4
import Derived.Test.YtcbofebikbbknaaPx5
namespace Go.Proofs.Ytcbofebikbbknaa.Pure
open Go.RowKit Go.Proofs.Ytcbofebikbbknaa.P Go.Proofs.YtcbofebikbbknaaW.PrintWords Go.Proofs.YtcbofebikbbknaaW.PrintLast
set_option linter.unusedVariables false
set_option linter.unusedSimpArgs false
theorem FnExactNewTable : laws_FnExactNewTable.Pure := by
  intro a _
  refine ⟨5, ?_⟩
  unfold laws_FnExactNewTable.f
  rw [specNewTab, implNewTab]
  have hn := newTab_nil a
  have he := implNewTab a
  generalize newTab a = r at hn he
  obtain ⟨t, q, b⟩ := r
  have hq : q = [] := hn
  subst hq
  simp [laws_eqTable.f, laws_eqSeenS.f, laws_eqSeenS.l0, laws_FnExactNewTable.j0, laws_FnExactNewTable.j1, laws_markTable.f, laws_markSeenS.f, laws_markSeenS.l0, laws_heldTable.f, laws_heldSeenS.f, laws_heldSeenS.l0, he]

end Go.Proofs.Ytcbofebikbbknaa.Pure
