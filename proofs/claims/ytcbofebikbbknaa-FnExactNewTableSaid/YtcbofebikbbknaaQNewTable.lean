/- Plain lemmas. -/
import Derived.Test.YtcbofebikbbknaaPx0
import Derived.Test.YtcbofebikbbknaaPx2
namespace Go.Proofs.Ytcbofebikbbknaa.P
open Go.RowKit Go.Proofs.YtcbofebikbbknaaW.PrintWords Go.Proofs.YtcbofebikbbknaaW.PrintLast
set_option linter.unusedVariables false
set_option linter.unusedSimpArgs false
-- a new table is empty, both sides
def newTab (a : Int) : Int × List S53 × Bool := if 1 ≤ a ∧ a ≤ 8 then (a, [], true) else (0, [], false)
theorem specNewTab (a : Int) : spec_NewTable.f a = some (newTab a) := by
  unfold spec_NewTable.f spec_l1In.f newTab
  by_cases h1 : a ≥ 1
  · by_cases h2 : a ≤ 8
    · simp [h1, h2, show (1 : Int) ≤ a from h1]
    · simp [h1, h2, show (1 : Int) ≤ a from h1]
  · simp [h1, show ¬ (1 : Int) ≤ a from h1]
theorem implNewTab (a : Int) : impl_NewTable.f a = some (newTab a) := specNewTab a
theorem newTab_nil (a : Int) : (newTab a).2.1 = [] := by unfold newTab; split <;> rfl

end Go.Proofs.Ytcbofebikbbknaa.P
