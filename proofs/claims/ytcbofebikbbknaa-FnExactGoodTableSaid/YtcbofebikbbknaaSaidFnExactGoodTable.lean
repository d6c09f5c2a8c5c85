import Derived.Test.YtcbofebikbbknaaPx10
namespace Go.Proofs.Ytcbofebikbbknaa.P
open Go.RowKit Go.Proofs.YtcbofebikbbknaaW.PrintWords Go.Proofs.YtcbofebikbbknaaW.PrintLast
def wfS51 (s : S51) : Prop := (fun n : Int => (Lit.int .i64 n).wf = true) s.f0 ∧ (fun n : Int => (Lit.int .i64 n).wf = true) s.f1 ∧ (fun n : Int => (Lit.int .i64 n).wf = true) s.f2
def wfS32 (s : S32) : Prop := (fun n : Int => (Lit.int .i64 n).wf = true) s.f0 ∧ (fun l : List (S51) => l.length ≤ maxLen ∧ ∀ x ∈ l, wfS51 x) s.f1
/-- The one pure statement of laws_FnExactGoodTable. -/
def laws_FnExactGoodTable.Pure : Prop := ∀ (s0 : S32), wfS32 s0 → ∃ k, laws_FnExactGoodTable.f k s0.f0 s0.f1 = some true
end Go.Proofs.Ytcbofebikbbknaa.P
