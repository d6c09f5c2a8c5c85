import Derived.Test.YtljdenmmlkjapaaPx16
namespace Go.Proofs.Ytljdenmmlkjapaa.P
open Go.RowKit Go.Proofs.YtljdenmmlkjapaaW.PrintWords Go.Proofs.YtljdenmmlkjapaaW.PrintLast
def wfS23 (s : S23) : Prop := (fun n : Int => (Lit.int .i64 n).wf = true) s.f0 ∧ (fun n : Int => (Lit.int .i64 n).wf = true) s.f1 ∧ (fun n : Int => (Lit.int .i64 n).wf = true) s.f2
/-- The one pure statement of laws_FnExactNextFree. -/
def laws_FnExactNextFree.Pure : Prop := ∀ (l0 : List (S23)) (a1 : Int), (fun l : List (S23) => l.length ≤ maxLen ∧ ∀ x ∈ l, wfS23 x) l0 → (fun n : Int => (Lit.int .i64 n).wf = true) a1 → ∃ k, laws_FnExactNextFree.f k l0 a1 = some true
end Go.Proofs.Ytljdenmmlkjapaa.P
