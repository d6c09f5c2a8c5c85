import Derived.Test.YtpbnpepikkocmaaPx10
namespace Go.Proofs.Ytpbnpepikkocmaa.P
open Go.RowKit Go.Proofs.YtpbnpepikkocmaaW.PrintWords Go.Proofs.YtpbnpepikkocmaaW.PrintLast
def wfS65 (s : S65) : Prop := (fun n : Int => (Lit.int .i64 n).wf = true) s.f0 ∧ (fun n : Int => (Lit.int .i64 n).wf = true) s.f1 ∧ (fun n : Int => (Lit.int .i64 n).wf = true) s.f2
/-- The one pure statement of laws_FnExactIsOneGroup. -/
def laws_FnExactIsOneGroup.Pure : Prop := ∀ (a0 : Int) (l1 : List (S65)), (fun n : Int => (Lit.int .i64 n).wf = true) a0 → (fun l : List (S65) => l.length ≤ maxLen ∧ ∀ x ∈ l, wfS65 x) l1 → ∃ k, laws_FnExactIsOneGroup.f k a0 l1 = some true
end Go.Proofs.Ytpbnpepikkocmaa.P
