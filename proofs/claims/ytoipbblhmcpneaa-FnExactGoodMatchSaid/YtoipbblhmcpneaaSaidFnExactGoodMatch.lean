import Derived.Test.YtoipbblhmcpneaaPx13
namespace Go.Proofs.Ytoipbblhmcpneaa.P
open Go.RowKit Go.Proofs.YtoipbblhmcpneaaW.PrintWords Go.Proofs.YtoipbblhmcpneaaW.PrintLast
def wfS30 (s : S30) : Prop := (fun l : List (List Int) => l.length ≤ maxLen ∧ ∀ x ∈ l, (fun l : List Int => l.length ≤ maxLen ∧ ∀ x ∈ l, (fun n : Int => (Lit.int .i64 n).wf = true) x) x) s.f0 ∧ (fun l : List (List Int) => l.length ≤ maxLen ∧ ∀ x ∈ l, (fun l : List Int => l.length ≤ maxLen ∧ ∀ x ∈ l, (fun n : Int => (Lit.int .i64 n).wf = true) x) x) s.f1 ∧ (fun l : List Int => l.length ≤ maxLen ∧ ∀ x ∈ l, (fun n : Int => (Lit.int .i64 n).wf = true) x) s.f2
/-- The one pure statement of laws_FnExactGoodMatch. -/
def laws_FnExactGoodMatch.Pure : Prop := ∀ (s0 : S30) (l1 : List Int), wfS30 s0 → (fun l : List Int => l.length ≤ maxLen ∧ ∀ x ∈ l, (fun n : Int => (Lit.int .i64 n).wf = true) x) l1 → ∃ k, laws_FnExactGoodMatch.f k s0.f0 s0.f1 s0.f2 l1 = some true
end Go.Proofs.Ytoipbblhmcpneaa.P
