import Derived.Test.YtoipbblhmcpneaaPx9
namespace Go.Proofs.Ytoipbblhmcpneaa.P
open Go.RowKit Go.Proofs.YtoipbblhmcpneaaW.PrintWords Go.Proofs.YtoipbblhmcpneaaW.PrintLast
def wfS30 (s : S30) : Prop := (fun l : List (List Int) => l.length ≤ maxLen ∧ ∀ x ∈ l, (fun l : List Int => l.length ≤ maxLen ∧ ∀ x ∈ l, (fun n : Int => (Lit.int .i64 n).wf = true) x) x) s.f0 ∧ (fun l : List (List Int) => l.length ≤ maxLen ∧ ∀ x ∈ l, (fun l : List Int => l.length ≤ maxLen ∧ ∀ x ∈ l, (fun n : Int => (Lit.int .i64 n).wf = true) x) x) s.f1 ∧ (fun l : List Int => l.length ≤ maxLen ∧ ∀ x ∈ l, (fun n : Int => (Lit.int .i64 n).wf = true) x) s.f2
/-- The one pure statement of laws_FnExactGoodWishes. -/
def laws_FnExactGoodWishes.Pure : Prop := ∀ (s0 : S30), wfS30 s0 → ∃ k, laws_FnExactGoodWishes.f k s0.f0 s0.f1 s0.f2 = some true
end Go.Proofs.Ytoipbblhmcpneaa.P
